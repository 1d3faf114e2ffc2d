/- What the proof rests on, part 4: contracts of functions. No condition beyond what each states. -/
import Derived.Test.YtenldjifipnjpaaDoorZTlD3
namespace Go.Proofs.YtenldjifipnjpaaDoor
open Go.RowKit
set_option linter.all false
def justL (l : LS) (g : List Int) : Nat → List UInt8
  | 0 => []
  | k + 1 => justL l g k ++ ((l[k]?.getD .empty).data.toList ++ if k < g.length then List.replicate (g[k]?.getD 0).toNat 32 else [])
noncomputable def justS (l : LS) (wd : Int) : ByteArray := if gapsB l wd = true then ⟨(justL l (gapsR l wd) l.length).toArray⟩ else ⟨#[]⟩
theorem cells_app (a b : List UInt8) : Lib.byteCells (a ++ b) = Lib.byteCells a ++ Lib.byteCells b := by simp [Lib.byteCells]
theorem strCells_eq (s : ByteArray) : Lib.strCells s = Lib.byteCells s.data.toList := Lib.strCells_eq s
def StrAt (w : World) (b off : Nat) (l : LS) : Prop := ∀ (j : Nat) x, l[j]? = some x → w.cell? ⟨b, off + j, none⟩ = some (.string x)
theorem StrAt.below {B : Nat} {w w' : World} {b off : Nat} {l : LS} (h : StrAt w b off l) (hB : b < B) (hb : Below B w w') : StrAt w' b off l := fun j x hj => by
  rw [hb.cell (p := ⟨b, off + j, none⟩) hB]
  exact h j x hj
theorem below_weak {B B' : Nat} {w w' : World} (h : Below B w w') (hB : B' ≤ B) : Below B' w w' := ⟨h.os, h.tape, h.output, h.size, fun b hb => h.block b (Nat.lt_of_lt_of_le hb hB)⟩
theorem bldAt_below {T e : TypeId} {B b : Nat} {p : Value} {bs : List Value} {w w' : World} (h : Lib.BuilderAt T e B b p bs w) (hb : Below w.heap.size w w') : Lib.BuilderAt T e B b p bs w' := by
  obtain ⟨h1, v, h2, h3, h4⟩ := h
  have hlt : b < w.heap.size := lt_of_heap h2
  exact ⟨h1, v, by rw [hb.block b hlt]; exact h2, h3.kept (row := none) ⟨hb.os, hb.tape, hb.output, hb.size, fun i hi _ => hb.block i hi⟩ (by
    cases h : v.ownBlock with
    | none => exact .inl rfl
    | some x => exact .inr (by simp)), h4⟩
theorem bld_below {T e : TypeId} {B b : Nat} {bs : List Value} {w w' : World} (h : Lib.IsBuilder T e B b bs w) (hb : Below w.heap.size w w') : Lib.IsBuilder T e B b bs w' := h.imp (fun h => bldAt_below h hb) fun h => bldAt_below h hb
theorem write_any {B b : Nat} {l : List UInt8} {s : ByteArray} {w : World} (h : Lib.IsBuilder 58 5 B b (Lib.byteCells l) w) (hlen : l.length + s.size ≤ 140737488355328) (hBw : B ≤ w.heap.size) :
    Calls Tryd.prog 45 #[.pointer (some ⟨b, 0, none⟩), .string s] w fun e w' => e = .returned (.tuple #[.int .i64 s.size, .nilIface]) ∧ Lib.IsBuilder 58 5 B b (Lib.byteCells (l ++ s.data.toList)) w' ∧ Below B w w' := by
  refine (Any.Builder_WriteString (ρ := YtenldjifipnjpaaDoor.lays156_ren) { YtenldjifipnjpaaDoor.lays156 with } YtenldjifipnjpaaDoor.Builder_Extra_156 B b (Lib.byteCells l) s w h (by simpa [Lib.byteCells] using hlen) hBw).mono ?_
  rintro e w' ⟨rfl, h1, h2⟩
  refine ⟨rfl, .inr ?_, h2⟩
  rw [cells_app, ← strCells_eq]
  exact h1
theorem repeat_sp (c : Nat) : Lib.repeatL [32] c = List.replicate c 32 := by
  induction c with
  | zero => rfl
  | succ c ih => simp_all [Lib.repeatL, List.replicate_succ]
def NumAt (w : World) (b off : Nat) (g : List Int) : Prop := ∀ (j : Nat) x, g[j]? = some x → w.cell? ⟨b, off + j, none⟩ = some (.int .i64 x)
theorem NumAt.below {B : Nat} {w w' : World} {b off : Nat} {l : List Int} (h : NumAt w b off l) (hB : b < B) (hb : Below B w w') : NumAt w' b off l := fun j x hj => by
  rw [hb.cell (p := ⟨b, off + j, none⟩) hB]
  exact h j x hj
theorem justL_len {l : LS} {g : List Int} (hg : ∀ j : Nat, (g[j]?.getD 0).toNat ≤ 70) : ∀ k, k ≤ l.length → (justL l g k).length ≤ sumS (l.take k) + 70 * k
  | 0, _ => by simp [justL]
  | k + 1, hk => by
    have ih := justL_len (l := l) hg k (by omega)
    have h1 := sumS_take (l := l) (k := k) (by omega)
    have h2 := hg k
    have h3 : (l[k]?.getD .empty).data.toList.length = (l[k]?.getD .empty).size := Array.length_toList
    unfold justL
    simp only [List.length_append]
    split
    · rw [List.length_replicate]; omega
    · simp only [List.length_nil]; omega
set_option maxHeartbeats 4000000 in
theorem just_any {w : World} {a : Option Addr} {b off n c : Nat} {l : LS} {wd : Int} {g : List Int} {ok : Bool} (hz : l.length = n) (hn : n ≤ 1048576) (ha : 0 < n → a = some ⟨b, off, none⟩ ∧ b < w.heap.size) (hs : StrAt w b off l)
    (hgl : ok = true → g.length + 1 = n ∧ (∀ j : Nat, 0 ≤ g[j]?.getD 0 ∧ g[j]?.getD 0 ≤ 70) ∧ sumS l ≤ 1000 ∧ n ≤ 1000)
    (hg : Calls Tryd.prog 72 #[.slice a n c, .int .i64 wd] w fun e w' => ∃ ga gb go gc, e = .returned (.tuple #[.slice ga g.length gc, .bool ok]) ∧ Below w.heap.size w w' ∧ (0 < g.length → ga = some ⟨gb, go, none⟩ ∧ gb < w'.heap.size ∧ NumAt w' gb go g)) :
    Calls Tryd.prog 38 #[.slice a n c, .int .i64 wd] w fun e w' => e = .returned (.tuple #[.string (if ok = true then ⟨(justL l g n).toArray⟩ else ⟨#[]⟩), .bool ok]) ∧ Below w.heap.size w w' := by
  have HZ := Lib.hid hz
  have HS := Lib.hid hs
  have HA := Lib.hid ha
  have HG := Lib.hid hgl
  clear hz hs ha hgl
  cases ok with
  | false =>
    go_enter Tryd.func38, Tryd.ntmps38
    go_wp2_with (go_at_call 72; refine hg.mono ?_; rintro e w1 ⟨ga, gb, go, gc, rfl, hb1, hga⟩)
    go_ret2
    exact ⟨rfl, hb1⟩
  | true =>
    obtain ⟨g1, g2, g3, g4⟩ := HG.out rfl
    have HG2 := Lib.hid g2
    clear g2 HG
    go_enter Tryd.func38, Tryd.ntmps38
    go_wp2_with (go_at_call 72; refine hg.mono ?_; rintro e w1 ⟨ga, gb, go, gc, rfl, hb1, hga⟩)
    have HGA := Lib.hid hga
    have HB1 := Lib.hid hb1
    clear hga hg
    go_loopw [21] (fun i wr => ∃ k : Nat, k ≤ n ∧ i = .int .i64 k ∧ Aside (Lib.IsBuilder 58 5 w1.heap.size w1.heap.size (Lib.byteCells (justL l g k)) wr) ∧ Aside (Below w1.heap.size w1 wr)) (fun i _ => n - (intOf i).toNat)
    case atStart => exact ⟨0, Nat.zero_le _, rfl, (show Lib.IsBuilder _ _ _ _ _ _ from Lib.fresh_isBuilder _ _ _), (show Below _ _ _ from below_alloc (Below.refl _ _))⟩
    case round =>
      obtain ⟨k, hk, rfl, AB, AW⟩ := hrel
      by_cases hlt : k < n
      · obtain ⟨rfl, hb⟩ := HA.out (by omega)
        have hkl : k < l.length := by rw [HZ.out]; exact hlt
        have hc := ((HS.out.below hb HB1.out).below (Nat.lt_of_lt_of_le hb HB1.out.size) AW.out) k _ (List.getElem?_eq_getElem hkl)
        have hjl := justL_len (l := l) (g := g) (fun j => by have := HG2.out j; omega) k (by rw [HZ.out]; exact hk)
        have hst := sumS_take (l := l) hkl
        have hle := sumS_take_le l (k + 1)
        have hjs : justL l g (k + 1) = justL l g k ++ ((l[k]?.getD .empty).data.toList ++ if k < g.length then List.replicate (g[k]?.getD 0).toNat 32 else []) := rfl
        rw [List.getElem?_eq_getElem hkl, Option.getD_some] at hst hjs
        generalize l[k] = x at *
        have HJ := Lib.hid hjs
        have i1 : (0 : Int) ≤ (k : Int) := by omega
        have i2 : (k : Int) < (n : Int) := by omega
        have hbw : w1.heap.size ≤ wr.heap.size := AW.out.size
        have hwr := fun (W : World) (hW : Lib.IsBuilder 58 5 w1.heap.size w1.heap.size (Lib.byteCells (justL l g k)) W) (hs : w1.heap.size ≤ W.heap.size) => write_any (s := x) hW (by omega) hs
        have HWR := Lib.hid hwr
        have hjk : (justL l g k).length + x.size ≤ 100000 := by omega
        clear hwr hst hle hjs hjl
        by_cases hkg : k < g.length
        · obtain ⟨rfl, hgb, -⟩ := HGA.out (by omega)
          obtain ⟨q1, q2⟩ := HG2.out k
          have hcg := fun (W : World) (hW : Below w1.heap.size w1 W) => ((HGA.out (by omega)).2.2.below hgb hW) k _ (List.getElem?_eq_getElem hkg)
          rw [if_pos hkg] at HJ
          rw [List.getElem?_eq_getElem hkg, Option.getD_some] at q1 q2 HJ
          generalize g[k] = y at *
          obtain ⟨y, rfl⟩ := Int.eq_ofNat_of_zero_le q1
          have HCG := Lib.hid hcg
          have i3 : (k : Int) < (g.length : Int) := by omega
          clear hcg
          have hrs : Lib.repeatL [32] y = List.replicate y 32 := repeat_sp y
          have HRS := Lib.hid hrs
          have hsz : ((⟨(Lib.repeatL [32] y).toArray⟩ : ByteArray)).size = y := by rw [hrs]; exact List.length_replicate
          have HSZ := Lib.hid hsz
          have hxl : x.data.toList.length = x.size := Array.length_toList
          have HXL := Lib.hid hxl
          clear hrs hsz hxl
          go_wp2_with (first
            | (go_at_call 73; refine (YtenldjifipnjpaaDoor.strings_Repeat ⟨#[32]⟩ y _ (by omega) (by simp [ByteArray.size]; omega)).mono ?_; rintro e w3 ⟨rfl, hb3⟩; have AB3 := Lib.hid (bld_below AB2.out hb3); have AW3 := Lib.hid (AW2.out.trans (below_weak hb3 AW2.out.size)); clear AB2 AW2 hb3)
            | (go_at_call 45; refine (HWR.out _ AB.out hbw).mono ?_; rintro e w2 ⟨rfl, hab2, hb2⟩; have hcg2 := HCG.out _ (AW.out.trans hb2); have AB2 := Lib.hid hab2; have AW2 := Lib.hid (AW.out.trans hb2); clear hab2 hb2 AB AW HWR)
            | (go_at_call 45; refine (write_any AB3.out (by rw [List.length_append, HSZ.out, HXL.out]; omega) AW3.out.size).mono ?_; rintro e w4 ⟨rfl, hab4, hb4⟩; have AB4 := Lib.hid hab4; have AW4 := Lib.hid (AW3.out.trans hb4); clear hab4 hb4))
          go_roundw
          case rel => exact ⟨k + 1, by omega, by go_num, (show Lib.IsBuilder _ _ _ _ (Lib.byteCells (justL l g (k + 1))) _ from by have h4 := AB4.out; rw [List.append_assoc, HRS.out] at h4; rw [HJ.out]; exact h4), (show Below _ _ _ from AW4.out)⟩
          case measure => simp [intOf]; omega
        · rw [if_neg hkg, List.append_nil] at HJ
          have i3 : ¬ (k : Int) < (g.length : Int) := by omega
          go_wp2_with (go_at_call 45; refine (HWR.out _ AB.out hbw).mono ?_; rintro e w2 ⟨rfl, hab2, hb2⟩; have AB2 := Lib.hid hab2; have AW2 := Lib.hid (AW.out.trans hb2); clear hab2 hb2)
          go_roundw
          case rel => exact ⟨k + 1, by omega, by go_num, (show Lib.IsBuilder _ _ _ _ (Lib.byteCells (justL l g (k + 1))) _ from by rw [HJ.out]; exact AB2.out), (show Below _ _ _ from AW2.out)⟩
          case measure => simp [intOf]; omega
      · obtain rfl : k = n := by omega
        go_wp2_with (go_at_call 47; refine (YtenldjifipnjpaaDoor.Builder_String_any w1.heap.size w1.heap.size (justL l g k) _ AB.out AW.out.size).mono ?_; rintro e w5 ⟨rfl, hb5⟩)
        go_ret2
        exact ⟨rfl, below_trans hb1 (AW.out.trans hb5)⟩
noncomputable def φJust : Fun := F2 dSs dI fun l wd => if okSs l then some (.tup [.val (.string (justS l wd)), .val (.bool (gapsB l wd))]) else none
theorem φJust_ap {l : LS} {wd : Int} (h : okSs l) : φJust [.lst false 1 (l.map fun s => .val (.string s)), .val (.int .i64 wd)] = some (.tup [.val (.string (justS l wd)), .val (.bool (gapsB l wd))]) :=
  (F2_ap (A := dSs) (B := dI) l wd).trans (if_pos h)
theorem num_cells {g : Gh} {w : World} {b off : Nat} {l : List Int} (h : RepEs g w 1 (l.map fun n => PV.val (.int .i64 n)) b off) : NumAt w b off l := fun j x hj => by
  obtain ⟨u, h1, h2, _⟩ := h.get (i := j) (e := .val (.int .i64 x)) (by simp [hj])
  simp only [Rep] at h1
  subst h1
  have := h2.2 0 (by simp [Value.cells])
  simpa [Value.cells] using this
theorem gaps_rngs {l : LS} {wd : Int} (h : gapsB l wd = true) : (gapsR l wd).length + 1 = l.length ∧ (∀ j : Nat, 0 ≤ (gapsR l wd)[j]?.getD 0 ∧ (gapsR l wd)[j]?.getD 0 ≤ 70) ∧ sumS l ≤ 1000 ∧ l.length ≤ 1000 := by
  obtain ⟨hw, h0, hwd, hle⟩ := gapsB_iff.1 h
  have h12 := allWords_len hw
  have hwb := inB_iff.1 hwd
  have hn : natN l = sumS l + (l.length - 1) := rfl
  rw [gapsR_yes h]
  have hlen : (gapsL l wd).length = l.length - 1 := by simp [gapsL]
  refine ⟨by omega, fun j => ?_, by omega, by omega⟩
  by_cases hj : j < l.length - 1
  · have e : (gapsL l wd)[j]?.getD 0 = gapF (wd - natN l) ((l.length : Int) - 1) j := by simp [gapsL, hj]
    rw [e]
    have k1 := gap_near (m := wd - natN l) (n := (l.length : Int) - 1) (by omega) (by omega) j
    have k3 : 0 ≤ (wd - natN l) / ((l.length : Int) - 1) := Int.ediv_nonneg (by omega) (by omega)
    have k4 := Int.ediv_le_self ((l.length : Int) - 1) (show 0 ≤ wd - natN l by omega)
    omega
  · rw [List.getElem?_eq_none (by omega)]
    simp
theorem implJust_ok : Sound Tryd.prog 38 φJust := by
  intro w J ps args r hr hJ hT hargs
  obtain ⟨l, wd, rfl, hq⟩ := F2_some hr
  split at hq
  case isFalse => cases hq
  case isTrue hok =>
  cases hq
  have hg := implTextGaps_ok w J _ args _ (φGaps_ap (wd := wd) hok) hJ hT hargs
  simp only [RepL] at hargs
  obtain ⟨v1, vs1, e1, h1, v2, vs2, rfl, h2, rfl⟩ := hargs
  obtain rfl : args = #[v1, v2] := by
    obtain ⟨a⟩ := args
    simp only at e1
    rw [e1]
  simp only [dSs, dL, dS, dI, Rep] at h1 h2
  subst h2
  obtain ⟨a, cap, rfl, k1, k2, k3⟩ := h1
  simp only [List.length_map] at k1 hg ⊢
  have hfact : ∃ b off, (0 < l.length → a = some ⟨b, off, none⟩ ∧ b < w.heap.size) ∧ StrAt w b off l := by
    rcases k3 with k3 | ⟨b, off, rfl, k4, k5⟩
    · have : l = [] := by simpa using k3
      subst this
      exact ⟨0, 0, fun h => by simp at h, fun j x hj => by simp at hj⟩
    · exact ⟨b, off, fun _ => ⟨rfl, hJ b k4.2⟩, str_cells k5⟩
  obtain ⟨b, off, ha, hs⟩ := hfact
  have hgr := fun h => gaps_rngs (l := l) (wd := wd) h
  generalize hgR : gapsR l wd = g at *
  have hfin := just_any (ok := gapsB l wd) (g := g) (n := l.length) rfl hok.1 ha hs hgr (hg.mono fun e w' h => by
    obtain ⟨v, rfl, hb, hv⟩ := h
    have hv2 := hv { I := fun k x => w.heap.size ≤ x ∧ x < w'.heap.size, β := fun _ => 0, κ := fun _ => 0, nx := 0 } fun x h1 h2 => ⟨h1, h2⟩
    simp only [Rep, RepL, List.length_map] at hv2
    obtain ⟨vs, rfl, x1, xs1, e3, ⟨ga, gc, rfl, _, _, m3⟩, x2, xs2, rfl, rfl, rfl⟩ := hv2
    obtain rfl : vs = #[.slice ga g.length gc, .bool (gapsB l wd)] := by
      obtain ⟨a⟩ := vs
      simp only at e3
      rw [e3]
    rcases m3 with m3 | ⟨gb, go, rfl, m4, m5⟩
    · have : g = [] := by simpa using m3
      subst this
      exact ⟨ga, 0, 0, gc, rfl, hb, fun h => by simp at h⟩
    · exact ⟨_, gb, go, gc, rfl, hb, fun _ => ⟨rfl, m4.2, num_cells m5⟩⟩)
  refine hfin.mono ?_
  rintro e w' ⟨rfl, hb⟩
  refine ⟨_, rfl, hb, fun g' _ => ?_⟩
  unfold justS
  rw [hgR]
  simp only [Rep, RepL]
  exact ⟨_, rfl, _, _, rfl, rfl, _, _, rfl, rfl, rfl⟩
end Go.Proofs.YtenldjifipnjpaaDoor
namespace Go.Proofs.YtenldjifipnjpaaDoor
open Go.RowKit
set_option linter.all false
def piecesB (c : UInt8) (s : ByteArray) : List ByteArray := Lib.splitB ⟨#[c]⟩ 0 (Lib.countB s ⟨#[c]⟩) s
theorem one_size (c : UInt8) : (1 : Nat) ≤ (⟨#[c]⟩ : ByteArray).size := by simp [ByteArray.size]
theorem piecesB_len (c : UInt8) (s : ByteArray) : (piecesB c s).length = Lib.countB s ⟨#[c]⟩ + 1 := Lib.splitB_all _ (one_size c) 0 _ s rfl
theorem piecesB_le (c : UInt8) (s : ByteArray) : (piecesB c s).length ≤ s.size + 1 := by
  rw [piecesB_len]
  have := Lib.countB_le ⟨#[c]⟩ (one_size c) s.size s (Nat.le_refl _)
  omega
set_option maxHeartbeats 1000000 in
theorem split_one (c : UInt8) (s : ByteArray) (w : World) (hs : s.size < 4294967281) : Calls Tryd.prog 46 #[.string s, .string ⟨#[c]⟩] w fun e w' =>
    e = .returned (.slice (some ⟨w.heap.size, 0, none⟩) (piecesB c s).length (piecesB c s).length) ∧ w' = w.alloc (.cells ((piecesB c s).map Value.string).toArray 9) := by
  have hle := Lib.countB_le ⟨#[c]⟩ (one_size c) s.size s (Nat.le_refl _)
  have hpl := piecesB_len c s
  have hI : ∀ (x : ByteArray) (cs : Array Value), x.size ≤ s.size → Calls Tryd.prog 105 #[.string x, .string ⟨#[c]⟩] (w.alloc (.cells cs 9)) fun e w' => e = .returned (.int .i64 (Lib.indexB x ⟨#[c]⟩)) ∧ w' = w.alloc (.cells cs 9) := fun x cs _ =>
    (YtenldjifipnjpaaDoor.strings_Index_one x c _).mono fun e w' ⟨he, hw⟩ => ⟨by rw [he]; exact congrArg (fun z => Ending.returned (Value.int .i64 z)) (Lib.index_one x.data.toList c).symm, hw⟩
  have hC : Calls Tryd.prog 104 #[.string s, .string ⟨#[c]⟩] w fun e w' => e = .returned (.int .i64 (Lib.countB s ⟨#[c]⟩)) ∧ w' = w :=
    (YtenldjifipnjpaaDoor.strings_Count_one s c w).mono fun e w' ⟨he, hw⟩ => ⟨by rw [he]; exact congrArg (fun z : Nat => Ending.returned (Value.int .i64 z)) (Lib.count_one c s.data.toList).symm, hw⟩
  have hg := Any.strings_genSplit_core YtenldjifipnjpaaDoor.lays221 (by kernel_rfl) s ⟨#[c]⟩ 0 (-1) (Lib.countB s ⟨#[c]⟩ + 1) w hs (one_size c) (Nat.zero_le _) hI hC (by decide) (by decide) (by rw [if_pos (by decide)]; omega)
  have e1 : Lib.splitB ⟨#[c]⟩ 0 (Lib.countB s ⟨#[c]⟩ + 1 - 1) s = piecesB c s := rfl
  have e2 : Lib.cellsOf (piecesB c s) (Lib.countB s ⟨#[c]⟩ + 1) = ((piecesB c s).map Value.string).toArray := by rw [← hpl]; exact Lib.cellsOf_full _
  rw [e1, e2, ← hpl] at hg
  clear hI hC hle hpl e1 e2
  generalize piecesB c s = ps at *
  go_enter Tryd.func46, Tryd.ntmps46
  go_wp2_with (go_at_call 83; refine hg.mono ?_; rintro e w' ⟨rfl, hw⟩; rw [hw])
  go_ret
  exact ⟨rfl, rfl⟩
end Go.Proofs.YtenldjifipnjpaaDoor
namespace Go.Proofs.YtenldjifipnjpaaDoor
open Go.RowKit
set_option linter.all false
theorem own_objS {J : Bool → Nat → Prop} {w w' : World} {e n : Nat} {v : Value} {l : List ByteArray} (hn : 0 < n) (hl : l.length = n) (hJ : ∀ k b, J k b → b < w.heap.size) (h : w'.ownsRow w.heap.size e 1 v n (l.map Value.string)) :
    ∃ b κ, w.heap.size ≤ b ∧ ObjsIO (addN J fun _ => False) w' (fun _ => b) (fun _ => κ) [(e, 1, l.map fun n => .val (.string n))] ∧ Rep (ghIO (addN J fun _ => False) (fun _ => b) (fun _ => κ) 1) w' (.row 0 1 0 n) v := by
  obtain ⟨h0, h1⟩ := h
  rcases h1 with ⟨rfl, h1⟩ | ⟨b, cap, cur, rfl, h2, h3, h4, h5, h6, h7⟩
  · omega
  · rw [Nat.mul_one] at h6 h7
    refine ⟨b, cur.size, h2, ⟨fun o ho => ⟨lt_of_heap h3, fun k hk => ?_⟩, fun o o' ho ho' _ => by simp at ho ho'; omega, fun o cc hc => ?_⟩, ?_⟩
    · rcases hk with hk | ⟨_, hk⟩
      · have := hJ k _ hk
        omega
      · exact hk
    · have ho : o = 0 := by have := (List.getElem?_eq_some_iff.1 hc).1; simp at this; exact this
      subst ho
      simp only [List.getElem?_cons_zero, Option.some.injEq] at hc
      subst hc
      refine ⟨⟨cur, h3, rfl⟩, by simp [ghIO]; omega, ?_⟩
      refine RepEs.of fun i x hx => ?_
      rw [List.getElem?_map, Option.map_eq_some_iff] at hx
      obtain ⟨y, hy, rfl⟩ := hx
      refine ⟨.string y, by simp [Rep], ⟨by simp [Value.cells, Value.oneCell'], fun j hj => ?_⟩, rfl⟩
      have hj0 : j = 0 := by simp [Value.cells] at hj; exact hj
      subst hj0
      have e1 : cur.toList[i]? = some (.string y) := by
        have hi : i < n := by have := (List.getElem?_eq_some_iff.1 hy).1; omega
        have e2 : (cur.toList.take n)[i]? = some (.string y) := by rw [h7]; simp [hy]
        rw [List.getElem?_take, if_pos hi] at e2
        exact e2
      simp only [World.cell?, ghIO, h3, Nat.zero_add, Nat.mul_one, Nat.add_zero]
      simpa [Value.cells] using e1
    · simp only [Rep, ghIO]
      exact ⟨cap, by simp, h4, by simp only [maxLen] at h5; omega, by omega, ⟨by simp, fun q => q⟩⟩
theorem linesB_snoc : ∀ (a : List (List UInt8)) (x : List UInt8), linesB (a ++ [x]) = linesB a ++ lineB x
  | [], x => by simp [linesB]
  | s :: a, x => by
    show lineB s ++ linesB (a ++ [x]) = lineB s ++ linesB a ++ lineB x
    rw [linesB_snoc a x, List.append_assoc]
theorem linesB_take {l : LS} {k : Nat} (h : k < l.length) : linesB ((l.take (k + 1)).map (·.data.toList)) = linesB ((l.take k).map (·.data.toList)) ++ lineB l[k].data.toList := by
  rw [List.take_succ_eq_append_getElem h, List.map_append, List.map_cons, List.map_nil, linesB_snoc]
theorem lineB_len (s : List UInt8) : (lineB s).length ≤ s.length + 1 := by
  unfold lineB
  split
  · rw [List.length_take]; omega
  · rw [List.length_append]; simp
theorem linesB_len {l : LS} : ∀ k, k ≤ l.length → (linesB ((l.take k).map (·.data.toList))).length ≤ sumS (l.take k) + k
  | 0, _ => by simp [linesB]
  | k + 1, hk => by
    have ih := linesB_len (l := l) k (by omega)
    have h1 := sumS_take (l := l) (k := k) (by omega)
    rw [List.getElem?_eq_getElem (show k < l.length by omega), Option.getD_some] at h1
    have h2 := lineB_len l[k].data.toList
    have h3 : l[k].data.toList.length = l[k].size := Array.length_toList
    rw [linesB_take (by omega), List.length_append]
    omega
theorem ownsRow_base {w : World} {B B' e n : Nat} {v : Value} {xs : List Value} (h : w.ownsRow B e 1 v n xs) (hB : B' ≤ B) : w.ownsRow B' e 1 v n xs := by
  obtain ⟨h0, h1⟩ := h
  refine ⟨h0, h1.imp id ?_⟩
  rintro ⟨g, cap, cur, h2, h3, h4⟩
  exact ⟨g, cap, cur, h2, Nat.le_trans hB h3, h4⟩
theorem one_cell (w : World) (v : Value) (T : TypeId) : ∀ (j : Nat) u, [v][j]? = some u → (w.alloc (.cells #[v] T)).cell? ((⟨w.heap.size, 0, none⟩ : Addr).add j) = some u := by
  intro j u hj
  match j, hj with
  | 0, hj => simp at hj; subst hj; simp [Addr.add]
theorem str_ne_bne {x : ByteArray} (h : ¬ x = ⟨#[]⟩) : x.toList.isEmpty = false := by
  cases hb : x.toList.isEmpty with
  | false => rfl
  | true =>
    rw [Lib.toList_data] at hb
    exact absurd (toL_nil.1 (List.isEmpty_iff.1 hb)) h
set_option maxHeartbeats 4000000 in
set_option maxRecDepth 100000 in
theorem wol_any {w : World} {a : Option Addr} {b off n c : Nat} {l R : LS} (hR : R = wolR l) (hz : l.length = n) (hn : n ≤ 1048576) (ha : 0 < n → a = some ⟨b, off, none⟩ ∧ b < w.heap.size) (hs : StrAt w b off l) (hsum : sumS l ≤ 1048576) :
    Calls Tryd.prog 14 #[.slice a n c] w fun e w' => ∃ v, e = .returned v ∧ Below w.heap.size w w' ∧ w'.ownsRow w.heap.size 9 1 v R.length (R.map Value.string) ∧ (R = [] → v = .slice none 0 0) := by
  have HZ := Lib.hid hz
  have HS := Lib.hid hs
  have HA := Lib.hid ha
  have HR := Lib.hid hR
  clear hz hs ha hR
  go_enter Tryd.func14, Tryd.ntmps14
  go_wp2
  go_loopw [13] (fun i wr => ∃ k : Nat, k ≤ n ∧ i = .int .i64 k ∧ Aside (Lib.IsBuilder 58 5 w.heap.size w.heap.size (Lib.byteCells (linesB ((l.take k).map (·.data.toList)))) wr) ∧ Aside (Below w.heap.size w wr)) (fun i _ => n - (intOf i).toNat)
  case atStart => exact ⟨0, Nat.zero_le _, rfl, (show Lib.IsBuilder _ _ _ _ _ _ from Lib.fresh_isBuilder _ _ _), (show Below _ _ _ from below_alloc (Below.refl _ _))⟩
  case round =>
    obtain ⟨k, hk, rfl, AB, AW⟩ := hrel
    by_cases hlt : k < n
    · obtain ⟨rfl, hb⟩ := HA.out (by omega)
      have hkl : k < l.length := by rw [HZ.out]; exact hlt
      have hc := (HS.out.below hb AW.out) k _ (List.getElem?_eq_getElem hkl)
      have hjl := linesB_len (l := l) k (by rw [HZ.out]; exact hk)
      have hst := sumS_take (l := l) hkl
      have hle := sumS_take_le l (k + 1)
      have hjs := linesB_take hkl
      rw [List.getElem?_eq_getElem hkl, Option.getD_some] at hst
      generalize l[k] = x at *
      have HJ := Lib.hid hjs
      have i1 : (0 : Int) ≤ (k : Int) := by omega
      have i2 : (k : Int) < (n : Int) := by omega
      have hbw : w.heap.size ≤ wr.heap.size := AW.out.size
      cases hy : Lib.hasSuffix x.data.toList [45] with
      | true =>
        have e1 : Lib.trimSuffix x.data.toList [45] = lineB x.data.toList := by
          unfold Lib.trimSuffix lineB
          rw [if_pos hy, if_pos hy]
          rfl
        have hcut : ∀ W, Calls Tryd.prog 44 #[.string x, .string ⟨#[45]⟩] W fun e w' => e = .returned (.tuple #[.string ⟨(lineB x.data.toList).toArray⟩, .bool true]) ∧ w' = W := fun W => by
          have h := YtenldjifipnjpaaDoor.strings_CutSuffix x ⟨#[45]⟩ W (by omega)
          rw [show (⟨#[45]⟩ : ByteArray).data.toList = [45] from rfl, e1, hy] at h
          exact h
        have hx2 := lineB_len x.data.toList
        have hx3 : x.data.toList.length = x.size := Array.length_toList
        have hx4 : (⟨(lineB x.data.toList).toArray⟩ : ByteArray).size = (lineB x.data.toList).length := rfl
        have hwr := fun (W : World) (hW : Lib.IsBuilder 58 5 w.heap.size w.heap.size (Lib.byteCells (linesB ((l.take k).map (·.data.toList)))) W) (hs : w.heap.size ≤ W.heap.size) => write_any (s := ⟨(lineB x.data.toList).toArray⟩) hW (by omega) hs
        have HCUT := Lib.hid hcut
        have HWR := Lib.hid hwr
        clear hcut hwr hjs hst hle hx2 hx3 hx4 hy e1
        go_wp2_with (first
          | (go_at_call 44; refine (HCUT.out _).mono ?_; rintro e w2 ⟨rfl, rfl⟩)
          | (go_at_call 45; refine (HWR.out _ AB.out hbw).mono ?_; rintro e w3 ⟨rfl, hab2, hb2⟩; have AB2 := Lib.hid hab2; have AW2 := Lib.hid (AW.out.trans hb2); clear hab2 hb2))
        go_roundw
        case rel => exact ⟨k + 1, by omega, by go_num, (show Lib.IsBuilder _ _ _ _ _ _ from by rw [HJ.out]; exact AB2.out), (show Below _ _ _ from AW2.out)⟩
        case measure => simp [intOf]; omega
      | false =>
        have hn9 : ¬ Lib.hasSuffix x.data.toList [45] = true := by rw [hy]; decide
        have e1 : (x ++ ⟨#[32]⟩ : ByteArray).data.toList = lineB x.data.toList := by
          unfold lineB
          rw [if_neg hn9, ByteArray.data_append, Array.toList_append]
        have hcut : ∀ W, Calls Tryd.prog 44 #[.string x, .string ⟨#[45]⟩] W fun e w' => e = .returned (.tuple #[.string ⟨(Lib.trimSuffix x.data.toList [45]).toArray⟩, .bool false]) ∧ w' = W := fun W => by
          have h := YtenldjifipnjpaaDoor.strings_CutSuffix x ⟨#[45]⟩ W (by omega)
          rw [show (⟨#[45]⟩ : ByteArray).data.toList = [45] from rfl, hy] at h
          exact h
        have hx4 : (x ++ ⟨#[32]⟩ : ByteArray).size = x.size + 1 := by rw [ByteArray.size_append]; rfl
        have hwr := fun (W : World) (hW : Lib.IsBuilder 58 5 w.heap.size w.heap.size (Lib.byteCells (linesB ((l.take k).map (·.data.toList)))) W) (hs : w.heap.size ≤ W.heap.size) => write_any (s := x ++ ⟨#[32]⟩) hW (by omega) hs
        have E1 := Lib.hid e1
        have HCUT := Lib.hid hcut
        have HWR := Lib.hid hwr
        have hxs : x.size ≤ 1048576 := by omega
        clear hcut hwr hjs hst hle hx4 hy e1 hn9
        go_wp2_with (first
          | (go_at_call 44; refine (HCUT.out _).mono ?_; rintro e w2 ⟨rfl, rfl⟩)
          | (go_at_call 45; refine (HWR.out _ AB.out hbw).mono ?_; rintro e w3 ⟨rfl, hab2, hb2⟩; have AB2 := Lib.hid hab2; have AW2 := Lib.hid (AW.out.trans hb2); clear hab2 hb2))
        go_roundw
        case rel => exact ⟨k + 1, by omega, by go_num, (show Lib.IsBuilder _ _ _ _ _ _ from by rw [HJ.out, ← E1.out]; exact AB2.out), (show Below _ _ _ from AW2.out)⟩
        case measure => simp [intOf]; omega
    · obtain rfl : k = n := by omega
      have hlz := HZ.out
      obtain ⟨G, hG⟩ : ∃ G, G = linesB (l.map (·.data.toList)) := ⟨_, rfl⟩
      have hgl := linesB_len (l := l) k (by omega)
      have hab := AB.out
      rw [List.take_of_length_le (by omega)] at hgl hab
      rw [← hG] at hgl hab
      have AB0 := Lib.hid hab
      have hgs : (⟨G.toArray⟩ : ByteArray).size = G.length := rfl
      have hsp := fun W => split_one 32 ⟨G.toArray⟩ W (by rw [hgs]; omega)
      have hpl := piecesB_le 32 ⟨G.toArray⟩
      rw [hgs] at hpl
      have hwr : R = (piecesB 32 ⟨G.toArray⟩).filter fun x => decide (¬ x = ⟨#[]⟩) := by
        rw [HR.out]
        refine toL_inj ?_
        have h := words_split ⟨G.toArray⟩
        have e : (fun x : ByteArray => decide (x.data.toList ≠ [])) = fun x => decide (¬ x = ⟨#[]⟩) := by
          funext x
          exact decide_eq_decide.2 (not_congr toL_nil)
        rw [e] at h
        rw [show (piecesB 32 ⟨G.toArray⟩) = Lib.splitB ⟨#[32]⟩ 0 (Lib.countB ⟨G.toArray⟩ ⟨#[32]⟩) ⟨G.toArray⟩ from rfl, h, hG]
        unfold wolR
        rw [List.map_map]
        exact List.map_id _
      generalize hps : piecesB 32 ⟨G.toArray⟩ = ps at *
      have hsp2 : ∀ W, Calls Tryd.prog 46 #[.string ⟨G.toArray⟩, .string ⟨#[32]⟩] W fun e w' => e = .returned (.slice (some ⟨W.heap.size, 0, none⟩) ps.length ps.length) ∧ w' = W.alloc (.cells (ps.map Value.string).toArray 9) := hsp
      have HSP := Lib.hid hsp2
      have HWR := Lib.hid hwr
      have hb0 := AW.out
      have HB0 := Lib.hid hb0
      have hbz := AW.out.size
      clear hsp hsp2 hwr hps hab AB hG hlz HS HA HZ hgs AW hb0 HR
      go_wp2_with (first
        | (go_at_call 47; refine (YtenldjifipnjpaaDoor.Builder_String_any w.heap.size w.heap.size G _ AB0.out hbz).mono ?_; rintro e w5 ⟨rfl, hb5⟩; have HB5 := Lib.hid hb5; clear hb5)
        | (go_at_call 46; refine (HSP.out w5).mono ?_; rintro e w6 ⟨rfl, rfl⟩))
      have hw6 := heap_alloc_new w5 (.cells (ps.map Value.string).toArray 9)
      have hz6 : (w5.alloc (.cells (ps.map Value.string).toArray 9)).heap.size = w5.heap.size + 1 := by simp
      have hb6 : Below w.heap.size w (w5.alloc (.cells (ps.map Value.string).toArray 9)) := below_alloc (HB0.out.trans HB5.out)
      have hz8 : w.heap.size ≤ w5.heap.size := Nat.le_trans hbz HB5.out.size
      clear hbz
      generalize w5.alloc (.cells (ps.map Value.string).toArray 9) = w6 at *
      generalize w5.heap.size = B at *
      have HW6 := Lib.hid hw6
      have HB6 := Lib.hid hb6
      clear hw6 hb6 HB5 HB0 AB0 HSP
      go_loopw [8, 32] (fun v i wr => ∃ k : Nat, k ≤ ps.length ∧ i = .int .i64 k ∧ Aside (wr.ownsRow w6.heap.size 9 1 v ((ps.take k).filter fun x => decide (¬ x = ⟨#[]⟩)).length (((ps.take k).filter fun x => decide (¬ x = ⟨#[]⟩)).map Value.string)) ∧ Aside (Below w6.heap.size w6 wr) ∧ Aside ((ps.take k).filter (fun x => decide (¬ x = ⟨#[]⟩)) = [] → v = .slice none 0 0)) (fun _ i _ => ps.length - (intOf i).toNat)
      case atStart => exact ⟨0, Nat.zero_le _, rfl, (show World.ownsRow _ _ _ _ _ _ _ from World.ownsRow_nil _ _ _ _), (show Below _ _ _ from Below.refl _ _), (show _ → _ from fun _ => rfl)⟩
      case round =>
        obtain ⟨k, hk, rfl, AO, AW2, AN⟩ := hrel
        by_cases hlt : k < ps.length
        · have hcx : wr.cell? ⟨B, k, none⟩ = some (.string ps[k]) := by
            rw [AW2.out.cell (p := ⟨B, k, none⟩) (show B < w6.heap.size by omega)]
            simp only [World.cell?, HW6.out]
            simp [hlt]
          have hfl : ((ps.take (k + 1)).filter fun x => decide (¬ x = ⟨#[]⟩)) = ((ps.take k).filter fun x => decide (¬ x = ⟨#[]⟩)) ++ if ps[k] = ⟨#[]⟩ then [] else [ps[k]] := by
            rw [List.take_succ_eq_append_getElem hlt, List.filter_append]
            congr 1
            by_cases h : ps[k] = ⟨#[]⟩ <;> simp [h]
          have hfle := List.length_filter_le (fun x => decide (¬ x = ⟨#[]⟩)) (ps.take k)
          rw [List.length_take] at hfle
          generalize ps[k] = x at *
          generalize hK0 : ((ps.take k).filter fun x => decide (¬ x = ⟨#[]⟩)) = K0 at *
          clear hK0
          have HF := Lib.hid hfl
          have i1 : (0 : Int) ≤ (k : Int) := by omega
          have i2 : (k : Int) < (ps.length : Int) := by omega
          have hbw : w6.heap.size ≤ wr.heap.size := AW2.out.size
          have hKs : K0.length ≤ 2097154 := by omega
          clear hfl hfle
          by_cases hx : x = ⟨#[]⟩
          · rw [if_pos hx, List.append_nil] at HF
            subst hx
            go_wp2
            go_roundw
            case rel => exact ⟨k + 1, by omega, by go_num, (show World.ownsRow _ _ _ _ _ _ _ from by rw [HF.out]; exact AO.out), (show Below _ _ _ from AW2.out), (show _ → _ from by rw [HF.out]; exact AN.out)⟩
            case measure => simp [intOf]; omega
          · rw [if_neg hx] at HF
            obtain ⟨i0, hi, hz0, hz1, hz2⟩ := info_parts (show (Tryd.prog.info? 9).map (fun i => (i.zero, i.size, i.bytes)) = some (some (.string ByteArray.empty), 1, 16) by kernel_rfl)
            have hne := str_ne_bne hx
            go_wp2_with (at_builtin; refine wpList_append_own _ rfl _ _ 22 rfl w6.heap.size 9 i0 (.string ByteArray.empty) 1 16 Tryd.underlying22 hi hz0 hz1 hz2 rfl (by decide) _ _ _ rfl (AO.out.alloc _) ⟨wr.heap.size, 0, none⟩ 1 1 [.string x] rfl rfl (one_cell _ _ _) (by intro u hu; simp at hu; subst hu; rfl) (by unfold maxLen; omega) (by omega) (by simp; omega) ?_; intro v' w1 hown' hgrow _; have HO1 := Lib.hid hown'; have HGR := Lib.hid hgrow; clear hown' hgrow)
            go_wp2
            go_roundw
            case rel =>
              have hlt8 := fun q hq => (AO.out.lt q hq).1
              refine ⟨k + 1, by omega, by go_num, (show World.ownsRow _ _ _ _ _ _ _ from by rw [HF.out, List.length_append, List.map_append]; exact HO1.out), (show Below _ _ _ from (AW2.out.alloc hbw _).grown HGR.out (by simp; omega) hlt8), (show _ → _ from by rw [HF.out]; simp)⟩
            case measure => simp [intOf]; omega
        · obtain rfl : k = ps.length := by omega
          rw [List.take_of_length_le (Nat.le_refl _)] at AO AN
          rw [← HWR.out] at AO AN
          go_wp2
          go_ret
          exact ⟨_, rfl, below_trans HB6.out AW2.out, ownsRow_base AO.out (by omega), AN.out⟩
end Go.Proofs.YtenldjifipnjpaaDoor
namespace Go.Proofs.YtenldjifipnjpaaDoor
open Go.RowKit
set_option linter.all false
noncomputable def ΨWol : FunN := G1 dSs fun l => open Classical in if okWl l then some (nP 1 ((wolR l).map fun s => .val (.string s)) 0, nC 9 1 ((wolR l).map fun s => .val (.string s))) else none
theorem implWolN : SoundN Tryd.prog 14 ΨWol := by
  intro w J β κ ps cs args r cs' hr hJ hO _ hargs
  dsimp only at hr
  split at hr
  case isFalse => cases hr
  case isTrue hcs =>
  subst hcs
  obtain ⟨l, rfl, hq⟩ := G1_some hr
  split at hq
  case isFalse => cases hq
  case isTrue hok =>
  simp only [Option.some.injEq, Prod.mk.injEq] at hq
  obtain ⟨rfl, rfl⟩ := hq
  simp only [RepL] at hargs
  obtain ⟨v1, vs1, e1, h1, rfl⟩ := hargs
  obtain rfl : args = #[v1] := by
    obtain ⟨a⟩ := args
    simp only at e1
    rw [e1]
  simp only [dSs, dL, dS, Rep] at h1
  obtain ⟨a, cap, rfl, k1, k2, k3⟩ := h1
  simp only [List.length_map] at k1 ⊢
  have hfact : ∃ b off, (0 < l.length → a = some ⟨b, off, none⟩ ∧ b < w.heap.size) ∧ StrAt w b off l := by
    rcases k3 with k3 | ⟨b, off, rfl, k4, k5⟩
    · have : l = [] := by simpa using k3
      subst this
      exact ⟨0, 0, fun h => by simp at h, fun j x hj => by simp at hj⟩
    · exact ⟨b, off, fun _ => ⟨rfl, hJ _ b k4⟩, str_cells k5⟩
  obtain ⟨b, off, ha, hs⟩ := hfact
  refine (wol_any (R := wolR l) rfl rfl hok.1 ha hs hok.2).mono ?_
  rintro e w' ⟨v, rfl, hb, hown, hnil⟩
  generalize wolR l = R at *
  by_cases h0 : R.length = 0
  · obtain rfl : R = [] := List.eq_nil_of_length_eq_zero h0
    obtain rfl := hnil rfl
    refine ⟨_, fun _ => 0, fun _ => 0, fun _ => False, rfl, ⟨hb.os, hb.tape, hb.output, hb.size, fun k hk _ => hb.block k hk⟩, by simp, fun o ho => by simp at ho, fun o _ ho => by simp [nC] at ho, fun b hb => hb.elim, ⟨fun o ho => by simp [nC] at ho, fun o o' ho => by simp [nC] at ho, fun o c hc => by simp [nC] at hc⟩, ?_⟩
    simp [nP, Rep]
  · have hp : 0 < (R.map fun s => PV.val (.string s)).length := by rw [List.length_map]; omega
    rw [nP_pos hp, nC_pos hp, List.length_map]
    obtain ⟨b1, κ1, hb1, hO1, hrep⟩ := own_objS (J := J) (n := R.length) (by omega) rfl hJ hown
    exact ⟨v, fun _ => b1, fun _ => κ1, fun _ => False, rfl, ⟨hb.os, hb.tape, hb.output, hb.size, fun k hk _ => hb.block k hk⟩, by simp, fun o ho => by simp at ho, fun o _ _ => hb1, fun b hb => hb.elim, hO1, hrep⟩
end Go.Proofs.YtenldjifipnjpaaDoor
namespace Go.Proofs.YtenldjifipnjpaaDoor
open Go.RowKit
set_option linter.all false
def spS (n : Nat) : ByteArray := ⟨(List.replicate n 32).toArray⟩
theorem ba_ext {a b : ByteArray} (h : a.data.toList = b.data.toList) : a = b := by
  obtain ⟨⟨a⟩⟩ := a
  obtain ⟨⟨b⟩⟩ := b
  simp only at h
  rw [h]
theorem ba_app (a b : ByteArray) : (a ++ b).data.toList = a.data.toList ++ b.data.toList := by
  rw [ByteArray.data_append, Array.toList_append]
theorem spS_zero (o : ByteArray) : o ++ spS 0 = o := ba_ext (by rw [ba_app]; simp [spS])
theorem spS_step (o : ByteArray) (j : Nat) : (o ++ spS j) ++ ⟨#[32]⟩ = o ++ spS (j + 1) := ba_ext (by
  rw [ba_app, ba_app, ba_app, List.append_assoc]
  congr 1
  show List.replicate j 32 ++ [32] = List.replicate (j + 1) 32
  rw [List.replicate_succ'])
theorem spS_size (n : Nat) : (spS n).size = n := List.length_replicate
def justO (l : LS) (g : List Int) : Nat → ByteArray
  | 0 => l[0]?.getD .empty
  | k + 1 => (justO l g k ++ spS (g[k]?.getD 0).toNat) ++ (l[k + 1]?.getD .empty)
theorem justL_succ {l : LS} {g : List Int} {k : Nat} : justL l g (k + 1) = justL l g k ++ ((l[k]?.getD .empty).data.toList ++ if k < g.length then List.replicate (g[k]?.getD 0).toNat 32 else []) := rfl
theorem justO_eq {l : LS} {g : List Int} : ∀ k, k ≤ g.length → (justO l g k).data.toList = justL l g k ++ (l[k]?.getD .empty).data.toList
  | 0, _ => by simp [justO, justL]
  | k + 1, hk => by
    unfold justO
    rw [ba_app, ba_app, justO_eq k (by omega), justL_succ, if_pos (by omega)]
    simp only [List.append_assoc]
    rfl
theorem justS_O {l : LS} {wd : Int} (h : gapsB l wd = true) (hl : (gapsR l wd).length + 1 = l.length) : justS l wd = justO l (gapsR l wd) (gapsR l wd).length := by
  unfold justS
  rw [if_pos h]
  refine ba_ext ?_
  rw [justO_eq _ (Nat.le_refl _), ← hl]
  rw [justL_succ, if_neg (by omega), List.append_nil]
theorem justO_size {l : LS} {g : List Int} (hg : ∀ j : Nat, 0 ≤ g[j]?.getD 0 ∧ g[j]?.getD 0 ≤ 70) (hs : ∀ j : Nat, (l[j]?.getD .empty).size ≤ 1048576) : ∀ k, (justO l g k).size ≤ 1048576 + 1048700 * k
  | 0 => by have := hs 0; unfold justO; omega
  | k + 1 => by
    have ih := justO_size hg hs k
    have h1 := hg k
    have h2 := hs (k + 1)
    unfold justO
    rw [ByteArray.size_append, ByteArray.size_append, spS_size]
    omega
noncomputable def GSju : Ctx := ⟨fun f => if f = 74 then some φGaps else none, fun f => none⟩
theorem GSju_ok : SoundΓ Tryd.prog GSju := ⟨(fun f φ h => by
  unfold GSju at h
  dsimp only at h
  split at h
  · rename_i hf; cases h; subst hf; exact ⟨⟨_, Tryd.func74, rfl, rfl⟩, specTextGaps_ok⟩
  cases h), (fun f φ h => by
  unfold GSju at h
  dsimp only at h
  cases h)⟩
theorem GSju_74 (ob : Objs) (ps : List PV) : evCall GSju ob 74 ps = (ps.mapM (reify false 0 ob fuel)).bind φGaps := by
  have h : GSju.fn 74 = some φGaps := by simp [GSju]
  unfold evCall
  rw [h]
  cases ps.mapM (reify false 0 ob fuel) <;> rfl
set_option maxHeartbeats 8000000 in
theorem specJust_ok : Sound Tryd.prog 39 φJust := by
  refine sound_pq mixed GSju_ok Tryd.func39 rfl 46 rfl [.tmp 4, .tmp 5] rfl (by kernel_rfl) fun ps r hr => ?_
  obtain ⟨l, wd, rfl, hq⟩ := F2_some hr
  clear hr
  split at hq
  case isFalse => cases hq
  case isTrue hpre =>
  cases hq
  refine ⟨by simp, ?_⟩
  simp only [dIs, dUs, dSs, dI_e, dU_e, dB_e, dS_e, dFn_e, dL_e, dA2_e, dA3_e, dA4_e, dA5_e]
  have ap1 := φGaps_ap (wd := wd) hpre
  cases hB : gapsB l wd with
  | false =>
    have hj : justS l wd = ⟨#[]⟩ := by unfold justS; rw [if_neg (by simp [hB])]
    rw [hj]
    rw [gapsR_no hB, hB] at ap1
    clear hB hj hpre
    have gsju_c74 := GSju_74
    (repeat' (first | (with_reducible first | apply i_seq | apply i_block | apply i_skip | apply i_exit | apply i_ret | apply i_kS | apply i_kSx | apply i_kSr | apply i_kL | apply i_kLx | apply i_kLr | apply i_kB | apply i_kBr | apply i_kBs | apply i_nil) | ((with_reducible apply i_region); (focus (simp only [List.map_cons, List.map_nil] <;> exact rfl))) | ((with_reducible apply i_draw); (focus (simp only [List.map_cons, List.map_nil] <;> exact rfl)); (focus (decide +kernel))) | ((with_reducible apply i_kBo); (focus rfl)) | ((first | ((with_reducible apply i_V); (focus rfl); (focus rfl); (focus rfl)) | ((with_reducible apply i_E); (focus rfl); (focus (first | rfl | (simp only [push_cast, ↓reduceIte, effOk, touch, refsOf, List.flatMap_cons, List.flatMap_nil])))) | ((with_reducible apply i_S); (focus rfl); (focus (first | rfl | (simp only [push_cast, ↓reduceIte, effOk, touch, refsOf, List.flatMap_cons, List.flatMap_nil])))) | ((with_reducible apply i_Vq); (focus rfl); (focus rfl)) | ((with_reducible apply i_Vp); (focus rfl); (focus rfl); (focus rfl))); (focus (simp (disch := (first | omega | (simp only [push_cast]; done) | (simp only [push_cast]; omega) | ((try simp only [push_cast]); (with_reducible first | apply sel_lt | apply sel_ge); (focus decide); (focus (simp only [push_cast]; omega))))) only [push_cast, ↓reduceIte, Nat.reduceEqDiff, Nat.reduceBEq, Nat.reduceAdd, Nat.reduceSub, Int.reduceToNat, *] <;> with_reducible exact rfl))) | ((with_reducible first | apply i_Gb | apply i_cond); (focus (simp (disch := (first | omega | (simp only [push_cast]; done) | (simp only [push_cast]; omega) | ((try simp only [push_cast]); (with_reducible first | apply sel_lt | apply sel_ge); (focus decide); (focus (simp only [push_cast]; omega))))) only [push_cast, ↓reduceIte, Nat.reduceEqDiff, Nat.reduceBEq, Nat.reduceAdd, Nat.reduceSub, Int.reduceToNat, *] <;> with_reducible exact rfl)); all_goals (intro hX; first | (cases hX; done) | ((with_reducible first | have hX0 : true = true := hX | have hX0 : false = false := hX); clear hX0 hX) | ((try simp only [decide_eq_true_eq, decide_eq_false_iff_not, Bool.not_eq_true', Bool.not_eq_false'] at hX); (try have hXb := inB_iff.1 hX)))))); all_goals try (exfalso; omega)
    all_goals (first | (exfalso; omega) | ((first | apply i_end | apply i_endN); simp (disch := (first | omega | (simp only [push_cast]; done) | (simp only [push_cast]; omega) | ((try simp only [push_cast]); (with_reducible first | apply sel_lt | apply sel_ge); (focus decide); (focus (simp only [push_cast]; omega))))) only [push_cast, ↓reduceIte, Nat.reduceEqDiff, Nat.reduceBEq, Nat.reduceAdd, Nat.reduceSub, Int.reduceToNat, *]) | skip)
  | true =>
    obtain ⟨g1, g2, g3, g4⟩ := gaps_rngs hB
    have hj := justS_O hB g1
    have hsz := justO_size (l := l) g2 hpre.2
    rw [hj]
    rw [hB] at ap1
    generalize gapsR l wd = g at *
    replace hsz := Lib.hid hsz
    replace g2 := Lib.hid g2
    have hw := Lib.hid hpre.2
    clear hB hj hpre
    have gsju_c74 := GSju_74
    (repeat' (first | (with_reducible first | apply i_seq | apply i_block | apply i_skip | apply i_exit | apply i_ret | apply i_kS | apply i_kSx | apply i_kSr | apply i_kL | apply i_kLx | apply i_kLr | apply i_kB | apply i_kBr | apply i_kBs | apply i_nil) | ((with_reducible apply i_region); (focus (simp only [List.map_cons, List.map_nil] <;> exact rfl))) | ((with_reducible apply i_draw); (focus (simp only [List.map_cons, List.map_nil] <;> exact rfl)); (focus (decide +kernel))) | ((with_reducible apply i_kBo); (focus rfl)) | ((first | ((with_reducible apply i_V); (focus rfl); (focus rfl); (focus rfl)) | ((with_reducible apply i_E); (focus rfl); (focus (first | rfl | (simp only [push_cast, ↓reduceIte, effOk, touch, refsOf, List.flatMap_cons, List.flatMap_nil])))) | ((with_reducible apply i_S); (focus rfl); (focus (first | rfl | (simp only [push_cast, ↓reduceIte, effOk, touch, refsOf, List.flatMap_cons, List.flatMap_nil])))) | ((with_reducible apply i_Vq); (focus rfl); (focus rfl)) | ((with_reducible apply i_Vp); (focus rfl); (focus rfl); (focus rfl))); (focus (simp (disch := (first | omega | (simp only [push_cast]; done) | (simp only [push_cast]; omega) | ((try simp only [push_cast]); (with_reducible first | apply sel_lt | apply sel_ge); (focus decide); (focus (simp only [push_cast]; omega))))) only [push_cast, ↓reduceIte, Nat.reduceEqDiff, Nat.reduceBEq, Nat.reduceAdd, Nat.reduceSub, Int.reduceToNat, *] <;> with_reducible exact rfl))) | ((with_reducible first | apply i_Gb | apply i_cond); (focus (simp (disch := (first | omega | (simp only [push_cast]; done) | (simp only [push_cast]; omega) | ((try simp only [push_cast]); (with_reducible first | apply sel_lt | apply sel_ge); (focus decide); (focus (simp only [push_cast]; omega))))) only [push_cast, ↓reduceIte, Nat.reduceEqDiff, Nat.reduceBEq, Nat.reduceAdd, Nat.reduceSub, Int.reduceToNat, *] <;> with_reducible exact rfl)); all_goals (intro hX; first | (cases hX; done) | ((with_reducible first | have hX0 : true = true := hX | have hX0 : false = false := hX); clear hX0 hX) | ((try simp only [decide_eq_true_eq, decide_eq_false_iff_not, Bool.not_eq_true', Bool.not_eq_false'] at hX); (try have hXb := inB_iff.1 hX)))))); all_goals try (exfalso; omega)
    clear ap1
    refine i_loop (α := Nat) mixed (fun k => [(0, .lst false 1 (l.map fun s => .val (.string s))), (6, .lst true 1 (g.map fun n => .val (.int .i64 n))), (8, .val (.string (justO l g k))), (9, iv k)]) (fun k => []) (fun _ => 0)
      (fun k => k ≤ g.length) (fun k => g.length - k) (by kernel_rfl) 0 (Nat.zero_le _) ?_ trivial rfl ?_
    · simp (disch := (first | omega | (simp only [push_cast]; done) | (simp only [push_cast]; omega) | ((try simp only [push_cast]); (with_reducible first | apply sel_lt | apply sel_ge); (focus decide); (focus (simp only [push_cast]; omega))))) only [push_cast, ↓reduceIte, Nat.reduceEqDiff, Nat.reduceBEq, Nat.reduceAdd, Nat.reduceSub, Int.reduceToNat, justO, *]
    intro k hk
    have hs1 := hsz.out k
    by_cases hkl : k < g.length
    · obtain ⟨q1, q2⟩ := g2.out k
      have hs2 := hsz.out (k + 1)
      have hjo : justO l g (k + 1) = (justO l g k ++ spS (g[k]?.getD 0).toNat) ++ (l[k + 1]?.getD .empty) := rfl
      replace hjo := Lib.hid hjo
      have hw1 := hw.out (k + 1)
      (repeat' (first | (with_reducible first | apply i_seq | apply i_block | apply i_skip | apply i_exit | apply i_ret | apply i_kS | apply i_kSx | apply i_kSr | apply i_kL | apply i_kLx | apply i_kLr | apply i_kB | apply i_kBr | apply i_kBs | apply i_nil) | ((with_reducible apply i_region); (focus (simp only [List.map_cons, List.map_nil] <;> exact rfl))) | ((with_reducible apply i_draw); (focus (simp only [List.map_cons, List.map_nil] <;> exact rfl)); (focus (decide +kernel))) | ((with_reducible apply i_kBo); (focus rfl)) | ((first | ((with_reducible apply i_V); (focus rfl); (focus rfl); (focus rfl)) | ((with_reducible apply i_E); (focus rfl); (focus (first | rfl | (simp only [push_cast, ↓reduceIte, effOk, touch, refsOf, List.flatMap_cons, List.flatMap_nil])))) | ((with_reducible apply i_S); (focus rfl); (focus (first | rfl | (simp only [push_cast, ↓reduceIte, effOk, touch, refsOf, List.flatMap_cons, List.flatMap_nil])))) | ((with_reducible apply i_Vq); (focus rfl); (focus rfl)) | ((with_reducible apply i_Vp); (focus rfl); (focus rfl); (focus rfl))); (focus (simp (disch := (first | omega | (simp only [push_cast]; done) | (simp only [push_cast]; omega) | ((try simp only [push_cast]); (with_reducible first | apply sel_lt | apply sel_ge); (focus decide); (focus (simp only [push_cast]; omega))))) only [push_cast, ↓reduceIte, Nat.reduceEqDiff, Nat.reduceBEq, Nat.reduceAdd, Nat.reduceSub, Int.reduceToNat, *] <;> with_reducible exact rfl))) | ((with_reducible first | apply i_Gb | apply i_cond); (focus (simp (disch := (first | omega | (simp only [push_cast]; done) | (simp only [push_cast]; omega) | ((try simp only [push_cast]); (with_reducible first | apply sel_lt | apply sel_ge); (focus decide); (focus (simp only [push_cast]; omega))))) only [push_cast, ↓reduceIte, Nat.reduceEqDiff, Nat.reduceBEq, Nat.reduceAdd, Nat.reduceSub, Int.reduceToNat, *] <;> with_reducible exact rfl)); all_goals (intro hX; first | (cases hX; done) | ((with_reducible first | have hX0 : true = true := hX | have hX0 : false = false := hX); clear hX0 hX) | ((try simp only [decide_eq_true_eq, decide_eq_false_iff_not, Bool.not_eq_true', Bool.not_eq_false'] at hX); (try have hXb := inB_iff.1 hX)))))); all_goals try (exfalso; omega)
      refine i_loop (α := Nat) mixed (fun j => [(0, .lst false 1 (l.map fun s => .val (.string s))), (6, .lst true 1 (g.map fun n => .val (.int .i64 n))), (8, .val (.string (justO l g k ++ spS j))), (9, iv k), (10, iv j)]) (fun k => []) (fun _ => 0)
        (fun j => (j : Int) ≤ g[k]?.getD 0) (fun j => (g[k]?.getD 0).toNat - j) (by kernel_rfl) 0 (by omega) ?_ trivial rfl ?_
      · simp (disch := (first | omega | (simp only [push_cast]; done) | (simp only [push_cast]; omega) | ((try simp only [push_cast]); (with_reducible first | apply sel_lt | apply sel_ge); (focus decide); (focus (simp only [push_cast]; omega))))) only [push_cast, ↓reduceIte, Nat.reduceEqDiff, Nat.reduceBEq, Nat.reduceAdd, Nat.reduceSub, Int.reduceToNat, spS_zero, *]
      intro j hj
      have hs3 : (spS j).size = j := spS_size j
      have hs4 : ((⟨#[32]⟩ : ByteArray)).size = 1 := rfl
      by_cases hjl : (j : Int) < g[k]?.getD 0
      · have hst := spS_step (justO l g k) j
        (repeat' (first | (with_reducible first | apply i_seq | apply i_block | apply i_skip | apply i_exit | apply i_ret | apply i_kS | apply i_kSx | apply i_kSr | apply i_kL | apply i_kLx | apply i_kLr | apply i_kB | apply i_kBr | apply i_kBs | apply i_nil) | ((with_reducible apply i_region); (focus (simp only [List.map_cons, List.map_nil] <;> exact rfl))) | ((with_reducible apply i_draw); (focus (simp only [List.map_cons, List.map_nil] <;> exact rfl)); (focus (decide +kernel))) | ((with_reducible apply i_kBo); (focus rfl)) | ((first | ((with_reducible apply i_V); (focus rfl); (focus rfl); (focus rfl)) | ((with_reducible apply i_E); (focus rfl); (focus (first | rfl | (simp only [push_cast, ↓reduceIte, effOk, touch, refsOf, List.flatMap_cons, List.flatMap_nil])))) | ((with_reducible apply i_S); (focus rfl); (focus (first | rfl | (simp only [push_cast, ↓reduceIte, effOk, touch, refsOf, List.flatMap_cons, List.flatMap_nil])))) | ((with_reducible apply i_Vq); (focus rfl); (focus rfl)) | ((with_reducible apply i_Vp); (focus rfl); (focus rfl); (focus rfl))); (focus (simp (disch := (first | omega | (simp only [push_cast]; done) | (simp only [push_cast]; omega) | ((try simp only [push_cast]); (with_reducible first | apply sel_lt | apply sel_ge); (focus decide); (focus (simp only [push_cast]; omega))))) only [push_cast, ↓reduceIte, Nat.reduceEqDiff, Nat.reduceBEq, Nat.reduceAdd, Nat.reduceSub, Int.reduceToNat, *] <;> with_reducible exact rfl))) | ((with_reducible first | apply i_Gb | apply i_cond); (focus (simp (disch := (first | omega | (simp only [push_cast]; done) | (simp only [push_cast]; omega) | ((try simp only [push_cast]); (with_reducible first | apply sel_lt | apply sel_ge); (focus decide); (focus (simp only [push_cast]; omega))))) only [push_cast, ↓reduceIte, Nat.reduceEqDiff, Nat.reduceBEq, Nat.reduceAdd, Nat.reduceSub, Int.reduceToNat, *] <;> with_reducible exact rfl)); all_goals (intro hX; first | (cases hX; done) | ((with_reducible first | have hX0 : true = true := hX | have hX0 : false = false := hX); clear hX0 hX) | ((try simp only [decide_eq_true_eq, decide_eq_false_iff_not, Bool.not_eq_true', Bool.not_eq_false'] at hX); (try have hXb := inB_iff.1 hX)))))); all_goals try (exfalso; omega)
        refine ⟨j + 1, by dsimp only; omega, by dsimp only; omega, ?_, trivial, rfl⟩
        simp (disch := (first | omega | (simp only [push_cast]; done) | (simp only [push_cast]; omega) | ((try simp only [push_cast]); (with_reducible first | apply sel_lt | apply sel_ge); (focus decide); (focus (simp only [push_cast]; omega))))) only [push_cast, ↓reduceIte, Nat.reduceEqDiff, Nat.reduceBEq, Nat.reduceAdd, Nat.reduceSub, Int.reduceToNat, List.length_append, *]
      · have hje : (g[k]?.getD 0).toNat = j := by omega
        have hjo := hjo.out
        rw [hje] at hjo
        replace hjo := Lib.hid hjo
        (repeat' (first | (with_reducible first | apply i_seq | apply i_block | apply i_skip | apply i_exit | apply i_ret | apply i_kS | apply i_kSx | apply i_kSr | apply i_kL | apply i_kLx | apply i_kLr | apply i_kB | apply i_kBr | apply i_kBs | apply i_nil) | ((with_reducible apply i_region); (focus (simp only [List.map_cons, List.map_nil] <;> exact rfl))) | ((with_reducible apply i_draw); (focus (simp only [List.map_cons, List.map_nil] <;> exact rfl)); (focus (decide +kernel))) | ((with_reducible apply i_kBo); (focus rfl)) | ((first | ((with_reducible apply i_V); (focus rfl); (focus rfl); (focus rfl)) | ((with_reducible apply i_E); (focus rfl); (focus (first | rfl | (simp only [push_cast, ↓reduceIte, effOk, touch, refsOf, List.flatMap_cons, List.flatMap_nil])))) | ((with_reducible apply i_S); (focus rfl); (focus (first | rfl | (simp only [push_cast, ↓reduceIte, effOk, touch, refsOf, List.flatMap_cons, List.flatMap_nil])))) | ((with_reducible apply i_Vq); (focus rfl); (focus rfl)) | ((with_reducible apply i_Vp); (focus rfl); (focus rfl); (focus rfl))); (focus (simp (disch := (first | omega | (simp only [push_cast]; done) | (simp only [push_cast]; omega) | ((try simp only [push_cast]); (with_reducible first | apply sel_lt | apply sel_ge); (focus decide); (focus (simp only [push_cast]; omega))))) only [push_cast, ↓reduceIte, Nat.reduceEqDiff, Nat.reduceBEq, Nat.reduceAdd, Nat.reduceSub, Int.reduceToNat, *] <;> with_reducible exact rfl))) | ((with_reducible first | apply i_Gb | apply i_cond); (focus (simp (disch := (first | omega | (simp only [push_cast]; done) | (simp only [push_cast]; omega) | ((try simp only [push_cast]); (with_reducible first | apply sel_lt | apply sel_ge); (focus decide); (focus (simp only [push_cast]; omega))))) only [push_cast, ↓reduceIte, Nat.reduceEqDiff, Nat.reduceBEq, Nat.reduceAdd, Nat.reduceSub, Int.reduceToNat, *] <;> with_reducible exact rfl)); all_goals (intro hX; first | (cases hX; done) | ((with_reducible first | have hX0 : true = true := hX | have hX0 : false = false := hX); clear hX0 hX) | ((try simp only [decide_eq_true_eq, decide_eq_false_iff_not, Bool.not_eq_true', Bool.not_eq_false'] at hX); (try have hXb := inB_iff.1 hX)))))); all_goals try (exfalso; omega)
        refine ⟨k + 1, by omega, by dsimp only; omega, ?_, trivial, rfl⟩
        simp (disch := (first | omega | (simp only [push_cast]; done) | (simp only [push_cast]; omega) | ((try simp only [push_cast]); (with_reducible first | apply sel_lt | apply sel_ge); (focus decide); (focus (simp only [push_cast]; omega))))) only [push_cast, ↓reduceIte, Nat.reduceEqDiff, Nat.reduceBEq, Nat.reduceAdd, Nat.reduceSub, Int.reduceToNat, ← hjo.out, *]
    · obtain rfl : k = g.length := by omega
      clear g2 hsz
      (repeat' (first | (with_reducible first | apply i_seq | apply i_block | apply i_skip | apply i_exit | apply i_ret | apply i_kS | apply i_kSx | apply i_kSr | apply i_kL | apply i_kLx | apply i_kLr | apply i_kB | apply i_kBr | apply i_kBs | apply i_nil) | ((with_reducible apply i_region); (focus (simp only [List.map_cons, List.map_nil] <;> exact rfl))) | ((with_reducible apply i_draw); (focus (simp only [List.map_cons, List.map_nil] <;> exact rfl)); (focus (decide +kernel))) | ((with_reducible apply i_kBo); (focus rfl)) | ((first | ((with_reducible apply i_V); (focus rfl); (focus rfl); (focus rfl)) | ((with_reducible apply i_E); (focus rfl); (focus (first | rfl | (simp only [push_cast, ↓reduceIte, effOk, touch, refsOf, List.flatMap_cons, List.flatMap_nil])))) | ((with_reducible apply i_S); (focus rfl); (focus (first | rfl | (simp only [push_cast, ↓reduceIte, effOk, touch, refsOf, List.flatMap_cons, List.flatMap_nil])))) | ((with_reducible apply i_Vq); (focus rfl); (focus rfl)) | ((with_reducible apply i_Vp); (focus rfl); (focus rfl); (focus rfl))); (focus (simp (disch := (first | omega | (simp only [push_cast]; done) | (simp only [push_cast]; omega) | ((try simp only [push_cast]); (with_reducible first | apply sel_lt | apply sel_ge); (focus decide); (focus (simp only [push_cast]; omega))))) only [push_cast, ↓reduceIte, Nat.reduceEqDiff, Nat.reduceBEq, Nat.reduceAdd, Nat.reduceSub, Int.reduceToNat, *] <;> with_reducible exact rfl))) | ((with_reducible first | apply i_Gb | apply i_cond); (focus (simp (disch := (first | omega | (simp only [push_cast]; done) | (simp only [push_cast]; omega) | ((try simp only [push_cast]); (with_reducible first | apply sel_lt | apply sel_ge); (focus decide); (focus (simp only [push_cast]; omega))))) only [push_cast, ↓reduceIte, Nat.reduceEqDiff, Nat.reduceBEq, Nat.reduceAdd, Nat.reduceSub, Int.reduceToNat, *] <;> with_reducible exact rfl)); all_goals (intro hX; first | (cases hX; done) | ((with_reducible first | have hX0 : true = true := hX | have hX0 : false = false := hX); clear hX0 hX) | ((try simp only [decide_eq_true_eq, decide_eq_false_iff_not, Bool.not_eq_true', Bool.not_eq_false'] at hX); (try have hXb := inB_iff.1 hX)))))); all_goals try (exfalso; omega)
      all_goals (first | (exfalso; omega) | ((first | apply i_end | apply i_endN); simp (disch := (first | omega | (simp only [push_cast]; done) | (simp only [push_cast]; omega) | ((try simp only [push_cast]); (with_reducible first | apply sel_lt | apply sel_ge); (focus decide); (focus (simp only [push_cast]; omega))))) only [push_cast, ↓reduceIte, Nat.reduceEqDiff, Nat.reduceBEq, Nat.reduceAdd, Nat.reduceSub, Int.reduceToNat, *]) | skip)
end Go.Proofs.YtenldjifipnjpaaDoor
namespace Go.Proofs.YtenldjifipnjpaaDoor
open Go.RowKit
set_option linter.all false
def fits (l : LS) (wd : Int) (n : Nat) : Bool := decide ((natN (l.take (n + 1)) : Int) ≤ wd)
def fitF (l : LS) (wd : Int) : Nat → Nat → Nat
  | 0, n => n
  | f + 1, n => if fits l wd n = true then fitF l wd f (n + 1) else n
def fitN (l : LS) (wd : Int) : Nat := fitF l wd l.length 0
theorem fitF_eq {l : LS} {wd : Int} {n : Nat} (h2 : ∀ m, m < n → fits l wd m = true) (h3 : n < l.length → fits l wd n = false) : ∀ f k, k + f = l.length → k ≤ n → n ≤ l.length → fitF l wd f k = n
  | 0, k, h, hk, hn => by show k = n; omega
  | f + 1, k, h, hk, hn => by
    unfold fitF
    by_cases hkn : k < n
    · rw [if_pos (h2 k hkn)]
      exact fitF_eq h2 h3 f (k + 1) (by omega) (by omega) hn
    · obtain rfl : k = n := by omega
      rw [if_neg (by simp [h3 (by omega)])]
theorem fitN_eq {l : LS} {wd : Int} {n : Nat} (hn : n ≤ l.length) (h2 : ∀ m, m < n → fits l wd m = true) (h3 : n < l.length → fits l wd n = false) : fitN l wd = n := fitF_eq h2 h3 _ _ (by omega) (Nat.zero_le _) hn
def spB : ByteArray := ⟨#[32]⟩
noncomputable def lineS (l : LS) (wd : Int) (n : Nat) : ByteArray := if n < l.length then justS (l.take n) wd else joinB (l.take n) spB
noncomputable def linesF (wd : Int) : Nat → LS → LS → Option LS
  | 0, _, acc => some acc
  | f + 1, ws, acc => if ws.length = 0 then some acc else if fitN ws wd = 0 then none else linesF wd f (ws.drop (fitN ws wd)) (acc ++ [lineS ws wd (fitN ws wd)])
noncomputable def tlR (l : LS) (wd : Int) : Option LS := if allWords l = true ∧ inB wd 1 60 = true then linesF wd l.length l [] else none
theorem linesF_nil {wd : Int} {f : Nat} {ws acc : LS} (h : ws.length = 0) : linesF wd f ws acc = some acc := by
  cases f with
  | zero => rfl
  | succ f => unfold linesF; rw [if_pos h]
theorem linesF_none {wd : Int} {f : Nat} {ws acc : LS} (hf : ws.length ≤ f) (h : 0 < ws.length) (h0 : fitN ws wd = 0) : linesF wd f ws acc = none := by
  obtain ⟨g, rfl⟩ : ∃ g, f = g + 1 := ⟨f - 1, by omega⟩
  unfold linesF
  rw [if_neg (by omega), if_pos h0]
theorem linesF_step {wd : Int} {f n : Nat} {ws acc : LS} (hf : ws.length ≤ f) (h : 0 < ws.length) (hn : fitN ws wd = n) (h0 : 0 < n) : ∃ g, (ws.drop n).length ≤ g ∧ linesF wd f ws acc = linesF wd g (ws.drop n) (acc ++ [lineS ws wd n]) := by
  obtain ⟨g, rfl⟩ : ∃ g, f = g + 1 := ⟨f - 1, by omega⟩
  refine ⟨g, by rw [List.length_drop]; omega, ?_⟩
  show (if _ then _ else if _ then _ else _) = _
  rw [if_neg (by omega), hn, if_neg (by omega)]
theorem okSs_take {l : LS} (h : okSs l) (n : Nat) : okSs (l.take n) := ⟨by have := h.1; simp only [List.length_take]; omega, fun i => by
  rw [List.getElem?_take]
  split
  · exact h.2 i
  · decide⟩
theorem okSs_drop {l : LS} (h : okSs l) (n : Nat) : okSs (l.drop n) := ⟨by have := h.1; simp only [List.length_drop]; omega, fun i => by
  rw [List.getElem?_drop]
  exact h.2 _⟩
theorem join_ok2 {l : LS} (h : okSs l) : (joinB l spB).size ≤ 140737488355328 := by
  rw [joinB_size]
  have h1 := sumS_le h.2
  have h2 : l.length * 1048576 ≤ 1048576 * 1048576 := Nat.mul_le_mul_right _ h.1
  have h3 : spB.size = 1 := rfl
  have := h.1
  rw [h3]
  omega
theorem agreeO_nO {T sz x : Nat} {es : List PV} : agreeO (lo (nO T sz es x)) (nO T sz es x) := by
  cases es with
  | nil => trivial
  | cons e es =>
    show agreeO (lo [_]) [_]
    simp only [push_cast]
theorem φJoin_sp {l : LS} (h : okSs l) : φJoin [.lst false 1 (l.map fun s => .val (.string s)), .val (.string ⟨#[32]⟩)] = some (.val (.string (joinB l spB))) := φJoin_ap (by have := h.1; omega) (join_ok2 h)
noncomputable def ΨTL : FunN := G2 dSs dI fun l wd => if okSs l then some (match tlR l wd with | none => (.tup [.val (.slice none 0 0), .val (.bool false)], []) | some L => (.tup [nP 1 (L.map fun s => .val (.string s)) 0, .val (.bool true)], nC 9 1 (L.map fun s => .val (.string s)))) else none
noncomputable def GTL : Ctx := ⟨fun f => if f = 76 then some φWords else if f = 77 then some φBroad else if f = 78 then some φNat else if f = 79 then some φJoin else if f = 38 then some φJust else none, fun f => none⟩
theorem GTL_ok : SoundΓ Tryd.prog GTL := ⟨(fun f φ h => by
  unfold GTL at h
  dsimp only at h
  split at h
  · rename_i hf; cases h; subst hf; exact ⟨⟨_, Tryd.func76, rfl, rfl⟩, implWordsValid_ok⟩
  split at h
  · rename_i hf; cases h; subst hf; exact ⟨⟨_, Tryd.func77, rfl, rfl⟩, isBroad_ok⟩
  split at h
  · rename_i hf; cases h; subst hf; exact ⟨⟨_, Tryd.func78, rfl, rfl⟩, natural_ok⟩
  split at h
  · rename_i hf; cases h; subst hf; exact ⟨⟨_, Tryd.func79, rfl, rfl⟩, join_ok⟩
  split at h
  · rename_i hf; cases h; subst hf; exact ⟨⟨_, Tryd.func38, rfl, rfl⟩, implJust_ok⟩
  cases h), (fun f φ h => by
  unfold GTL at h
  dsimp only at h
  cases h)⟩
theorem GTL_76 (ob : Objs) (ps : List PV) : evCall GTL ob 76 ps = (ps.mapM (reify false 0 ob fuel)).bind φWords := by
  have h : GTL.fn 76 = some φWords := by simp [GTL]
  unfold evCall
  rw [h]
  cases ps.mapM (reify false 0 ob fuel) <;> rfl
theorem GTL_77 (ob : Objs) (ps : List PV) : evCall GTL ob 77 ps = (ps.mapM (reify false 0 ob fuel)).bind φBroad := by
  have h : GTL.fn 77 = some φBroad := by simp [GTL]
  unfold evCall
  rw [h]
  cases ps.mapM (reify false 0 ob fuel) <;> rfl
theorem GTL_78 (ob : Objs) (ps : List PV) : evCall GTL ob 78 ps = (ps.mapM (reify false 0 ob fuel)).bind φNat := by
  have h : GTL.fn 78 = some φNat := by simp [GTL]
  unfold evCall
  rw [h]
  cases ps.mapM (reify false 0 ob fuel) <;> rfl
theorem GTL_79 (ob : Objs) (ps : List PV) : evCall GTL ob 79 ps = (ps.mapM (reify false 0 ob fuel)).bind φJoin := by
  have h : GTL.fn 79 = some φJoin := by simp [GTL]
  unfold evCall
  rw [h]
  cases ps.mapM (reify false 0 ob fuel) <;> rfl
theorem GTL_38 (ob : Objs) (ps : List PV) : evCall GTL ob 38 ps = (ps.mapM (reify false 0 ob fuel)).bind φJust := by
  have h : GTL.fn 38 = some φJust := by simp [GTL]
  unfold evCall
  rw [h]
  cases ps.mapM (reify false 0 ob fuel) <;> rfl
set_option maxHeartbeats 16000000 in
theorem implTLN : SoundN Tryd.prog 41 ΨTL := by
  refine sound_pqN mixed GTL_ok Tryd.func41 rfl 61 rfl [.tmp 4, .tmp 5] rfl (by kernel_rfl) fun ps r cs' hr => ?_
  obtain ⟨l, wd, rfl, hq⟩ := G2_some hr
  clear hr
  split at hq
  case isFalse => cases hq
  case isTrue hpre =>
  simp only [Option.some.injEq] at hq
  refine ⟨by simp, ?_⟩
  simp only [dIs, dUs, dSs, dI_e, dU_e, dB_e, dS_e, dFn_e, dL_e, dA2_e, dA3_e, dA4_e, dA5_e]
  have ap1 := φWords_ap hpre
  have ap3 := φBroad_ap
  have hlen := hpre.1
  by_cases hA : allWords l = true ∧ inB wd 1 60 = true
  · obtain ⟨hw, hwd⟩ := hA
    have hwb := inB_iff.1 hwd
    have h12 := allWords_len hw
    have hR : tlR l wd = linesF wd l.length l [] := if_pos ⟨hw, hwd⟩
    rw [hw] at ap1
    replace hR := Lib.hid hR
    replace hq := Lib.hid hq
    have gtl_c76 := GTL_76; have gtl_c77 := GTL_77; have gtl_c78 := GTL_78; have gtl_c79 := GTL_79; have gtl_c38 := GTL_38
    (repeat' (first | (with_reducible first | apply i_seq | apply i_block | apply i_skip | apply i_exit | apply i_ret | apply i_kS | apply i_kSx | apply i_kSr | apply i_kL | apply i_kLx | apply i_kLr | apply i_kB | apply i_kBr | apply i_kBs | apply i_nil) | ((with_reducible apply i_region); (focus (simp only [List.map_cons, List.map_nil] <;> exact rfl))) | ((with_reducible apply i_draw); (focus (simp only [List.map_cons, List.map_nil] <;> exact rfl)); (focus (decide +kernel))) | ((with_reducible apply i_kBo); (focus rfl)) | ((first | ((with_reducible apply i_V); (focus rfl); (focus rfl); (focus rfl)) | ((with_reducible apply i_E); (focus rfl); (focus (first | rfl | (simp only [push_cast, ↓reduceIte, effOk, touch, refsOf, List.flatMap_cons, List.flatMap_nil])))) | ((with_reducible apply i_S); (focus rfl); (focus (first | rfl | (simp only [push_cast, ↓reduceIte, effOk, touch, refsOf, List.flatMap_cons, List.flatMap_nil])))) | ((with_reducible apply i_Vq); (focus rfl); (focus rfl)) | ((with_reducible apply i_Vp); (focus rfl); (focus rfl); (focus rfl))); (focus (simp (disch := (first | omega | (simp only [push_cast]; done) | (simp only [push_cast]; omega) | ((try simp only [push_cast]); (with_reducible first | apply sel_lt | apply sel_ge); (focus decide); (focus (simp only [push_cast]; omega))))) only [push_cast, ↓reduceIte, Nat.reduceEqDiff, Nat.reduceBEq, Nat.reduceAdd, Nat.reduceSub, Int.reduceToNat, *] <;> with_reducible exact rfl))) | ((with_reducible first | apply i_Gb | apply i_cond); (focus (simp (disch := (first | omega | (simp only [push_cast]; done) | (simp only [push_cast]; omega) | ((try simp only [push_cast]); (with_reducible first | apply sel_lt | apply sel_ge); (focus decide); (focus (simp only [push_cast]; omega))))) only [push_cast, ↓reduceIte, Nat.reduceEqDiff, Nat.reduceBEq, Nat.reduceAdd, Nat.reduceSub, Int.reduceToNat, *] <;> with_reducible exact rfl)); all_goals (intro hX; first | (cases hX; done) | ((with_reducible first | have hX0 : true = true := hX | have hX0 : false = false := hX); clear hX0 hX) | ((try simp only [decide_eq_true_eq, decide_eq_false_iff_not, Bool.not_eq_true', Bool.not_eq_false'] at hX); (try have hXb := inB_iff.1 hX)))))); all_goals try (exfalso; omega)
    refine i_loop (α := LS × LS × Nat × Nat) mixed (fun s => [(0, .lst false 1 (s.1.map fun s => .val (.string s))), (1, iv wd), (6, nP 1 (s.2.1.map fun s => .val (.string s)) s.2.2.1)])
      (fun s => nO 9 1 (s.2.1.map fun s => .val (.string s)) s.2.2.1) (fun s => s.2.2.2)
      (fun s => (∃ f, s.1.length ≤ f ∧ linesF wd f s.1 s.2.1 = tlR l wd) ∧ okSs s.1 ∧ s.1.length + s.2.1.length ≤ 12 ∧ (0 < s.2.1.length → s.2.2.1 < s.2.2.2)) (fun s => s.1.length) (by kernel_rfl) (l, [], 0, 0) ⟨⟨l.length, Nat.le_refl _, hR.out.symm⟩, hpre, by simp only [List.length_nil]; omega, fun h => by simp at h⟩ ?_ ?_ rfl ?_
    · simp (disch := (first | omega | (simp only [push_cast]; done) | (simp only [push_cast]; omega) | ((try simp only [push_cast]); (with_reducible first | apply sel_lt | apply sel_ge); (focus decide); (focus (simp only [push_cast]; omega))))) only [push_cast, ↓reduceIte, Nat.reduceEqDiff, Nat.reduceBEq, Nat.reduceAdd, Nat.reduceSub, Int.reduceToNat, List.length_append, *]
    · simp (disch := (first | omega | (simp only [push_cast]; done) | (simp only [push_cast]; omega) | ((try simp only [push_cast]); (with_reducible first | apply sel_lt | apply sel_ge); (focus decide); (focus (simp only [push_cast]; omega))))) only [push_cast, ↓reduceIte, Nat.reduceEqDiff, Nat.reduceBEq, Nat.reduceAdd, Nat.reduceSub, Int.reduceToNat, List.length_append, *]
    clear ap1 ap3 hR hw hwd hpre
    rintro ⟨ws, acc, x, y⟩ ⟨⟨f, hf, hF⟩, hok, hl12, hxy⟩
    dsimp only at hf hF hok hl12 hxy
    replace hxy := Lib.hid hxy
    by_cases hw0 : ws.length = 0
    · rw [linesF_nil hw0] at hF
      have hq := hq.out
      rw [← hF] at hq
      dsimp only at hq
      clear hF hf hok
      by_cases ha0 : acc.length = 0
      · obtain rfl : acc = [] := List.eq_nil_of_length_eq_zero ha0
        cases hq
        (repeat' (first | (with_reducible first | apply i_seq | apply i_block | apply i_skip | apply i_exit | apply i_ret | apply i_kS | apply i_kSx | apply i_kSr | apply i_kL | apply i_kLx | apply i_kLr | apply i_kB | apply i_kBr | apply i_kBs | apply i_nil) | ((with_reducible apply i_region); (focus (simp only [List.map_cons, List.map_nil] <;> exact rfl))) | ((with_reducible apply i_draw); (focus (simp only [List.map_cons, List.map_nil] <;> exact rfl)); (focus (decide +kernel))) | ((with_reducible apply i_kBo); (focus rfl)) | ((first | ((with_reducible apply i_V); (focus rfl); (focus rfl); (focus rfl)) | ((with_reducible apply i_E); (focus rfl); (focus (first | rfl | (simp only [push_cast, ↓reduceIte, effOk, touch, refsOf, List.flatMap_cons, List.flatMap_nil])))) | ((with_reducible apply i_S); (focus rfl); (focus (first | rfl | (simp only [push_cast, ↓reduceIte, effOk, touch, refsOf, List.flatMap_cons, List.flatMap_nil])))) | ((with_reducible apply i_Vq); (focus rfl); (focus rfl)) | ((with_reducible apply i_Vp); (focus rfl); (focus rfl); (focus rfl))); (focus (simp (disch := (first | omega | (simp only [push_cast]; done) | (simp only [push_cast]; omega) | ((try simp only [push_cast]); (with_reducible first | apply sel_lt | apply sel_ge); (focus decide); (focus (simp only [push_cast]; omega))))) only [push_cast, ↓reduceIte, Nat.reduceEqDiff, Nat.reduceBEq, Nat.reduceAdd, Nat.reduceSub, Int.reduceToNat, *] <;> with_reducible exact rfl))) | ((with_reducible first | apply i_Gb | apply i_cond); (focus (simp (disch := (first | omega | (simp only [push_cast]; done) | (simp only [push_cast]; omega) | ((try simp only [push_cast]); (with_reducible first | apply sel_lt | apply sel_ge); (focus decide); (focus (simp only [push_cast]; omega))))) only [push_cast, ↓reduceIte, Nat.reduceEqDiff, Nat.reduceBEq, Nat.reduceAdd, Nat.reduceSub, Int.reduceToNat, *] <;> with_reducible exact rfl)); all_goals (intro hX; first | (cases hX; done) | ((with_reducible first | have hX0 : true = true := hX | have hX0 : false = false := hX); clear hX0 hX) | ((try simp only [decide_eq_true_eq, decide_eq_false_iff_not, Bool.not_eq_true', Bool.not_eq_false'] at hX); (try have hXb := inB_iff.1 hX)))))); all_goals try (exfalso; omega)
        all_goals (show PostIO _ _ 0 (.tup [.val (.slice none 0 0), .val (.bool true)]) [] _ _)
        all_goals ((with_reducible apply i_endN0 (by first | exact .inl rfl | exact .inr rfl)); (focus (simp (disch := (first | omega | (simp only [push_cast]; done) | (simp only [push_cast]; omega) | ((try simp only [push_cast]); (with_reducible first | apply sel_lt | apply sel_ge); (focus decide); (focus (simp only [push_cast]; omega))))) only [push_cast, ↓reduceIte, Nat.reduceEqDiff, Nat.reduceBEq, Nat.reduceAdd, Nat.reduceSub, Int.reduceToNat, *] <;> with_reducible exact rfl)))
      · have hap : 0 < (acc.map fun s => PV.val (.string s)).length := by rw [List.length_map]; omega
        rw [nP_pos hap, nC_pos hap, List.length_map] at hq
        cases hq
        simp only [nP_pos hap, nO_pos hap, List.length_map]
        (repeat' (first | (with_reducible first | apply i_seq | apply i_block | apply i_skip | apply i_exit | apply i_ret | apply i_kS | apply i_kSx | apply i_kSr | apply i_kL | apply i_kLx | apply i_kLr | apply i_kB | apply i_kBr | apply i_kBs | apply i_nil) | ((with_reducible apply i_region); (focus (simp only [List.map_cons, List.map_nil] <;> exact rfl))) | ((with_reducible apply i_draw); (focus (simp only [List.map_cons, List.map_nil] <;> exact rfl)); (focus (decide +kernel))) | ((with_reducible apply i_kBo); (focus rfl)) | ((first | ((with_reducible apply i_V); (focus rfl); (focus rfl); (focus rfl)) | ((with_reducible apply i_E); (focus rfl); (focus (first | rfl | (simp only [push_cast, ↓reduceIte, effOk, touch, refsOf, List.flatMap_cons, List.flatMap_nil])))) | ((with_reducible apply i_S); (focus rfl); (focus (first | rfl | (simp only [push_cast, ↓reduceIte, effOk, touch, refsOf, List.flatMap_cons, List.flatMap_nil])))) | ((with_reducible apply i_Vq); (focus rfl); (focus rfl)) | ((with_reducible apply i_Vp); (focus rfl); (focus rfl); (focus rfl))); (focus (simp (disch := (first | omega | (simp only [push_cast]; done) | (simp only [push_cast]; omega) | ((try simp only [push_cast]); (with_reducible first | apply sel_lt | apply sel_ge); (focus decide); (focus (simp only [push_cast]; omega))))) only [push_cast, ↓reduceIte, Nat.reduceEqDiff, Nat.reduceBEq, Nat.reduceAdd, Nat.reduceSub, Int.reduceToNat, *] <;> with_reducible exact rfl))) | ((with_reducible first | apply i_Gb | apply i_cond); (focus (simp (disch := (first | omega | (simp only [push_cast]; done) | (simp only [push_cast]; omega) | ((try simp only [push_cast]); (with_reducible first | apply sel_lt | apply sel_ge); (focus decide); (focus (simp only [push_cast]; omega))))) only [push_cast, ↓reduceIte, Nat.reduceEqDiff, Nat.reduceBEq, Nat.reduceAdd, Nat.reduceSub, Int.reduceToNat, *] <;> with_reducible exact rfl)); all_goals (intro hX; first | (cases hX; done) | ((with_reducible first | have hX0 : true = true := hX | have hX0 : false = false := hX); clear hX0 hX) | ((try simp only [decide_eq_true_eq, decide_eq_false_iff_not, Bool.not_eq_true', Bool.not_eq_false'] at hX); (try have hXb := inB_iff.1 hX)))))); all_goals try (exfalso; omega)
        all_goals ((with_reducible apply i_endN1 (x) (by first | exact .inl rfl | exact .inr rfl)); (focus (simp (disch := (first | omega | (simp only [push_cast]; done) | (simp only [push_cast]; omega) | ((try simp only [push_cast]); (with_reducible first | apply sel_lt | apply sel_ge); (focus decide); (focus (simp only [push_cast]; omega))))) only [push_cast, ↓reduceIte, Nat.reduceEqDiff, Nat.reduceBEq, Nat.reduceAdd, Nat.reduceSub, Int.reduceToNat, *] <;> with_reducible exact rfl)); (focus (simp (disch := (first | omega | (simp only [push_cast]; done) | (simp only [push_cast]; omega) | ((try simp only [push_cast]); (with_reducible first | apply sel_lt | apply sel_ge); (focus decide); (focus (simp only [push_cast]; omega))))) only [push_cast, ↓reduceIte, Nat.reduceEqDiff, Nat.reduceBEq, Nat.reduceAdd, Nat.reduceSub, Int.reduceToNat, *] <;> with_reducible exact rfl)))
    · have hap := fun n => φNat_ap (okSs_take hok (n + 1))
      replace hF := Lib.hid hF
      replace hap := Lib.hid hap
      (repeat' (first | (with_reducible first | apply i_seq | apply i_block | apply i_skip | apply i_exit | apply i_ret | apply i_kS | apply i_kSx | apply i_kSr | apply i_kL | apply i_kLx | apply i_kLr | apply i_kB | apply i_kBr | apply i_kBs | apply i_nil) | ((with_reducible apply i_region); (focus (simp only [List.map_cons, List.map_nil] <;> exact rfl))) | ((with_reducible apply i_draw); (focus (simp only [List.map_cons, List.map_nil] <;> exact rfl)); (focus (decide +kernel))) | ((with_reducible apply i_kBo); (focus rfl)) | ((first | ((with_reducible apply i_V); (focus rfl); (focus rfl); (focus rfl)) | ((with_reducible apply i_E); (focus rfl); (focus (first | rfl | (simp only [push_cast, ↓reduceIte, effOk, touch, refsOf, List.flatMap_cons, List.flatMap_nil])))) | ((with_reducible apply i_S); (focus rfl); (focus (first | rfl | (simp only [push_cast, ↓reduceIte, effOk, touch, refsOf, List.flatMap_cons, List.flatMap_nil])))) | ((with_reducible apply i_Vq); (focus rfl); (focus rfl)) | ((with_reducible apply i_Vp); (focus rfl); (focus rfl); (focus rfl))); (focus (simp (disch := (first | omega | (simp only [push_cast]; done) | (simp only [push_cast]; omega) | ((try simp only [push_cast]); (with_reducible first | apply sel_lt | apply sel_ge); (focus decide); (focus (simp only [push_cast]; omega))))) only [push_cast, ↓reduceIte, Nat.reduceEqDiff, Nat.reduceBEq, Nat.reduceAdd, Nat.reduceSub, Int.reduceToNat, *] <;> with_reducible exact rfl))) | ((with_reducible first | apply i_Gb | apply i_cond); (focus (simp (disch := (first | omega | (simp only [push_cast]; done) | (simp only [push_cast]; omega) | ((try simp only [push_cast]); (with_reducible first | apply sel_lt | apply sel_ge); (focus decide); (focus (simp only [push_cast]; omega))))) only [push_cast, ↓reduceIte, Nat.reduceEqDiff, Nat.reduceBEq, Nat.reduceAdd, Nat.reduceSub, Int.reduceToNat, *] <;> with_reducible exact rfl)); all_goals (intro hX; first | (cases hX; done) | ((with_reducible first | have hX0 : true = true := hX | have hX0 : false = false := hX); clear hX0 hX) | ((try simp only [decide_eq_true_eq, decide_eq_false_iff_not, Bool.not_eq_true', Bool.not_eq_false'] at hX); (try have hXb := inB_iff.1 hX)))))); all_goals try (exfalso; omega)
      refine i_loop (α := Nat) mixed (fun n => [(0, .lst false 1 (ws.map fun s => .val (.string s))), (1, iv wd), (6, nP 1 (acc.map fun s => .val (.string s)) x), (7, iv n)])
        (fun s => nO 9 1 (acc.map fun s => .val (.string s)) x) (fun s => y)
        (fun n => n ≤ ws.length ∧ ∀ m, m < n → fits ws wd m = true) (fun n => ws.length - n) (by kernel_rfl) 0 ⟨Nat.zero_le _, fun m hm => by omega⟩ ?_ agreeO_nO rfl ?_
      · simp (disch := (first | omega | (simp only [push_cast]; done) | (simp only [push_cast]; omega) | ((try simp only [push_cast]); (with_reducible first | apply sel_lt | apply sel_ge); (focus decide); (focus (simp only [push_cast]; omega))))) only [push_cast, ↓reduceIte, Nat.reduceEqDiff, Nat.reduceBEq, Nat.reduceAdd, Nat.reduceSub, Int.reduceToNat, List.length_append, *]
      rintro n ⟨hn, hfit⟩
      replace hfit := Lib.hid hfit
      by_cases hnl : n < ws.length
      · have ap2 := hap.out n
        cases hb : fits ws wd n with
        | true =>
          have hfit2 : ∀ m, m < n + 1 → fits ws wd m = true := fun m hm => by
            by_cases h : m < n
            · exact hfit.out m h
            · obtain rfl : m = n := by omega
              exact hb
          replace hfit2 := Lib.hid hfit2
          have hbb : (natN (ws.take (n + 1)) : Int) ≤ wd := by simpa [fits] using hb
          clear hfit hap
          (repeat' (first | (with_reducible first | apply i_seq | apply i_block | apply i_skip | apply i_exit | apply i_ret | apply i_kS | apply i_kSx | apply i_kSr | apply i_kL | apply i_kLx | apply i_kLr | apply i_kB | apply i_kBr | apply i_kBs | apply i_nil) | ((with_reducible apply i_region); (focus (simp only [List.map_cons, List.map_nil] <;> exact rfl))) | ((with_reducible apply i_draw); (focus (simp only [List.map_cons, List.map_nil] <;> exact rfl)); (focus (decide +kernel))) | ((with_reducible apply i_kBo); (focus rfl)) | ((first | ((with_reducible apply i_V); (focus rfl); (focus rfl); (focus rfl)) | ((with_reducible apply i_E); (focus rfl); (focus (first | rfl | (simp only [push_cast, ↓reduceIte, effOk, touch, refsOf, List.flatMap_cons, List.flatMap_nil])))) | ((with_reducible apply i_S); (focus rfl); (focus (first | rfl | (simp only [push_cast, ↓reduceIte, effOk, touch, refsOf, List.flatMap_cons, List.flatMap_nil])))) | ((with_reducible apply i_Vq); (focus rfl); (focus rfl)) | ((with_reducible apply i_Vp); (focus rfl); (focus rfl); (focus rfl))); (focus (simp (disch := (first | omega | (simp only [push_cast]; done) | (simp only [push_cast]; omega) | ((try simp only [push_cast]); (with_reducible first | apply sel_lt | apply sel_ge); (focus decide); (focus (simp only [push_cast]; omega))))) only [push_cast, ↓reduceIte, Nat.reduceEqDiff, Nat.reduceBEq, Nat.reduceAdd, Nat.reduceSub, Int.reduceToNat, *] <;> with_reducible exact rfl))) | ((with_reducible first | apply i_Gb | apply i_cond); (focus (simp (disch := (first | omega | (simp only [push_cast]; done) | (simp only [push_cast]; omega) | ((try simp only [push_cast]); (with_reducible first | apply sel_lt | apply sel_ge); (focus decide); (focus (simp only [push_cast]; omega))))) only [push_cast, ↓reduceIte, Nat.reduceEqDiff, Nat.reduceBEq, Nat.reduceAdd, Nat.reduceSub, Int.reduceToNat, *] <;> with_reducible exact rfl)); all_goals (intro hX; first | (cases hX; done) | ((with_reducible first | have hX0 : true = true := hX | have hX0 : false = false := hX); clear hX0 hX) | ((try simp only [decide_eq_true_eq, decide_eq_false_iff_not, Bool.not_eq_true', Bool.not_eq_false'] at hX); (try have hXb := inB_iff.1 hX)))))); all_goals try (exfalso; omega)
          refine ⟨n + 1, ⟨by omega, hfit2.out⟩, by dsimp only; omega, ?_, agreeO_nO, rfl⟩
          simp (disch := (first | omega | (simp only [push_cast]; done) | (simp only [push_cast]; omega) | ((try simp only [push_cast]); (with_reducible first | apply sel_lt | apply sel_ge); (focus decide); (focus (simp only [push_cast]; omega))))) only [push_cast, ↓reduceIte, Nat.reduceEqDiff, Nat.reduceBEq, Nat.reduceAdd, Nat.reduceSub, Int.reduceToNat, List.length_append, *]
        | false =>
          have hbb : ¬ (natN (ws.take (n + 1)) : Int) ≤ wd := by simpa [fits] using hb
          have hN := fitN_eq hn (fun m hm => hfit.out m hm) (fun _ => hb)
          clear hb
          by_cases hn0 : n = 0
          · have hq := hq.out
            rw [← hF.out, linesF_none hf (by omega) (hN.trans hn0)] at hq
            cases hq
            have hn1 : n < 1 := by omega
            clear hF hf hok hap hfit hn0 hN
            (repeat' (first | (with_reducible first | apply i_seq | apply i_block | apply i_skip | apply i_exit | apply i_ret | apply i_kS | apply i_kSx | apply i_kSr | apply i_kL | apply i_kLx | apply i_kLr | apply i_kB | apply i_kBr | apply i_kBs | apply i_nil) | ((with_reducible apply i_region); (focus (simp only [List.map_cons, List.map_nil] <;> exact rfl))) | ((with_reducible apply i_draw); (focus (simp only [List.map_cons, List.map_nil] <;> exact rfl)); (focus (decide +kernel))) | ((with_reducible apply i_kBo); (focus rfl)) | ((first | ((with_reducible apply i_V); (focus rfl); (focus rfl); (focus rfl)) | ((with_reducible apply i_E); (focus rfl); (focus (first | rfl | (simp only [push_cast, ↓reduceIte, effOk, touch, refsOf, List.flatMap_cons, List.flatMap_nil])))) | ((with_reducible apply i_S); (focus rfl); (focus (first | rfl | (simp only [push_cast, ↓reduceIte, effOk, touch, refsOf, List.flatMap_cons, List.flatMap_nil])))) | ((with_reducible apply i_Vq); (focus rfl); (focus rfl)) | ((with_reducible apply i_Vp); (focus rfl); (focus rfl); (focus rfl))); (focus (simp (disch := (first | omega | (simp only [push_cast]; done) | (simp only [push_cast]; omega) | ((try simp only [push_cast]); (with_reducible first | apply sel_lt | apply sel_ge); (focus decide); (focus (simp only [push_cast]; omega))))) only [push_cast, ↓reduceIte, Nat.reduceEqDiff, Nat.reduceBEq, Nat.reduceAdd, Nat.reduceSub, Int.reduceToNat, *] <;> with_reducible exact rfl))) | ((with_reducible first | apply i_Gb | apply i_cond); (focus (simp (disch := (first | omega | (simp only [push_cast]; done) | (simp only [push_cast]; omega) | ((try simp only [push_cast]); (with_reducible first | apply sel_lt | apply sel_ge); (focus decide); (focus (simp only [push_cast]; omega))))) only [push_cast, ↓reduceIte, Nat.reduceEqDiff, Nat.reduceBEq, Nat.reduceAdd, Nat.reduceSub, Int.reduceToNat, *] <;> with_reducible exact rfl)); all_goals (intro hX; first | (cases hX; done) | ((with_reducible first | have hX0 : true = true := hX | have hX0 : false = false := hX); clear hX0 hX) | ((try simp only [decide_eq_true_eq, decide_eq_false_iff_not, Bool.not_eq_true', Bool.not_eq_false'] at hX); (try have hXb := inB_iff.1 hX)))))); all_goals try (exfalso; omega)
            all_goals ((with_reducible apply i_endN0 (by first | exact .inl rfl | exact .inr rfl)); (focus (simp (disch := (first | omega | (simp only [push_cast]; done) | (simp only [push_cast]; omega) | ((try simp only [push_cast]); (with_reducible first | apply sel_lt | apply sel_ge); (focus decide); (focus (simp only [push_cast]; omega))))) only [push_cast, ↓reduceIte, Nat.reduceEqDiff, Nat.reduceBEq, Nat.reduceAdd, Nat.reduceSub, Int.reduceToNat, *] <;> with_reducible exact rfl)))
          · have apj := φJoin_sp (okSs_take hok n)
            have apk := φJust_ap (wd := wd) (okSs_take hok n)
            have hL := Lib.hid (show lineS ws wd n = justS (ws.take n) wd from if_pos hnl)
            have hdt : (ws.drop n).take (ws.length - n) = ws.drop n := List.take_of_length_le (by rw [List.length_drop]; omega)
            clear hap hfit
            have hlsz := Lib.hid (linesF_step (acc := acc) hf (by omega) hN (by omega))
            have hokd := Lib.hid (okSs_drop hok n)
            by_cases ha0 : acc.length = 0
            · obtain rfl : acc = [] := List.eq_nil_of_length_eq_zero ha0
              clear ha0
              (repeat' (first | (with_reducible first | apply i_seq | apply i_block | apply i_skip | apply i_exit | apply i_ret | apply i_kS | apply i_kSx | apply i_kSr | apply i_kL | apply i_kLx | apply i_kLr | apply i_kB | apply i_kBr | apply i_kBs | apply i_nil) | ((with_reducible apply i_region); (focus (simp only [List.map_cons, List.map_nil] <;> exact rfl))) | ((with_reducible apply i_draw); (focus (simp only [List.map_cons, List.map_nil] <;> exact rfl)); (focus (decide +kernel))) | ((with_reducible apply i_kBo); (focus rfl)) | ((first | ((with_reducible apply i_V); (focus rfl); (focus rfl); (focus rfl)) | ((with_reducible apply i_E); (focus rfl); (focus (first | rfl | (simp only [push_cast, ↓reduceIte, effOk, touch, refsOf, List.flatMap_cons, List.flatMap_nil])))) | ((with_reducible apply i_S); (focus rfl); (focus (first | rfl | (simp only [push_cast, ↓reduceIte, effOk, touch, refsOf, List.flatMap_cons, List.flatMap_nil])))) | ((with_reducible apply i_Vq); (focus rfl); (focus rfl)) | ((with_reducible apply i_Vp); (focus rfl); (focus rfl); (focus rfl))); (focus (simp (disch := (first | omega | (simp only [push_cast]; done) | (simp only [push_cast]; omega) | ((try simp only [push_cast]); (with_reducible first | apply sel_lt | apply sel_ge); (focus decide); (focus (simp only [push_cast]; omega))))) only [push_cast, ↓reduceIte, Nat.reduceEqDiff, Nat.reduceBEq, Nat.reduceAdd, Nat.reduceSub, Int.reduceToNat, *] <;> with_reducible exact rfl))) | ((with_reducible first | apply i_Gb | apply i_cond); (focus (simp (disch := (first | omega | (simp only [push_cast]; done) | (simp only [push_cast]; omega) | ((try simp only [push_cast]); (with_reducible first | apply sel_lt | apply sel_ge); (focus decide); (focus (simp only [push_cast]; omega))))) only [push_cast, ↓reduceIte, Nat.reduceEqDiff, Nat.reduceBEq, Nat.reduceAdd, Nat.reduceSub, Int.reduceToNat, *] <;> with_reducible exact rfl)); all_goals (intro hX; first | (cases hX; done) | ((with_reducible first | have hX0 : true = true := hX | have hX0 : false = false := hX); clear hX0 hX) | ((try simp only [decide_eq_true_eq, decide_eq_false_iff_not, Bool.not_eq_true', Bool.not_eq_false'] at hX); (try have hXb := inB_iff.1 hX)))))); all_goals try (exfalso; omega)
              obtain ⟨g, hg1, hg2⟩ := hlsz.out
              refine ⟨(ws.drop n, [] ++ [lineS ws wd n], y + 1, y + 2), ⟨⟨g, hg1, by rw [← hg2]; exact hF.out⟩, hokd.out, by simp; omega, fun _ => by dsimp only; omega⟩, by simp; omega, ?_, ?_, rfl⟩
              · simp (disch := (first | omega | (simp only [push_cast]; done) | (simp only [push_cast]; omega) | ((try simp only [push_cast]); (with_reducible first | apply sel_lt | apply sel_ge); (focus decide); (focus (simp only [push_cast]; omega))))) only [push_cast, ↓reduceIte, Nat.reduceEqDiff, Nat.reduceBEq, Nat.reduceAdd, Nat.reduceSub, Int.reduceToNat, hL.out, *]
              · simp (disch := (first | omega | (simp only [push_cast]; done) | (simp only [push_cast]; omega) | ((try simp only [push_cast]); (with_reducible first | apply sel_lt | apply sel_ge); (focus decide); (focus (simp only [push_cast]; omega))))) only [push_cast, ↓reduceIte, Nat.reduceEqDiff, Nat.reduceBEq, Nat.reduceAdd, Nat.reduceSub, Int.reduceToNat, hL.out, *]
            · have hlt := hxy.out (by omega)
              have hap1 : 0 < (acc.map fun s => PV.val (.string s)).length := by rw [List.length_map]; omega
              have hap2 : 0 < ((acc ++ [lineS ws wd n]).map fun s => PV.val (.string s)).length := by simp
              simp only [nP_pos hap1, nO_pos hap1, List.length_map]
              (repeat' (first | (with_reducible first | apply i_seq | apply i_block | apply i_skip | apply i_exit | apply i_ret | apply i_kS | apply i_kSx | apply i_kSr | apply i_kL | apply i_kLx | apply i_kLr | apply i_kB | apply i_kBr | apply i_kBs | apply i_nil) | ((with_reducible apply i_region); (focus (simp only [List.map_cons, List.map_nil] <;> exact rfl))) | ((with_reducible apply i_draw); (focus (simp only [List.map_cons, List.map_nil] <;> exact rfl)); (focus (decide +kernel))) | ((with_reducible apply i_kBo); (focus rfl)) | ((first | ((with_reducible apply i_V); (focus rfl); (focus rfl); (focus rfl)) | ((with_reducible apply i_E); (focus rfl); (focus (first | rfl | (simp only [push_cast, ↓reduceIte, effOk, touch, refsOf, List.flatMap_cons, List.flatMap_nil])))) | ((with_reducible apply i_S); (focus rfl); (focus (first | rfl | (simp only [push_cast, ↓reduceIte, effOk, touch, refsOf, List.flatMap_cons, List.flatMap_nil])))) | ((with_reducible apply i_Vq); (focus rfl); (focus rfl)) | ((with_reducible apply i_Vp); (focus rfl); (focus rfl); (focus rfl))); (focus (simp (disch := (first | omega | (simp only [push_cast]; done) | (simp only [push_cast]; omega) | ((try simp only [push_cast]); (with_reducible first | apply sel_lt | apply sel_ge); (focus decide); (focus (simp only [push_cast]; omega))))) only [push_cast, ↓reduceIte, Nat.reduceEqDiff, Nat.reduceBEq, Nat.reduceAdd, Nat.reduceSub, Int.reduceToNat, *] <;> with_reducible exact rfl))) | ((with_reducible first | apply i_Gb | apply i_cond); (focus (simp (disch := (first | omega | (simp only [push_cast]; done) | (simp only [push_cast]; omega) | ((try simp only [push_cast]); (with_reducible first | apply sel_lt | apply sel_ge); (focus decide); (focus (simp only [push_cast]; omega))))) only [push_cast, ↓reduceIte, Nat.reduceEqDiff, Nat.reduceBEq, Nat.reduceAdd, Nat.reduceSub, Int.reduceToNat, *] <;> with_reducible exact rfl)); all_goals (intro hX; first | (cases hX; done) | ((with_reducible first | have hX0 : true = true := hX | have hX0 : false = false := hX); clear hX0 hX) | ((try simp only [decide_eq_true_eq, decide_eq_false_iff_not, Bool.not_eq_true', Bool.not_eq_false'] at hX); (try have hXb := inB_iff.1 hX)))))); all_goals try (exfalso; omega)
              obtain ⟨g, hg1, hg2⟩ := hlsz.out
              refine ⟨(ws.drop n, acc ++ [lineS ws wd n], y + 1, y + 2), ⟨⟨g, hg1, by rw [← hg2]; exact hF.out⟩, hokd.out, by simp; omega, fun _ => by dsimp only; omega⟩, by simp; omega, ?_, ?_, rfl⟩
              · simp (disch := (first | omega | (simp only [push_cast]; done) | (simp only [push_cast]; omega) | ((try simp only [push_cast]); (with_reducible first | apply sel_lt | apply sel_ge); (focus decide); (focus (simp only [push_cast]; omega))))) only [push_cast, ↓reduceIte, Nat.reduceEqDiff, Nat.reduceBEq, Nat.reduceAdd, Nat.reduceSub, Int.reduceToNat, nP_pos hap2, hL.out, List.length_append, *]
              · simp (disch := (first | omega | (simp only [push_cast]; done) | (simp only [push_cast]; omega) | ((try simp only [push_cast]); (with_reducible first | apply sel_lt | apply sel_ge); (focus decide); (focus (simp only [push_cast]; omega))))) only [push_cast, ↓reduceIte, Nat.reduceEqDiff, Nat.reduceBEq, Nat.reduceAdd, Nat.reduceSub, Int.reduceToNat, nO_pos hap2, hL.out, *]
      · have hN := fitN_eq hn (fun m hm => hfit.out m hm) (fun h => absurd h hnl)
        by_cases hn0 : n = 0
        · exfalso
          omega
        · have apj := φJoin_sp (okSs_take hok n)
          have hL := Lib.hid (show lineS ws wd n = joinB (ws.take n) spB from if_neg hnl)
          have hdt : (ws.drop n).take (ws.length - n) = ws.drop n := List.take_of_length_le (by rw [List.length_drop]; omega)
          clear hap hfit
          have hlsz := Lib.hid (linesF_step (acc := acc) hf (by omega) hN (by omega))
          have hokd := Lib.hid (okSs_drop hok n)
          by_cases ha0 : acc.length = 0
          · obtain rfl : acc = [] := List.eq_nil_of_length_eq_zero ha0
            clear ha0
            (repeat' (first | (with_reducible first | apply i_seq | apply i_block | apply i_skip | apply i_exit | apply i_ret | apply i_kS | apply i_kSx | apply i_kSr | apply i_kL | apply i_kLx | apply i_kLr | apply i_kB | apply i_kBr | apply i_kBs | apply i_nil) | ((with_reducible apply i_region); (focus (simp only [List.map_cons, List.map_nil] <;> exact rfl))) | ((with_reducible apply i_draw); (focus (simp only [List.map_cons, List.map_nil] <;> exact rfl)); (focus (decide +kernel))) | ((with_reducible apply i_kBo); (focus rfl)) | ((first | ((with_reducible apply i_V); (focus rfl); (focus rfl); (focus rfl)) | ((with_reducible apply i_E); (focus rfl); (focus (first | rfl | (simp only [push_cast, ↓reduceIte, effOk, touch, refsOf, List.flatMap_cons, List.flatMap_nil])))) | ((with_reducible apply i_S); (focus rfl); (focus (first | rfl | (simp only [push_cast, ↓reduceIte, effOk, touch, refsOf, List.flatMap_cons, List.flatMap_nil])))) | ((with_reducible apply i_Vq); (focus rfl); (focus rfl)) | ((with_reducible apply i_Vp); (focus rfl); (focus rfl); (focus rfl))); (focus (simp (disch := (first | omega | (simp only [push_cast]; done) | (simp only [push_cast]; omega) | ((try simp only [push_cast]); (with_reducible first | apply sel_lt | apply sel_ge); (focus decide); (focus (simp only [push_cast]; omega))))) only [push_cast, ↓reduceIte, Nat.reduceEqDiff, Nat.reduceBEq, Nat.reduceAdd, Nat.reduceSub, Int.reduceToNat, *] <;> with_reducible exact rfl))) | ((with_reducible first | apply i_Gb | apply i_cond); (focus (simp (disch := (first | omega | (simp only [push_cast]; done) | (simp only [push_cast]; omega) | ((try simp only [push_cast]); (with_reducible first | apply sel_lt | apply sel_ge); (focus decide); (focus (simp only [push_cast]; omega))))) only [push_cast, ↓reduceIte, Nat.reduceEqDiff, Nat.reduceBEq, Nat.reduceAdd, Nat.reduceSub, Int.reduceToNat, *] <;> with_reducible exact rfl)); all_goals (intro hX; first | (cases hX; done) | ((with_reducible first | have hX0 : true = true := hX | have hX0 : false = false := hX); clear hX0 hX) | ((try simp only [decide_eq_true_eq, decide_eq_false_iff_not, Bool.not_eq_true', Bool.not_eq_false'] at hX); (try have hXb := inB_iff.1 hX)))))); all_goals try (exfalso; omega)
            obtain ⟨g, hg1, hg2⟩ := hlsz.out
            refine ⟨(ws.drop n, [] ++ [lineS ws wd n], y + 1, y + 2), ⟨⟨g, hg1, by rw [← hg2]; exact hF.out⟩, hokd.out, by simp; omega, fun _ => by dsimp only; omega⟩, by simp; omega, ?_, ?_, rfl⟩
            · simp (disch := (first | omega | (simp only [push_cast]; done) | (simp only [push_cast]; omega) | ((try simp only [push_cast]); (with_reducible first | apply sel_lt | apply sel_ge); (focus decide); (focus (simp only [push_cast]; omega))))) only [push_cast, ↓reduceIte, Nat.reduceEqDiff, Nat.reduceBEq, Nat.reduceAdd, Nat.reduceSub, Int.reduceToNat, hL.out, *]
            · simp (disch := (first | omega | (simp only [push_cast]; done) | (simp only [push_cast]; omega) | ((try simp only [push_cast]); (with_reducible first | apply sel_lt | apply sel_ge); (focus decide); (focus (simp only [push_cast]; omega))))) only [push_cast, ↓reduceIte, Nat.reduceEqDiff, Nat.reduceBEq, Nat.reduceAdd, Nat.reduceSub, Int.reduceToNat, hL.out, *]
          · have hlt := hxy.out (by omega)
            have hap1 : 0 < (acc.map fun s => PV.val (.string s)).length := by rw [List.length_map]; omega
            have hap2 : 0 < ((acc ++ [lineS ws wd n]).map fun s => PV.val (.string s)).length := by simp
            simp only [nP_pos hap1, nO_pos hap1, List.length_map]
            (repeat' (first | (with_reducible first | apply i_seq | apply i_block | apply i_skip | apply i_exit | apply i_ret | apply i_kS | apply i_kSx | apply i_kSr | apply i_kL | apply i_kLx | apply i_kLr | apply i_kB | apply i_kBr | apply i_kBs | apply i_nil) | ((with_reducible apply i_region); (focus (simp only [List.map_cons, List.map_nil] <;> exact rfl))) | ((with_reducible apply i_draw); (focus (simp only [List.map_cons, List.map_nil] <;> exact rfl)); (focus (decide +kernel))) | ((with_reducible apply i_kBo); (focus rfl)) | ((first | ((with_reducible apply i_V); (focus rfl); (focus rfl); (focus rfl)) | ((with_reducible apply i_E); (focus rfl); (focus (first | rfl | (simp only [push_cast, ↓reduceIte, effOk, touch, refsOf, List.flatMap_cons, List.flatMap_nil])))) | ((with_reducible apply i_S); (focus rfl); (focus (first | rfl | (simp only [push_cast, ↓reduceIte, effOk, touch, refsOf, List.flatMap_cons, List.flatMap_nil])))) | ((with_reducible apply i_Vq); (focus rfl); (focus rfl)) | ((with_reducible apply i_Vp); (focus rfl); (focus rfl); (focus rfl))); (focus (simp (disch := (first | omega | (simp only [push_cast]; done) | (simp only [push_cast]; omega) | ((try simp only [push_cast]); (with_reducible first | apply sel_lt | apply sel_ge); (focus decide); (focus (simp only [push_cast]; omega))))) only [push_cast, ↓reduceIte, Nat.reduceEqDiff, Nat.reduceBEq, Nat.reduceAdd, Nat.reduceSub, Int.reduceToNat, *] <;> with_reducible exact rfl))) | ((with_reducible first | apply i_Gb | apply i_cond); (focus (simp (disch := (first | omega | (simp only [push_cast]; done) | (simp only [push_cast]; omega) | ((try simp only [push_cast]); (with_reducible first | apply sel_lt | apply sel_ge); (focus decide); (focus (simp only [push_cast]; omega))))) only [push_cast, ↓reduceIte, Nat.reduceEqDiff, Nat.reduceBEq, Nat.reduceAdd, Nat.reduceSub, Int.reduceToNat, *] <;> with_reducible exact rfl)); all_goals (intro hX; first | (cases hX; done) | ((with_reducible first | have hX0 : true = true := hX | have hX0 : false = false := hX); clear hX0 hX) | ((try simp only [decide_eq_true_eq, decide_eq_false_iff_not, Bool.not_eq_true', Bool.not_eq_false'] at hX); (try have hXb := inB_iff.1 hX)))))); all_goals try (exfalso; omega)
            obtain ⟨g, hg1, hg2⟩ := hlsz.out
            refine ⟨(ws.drop n, acc ++ [lineS ws wd n], y + 1, y + 2), ⟨⟨g, hg1, by rw [← hg2]; exact hF.out⟩, hokd.out, by simp; omega, fun _ => by dsimp only; omega⟩, by simp; omega, ?_, ?_, rfl⟩
            · simp (disch := (first | omega | (simp only [push_cast]; done) | (simp only [push_cast]; omega) | ((try simp only [push_cast]); (with_reducible first | apply sel_lt | apply sel_ge); (focus decide); (focus (simp only [push_cast]; omega))))) only [push_cast, ↓reduceIte, Nat.reduceEqDiff, Nat.reduceBEq, Nat.reduceAdd, Nat.reduceSub, Int.reduceToNat, nP_pos hap2, hL.out, List.length_append, *]
            · simp (disch := (first | omega | (simp only [push_cast]; done) | (simp only [push_cast]; omega) | ((try simp only [push_cast]); (with_reducible first | apply sel_lt | apply sel_ge); (focus decide); (focus (simp only [push_cast]; omega))))) only [push_cast, ↓reduceIte, Nat.reduceEqDiff, Nat.reduceBEq, Nat.reduceAdd, Nat.reduceSub, Int.reduceToNat, nO_pos hap2, hL.out, *]
  · have hn : tlR l wd = none := if_neg hA
    rw [hn] at hq
    cases hq
    clear hn hpre
    have hd : allWords l = false ∨ (allWords l = true ∧ inB wd 1 60 = false) := by
      cases h1 : allWords l with
      | false => exact .inl rfl
      | true =>
        cases h2 : inB wd 1 60 with
        | false => exact .inr ⟨rfl, rfl⟩
        | true => exact absurd ⟨h1, h2⟩ hA
    clear hA
    rcases hd with hd | ⟨hd, hd2⟩
    · rw [hd] at ap1
      have gtl_c76 := GTL_76; have gtl_c77 := GTL_77; have gtl_c78 := GTL_78; have gtl_c79 := GTL_79; have gtl_c38 := GTL_38
      (repeat' (first | (with_reducible first | apply i_seq | apply i_block | apply i_skip | apply i_exit | apply i_ret | apply i_kS | apply i_kSx | apply i_kSr | apply i_kL | apply i_kLx | apply i_kLr | apply i_kB | apply i_kBr | apply i_kBs | apply i_nil) | ((with_reducible apply i_region); (focus (simp only [List.map_cons, List.map_nil] <;> exact rfl))) | ((with_reducible apply i_draw); (focus (simp only [List.map_cons, List.map_nil] <;> exact rfl)); (focus (decide +kernel))) | ((with_reducible apply i_kBo); (focus rfl)) | ((first | ((with_reducible apply i_V); (focus rfl); (focus rfl); (focus rfl)) | ((with_reducible apply i_E); (focus rfl); (focus (first | rfl | (simp only [push_cast, ↓reduceIte, effOk, touch, refsOf, List.flatMap_cons, List.flatMap_nil])))) | ((with_reducible apply i_S); (focus rfl); (focus (first | rfl | (simp only [push_cast, ↓reduceIte, effOk, touch, refsOf, List.flatMap_cons, List.flatMap_nil])))) | ((with_reducible apply i_Vq); (focus rfl); (focus rfl)) | ((with_reducible apply i_Vp); (focus rfl); (focus rfl); (focus rfl))); (focus (simp (disch := (first | omega | (simp only [push_cast]; done) | (simp only [push_cast]; omega) | ((try simp only [push_cast]); (with_reducible first | apply sel_lt | apply sel_ge); (focus decide); (focus (simp only [push_cast]; omega))))) only [push_cast, ↓reduceIte, Nat.reduceEqDiff, Nat.reduceBEq, Nat.reduceAdd, Nat.reduceSub, Int.reduceToNat, *] <;> with_reducible exact rfl))) | ((with_reducible first | apply i_Gb | apply i_cond); (focus (simp (disch := (first | omega | (simp only [push_cast]; done) | (simp only [push_cast]; omega) | ((try simp only [push_cast]); (with_reducible first | apply sel_lt | apply sel_ge); (focus decide); (focus (simp only [push_cast]; omega))))) only [push_cast, ↓reduceIte, Nat.reduceEqDiff, Nat.reduceBEq, Nat.reduceAdd, Nat.reduceSub, Int.reduceToNat, *] <;> with_reducible exact rfl)); all_goals (intro hX; first | (cases hX; done) | ((with_reducible first | have hX0 : true = true := hX | have hX0 : false = false := hX); clear hX0 hX) | ((try simp only [decide_eq_true_eq, decide_eq_false_iff_not, Bool.not_eq_true', Bool.not_eq_false'] at hX); (try have hXb := inB_iff.1 hX)))))); all_goals try (exfalso; omega)
      all_goals ((with_reducible apply i_endN0 (by first | exact .inl rfl | exact .inr rfl)); (focus (simp (disch := (first | omega | (simp only [push_cast]; done) | (simp only [push_cast]; omega) | ((try simp only [push_cast]); (with_reducible first | apply sel_lt | apply sel_ge); (focus decide); (focus (simp only [push_cast]; omega))))) only [push_cast, ↓reduceIte, Nat.reduceEqDiff, Nat.reduceBEq, Nat.reduceAdd, Nat.reduceSub, Int.reduceToNat, *] <;> with_reducible exact rfl)))
    · rw [hd] at ap1
      have gtl_c76 := GTL_76; have gtl_c77 := GTL_77; have gtl_c78 := GTL_78; have gtl_c79 := GTL_79; have gtl_c38 := GTL_38
      (repeat' (first | (with_reducible first | apply i_seq | apply i_block | apply i_skip | apply i_exit | apply i_ret | apply i_kS | apply i_kSx | apply i_kSr | apply i_kL | apply i_kLx | apply i_kLr | apply i_kB | apply i_kBr | apply i_kBs | apply i_nil) | ((with_reducible apply i_region); (focus (simp only [List.map_cons, List.map_nil] <;> exact rfl))) | ((with_reducible apply i_draw); (focus (simp only [List.map_cons, List.map_nil] <;> exact rfl)); (focus (decide +kernel))) | ((with_reducible apply i_kBo); (focus rfl)) | ((first | ((with_reducible apply i_V); (focus rfl); (focus rfl); (focus rfl)) | ((with_reducible apply i_E); (focus rfl); (focus (first | rfl | (simp only [push_cast, ↓reduceIte, effOk, touch, refsOf, List.flatMap_cons, List.flatMap_nil])))) | ((with_reducible apply i_S); (focus rfl); (focus (first | rfl | (simp only [push_cast, ↓reduceIte, effOk, touch, refsOf, List.flatMap_cons, List.flatMap_nil])))) | ((with_reducible apply i_Vq); (focus rfl); (focus rfl)) | ((with_reducible apply i_Vp); (focus rfl); (focus rfl); (focus rfl))); (focus (simp (disch := (first | omega | (simp only [push_cast]; done) | (simp only [push_cast]; omega) | ((try simp only [push_cast]); (with_reducible first | apply sel_lt | apply sel_ge); (focus decide); (focus (simp only [push_cast]; omega))))) only [push_cast, ↓reduceIte, Nat.reduceEqDiff, Nat.reduceBEq, Nat.reduceAdd, Nat.reduceSub, Int.reduceToNat, *] <;> with_reducible exact rfl))) | ((with_reducible first | apply i_Gb | apply i_cond); (focus (simp (disch := (first | omega | (simp only [push_cast]; done) | (simp only [push_cast]; omega) | ((try simp only [push_cast]); (with_reducible first | apply sel_lt | apply sel_ge); (focus decide); (focus (simp only [push_cast]; omega))))) only [push_cast, ↓reduceIte, Nat.reduceEqDiff, Nat.reduceBEq, Nat.reduceAdd, Nat.reduceSub, Int.reduceToNat, *] <;> with_reducible exact rfl)); all_goals (intro hX; first | (cases hX; done) | ((with_reducible first | have hX0 : true = true := hX | have hX0 : false = false := hX); clear hX0 hX) | ((try simp only [decide_eq_true_eq, decide_eq_false_iff_not, Bool.not_eq_true', Bool.not_eq_false'] at hX); (try have hXb := inB_iff.1 hX)))))); all_goals try (exfalso; omega)
      all_goals ((with_reducible apply i_endN0 (by first | exact .inl rfl | exact .inr rfl)); (focus (simp (disch := (first | omega | (simp only [push_cast]; done) | (simp only [push_cast]; omega) | ((try simp only [push_cast]); (with_reducible first | apply sel_lt | apply sel_ge); (focus decide); (focus (simp only [push_cast]; omega))))) only [push_cast, ↓reduceIte, Nat.reduceEqDiff, Nat.reduceBEq, Nat.reduceAdd, Nat.reduceSub, Int.reduceToNat, *] <;> with_reducible exact rfl)))
end Go.Proofs.YtenldjifipnjpaaDoor
namespace Go.Proofs.YtenldjifipnjpaaDoor
open Go.RowKit
set_option linter.all false
theorem allWords_sub {l l' : LS} (h : allWords l = true) (hs : ∀ x ∈ l', x ∈ l) (hl : l'.length ≤ l.length) : allWords l' = true := by
  unfold allWords at h ⊢
  simp only [Bool.and_eq_true, decide_eq_true_eq, List.all_eq_true] at h ⊢
  exact ⟨by omega, fun x hx => h.2 x (hs x hx)⟩
theorem gapsB_fits {l : LS} {wd : Int} {a n : Nat} (hw : allWords l = true) (hwd : inB wd 1 60 = true) (h : a + n < l.length) : gapsB ((l.drop a).take (n + 1)) wd = fits (l.drop a) wd n := by
  have h1 : allWords ((l.drop a).take (n + 1)) = true := allWords_sub hw (fun x hx => List.mem_of_mem_drop (List.mem_of_mem_take hx)) (by simp only [List.length_take, List.length_drop]; omega)
  have h2 : ¬ ((l.drop a).take (n + 1)).length = 0 := by simp only [List.length_take, List.length_drop]; omega
  unfold gapsB fits
  rw [h1, hwd, decide_eq_false h2]
  simp
theorem join_snoc {l : LS} (h : 0 < l.length) (z : ByteArray) : joinB (l ++ [z]) spB = (joinB l spB ++ ⟨#[32]⟩) ++ z := by
  cases l with
  | nil => simp at h
  | cons x r =>
    refine ba_ext ?_
    rw [ba_app, ba_app]
    show Lib.join ((x :: (r ++ [z])).map (·.data.toList)) [32] = Lib.join ((x :: r).map (·.data.toList)) [32] ++ [32] ++ z.data.toList
    rw [List.map_cons, List.map_cons, Lib.join_cons, Lib.join_cons]
    simp [Lib.joinTail]
theorem join_take1 {l : LS} (h : 0 < l.length) : joinB (l.take 1) spB = l[0]?.getD .empty := by
  cases l with
  | nil => simp at h
  | cons x r =>
    refine ba_ext ?_
    show Lib.join [x.data.toList] [32] = x.data.toList
    rw [Lib.join_one]
theorem join_take_succ {l : LS} {k : Nat} (h0 : 0 < k) (h : k < l.length) : joinB (l.take (k + 1)) spB = (joinB (l.take k) spB ++ ⟨#[32]⟩) ++ (l[k]?.getD .empty) := by
  rw [← List.take_append_getElem h, join_snoc (by simp only [List.length_take]; omega), List.getElem?_eq_getElem h]
  rfl
noncomputable def φTL : Fun := F2 dSs dI fun l wd => if okSs l then some (.tup [.lst true 1 (((tlR l wd).getD []).map fun s => .val (.string s)), .val (.bool (tlR l wd).isSome)]) else none
theorem φTL_ap {l : LS} {wd : Int} (h : okSs l) : φTL [.lst false 1 (l.map fun s => .val (.string s)), .val (.int .i64 wd)] = some (.tup [.lst true 1 (((tlR l wd).getD []).map fun s => .val (.string s)), .val (.bool (tlR l wd).isSome)]) :=
  (F2_ap (A := dSs) (B := dI) l wd).trans (if_pos h)
noncomputable def GSTL : Ctx := ⟨fun f => if f = 80 then some φWords else if f = 58 then some φIn else if f = 74 then some φGaps else if f = 39 then some φJust else none, fun f => none⟩
theorem GSTL_ok : SoundΓ Tryd.prog GSTL := ⟨(fun f φ h => by
  unfold GSTL at h
  dsimp only at h
  split at h
  · rename_i hf; cases h; subst hf; exact ⟨⟨_, Tryd.func80, rfl, rfl⟩, specWordsValid_ok⟩
  split at h
  · rename_i hf; cases h; subst hf; exact ⟨⟨_, Tryd.func58, rfl, rfl⟩, l1In_ok⟩
  split at h
  · rename_i hf; cases h; subst hf; exact ⟨⟨_, Tryd.func74, rfl, rfl⟩, specTextGaps_ok⟩
  split at h
  · rename_i hf; cases h; subst hf; exact ⟨⟨_, Tryd.func39, rfl, rfl⟩, specJust_ok⟩
  cases h), (fun f φ h => by
  unfold GSTL at h
  dsimp only at h
  cases h)⟩
theorem GSTL_80 (ob : Objs) (ps : List PV) : evCall GSTL ob 80 ps = (ps.mapM (reify false 0 ob fuel)).bind φWords := by
  have h : GSTL.fn 80 = some φWords := by simp [GSTL]
  unfold evCall
  rw [h]
  cases ps.mapM (reify false 0 ob fuel) <;> rfl
theorem GSTL_58 (ob : Objs) (ps : List PV) : evCall GSTL ob 58 ps = (ps.mapM (reify false 0 ob fuel)).bind φIn := by
  have h : GSTL.fn 58 = some φIn := by simp [GSTL]
  unfold evCall
  rw [h]
  cases ps.mapM (reify false 0 ob fuel) <;> rfl
theorem GSTL_74 (ob : Objs) (ps : List PV) : evCall GSTL ob 74 ps = (ps.mapM (reify false 0 ob fuel)).bind φGaps := by
  have h : GSTL.fn 74 = some φGaps := by simp [GSTL]
  unfold evCall
  rw [h]
  cases ps.mapM (reify false 0 ob fuel) <;> rfl
theorem GSTL_39 (ob : Objs) (ps : List PV) : evCall GSTL ob 39 ps = (ps.mapM (reify false 0 ob fuel)).bind φJust := by
  have h : GSTL.fn 39 = some φJust := by simp [GSTL]
  unfold evCall
  rw [h]
  cases ps.mapM (reify false 0 ob fuel) <;> rfl
set_option maxHeartbeats 16000000 in
theorem specTL_ok : Sound Tryd.prog 42 φTL := by
  refine sound_pq mixed GSTL_ok Tryd.func42 rfl 96 rfl [.tmp 4, .tmp 5] rfl (by kernel_rfl) fun ps r hr => ?_
  obtain ⟨l, wd, rfl, hq⟩ := F2_some hr
  clear hr
  split at hq
  case isFalse => cases hq
  case isTrue hpre =>
  simp only [Option.some.injEq] at hq
  refine ⟨by simp, ?_⟩
  simp only [dIs, dUs, dSs, dI_e, dU_e, dB_e, dS_e, dFn_e, dL_e, dA2_e, dA3_e, dA4_e, dA5_e]
  have ap1 := φWords_ap hpre
  have ap3 := φIn_ap
  have hlen := hpre.1
  by_cases hA : allWords l = true ∧ inB wd 1 60 = true
  · obtain ⟨hw, hwd⟩ := hA
    have hwb := inB_iff.1 hwd
    have h12 := allWords_len hw
    have hR : tlR l wd = linesF wd l.length l [] := if_pos ⟨hw, hwd⟩
    rw [hw] at ap1
    have hgf := fun a n (h : a + n < l.length) => gapsB_fits (a := a) (n := n) hw hwd h
    have hwz := hpre.2
    replace hwz := Lib.hid hwz
    replace hgf := Lib.hid hgf
    replace hR := Lib.hid hR
    replace hq := Lib.hid hq
    have gstl_c80 := GSTL_80; have gstl_c58 := GSTL_58; have gstl_c74 := GSTL_74; have gstl_c39 := GSTL_39
    (repeat' (first | (with_reducible first | apply i_seq | apply i_block | apply i_skip | apply i_exit | apply i_ret | apply i_kS | apply i_kSx | apply i_kSr | apply i_kL | apply i_kLx | apply i_kLr | apply i_kB | apply i_kBr | apply i_kBs | apply i_nil) | ((with_reducible apply i_region); (focus (simp only [List.map_cons, List.map_nil] <;> exact rfl))) | ((with_reducible apply i_draw); (focus (simp only [List.map_cons, List.map_nil] <;> exact rfl)); (focus (decide +kernel))) | ((with_reducible apply i_kBo); (focus rfl)) | ((first | ((with_reducible apply i_V); (focus rfl); (focus rfl); (focus rfl)) | ((with_reducible apply i_E); (focus rfl); (focus (first | rfl | (simp only [push_cast, ↓reduceIte, effOk, touch, refsOf, List.flatMap_cons, List.flatMap_nil])))) | ((with_reducible apply i_S); (focus rfl); (focus (first | rfl | (simp only [push_cast, ↓reduceIte, effOk, touch, refsOf, List.flatMap_cons, List.flatMap_nil])))) | ((with_reducible apply i_Vq); (focus rfl); (focus rfl)) | ((with_reducible apply i_Vp); (focus rfl); (focus rfl); (focus rfl))); (focus (simp (disch := (first | omega | (simp only [push_cast]; done) | (simp only [push_cast]; omega) | ((try simp only [push_cast]); (with_reducible first | apply sel_lt | apply sel_ge); (focus decide); (focus (simp only [push_cast]; omega))))) only [push_cast, ↓reduceIte, Nat.reduceEqDiff, Nat.reduceBEq, Nat.reduceAdd, Nat.reduceSub, Int.reduceToNat, *] <;> with_reducible exact rfl))) | ((with_reducible first | apply i_Gb | apply i_cond); (focus (simp (disch := (first | omega | (simp only [push_cast]; done) | (simp only [push_cast]; omega) | ((try simp only [push_cast]); (with_reducible first | apply sel_lt | apply sel_ge); (focus decide); (focus (simp only [push_cast]; omega))))) only [push_cast, ↓reduceIte, Nat.reduceEqDiff, Nat.reduceBEq, Nat.reduceAdd, Nat.reduceSub, Int.reduceToNat, *] <;> with_reducible exact rfl)); all_goals (intro hX; first | (cases hX; done) | ((with_reducible first | have hX0 : true = true := hX | have hX0 : false = false := hX); clear hX0 hX) | ((try simp only [decide_eq_true_eq, decide_eq_false_iff_not, Bool.not_eq_true', Bool.not_eq_false'] at hX); (try have hXb := inB_iff.1 hX)))))); all_goals try (exfalso; omega)
    refine i_loop (α := Nat × LS × Nat × Nat) mixed (fun s => [(0, .lst false 1 (l.map fun s => .val (.string s))), (1, iv wd), (6, .row s.2.2.1 1 0 s.2.1.length), (7, iv s.1)])
      (fun s => [(s.2.2.1, 9, 1, s.2.1.map fun s => .val (.string s))]) (fun s => s.2.2.2)
      (fun s => s.1 ≤ l.length ∧ (∃ f, (l.drop s.1).length ≤ f ∧ linesF wd f (l.drop s.1) s.2.1 = tlR l wd) ∧ s.1 + s.2.1.length ≤ 2 * s.1 ∧ s.2.2.1 < s.2.2.2) (fun s => l.length - s.1) (by kernel_rfl) (0, [], 0, 1) ⟨Nat.zero_le _, ⟨l.length, by rw [List.drop_zero]; exact Nat.le_refl _, by rw [List.drop_zero]; exact hR.out.symm⟩, by simp, by simp⟩ ?_ ?_ rfl ?_
    · simp (disch := (first | omega | (simp only [push_cast]; done) | (simp only [push_cast]; omega) | ((try simp only [push_cast]); (with_reducible first | apply sel_lt | apply sel_ge); (focus decide); (focus (simp only [push_cast]; omega))))) only [push_cast, ↓reduceIte, Nat.reduceEqDiff, Nat.reduceBEq, Nat.reduceAdd, Nat.reduceSub, Int.reduceToNat, List.length_append, *]
    · simp (disch := (first | omega | (simp only [push_cast]; done) | (simp only [push_cast]; omega) | ((try simp only [push_cast]); (with_reducible first | apply sel_lt | apply sel_ge); (focus decide); (focus (simp only [push_cast]; omega))))) only [push_cast, ↓reduceIte, Nat.reduceEqDiff, Nat.reduceBEq, Nat.reduceAdd, Nat.reduceSub, Int.reduceToNat, List.length_append, *]
    clear ap1 ap3 hR hw hwd
    rintro ⟨a, acc, x, y⟩ ⟨ha, ⟨f, hf, hF⟩, hacc, hxy⟩
    dsimp only at ha hf hF hacc hxy
    have hok := okSs_drop hpre a
    by_cases hal : a < l.length
    · have hal0 : 0 < (l.drop a).length := by rw [List.length_drop]; omega
      have hdl : (l.drop a).length = l.length - a := List.length_drop
      have hap := fun n => φGaps_ap (wd := wd) (okSs_take hok (n + 1))
      have hget : ∀ k : Nat, l[a + k]?.getD .empty = (l.drop a)[k]?.getD .empty := fun k => by rw [List.getElem?_drop]
      replace hF := Lib.hid hF
      replace hap := Lib.hid hap
      replace hget := Lib.hid hget
      replace hdl := Lib.hid hdl
      clear hpre
      (repeat' (first | (with_reducible first | apply i_seq | apply i_block | apply i_skip | apply i_exit | apply i_ret | apply i_kS | apply i_kSx | apply i_kSr | apply i_kL | apply i_kLx | apply i_kLr | apply i_kB | apply i_kBr | apply i_kBs | apply i_nil) | ((with_reducible apply i_region); (focus (simp only [List.map_cons, List.map_nil] <;> exact rfl))) | ((with_reducible apply i_draw); (focus (simp only [List.map_cons, List.map_nil] <;> exact rfl)); (focus (decide +kernel))) | ((with_reducible apply i_kBo); (focus rfl)) | ((first | ((with_reducible apply i_V); (focus rfl); (focus rfl); (focus rfl)) | ((with_reducible apply i_E); (focus rfl); (focus (first | rfl | (simp only [push_cast, ↓reduceIte, effOk, touch, refsOf, List.flatMap_cons, List.flatMap_nil])))) | ((with_reducible apply i_S); (focus rfl); (focus (first | rfl | (simp only [push_cast, ↓reduceIte, effOk, touch, refsOf, List.flatMap_cons, List.flatMap_nil])))) | ((with_reducible apply i_Vq); (focus rfl); (focus rfl)) | ((with_reducible apply i_Vp); (focus rfl); (focus rfl); (focus rfl))); (focus (simp (disch := (first | omega | (simp only [push_cast]; done) | (simp only [push_cast]; omega) | ((try simp only [push_cast]); (with_reducible first | apply sel_lt | apply sel_ge); (focus decide); (focus (simp only [push_cast]; omega))))) only [push_cast, ↓reduceIte, Nat.reduceEqDiff, Nat.reduceBEq, Nat.reduceAdd, Nat.reduceSub, Int.reduceToNat, *] <;> with_reducible exact rfl))) | ((with_reducible first | apply i_Gb | apply i_cond); (focus (simp (disch := (first | omega | (simp only [push_cast]; done) | (simp only [push_cast]; omega) | ((try simp only [push_cast]); (with_reducible first | apply sel_lt | apply sel_ge); (focus decide); (focus (simp only [push_cast]; omega))))) only [push_cast, ↓reduceIte, Nat.reduceEqDiff, Nat.reduceBEq, Nat.reduceAdd, Nat.reduceSub, Int.reduceToNat, *] <;> with_reducible exact rfl)); all_goals (intro hX; first | (cases hX; done) | ((with_reducible first | have hX0 : true = true := hX | have hX0 : false = false := hX); clear hX0 hX) | ((try simp only [decide_eq_true_eq, decide_eq_false_iff_not, Bool.not_eq_true', Bool.not_eq_false'] at hX); (try have hXb := inB_iff.1 hX)))))); all_goals try (exfalso; omega)
      refine i_loop (α := Nat) mixed (fun n => [(0, .lst false 1 (l.map fun s => .val (.string s))), (1, iv wd), (6, .row x 1 0 acc.length), (7, iv a), (8, iv n)])
        (fun s => [(x, 9, 1, acc.map fun s => .val (.string s))]) (fun s => y)
        (fun n => a + n ≤ l.length ∧ ∀ m, m < n → fits (l.drop a) wd m = true) (fun n => l.length - n) (by kernel_rfl) 0 ⟨by omega, fun m hm => by omega⟩ ?_ ?_ rfl ?_
      · simp (disch := (first | omega | (simp only [push_cast]; done) | (simp only [push_cast]; omega) | ((try simp only [push_cast]); (with_reducible first | apply sel_lt | apply sel_ge); (focus decide); (focus (simp only [push_cast]; omega))))) only [push_cast, ↓reduceIte, Nat.reduceEqDiff, Nat.reduceBEq, Nat.reduceAdd, Nat.reduceSub, Int.reduceToNat, List.length_append, *]
      · simp (disch := (first | omega | (simp only [push_cast]; done) | (simp only [push_cast]; omega) | ((try simp only [push_cast]); (with_reducible first | apply sel_lt | apply sel_ge); (focus decide); (focus (simp only [push_cast]; omega))))) only [push_cast, ↓reduceIte, Nat.reduceEqDiff, Nat.reduceBEq, Nat.reduceAdd, Nat.reduceSub, Int.reduceToNat, List.length_append, *]
      rintro n ⟨hn, hfit⟩
      replace hfit := Lib.hid hfit
      have hs1 : a + n + 1 - a = n + 1 := by omega
      have hs2 : a + n - a = n := by omega
      have ht1 : ((a : Int) + n + 1).toNat = a + n + 1 := by omega
      have ht2 : ((a : Int) + n).toNat = a + n := by omega
      by_cases hnl : a + n < l.length
      · have ap2 := hap.out n
        rw [hgf.out a n hnl] at ap2
        cases hb : fits (l.drop a) wd n with
        | true =>
          have hfit2 : ∀ m, m < n + 1 → fits (l.drop a) wd m = true := fun m hm => by
            by_cases h : m < n
            · exact hfit.out m h
            · obtain rfl : m = n := by omega
              exact hb
          replace hfit2 := Lib.hid hfit2
          rw [hb] at ap2
          clear hfit hap
          (repeat' (first | (with_reducible first | apply i_seq | apply i_block | apply i_skip | apply i_exit | apply i_ret | apply i_kS | apply i_kSx | apply i_kSr | apply i_kL | apply i_kLx | apply i_kLr | apply i_kB | apply i_kBr | apply i_kBs | apply i_nil) | ((with_reducible apply i_region); (focus (simp only [List.map_cons, List.map_nil] <;> exact rfl))) | ((with_reducible apply i_draw); (focus (simp only [List.map_cons, List.map_nil] <;> exact rfl)); (focus (decide +kernel))) | ((with_reducible apply i_kBo); (focus rfl)) | ((first | ((with_reducible apply i_V); (focus rfl); (focus rfl); (focus rfl)) | ((with_reducible apply i_E); (focus rfl); (focus (first | rfl | (simp only [push_cast, ↓reduceIte, effOk, touch, refsOf, List.flatMap_cons, List.flatMap_nil])))) | ((with_reducible apply i_S); (focus rfl); (focus (first | rfl | (simp only [push_cast, ↓reduceIte, effOk, touch, refsOf, List.flatMap_cons, List.flatMap_nil])))) | ((with_reducible apply i_Vq); (focus rfl); (focus rfl)) | ((with_reducible apply i_Vp); (focus rfl); (focus rfl); (focus rfl))); (focus (simp (disch := (first | omega | (simp only [push_cast]; done) | (simp only [push_cast]; omega) | ((try simp only [push_cast]); (with_reducible first | apply sel_lt | apply sel_ge); (focus decide); (focus (simp only [push_cast]; omega))))) only [push_cast, ↓reduceIte, Nat.reduceEqDiff, Nat.reduceBEq, Nat.reduceAdd, Nat.reduceSub, Int.reduceToNat, *] <;> with_reducible exact rfl))) | ((with_reducible first | apply i_Gb | apply i_cond); (focus (simp (disch := (first | omega | (simp only [push_cast]; done) | (simp only [push_cast]; omega) | ((try simp only [push_cast]); (with_reducible first | apply sel_lt | apply sel_ge); (focus decide); (focus (simp only [push_cast]; omega))))) only [push_cast, ↓reduceIte, Nat.reduceEqDiff, Nat.reduceBEq, Nat.reduceAdd, Nat.reduceSub, Int.reduceToNat, *] <;> with_reducible exact rfl)); all_goals (intro hX; first | (cases hX; done) | ((with_reducible first | have hX0 : true = true := hX | have hX0 : false = false := hX); clear hX0 hX) | ((try simp only [decide_eq_true_eq, decide_eq_false_iff_not, Bool.not_eq_true', Bool.not_eq_false'] at hX); (try have hXb := inB_iff.1 hX)))))); all_goals try (exfalso; omega)
          refine ⟨n + 1, ⟨by omega, hfit2.out⟩, by dsimp only; omega, ?_, ?_, rfl⟩
          · simp (disch := (first | omega | (simp only [push_cast]; done) | (simp only [push_cast]; omega) | ((try simp only [push_cast]); (with_reducible first | apply sel_lt | apply sel_ge); (focus decide); (focus (simp only [push_cast]; omega))))) only [push_cast, ↓reduceIte, Nat.reduceEqDiff, Nat.reduceBEq, Nat.reduceAdd, Nat.reduceSub, Int.reduceToNat, List.length_append, *]
          · simp (disch := (first | omega | (simp only [push_cast]; done) | (simp only [push_cast]; omega) | ((try simp only [push_cast]); (with_reducible first | apply sel_lt | apply sel_ge); (focus decide); (focus (simp only [push_cast]; omega))))) only [push_cast, ↓reduceIte, Nat.reduceEqDiff, Nat.reduceBEq, Nat.reduceAdd, Nat.reduceSub, Int.reduceToNat, List.length_append, *]
        | false =>
          have hN := fitN_eq (l := l.drop a) (by have := hdl.out; omega) (fun m hm => hfit.out m hm) (fun _ => hb)
          rw [hb] at ap2
          clear hb
          by_cases hn0 : n = 0
          · have hq := hq.out
            rw [← hF.out, linesF_none (acc := acc) hf hal0 (hN.trans hn0)] at hq
            subst hq
            have hn1 : n < 1 := by omega
            clear hF hf hok hap hfit hn0 hN
            (repeat' (first | (with_reducible first | apply i_seq | apply i_block | apply i_skip | apply i_exit | apply i_ret | apply i_kS | apply i_kSx | apply i_kSr | apply i_kL | apply i_kLx | apply i_kLr | apply i_kB | apply i_kBr | apply i_kBs | apply i_nil) | ((with_reducible apply i_region); (focus (simp only [List.map_cons, List.map_nil] <;> exact rfl))) | ((with_reducible apply i_draw); (focus (simp only [List.map_cons, List.map_nil] <;> exact rfl)); (focus (decide +kernel))) | ((with_reducible apply i_kBo); (focus rfl)) | ((first | ((with_reducible apply i_V); (focus rfl); (focus rfl); (focus rfl)) | ((with_reducible apply i_E); (focus rfl); (focus (first | rfl | (simp only [push_cast, ↓reduceIte, effOk, touch, refsOf, List.flatMap_cons, List.flatMap_nil])))) | ((with_reducible apply i_S); (focus rfl); (focus (first | rfl | (simp only [push_cast, ↓reduceIte, effOk, touch, refsOf, List.flatMap_cons, List.flatMap_nil])))) | ((with_reducible apply i_Vq); (focus rfl); (focus rfl)) | ((with_reducible apply i_Vp); (focus rfl); (focus rfl); (focus rfl))); (focus (simp (disch := (first | omega | (simp only [push_cast]; done) | (simp only [push_cast]; omega) | ((try simp only [push_cast]); (with_reducible first | apply sel_lt | apply sel_ge); (focus decide); (focus (simp only [push_cast]; omega))))) only [push_cast, ↓reduceIte, Nat.reduceEqDiff, Nat.reduceBEq, Nat.reduceAdd, Nat.reduceSub, Int.reduceToNat, *] <;> with_reducible exact rfl))) | ((with_reducible first | apply i_Gb | apply i_cond); (focus (simp (disch := (first | omega | (simp only [push_cast]; done) | (simp only [push_cast]; omega) | ((try simp only [push_cast]); (with_reducible first | apply sel_lt | apply sel_ge); (focus decide); (focus (simp only [push_cast]; omega))))) only [push_cast, ↓reduceIte, Nat.reduceEqDiff, Nat.reduceBEq, Nat.reduceAdd, Nat.reduceSub, Int.reduceToNat, *] <;> with_reducible exact rfl)); all_goals (intro hX; first | (cases hX; done) | ((with_reducible first | have hX0 : true = true := hX | have hX0 : false = false := hX); clear hX0 hX) | ((try simp only [decide_eq_true_eq, decide_eq_false_iff_not, Bool.not_eq_true', Bool.not_eq_false'] at hX); (try have hXb := inB_iff.1 hX)))))); all_goals try (exfalso; omega)
            all_goals (first | (exfalso; omega) | ((first | apply i_end | apply i_endN); simp (disch := (first | omega | (simp only [push_cast]; done) | (simp only [push_cast]; omega) | ((try simp only [push_cast]); (with_reducible first | apply sel_lt | apply sel_ge); (focus decide); (focus (simp only [push_cast]; omega))))) only [push_cast, ↓reduceIte, Nat.reduceEqDiff, Nat.reduceBEq, Nat.reduceAdd, Nat.reduceSub, Int.reduceToNat, *]) | skip)
            all_goals rfl
          · have hst := Lib.hid (linesF_step (acc := acc) hf hal0 hN (by omega))
            have hdd : (l.drop a).drop n = l.drop (a + n) := by rw [List.drop_drop]
            replace hdd := Lib.hid hdd
            have apk := φJust_ap (wd := wd) (okSs_take hok n)
            have hL := Lib.hid (show lineS (l.drop a) wd n = justS ((l.drop a).take n) wd from if_pos (by have := hdl.out; omega))
            have hne : ¬ (a : Int) + n = l.length := by omega
            have hnp : 0 < n := by omega
            clear hap hfit hn0 hN
            (repeat' (first | (with_reducible first | apply i_seq | apply i_block | apply i_skip | apply i_exit | apply i_ret | apply i_kS | apply i_kSx | apply i_kSr | apply i_kL | apply i_kLx | apply i_kLr | apply i_kB | apply i_kBr | apply i_kBs | apply i_nil) | ((with_reducible apply i_region); (focus (simp only [List.map_cons, List.map_nil] <;> exact rfl))) | ((with_reducible apply i_draw); (focus (simp only [List.map_cons, List.map_nil] <;> exact rfl)); (focus (decide +kernel))) | ((with_reducible apply i_kBo); (focus rfl)) | ((first | ((with_reducible apply i_V); (focus rfl); (focus rfl); (focus rfl)) | ((with_reducible apply i_E); (focus rfl); (focus (first | rfl | (simp only [push_cast, ↓reduceIte, effOk, touch, refsOf, List.flatMap_cons, List.flatMap_nil])))) | ((with_reducible apply i_S); (focus rfl); (focus (first | rfl | (simp only [push_cast, ↓reduceIte, effOk, touch, refsOf, List.flatMap_cons, List.flatMap_nil])))) | ((with_reducible apply i_Vq); (focus rfl); (focus rfl)) | ((with_reducible apply i_Vp); (focus rfl); (focus rfl); (focus rfl))); (focus (simp (disch := (first | omega | (simp only [push_cast]; done) | (simp only [push_cast]; omega) | ((try simp only [push_cast]); (with_reducible first | apply sel_lt | apply sel_ge); (focus decide); (focus (simp only [push_cast]; omega))))) only [push_cast, ↓reduceIte, Nat.reduceEqDiff, Nat.reduceBEq, Nat.reduceAdd, Nat.reduceSub, Int.reduceToNat, *] <;> with_reducible exact rfl))) | ((with_reducible first | apply i_Gb | apply i_cond); (focus (simp (disch := (first | omega | (simp only [push_cast]; done) | (simp only [push_cast]; omega) | ((try simp only [push_cast]); (with_reducible first | apply sel_lt | apply sel_ge); (focus decide); (focus (simp only [push_cast]; omega))))) only [push_cast, ↓reduceIte, Nat.reduceEqDiff, Nat.reduceBEq, Nat.reduceAdd, Nat.reduceSub, Int.reduceToNat, *] <;> with_reducible exact rfl)); all_goals (intro hX; first | (cases hX; done) | ((with_reducible first | have hX0 : true = true := hX | have hX0 : false = false := hX); clear hX0 hX) | ((try simp only [decide_eq_true_eq, decide_eq_false_iff_not, Bool.not_eq_true', Bool.not_eq_false'] at hX); (try have hXb := inB_iff.1 hX)))))); all_goals try (exfalso; omega)
            obtain ⟨g, hg1, hg2⟩ := hst.out
            rw [hdd.out] at hg1 hg2
            refine ⟨(a + n, acc ++ [lineS (l.drop a) wd n], y + 1, y + 2), ⟨by dsimp only; omega, ⟨g, hg1, by rw [← hg2]; exact hF.out⟩, by simp; omega, by dsimp only; omega⟩, by dsimp only; omega, ?_, ?_, rfl⟩
            · simp (disch := (first | omega | (simp only [push_cast]; done) | (simp only [push_cast]; omega) | ((try simp only [push_cast]); (with_reducible first | apply sel_lt | apply sel_ge); (focus decide); (focus (simp only [push_cast]; omega))))) only [push_cast, ↓reduceIte, Nat.reduceEqDiff, Nat.reduceBEq, Nat.reduceAdd, Nat.reduceSub, Int.reduceToNat, hL.out, List.length_append, *]
            · simp (disch := (first | omega | (simp only [push_cast]; done) | (simp only [push_cast]; omega) | ((try simp only [push_cast]); (with_reducible first | apply sel_lt | apply sel_ge); (focus decide); (focus (simp only [push_cast]; omega))))) only [push_cast, ↓reduceIte, Nat.reduceEqDiff, Nat.reduceBEq, Nat.reduceAdd, Nat.reduceSub, Int.reduceToNat, hL.out, *]
      · have hN := fitN_eq (l := l.drop a) (by have := hdl.out; omega) (fun m hm => hfit.out m hm) (fun h => absurd h (by have := hdl.out; omega))
        by_cases hn0 : n = 0
        · have hq := hq.out
          rw [← hF.out, linesF_none (acc := acc) hf hal0 (hN.trans hn0)] at hq
          subst hq
          have hn1 : n < 1 := by omega
          clear hF hf hok hap hfit hn0 hN
          (repeat' (first | (with_reducible first | apply i_seq | apply i_block | apply i_skip | apply i_exit | apply i_ret | apply i_kS | apply i_kSx | apply i_kSr | apply i_kL | apply i_kLx | apply i_kLr | apply i_kB | apply i_kBr | apply i_kBs | apply i_nil) | ((with_reducible apply i_region); (focus (simp only [List.map_cons, List.map_nil] <;> exact rfl))) | ((with_reducible apply i_draw); (focus (simp only [List.map_cons, List.map_nil] <;> exact rfl)); (focus (decide +kernel))) | ((with_reducible apply i_kBo); (focus rfl)) | ((first | ((with_reducible apply i_V); (focus rfl); (focus rfl); (focus rfl)) | ((with_reducible apply i_E); (focus rfl); (focus (first | rfl | (simp only [push_cast, ↓reduceIte, effOk, touch, refsOf, List.flatMap_cons, List.flatMap_nil])))) | ((with_reducible apply i_S); (focus rfl); (focus (first | rfl | (simp only [push_cast, ↓reduceIte, effOk, touch, refsOf, List.flatMap_cons, List.flatMap_nil])))) | ((with_reducible apply i_Vq); (focus rfl); (focus rfl)) | ((with_reducible apply i_Vp); (focus rfl); (focus rfl); (focus rfl))); (focus (simp (disch := (first | omega | (simp only [push_cast]; done) | (simp only [push_cast]; omega) | ((try simp only [push_cast]); (with_reducible first | apply sel_lt | apply sel_ge); (focus decide); (focus (simp only [push_cast]; omega))))) only [push_cast, ↓reduceIte, Nat.reduceEqDiff, Nat.reduceBEq, Nat.reduceAdd, Nat.reduceSub, Int.reduceToNat, *] <;> with_reducible exact rfl))) | ((with_reducible first | apply i_Gb | apply i_cond); (focus (simp (disch := (first | omega | (simp only [push_cast]; done) | (simp only [push_cast]; omega) | ((try simp only [push_cast]); (with_reducible first | apply sel_lt | apply sel_ge); (focus decide); (focus (simp only [push_cast]; omega))))) only [push_cast, ↓reduceIte, Nat.reduceEqDiff, Nat.reduceBEq, Nat.reduceAdd, Nat.reduceSub, Int.reduceToNat, *] <;> with_reducible exact rfl)); all_goals (intro hX; first | (cases hX; done) | ((with_reducible first | have hX0 : true = true := hX | have hX0 : false = false := hX); clear hX0 hX) | ((try simp only [decide_eq_true_eq, decide_eq_false_iff_not, Bool.not_eq_true', Bool.not_eq_false'] at hX); (try have hXb := inB_iff.1 hX)))))); all_goals try (exfalso; omega)
          all_goals (first | (exfalso; omega) | ((first | apply i_end | apply i_endN); simp (disch := (first | omega | (simp only [push_cast]; done) | (simp only [push_cast]; omega) | ((try simp only [push_cast]); (with_reducible first | apply sel_lt | apply sel_ge); (focus decide); (focus (simp only [push_cast]; omega))))) only [push_cast, ↓reduceIte, Nat.reduceEqDiff, Nat.reduceBEq, Nat.reduceAdd, Nat.reduceSub, Int.reduceToNat, *]) | skip)
          all_goals rfl
        · have hst := Lib.hid (linesF_step (acc := acc) hf hal0 hN (by omega))
          have hdd : (l.drop a).drop n = l.drop (a + n) := by rw [List.drop_drop]
          replace hdd := Lib.hid hdd
          have apk := φJust_ap (wd := wd) (okSs_take hok n)
          have hL := Lib.hid (show lineS (l.drop a) wd n = joinB ((l.drop a).take n) spB from if_neg (by have := hdl.out; omega))
          have hj1 : joinB ((l.drop a).take 1) spB = l[a]?.getD .empty := by rw [join_take1 hal0, List.getElem?_drop]; rfl
          have hjs := fun k => join_ok2 (okSs_take hok k)
          replace hjs := Lib.hid hjs
          have hnp : 0 < n := by omega
          clear hap hfit hn0 hN
          (repeat' (first | (with_reducible first | apply i_seq | apply i_block | apply i_skip | apply i_exit | apply i_ret | apply i_kS | apply i_kSx | apply i_kSr | apply i_kL | apply i_kLx | apply i_kLr | apply i_kB | apply i_kBr | apply i_kBs | apply i_nil) | ((with_reducible apply i_region); (focus (simp only [List.map_cons, List.map_nil] <;> exact rfl))) | ((with_reducible apply i_draw); (focus (simp only [List.map_cons, List.map_nil] <;> exact rfl)); (focus (decide +kernel))) | ((with_reducible apply i_kBo); (focus rfl)) | ((first | ((with_reducible apply i_V); (focus rfl); (focus rfl); (focus rfl)) | ((with_reducible apply i_E); (focus rfl); (focus (first | rfl | (simp only [push_cast, ↓reduceIte, effOk, touch, refsOf, List.flatMap_cons, List.flatMap_nil])))) | ((with_reducible apply i_S); (focus rfl); (focus (first | rfl | (simp only [push_cast, ↓reduceIte, effOk, touch, refsOf, List.flatMap_cons, List.flatMap_nil])))) | ((with_reducible apply i_Vq); (focus rfl); (focus rfl)) | ((with_reducible apply i_Vp); (focus rfl); (focus rfl); (focus rfl))); (focus (simp (disch := (first | omega | (simp only [push_cast]; done) | (simp only [push_cast]; omega) | ((try simp only [push_cast]); (with_reducible first | apply sel_lt | apply sel_ge); (focus decide); (focus (simp only [push_cast]; omega))))) only [push_cast, ↓reduceIte, Nat.reduceEqDiff, Nat.reduceBEq, Nat.reduceAdd, Nat.reduceSub, Int.reduceToNat, *] <;> with_reducible exact rfl))) | ((with_reducible first | apply i_Gb | apply i_cond); (focus (simp (disch := (first | omega | (simp only [push_cast]; done) | (simp only [push_cast]; omega) | ((try simp only [push_cast]); (with_reducible first | apply sel_lt | apply sel_ge); (focus decide); (focus (simp only [push_cast]; omega))))) only [push_cast, ↓reduceIte, Nat.reduceEqDiff, Nat.reduceBEq, Nat.reduceAdd, Nat.reduceSub, Int.reduceToNat, *] <;> with_reducible exact rfl)); all_goals (intro hX; first | (cases hX; done) | ((with_reducible first | have hX0 : true = true := hX | have hX0 : false = false := hX); clear hX0 hX) | ((try simp only [decide_eq_true_eq, decide_eq_false_iff_not, Bool.not_eq_true', Bool.not_eq_false'] at hX); (try have hXb := inB_iff.1 hX)))))); all_goals try (exfalso; omega)
          refine i_loop (α := Nat) mixed (fun k => [(0, .lst false 1 (l.map fun s => .val (.string s))), (1, iv wd), (6, .row x 1 0 acc.length), (7, iv a), (8, iv n), (11, .val (.string (joinB ((l.drop a).take k) spB))), (13, iv k)])
            (fun s => [(x, 9, 1, acc.map fun s => .val (.string s))]) (fun s => y)
            (fun k => 1 ≤ k ∧ k ≤ n) (fun k => n - k) (by kernel_rfl) 1 ⟨by omega, by omega⟩ ?_ ?_ rfl ?_
          · simp (disch := (first | omega | (simp only [push_cast]; done) | (simp only [push_cast]; omega) | ((try simp only [push_cast]); (with_reducible first | apply sel_lt | apply sel_ge); (focus decide); (focus (simp only [push_cast]; omega))))) only [push_cast, ↓reduceIte, Nat.reduceEqDiff, Nat.reduceBEq, Nat.reduceAdd, Nat.reduceSub, Int.reduceToNat, hj1, *]
            exact rfl
          · simp (disch := (first | omega | (simp only [push_cast]; done) | (simp only [push_cast]; omega) | ((try simp only [push_cast]); (with_reducible first | apply sel_lt | apply sel_ge); (focus decide); (focus (simp only [push_cast]; omega))))) only [push_cast, ↓reduceIte, Nat.reduceEqDiff, Nat.reduceBEq, Nat.reduceAdd, Nat.reduceSub, Int.reduceToNat, List.length_append, *]
          rintro k ⟨hk1, hk2⟩
          have ht3 : ((a : Int) + k).toNat = a + k := by omega
          by_cases hkn : k < n
          · have hjk := hjs.out k
            have hwk := hwz.out (a + k)
            have h32 : ((⟨#[32]⟩ : ByteArray)).size = 1 := rfl
            have hjn := join_take_succ (l := l.drop a) (k := k) (by omega) (by have := hdl.out; omega)
            rw [← hget.out k] at hjn
            replace hjn := Lib.hid hjn
            (repeat' (first | (with_reducible first | apply i_seq | apply i_block | apply i_skip | apply i_exit | apply i_ret | apply i_kS | apply i_kSx | apply i_kSr | apply i_kL | apply i_kLx | apply i_kLr | apply i_kB | apply i_kBr | apply i_kBs | apply i_nil) | ((with_reducible apply i_region); (focus (simp only [List.map_cons, List.map_nil] <;> exact rfl))) | ((with_reducible apply i_draw); (focus (simp only [List.map_cons, List.map_nil] <;> exact rfl)); (focus (decide +kernel))) | ((with_reducible apply i_kBo); (focus rfl)) | ((first | ((with_reducible apply i_V); (focus rfl); (focus rfl); (focus rfl)) | ((with_reducible apply i_E); (focus rfl); (focus (first | rfl | (simp only [push_cast, ↓reduceIte, effOk, touch, refsOf, List.flatMap_cons, List.flatMap_nil])))) | ((with_reducible apply i_S); (focus rfl); (focus (first | rfl | (simp only [push_cast, ↓reduceIte, effOk, touch, refsOf, List.flatMap_cons, List.flatMap_nil])))) | ((with_reducible apply i_Vq); (focus rfl); (focus rfl)) | ((with_reducible apply i_Vp); (focus rfl); (focus rfl); (focus rfl))); (focus (simp (disch := (first | omega | (simp only [push_cast]; done) | (simp only [push_cast]; omega) | ((try simp only [push_cast]); (with_reducible first | apply sel_lt | apply sel_ge); (focus decide); (focus (simp only [push_cast]; omega))))) only [push_cast, ↓reduceIte, Nat.reduceEqDiff, Nat.reduceBEq, Nat.reduceAdd, Nat.reduceSub, Int.reduceToNat, *] <;> with_reducible exact rfl))) | ((with_reducible first | apply i_Gb | apply i_cond); (focus (simp (disch := (first | omega | (simp only [push_cast]; done) | (simp only [push_cast]; omega) | ((try simp only [push_cast]); (with_reducible first | apply sel_lt | apply sel_ge); (focus decide); (focus (simp only [push_cast]; omega))))) only [push_cast, ↓reduceIte, Nat.reduceEqDiff, Nat.reduceBEq, Nat.reduceAdd, Nat.reduceSub, Int.reduceToNat, *] <;> with_reducible exact rfl)); all_goals (intro hX; first | (cases hX; done) | ((with_reducible first | have hX0 : true = true := hX | have hX0 : false = false := hX); clear hX0 hX) | ((try simp only [decide_eq_true_eq, decide_eq_false_iff_not, Bool.not_eq_true', Bool.not_eq_false'] at hX); (try have hXb := inB_iff.1 hX)))))); all_goals try (exfalso; omega)
            refine ⟨k + 1, ⟨by omega, by omega⟩, by dsimp only; omega, ?_, ?_, rfl⟩
            · simp (disch := (first | omega | (simp only [push_cast]; done) | (simp only [push_cast]; omega) | ((try simp only [push_cast]); (with_reducible first | apply sel_lt | apply sel_ge); (focus decide); (focus (simp only [push_cast]; omega))))) only [push_cast, ↓reduceIte, Nat.reduceEqDiff, Nat.reduceBEq, Nat.reduceAdd, Nat.reduceSub, Int.reduceToNat, hjn.out, *]
            · simp (disch := (first | omega | (simp only [push_cast]; done) | (simp only [push_cast]; omega) | ((try simp only [push_cast]); (with_reducible first | apply sel_lt | apply sel_ge); (focus decide); (focus (simp only [push_cast]; omega))))) only [push_cast, ↓reduceIte, Nat.reduceEqDiff, Nat.reduceBEq, Nat.reduceAdd, Nat.reduceSub, Int.reduceToNat, List.length_append, *]
          obtain rfl : k = n := by omega
          (repeat' (first | (with_reducible first | apply i_seq | apply i_block | apply i_skip | apply i_exit | apply i_ret | apply i_kS | apply i_kSx | apply i_kSr | apply i_kL | apply i_kLx | apply i_kLr | apply i_kB | apply i_kBr | apply i_kBs | apply i_nil) | ((with_reducible apply i_region); (focus (simp only [List.map_cons, List.map_nil] <;> exact rfl))) | ((with_reducible apply i_draw); (focus (simp only [List.map_cons, List.map_nil] <;> exact rfl)); (focus (decide +kernel))) | ((with_reducible apply i_kBo); (focus rfl)) | ((first | ((with_reducible apply i_V); (focus rfl); (focus rfl); (focus rfl)) | ((with_reducible apply i_E); (focus rfl); (focus (first | rfl | (simp only [push_cast, ↓reduceIte, effOk, touch, refsOf, List.flatMap_cons, List.flatMap_nil])))) | ((with_reducible apply i_S); (focus rfl); (focus (first | rfl | (simp only [push_cast, ↓reduceIte, effOk, touch, refsOf, List.flatMap_cons, List.flatMap_nil])))) | ((with_reducible apply i_Vq); (focus rfl); (focus rfl)) | ((with_reducible apply i_Vp); (focus rfl); (focus rfl); (focus rfl))); (focus (simp (disch := (first | omega | (simp only [push_cast]; done) | (simp only [push_cast]; omega) | ((try simp only [push_cast]); (with_reducible first | apply sel_lt | apply sel_ge); (focus decide); (focus (simp only [push_cast]; omega))))) only [push_cast, ↓reduceIte, Nat.reduceEqDiff, Nat.reduceBEq, Nat.reduceAdd, Nat.reduceSub, Int.reduceToNat, *] <;> with_reducible exact rfl))) | ((with_reducible first | apply i_Gb | apply i_cond); (focus (simp (disch := (first | omega | (simp only [push_cast]; done) | (simp only [push_cast]; omega) | ((try simp only [push_cast]); (with_reducible first | apply sel_lt | apply sel_ge); (focus decide); (focus (simp only [push_cast]; omega))))) only [push_cast, ↓reduceIte, Nat.reduceEqDiff, Nat.reduceBEq, Nat.reduceAdd, Nat.reduceSub, Int.reduceToNat, *] <;> with_reducible exact rfl)); all_goals (intro hX; first | (cases hX; done) | ((with_reducible first | have hX0 : true = true := hX | have hX0 : false = false := hX); clear hX0 hX) | ((try simp only [decide_eq_true_eq, decide_eq_false_iff_not, Bool.not_eq_true', Bool.not_eq_false'] at hX); (try have hXb := inB_iff.1 hX)))))); all_goals try (exfalso; omega)
          obtain ⟨g, hg1, hg2⟩ := hst.out
          rw [hdd.out] at hg1 hg2
          refine ⟨(a + k, acc ++ [lineS (l.drop a) wd k], y + 1, y + 2), ⟨by dsimp only; omega, ⟨g, hg1, by rw [← hg2]; exact hF.out⟩, by simp; omega, by dsimp only; omega⟩, by dsimp only; omega, ?_, ?_, rfl⟩
          · simp (disch := (first | omega | (simp only [push_cast]; done) | (simp only [push_cast]; omega) | ((try simp only [push_cast]); (with_reducible first | apply sel_lt | apply sel_ge); (focus decide); (focus (simp only [push_cast]; omega))))) only [push_cast, ↓reduceIte, Nat.reduceEqDiff, Nat.reduceBEq, Nat.reduceAdd, Nat.reduceSub, Int.reduceToNat, hL.out, List.length_append, *]
          · simp (disch := (first | omega | (simp only [push_cast]; done) | (simp only [push_cast]; omega) | ((try simp only [push_cast]); (with_reducible first | apply sel_lt | apply sel_ge); (focus decide); (focus (simp only [push_cast]; omega))))) only [push_cast, ↓reduceIte, Nat.reduceEqDiff, Nat.reduceBEq, Nat.reduceAdd, Nat.reduceSub, Int.reduceToNat, hL.out, *]
    · obtain rfl : a = l.length := by omega
      rw [linesF_nil (by rw [List.length_drop]; omega)] at hF
      have hq := hq.out
      rw [← hF] at hq
      subst hq
      clear hF hf hok hgf
      (repeat' (first | (with_reducible first | apply i_seq | apply i_block | apply i_skip | apply i_exit | apply i_ret | apply i_kS | apply i_kSx | apply i_kSr | apply i_kL | apply i_kLx | apply i_kLr | apply i_kB | apply i_kBr | apply i_kBs | apply i_nil) | ((with_reducible apply i_region); (focus (simp only [List.map_cons, List.map_nil] <;> exact rfl))) | ((with_reducible apply i_draw); (focus (simp only [List.map_cons, List.map_nil] <;> exact rfl)); (focus (decide +kernel))) | ((with_reducible apply i_kBo); (focus rfl)) | ((first | ((with_reducible apply i_V); (focus rfl); (focus rfl); (focus rfl)) | ((with_reducible apply i_E); (focus rfl); (focus (first | rfl | (simp only [push_cast, ↓reduceIte, effOk, touch, refsOf, List.flatMap_cons, List.flatMap_nil])))) | ((with_reducible apply i_S); (focus rfl); (focus (first | rfl | (simp only [push_cast, ↓reduceIte, effOk, touch, refsOf, List.flatMap_cons, List.flatMap_nil])))) | ((with_reducible apply i_Vq); (focus rfl); (focus rfl)) | ((with_reducible apply i_Vp); (focus rfl); (focus rfl); (focus rfl))); (focus (simp (disch := (first | omega | (simp only [push_cast]; done) | (simp only [push_cast]; omega) | ((try simp only [push_cast]); (with_reducible first | apply sel_lt | apply sel_ge); (focus decide); (focus (simp only [push_cast]; omega))))) only [push_cast, ↓reduceIte, Nat.reduceEqDiff, Nat.reduceBEq, Nat.reduceAdd, Nat.reduceSub, Int.reduceToNat, *] <;> with_reducible exact rfl))) | ((with_reducible first | apply i_Gb | apply i_cond); (focus (simp (disch := (first | omega | (simp only [push_cast]; done) | (simp only [push_cast]; omega) | ((try simp only [push_cast]); (with_reducible first | apply sel_lt | apply sel_ge); (focus decide); (focus (simp only [push_cast]; omega))))) only [push_cast, ↓reduceIte, Nat.reduceEqDiff, Nat.reduceBEq, Nat.reduceAdd, Nat.reduceSub, Int.reduceToNat, *] <;> with_reducible exact rfl)); all_goals (intro hX; first | (cases hX; done) | ((with_reducible first | have hX0 : true = true := hX | have hX0 : false = false := hX); clear hX0 hX) | ((try simp only [decide_eq_true_eq, decide_eq_false_iff_not, Bool.not_eq_true', Bool.not_eq_false'] at hX); (try have hXb := inB_iff.1 hX)))))); all_goals try (exfalso; omega)
      all_goals (first | (exfalso; omega) | ((first | apply i_end | apply i_endN); simp (disch := (first | omega | (simp only [push_cast]; done) | (simp only [push_cast]; omega) | ((try simp only [push_cast]); (with_reducible first | apply sel_lt | apply sel_ge); (focus decide); (focus (simp only [push_cast]; omega))))) only [push_cast, ↓reduceIte, Nat.reduceEqDiff, Nat.reduceBEq, Nat.reduceAdd, Nat.reduceSub, Int.reduceToNat, *]) | skip)
  · have hn : tlR l wd = none := if_neg hA
    rw [hn] at hq
    subst hq
    clear hn hpre
    have hd : allWords l = false ∨ (allWords l = true ∧ inB wd 1 60 = false) := by
      cases h1 : allWords l with
      | false => exact .inl rfl
      | true =>
        cases h2 : inB wd 1 60 with
        | false => exact .inr ⟨rfl, rfl⟩
        | true => exact absurd ⟨h1, h2⟩ hA
    clear hA
    rcases hd with hd | ⟨hd, hd2⟩
    · rw [hd] at ap1
      have gstl_c80 := GSTL_80; have gstl_c58 := GSTL_58; have gstl_c74 := GSTL_74; have gstl_c39 := GSTL_39
      (repeat' (first | (with_reducible first | apply i_seq | apply i_block | apply i_skip | apply i_exit | apply i_ret | apply i_kS | apply i_kSx | apply i_kSr | apply i_kL | apply i_kLx | apply i_kLr | apply i_kB | apply i_kBr | apply i_kBs | apply i_nil) | ((with_reducible apply i_region); (focus (simp only [List.map_cons, List.map_nil] <;> exact rfl))) | ((with_reducible apply i_draw); (focus (simp only [List.map_cons, List.map_nil] <;> exact rfl)); (focus (decide +kernel))) | ((with_reducible apply i_kBo); (focus rfl)) | ((first | ((with_reducible apply i_V); (focus rfl); (focus rfl); (focus rfl)) | ((with_reducible apply i_E); (focus rfl); (focus (first | rfl | (simp only [push_cast, ↓reduceIte, effOk, touch, refsOf, List.flatMap_cons, List.flatMap_nil])))) | ((with_reducible apply i_S); (focus rfl); (focus (first | rfl | (simp only [push_cast, ↓reduceIte, effOk, touch, refsOf, List.flatMap_cons, List.flatMap_nil])))) | ((with_reducible apply i_Vq); (focus rfl); (focus rfl)) | ((with_reducible apply i_Vp); (focus rfl); (focus rfl); (focus rfl))); (focus (simp (disch := (first | omega | (simp only [push_cast]; done) | (simp only [push_cast]; omega) | ((try simp only [push_cast]); (with_reducible first | apply sel_lt | apply sel_ge); (focus decide); (focus (simp only [push_cast]; omega))))) only [push_cast, ↓reduceIte, Nat.reduceEqDiff, Nat.reduceBEq, Nat.reduceAdd, Nat.reduceSub, Int.reduceToNat, *] <;> with_reducible exact rfl))) | ((with_reducible first | apply i_Gb | apply i_cond); (focus (simp (disch := (first | omega | (simp only [push_cast]; done) | (simp only [push_cast]; omega) | ((try simp only [push_cast]); (with_reducible first | apply sel_lt | apply sel_ge); (focus decide); (focus (simp only [push_cast]; omega))))) only [push_cast, ↓reduceIte, Nat.reduceEqDiff, Nat.reduceBEq, Nat.reduceAdd, Nat.reduceSub, Int.reduceToNat, *] <;> with_reducible exact rfl)); all_goals (intro hX; first | (cases hX; done) | ((with_reducible first | have hX0 : true = true := hX | have hX0 : false = false := hX); clear hX0 hX) | ((try simp only [decide_eq_true_eq, decide_eq_false_iff_not, Bool.not_eq_true', Bool.not_eq_false'] at hX); (try have hXb := inB_iff.1 hX)))))); all_goals try (exfalso; omega)
      all_goals (first | (exfalso; omega) | ((first | apply i_end | apply i_endN); simp (disch := (first | omega | (simp only [push_cast]; done) | (simp only [push_cast]; omega) | ((try simp only [push_cast]); (with_reducible first | apply sel_lt | apply sel_ge); (focus decide); (focus (simp only [push_cast]; omega))))) only [push_cast, ↓reduceIte, Nat.reduceEqDiff, Nat.reduceBEq, Nat.reduceAdd, Nat.reduceSub, Int.reduceToNat, *]) | skip)
      all_goals rfl
    · rw [hd] at ap1
      have gstl_c80 := GSTL_80; have gstl_c58 := GSTL_58; have gstl_c74 := GSTL_74; have gstl_c39 := GSTL_39
      (repeat' (first | (with_reducible first | apply i_seq | apply i_block | apply i_skip | apply i_exit | apply i_ret | apply i_kS | apply i_kSx | apply i_kSr | apply i_kL | apply i_kLx | apply i_kLr | apply i_kB | apply i_kBr | apply i_kBs | apply i_nil) | ((with_reducible apply i_region); (focus (simp only [List.map_cons, List.map_nil] <;> exact rfl))) | ((with_reducible apply i_draw); (focus (simp only [List.map_cons, List.map_nil] <;> exact rfl)); (focus (decide +kernel))) | ((with_reducible apply i_kBo); (focus rfl)) | ((first | ((with_reducible apply i_V); (focus rfl); (focus rfl); (focus rfl)) | ((with_reducible apply i_E); (focus rfl); (focus (first | rfl | (simp only [push_cast, ↓reduceIte, effOk, touch, refsOf, List.flatMap_cons, List.flatMap_nil])))) | ((with_reducible apply i_S); (focus rfl); (focus (first | rfl | (simp only [push_cast, ↓reduceIte, effOk, touch, refsOf, List.flatMap_cons, List.flatMap_nil])))) | ((with_reducible apply i_Vq); (focus rfl); (focus rfl)) | ((with_reducible apply i_Vp); (focus rfl); (focus rfl); (focus rfl))); (focus (simp (disch := (first | omega | (simp only [push_cast]; done) | (simp only [push_cast]; omega) | ((try simp only [push_cast]); (with_reducible first | apply sel_lt | apply sel_ge); (focus decide); (focus (simp only [push_cast]; omega))))) only [push_cast, ↓reduceIte, Nat.reduceEqDiff, Nat.reduceBEq, Nat.reduceAdd, Nat.reduceSub, Int.reduceToNat, *] <;> with_reducible exact rfl))) | ((with_reducible first | apply i_Gb | apply i_cond); (focus (simp (disch := (first | omega | (simp only [push_cast]; done) | (simp only [push_cast]; omega) | ((try simp only [push_cast]); (with_reducible first | apply sel_lt | apply sel_ge); (focus decide); (focus (simp only [push_cast]; omega))))) only [push_cast, ↓reduceIte, Nat.reduceEqDiff, Nat.reduceBEq, Nat.reduceAdd, Nat.reduceSub, Int.reduceToNat, *] <;> with_reducible exact rfl)); all_goals (intro hX; first | (cases hX; done) | ((with_reducible first | have hX0 : true = true := hX | have hX0 : false = false := hX); clear hX0 hX) | ((try simp only [decide_eq_true_eq, decide_eq_false_iff_not, Bool.not_eq_true', Bool.not_eq_false'] at hX); (try have hXb := inB_iff.1 hX)))))); all_goals try (exfalso; omega)
      all_goals (first | (exfalso; omega) | ((first | apply i_end | apply i_endN); simp (disch := (first | omega | (simp only [push_cast]; done) | (simp only [push_cast]; omega) | ((try simp only [push_cast]); (with_reducible first | apply sel_lt | apply sel_ge); (focus decide); (focus (simp only [push_cast]; omega))))) only [push_cast, ↓reduceIte, Nat.reduceEqDiff, Nat.reduceBEq, Nat.reduceAdd, Nat.reduceSub, Int.reduceToNat, *]) | skip)
      all_goals rfl
theorem linesF_len {wd : Int} : ∀ (f : Nat) (ws acc L : LS), linesF wd f ws acc = some L → L.length ≤ acc.length + ws.length
  | 0, ws, acc, L, h => by
    have : acc = L := by simpa [linesF] using h
    subst this
    omega
  | f + 1, ws, acc, L, h => by
    unfold linesF at h
    split at h
    · have : acc = L := by simpa using h
      subst this
      omega
    · split at h
      · cases h
      · have := linesF_len f _ _ _ h
        simp only [List.length_append, List.length_cons, List.length_nil, List.length_drop] at this
        omega
theorem tlR_len {l : LS} {wd : Int} {L : LS} (h : tlR l wd = some L) : L.length ≤ l.length := by
  unfold tlR at h
  split at h
  · simpa using linesF_len _ _ _ _ h
  · cases h
end Go.Proofs.YtenldjifipnjpaaDoor
namespace Go.Proofs.YtenldjifipnjpaaDoor
open Go.RowKit
set_option linter.all false
def ΦOpen : FunIO := fun ps cs => match ps, cs with
  | [p], [] => (dUs.d p).map fun code => (.own 0 2 0 0, [rdC 101 (code.take 2000) 0])
  | _, _ => none
theorem ΦOpen_ap {code : List Int} : ΦOpen [.lst false 1 (code.map fun n => .val (.int .u8 n))] [] = some (.own 0 2 0 0, [rdC 101 (code.take 2000) 0]) := by
  have := dUs.h' code
  simp only [dUs, dL_e, dU_e] at this
  simp only [ΦOpen, dUs, this, Option.map_some]
theorem open_io : SoundIO Tryd.prog 54 ΦOpen := by
  refine sound_pq0 mixed GE_ok Tryd.func54 rfl 11 rfl [.tmp 2] rfl (by kernel_rfl) fun ps cs r cs' hr => ?_
  unfold ΦOpen at hr
  split at hr
  case h_2 => cases hr
  rename_i p
  rw [Option.map_eq_some_iff] at hr
  obtain ⟨code, h1, h2⟩ := hr
  obtain rfl := dUs.h _ _ h1
  clear h1
  cases h2
  refine ⟨rfl, by simp, ?_⟩
  simp only [dIs, dUs, dSs, dI_e, dU_e, dB_e, dS_e, dFn_e, dL_e, dA2_e, dA3_e, dA4_e, dA5_e]
  repeat' (first | (with_reducible first | apply i_seq | apply i_block | apply i_skip | apply i_exit | apply i_ret | apply i_kS | apply i_kSx | apply i_kSr | apply i_kL | apply i_kLx | apply i_kLr | apply i_kB | apply i_kBr | apply i_kBs | apply i_nil) | ((with_reducible apply i_region); (focus (simp only [List.map_cons, List.map_nil] <;> exact rfl))) | ((with_reducible apply i_draw); (focus (simp only [List.map_cons, List.map_nil] <;> exact rfl)); (focus (decide +kernel))) | ((with_reducible apply i_kBo); (focus rfl)) | ((first | ((with_reducible apply i_V); (focus rfl); (focus rfl); (focus rfl)) | ((with_reducible apply i_E); (focus rfl); (focus (first | rfl | (simp only [push_cast, ↓reduceIte, effOk, touch, refsOf, List.flatMap_cons, List.flatMap_nil])))) | ((with_reducible apply i_S); (focus rfl); (focus (first | rfl | (simp only [push_cast, ↓reduceIte, effOk, touch, refsOf, List.flatMap_cons, List.flatMap_nil])))) | ((with_reducible apply i_Vq); (focus rfl); (focus rfl)) | ((with_reducible apply i_Vp); (focus rfl); (focus rfl); (focus rfl)) | (with_reducible first | apply i_Gb | apply i_cond)); (focus (simp (disch := (first | omega | (simp only [push_cast]; done) | (simp only [push_cast]; omega) | ((try simp only [push_cast]); (with_reducible first | apply sel_lt | apply sel_ge); (focus decide); (focus (simp only [push_cast]; omega))))) only [push_cast, ↓reduceIte, Nat.reduceEqDiff, Nat.reduceBEq, Nat.reduceAdd, Nat.reduceSub, Int.reduceToNat, *] <;> with_reducible exact rfl)); all_goals try (intro hX; first | (cases hX; done) | ((with_reducible first | have hX0 : true = true := hX | have hX0 : false = false := hX); clear hX0 hX) | ((try simp only [decide_eq_true_eq, decide_eq_false_iff_not, Bool.not_eq_true', Bool.not_eq_false'] at hX); (try have hXb := inB_iff.1 hX)))))
  · refine i_endN1 0 (by first | exact .inl rfl | exact .inr rfl) ?_ ?_
    · (focus (simp (disch := (first | omega | (simp only [push_cast]; done) | (simp only [push_cast]; omega) | ((try simp only [push_cast]); (with_reducible first | apply sel_lt | apply sel_ge); (focus decide); (focus (simp only [push_cast]; omega))))) only [push_cast, ↓reduceIte, Nat.reduceEqDiff, Nat.reduceBEq, Nat.reduceAdd, Nat.reduceSub, Int.reduceToNat, rep_iv, rep_sv, rep_w, rep_i3, rep_i4, *] <;> with_reducible exact rfl))
    · simp only [push_cast, ↓reduceIte, Nat.reduceEqDiff, Nat.reduceBEq, Nat.reduceAdd, Nat.reduceSub, Int.reduceToNat, rdC]
  · have h : code.take 2000 = code := List.take_of_length_le (by simp_all; omega)
    refine i_endN1 0 (by first | exact .inl rfl | exact .inr rfl) ?_ ?_
    · (focus (simp (disch := (first | omega | (simp only [push_cast]; done) | (simp only [push_cast]; omega) | ((try simp only [push_cast]); (with_reducible first | apply sel_lt | apply sel_ge); (focus decide); (focus (simp only [push_cast]; omega))))) only [push_cast, ↓reduceIte, Nat.reduceEqDiff, Nat.reduceBEq, Nat.reduceAdd, Nat.reduceSub, Int.reduceToNat, rep_iv, rep_sv, rep_w, rep_i3, rep_i4, *] <;> with_reducible exact rfl))
    · simp only [push_cast, ↓reduceIte, Nat.reduceEqDiff, Nat.reduceBEq, Nat.reduceAdd, Nat.reduceSub, Int.reduceToNat, rdC, h]
theorem pick_ex : ∃ Φ : FunIO, SoundIO Tryd.prog 55 Φ ∧ Drw2 101 Φ 1000000000 1 (fun v : Int => PV.val (.int .i64 v)) (fun _ => True) (fun n v => 0 ≤ v ∧ (1 ≤ n → v < n)) := by
  refine drw2_of mixed GE_ok Tryd.func55 rfl 99 rfl [.tmp 4] rfl (by kernel_rfl) (by simp) _ _ _ _ _ _ fun code p n hok hp _ => ?_
  obtain ⟨hlen, hbyte, hp0, hp1⟩ := id hok
  have hb0 := hbyte p.toNat
  have hb1 := hbyte (p % code.length).toNat
  have hb2 := hbyte ((p * 7 + 3) % code.length).toNat
  have hm : 0 < code.length → 0 ≤ p % (code.length : Int) ∧ p % (code.length : Int) < code.length ∧ 0 ≤ (p * 7 + 3) % (code.length : Int) ∧ (p * 7 + 3) % (code.length : Int) < code.length ∧ 0 ≤ p / (code.length : Int) ∧ p / (code.length : Int) ≤ p := fun h =>
    ⟨Int.emod_nonneg _ (by omega), Int.emod_lt_of_pos _ (by omega), Int.emod_nonneg _ (by omega), Int.emod_lt_of_pos _ (by omega), Int.ediv_nonneg hp0 (by omega), Int.ediv_le_self _ hp0⟩
  clear hbyte
  repeat' (first | (first | (with_reducible first | apply i_seq | apply i_block | apply i_skip | apply i_exit | apply i_ret | apply i_kS | apply i_kSx | apply i_kSr | apply i_kL | apply i_kLx | apply i_kLr | apply i_kB | apply i_kBr | apply i_kBs | apply i_nil) | ((with_reducible apply i_region); (focus (simp only [List.map_cons, List.map_nil] <;> exact rfl))) | ((with_reducible apply i_draw); (focus (simp only [List.map_cons, List.map_nil] <;> exact rfl)); (focus (decide +kernel))) | ((with_reducible apply i_kBo); (focus rfl)) | ((first | ((with_reducible apply i_V); (focus rfl); (focus rfl); (focus rfl)) | ((with_reducible apply i_E); (focus rfl); (focus (first | rfl | (simp only [push_cast, ↓reduceIte, effOk, touch, refsOf, List.flatMap_cons, List.flatMap_nil])))) | ((with_reducible apply i_S); (focus rfl); (focus (first | rfl | (simp only [push_cast, ↓reduceIte, effOk, touch, refsOf, List.flatMap_cons, List.flatMap_nil])))) | ((with_reducible apply i_Vq); (focus rfl); (focus rfl)) | ((with_reducible apply i_Vp); (focus rfl); (focus rfl); (focus rfl)) | (with_reducible first | apply i_Gb | apply i_cond)); (focus (simp (disch := (first | omega | (simp only [push_cast]; done) | (simp only [push_cast]; omega) | ((try simp only [push_cast]); (with_reducible first | apply sel_lt | apply sel_ge); (focus decide); (focus (simp only [push_cast]; omega))))) only [push_cast, ↓reduceIte, Nat.reduceEqDiff, Nat.reduceBEq, Nat.reduceAdd, Nat.reduceSub, Int.reduceToNat, *] <;> with_reducible exact rfl)); all_goals try (intro hX; first | (cases hX; done) | ((with_reducible first | have hX0 : true = true := hX | have hX0 : false = false := hX); clear hX0 hX) | ((try simp only [decide_eq_true_eq, decide_eq_false_iff_not, Bool.not_eq_true', Bool.not_eq_false'] at hX); (try have hXb := inB_iff.1 hX))))) | ((with_reducible apply i_xor); (focus rfl); (focus (simp (disch := (first | omega | (simp only [push_cast]; done) | (simp only [push_cast]; omega) | ((try simp only [push_cast]); (with_reducible first | apply sel_lt | apply sel_ge); (focus decide); (focus (simp only [push_cast]; omega))))) only [push_cast, ↓reduceIte, Nat.reduceEqDiff, Nat.reduceBEq, Nat.reduceAdd, Nat.reduceSub, Int.reduceToNat, *] <;> with_reducible exact rfl)); (focus (simp (disch := (first | omega | (simp only [push_cast]; done) | (simp only [push_cast]; omega) | ((try simp only [push_cast]); (with_reducible first | apply sel_lt | apply sel_ge); (focus decide); (focus (simp only [push_cast]; omega))))) only [push_cast, ↓reduceIte, Nat.reduceEqDiff, Nat.reduceBEq, Nat.reduceAdd, Nat.reduceSub, Int.reduceToNat, *] <;> with_reducible exact rfl)); (focus (first | omega | (simp only [push_cast]; done) | (simp only [push_cast]; omega) | ((try simp only [push_cast]); (with_reducible first | apply sel_lt | apply sel_ge); (focus decide); (focus (simp only [push_cast]; omega))))); (focus (first | omega | (simp only [push_cast]; done) | (simp only [push_cast]; omega) | ((try simp only [push_cast]); (with_reducible first | apply sel_lt | apply sel_ge); (focus decide); (focus (simp only [push_cast]; omega))))); (focus (first | omega | (simp only [push_cast]; done) | (simp only [push_cast]; omega) | ((try simp only [push_cast]); (with_reducible first | apply sel_lt | apply sel_ge); (focus decide); (focus (simp only [push_cast]; omega))))); (focus (first | omega | (simp only [push_cast]; done) | (simp only [push_cast]; omega) | ((try simp only [push_cast]); (with_reducible first | apply sel_lt | apply sel_ge); (focus decide); (focus (simp only [push_cast]; omega))))); intro z hz1 hz2))
  all_goals ((with_reducible apply i_fin1 (by first | exact .inl rfl | exact .inr rfl)); (focus (simp (disch := (first | omega | (simp only [push_cast]; done) | (simp only [push_cast]; omega) | ((try simp only [push_cast]); (with_reducible first | apply sel_lt | apply sel_ge); (focus decide); (focus (simp only [push_cast]; omega))))) only [push_cast, ↓reduceIte, Nat.reduceEqDiff, Nat.reduceBEq, Nat.reduceAdd, Nat.reduceSub, Int.reduceToNat, rep_iv, rep_sv, rep_w, rep_i3, rep_i4, *] <;> with_reducible exact rfl)); (focus (simp (disch := (first | omega | (simp only [push_cast]; done) | (simp only [push_cast]; omega) | ((try simp only [push_cast]); (with_reducible first | apply sel_lt | apply sel_ge); (focus decide); (focus (simp only [push_cast]; omega))))) only [push_cast, ↓reduceIte, Nat.reduceEqDiff, Nat.reduceBEq, Nat.reduceAdd, Nat.reduceSub, Int.reduceToNat, rep_iv, rep_sv, rep_w, rep_i3, rep_i4, *] <;> with_reducible exact rfl)))
  all_goals (first | omega | exact hok.to (by omega) (by omega) | exact ⟨Int.emod_nonneg _ (by omega), fun _ => Int.emod_lt_of_pos _ (by omega)⟩)
noncomputable def Φpick : FunIO := Classical.choose pick_ex
theorem pick_io : SoundIO Tryd.prog 55 Φpick := (Classical.choose_spec pick_ex).1
theorem pick_drw : Drw2 101 Φpick 1000000000 1 (fun v : Int => PV.val (.int .i64 v)) (fun _ => True) (fun n v => 0 ≤ v ∧ (1 ≤ n → v < n)) := (Classical.choose_spec pick_ex).2
noncomputable def GOdd : Ctx := ⟨fun f => none, fun f => if f = 55 then some Φpick else none⟩
theorem GOdd_ok : SoundΓ Tryd.prog GOdd := ⟨(fun f φ h => by
  unfold GOdd at h
  dsimp only at h
  cases h), (fun f φ h => by
  unfold GOdd at h
  dsimp only at h
  split at h
  · rename_i hf; cases h; subst hf; exact ⟨⟨_, Tryd.func55, rfl, rfl⟩, pick_io⟩
  cases h)⟩
theorem odd_ex : ∃ Φ : FunIO, SoundIO Tryd.prog 91 Φ ∧ Drw2 101 Φ 900000000 1 (fun v : Bool => PV.val (.bool v)) (fun n => 0 ≤ n ∧ n ≤ 1000000) (fun n v => n ≤ 0 → v = false) := by
  refine drw2_of mixed GOdd_ok Tryd.func91 rfl 15 rfl [.tmp 4] rfl (by kernel_rfl) (by simp) _ _ _ _ _ _ fun code p n hok hp hn => ?_
  have hp0 := hok.pos
  repeat' (first | (first | (with_reducible first | apply i_seq | apply i_block | apply i_skip | apply i_exit | apply i_ret | apply i_kS | apply i_kSx | apply i_kSr | apply i_kL | apply i_kLx | apply i_kLr | apply i_kB | apply i_kBr | apply i_kBs | apply i_nil) | ((with_reducible apply i_region); (focus (simp only [List.map_cons, List.map_nil] <;> exact rfl))) | ((with_reducible apply i_draw); (focus (simp only [List.map_cons, List.map_nil] <;> exact rfl)); (focus (decide +kernel))) | ((with_reducible apply i_kBo); (focus rfl)) | ((first | ((with_reducible apply i_V); (focus rfl); (focus rfl); (focus rfl)) | ((with_reducible apply i_E); (focus rfl); (focus (first | rfl | (simp only [push_cast, ↓reduceIte, effOk, touch, refsOf, List.flatMap_cons, List.flatMap_nil])))) | ((with_reducible apply i_S); (focus rfl); (focus (first | rfl | (simp only [push_cast, ↓reduceIte, effOk, touch, refsOf, List.flatMap_cons, List.flatMap_nil])))) | ((with_reducible apply i_Vq); (focus rfl); (focus rfl)) | ((with_reducible apply i_Vp); (focus rfl); (focus rfl); (focus rfl)) | (with_reducible first | apply i_Gb | apply i_cond)); (focus (simp (disch := (first | omega | (simp only [push_cast]; done) | (simp only [push_cast]; omega) | ((try simp only [push_cast]); (with_reducible first | apply sel_lt | apply sel_ge); (focus decide); (focus (simp only [push_cast]; omega))))) only [push_cast, ↓reduceIte, Nat.reduceEqDiff, Nat.reduceBEq, Nat.reduceAdd, Nat.reduceSub, Int.reduceToNat, *] <;> with_reducible exact rfl)); all_goals try (intro hX; first | (cases hX; done) | ((with_reducible first | have hX0 : true = true := hX | have hX0 : false = false := hX); clear hX0 hX) | ((try simp only [decide_eq_true_eq, decide_eq_false_iff_not, Bool.not_eq_true', Bool.not_eq_false'] at hX); (try have hXb := inB_iff.1 hX))))) | ((with_reducible apply i_drw2 pick_drw (fun _ _ => rfl)); (focus rfl); (focus (simp (disch := (first | omega | (simp only [push_cast]; done) | (simp only [push_cast]; omega) | ((try simp only [push_cast]); (with_reducible first | apply sel_lt | apply sel_ge); (focus decide); (focus (simp only [push_cast]; omega))))) only [push_cast, ↓reduceIte, Nat.reduceEqDiff, Nat.reduceBEq, Nat.reduceAdd, Nat.reduceSub, Int.reduceToNat, *] <;> with_reducible exact rfl)); (focus (simp (disch := (first | omega | (simp only [push_cast]; done) | (simp only [push_cast]; omega) | ((try simp only [push_cast]); (with_reducible first | apply sel_lt | apply sel_ge); (focus decide); (focus (simp only [push_cast]; omega))))) only [push_cast, ↓reduceIte, Nat.reduceEqDiff, Nat.reduceBEq, Nat.reduceAdd, Nat.reduceSub, Int.reduceToNat, *] <;> with_reducible exact rfl)); (focus (simp (disch := (first | omega | (simp only [push_cast]; done) | (simp only [push_cast]; omega) | ((try simp only [push_cast]); (with_reducible first | apply sel_lt | apply sel_ge); (focus decide); (focus (simp only [push_cast]; omega))))) only [push_cast, ↓reduceIte, Nat.reduceEqDiff, Nat.reduceBEq, Nat.reduceAdd, Nat.reduceSub, Int.reduceToNat, *] <;> with_reducible exact rfl)); (focus assumption); (focus omega); (focus (first | trivial | omega)); (focus (first | rfl | (simp only [push_cast, ↓reduceIte, effOk, touch, refsOf, List.flatMap_cons, List.flatMap_nil]))); intro v pp hv hok hpp1 hpp2))
  all_goals ((with_reducible apply i_fin1 (by first | exact .inl rfl | exact .inr rfl)); (focus (simp (disch := (first | omega | (simp only [push_cast]; done) | (simp only [push_cast]; omega) | ((try simp only [push_cast]); (with_reducible first | apply sel_lt | apply sel_ge); (focus decide); (focus (simp only [push_cast]; omega))))) only [push_cast, ↓reduceIte, Nat.reduceEqDiff, Nat.reduceBEq, Nat.reduceAdd, Nat.reduceSub, Int.reduceToNat, rep_iv, rep_sv, rep_w, rep_i3, rep_i4, *] <;> with_reducible exact rfl)); (focus (simp (disch := (first | omega | (simp only [push_cast]; done) | (simp only [push_cast]; omega) | ((try simp only [push_cast]); (with_reducible first | apply sel_lt | apply sel_ge); (focus decide); (focus (simp only [push_cast]; omega))))) only [push_cast, ↓reduceIte, Nat.reduceEqDiff, Nat.reduceBEq, Nat.reduceAdd, Nat.reduceSub, Int.reduceToNat, rep_iv, rep_sv, rep_w, rep_i3, rep_i4, *] <;> with_reducible exact rfl)))
  all_goals (first | omega | assumption | (intro h; first | omega | rfl | (simp; omega)))
noncomputable def Φodd : FunIO := Classical.choose odd_ex
theorem odd_io : SoundIO Tryd.prog 91 Φodd := (Classical.choose_spec odd_ex).1
theorem odd_drw : Drw2 101 Φodd 900000000 1 (fun v : Bool => PV.val (.bool v)) (fun n => 0 ≤ n ∧ n ≤ 1000000) (fun n v => n ≤ 0 → v = false) := (Classical.choose_spec odd_ex).2
end Go.Proofs.YtenldjifipnjpaaDoor
namespace Go.Proofs.YtenldjifipnjpaaDoor
open Go.RowKit
set_option linter.all false
def glueB (g : I4) : Bool := inB g.1 0 1000 && inB g.2.1 0 1000 && inB g.2.2.1 0 g.1 && inB g.2.2.2 0 1
def φGlueV : Fun := F1 dI4 fun g => some (bv (glueB g))
theorem φGlueV_ap {a b c d : Int} : φGlueV [.agg [.val (.int .i64 a), .val (.int .i64 b), .val (.int .i64 c), .val (.int .i64 d)]] = some (.val (.bool (glueB (a, b, c, d)))) := F1_ap (A := dI4) (a, b, c, d)
noncomputable def GGl : Ctx := ⟨fun f => if f = 65 then some φIn else none, fun f => none⟩
theorem GGl_ok : SoundΓ Tryd.prog GGl := ⟨(fun f φ h => by
  unfold GGl at h
  dsimp only at h
  split at h
  · rename_i hf; cases h; subst hf; exact ⟨⟨_, Tryd.func65, rfl, rfl⟩, in_ok⟩
  cases h), (fun f φ h => by
  unfold GGl at h
  dsimp only at h
  cases h)⟩
theorem GGl_65 (ob : Objs) (ps : List PV) : evCall GGl ob 65 ps = (ps.mapM (reify false 0 ob fuel)).bind φIn := by
  have h : GGl.fn 65 = some φIn := by simp [GGl]
  unfold evCall
  rw [h]
  cases ps.mapM (reify false 0 ob fuel) <;> rfl
set_option maxHeartbeats 4000000 in
theorem implGlueV_ok : Sound Tryd.prog 59 φGlueV := by
  refine sound_pq mixed GGl_ok Tryd.func59 rfl 23 rfl [.tmp 2] rfl (by kernel_rfl) fun ps r hr => ?_
  obtain ⟨⟨a, b, c, d⟩, rfl, hr⟩ := F1_some hr
  cases hr
  refine ⟨by simp, ?_⟩
  simp only [dIs, dUs, dSs, dI_e, dU_e, dB_e, dS_e, dFn_e, dL_e, dA2_e, dA3_e, dA4_e, dA5_e]
  have ggl_c65 := GGl_65; have ap := φIn_ap
  repeat' (first | (with_reducible first | apply i_seq | apply i_block | apply i_skip | apply i_exit | apply i_ret | apply i_kS | apply i_kSx | apply i_kSr | apply i_kL | apply i_kLx | apply i_kLr | apply i_kB | apply i_kBr | apply i_kBs | apply i_nil) | ((with_reducible apply i_region); (focus (simp only [List.map_cons, List.map_nil] <;> exact rfl))) | ((with_reducible apply i_draw); (focus (simp only [List.map_cons, List.map_nil] <;> exact rfl)); (focus (decide +kernel))) | ((with_reducible apply i_kBo); (focus rfl)) | ((first | ((with_reducible apply i_V); (focus rfl); (focus rfl); (focus rfl)) | ((with_reducible apply i_E); (focus rfl); (focus (first | rfl | (simp only [push_cast, ↓reduceIte, effOk, touch, refsOf, List.flatMap_cons, List.flatMap_nil])))) | ((with_reducible apply i_S); (focus rfl); (focus (first | rfl | (simp only [push_cast, ↓reduceIte, effOk, touch, refsOf, List.flatMap_cons, List.flatMap_nil])))) | ((with_reducible apply i_Vq); (focus rfl); (focus rfl)) | ((with_reducible apply i_Vp); (focus rfl); (focus rfl); (focus rfl)) | (with_reducible first | apply i_Gb | apply i_cond)); (focus (simp (disch := (first | omega | (simp only [push_cast]; done) | (simp only [push_cast]; omega) | ((try simp only [push_cast]); (with_reducible first | apply sel_lt | apply sel_ge); (focus decide); (focus (simp only [push_cast]; omega))))) only [push_cast, ↓reduceIte, Nat.reduceEqDiff, Nat.reduceBEq, Nat.reduceAdd, Nat.reduceSub, Int.reduceToNat, *] <;> with_reducible exact rfl)); all_goals try (intro hX; first | (cases hX; done) | ((with_reducible first | have hX0 : true = true := hX | have hX0 : false = false := hX); clear hX0 hX) | ((try simp only [decide_eq_true_eq, decide_eq_false_iff_not, Bool.not_eq_true', Bool.not_eq_false'] at hX); (try have hXb := inB_iff.1 hX)))))
  all_goals ((first | apply i_end | apply i_endN); simp (disch := (first | omega | (simp only [push_cast]; done) | (simp only [push_cast]; omega) | ((try simp only [push_cast]); (with_reducible first | apply sel_lt | apply sel_ge); (focus decide); (focus (simp only [push_cast]; omega))))) only [push_cast, ↓reduceIte, Nat.reduceEqDiff, Nat.reduceBEq, Nat.reduceAdd, Nat.reduceSub, Int.reduceToNat, *])
  all_goals simp_all [glueB]
noncomputable def GAl : Ctx := ⟨fun f => if f = 59 then some φGlueV else none, fun f => none⟩
theorem GAl_ok : SoundΓ Tryd.prog GAl := ⟨(fun f φ h => by
  unfold GAl at h
  dsimp only at h
  split at h
  · rename_i hf; cases h; subst hf; exact ⟨⟨_, Tryd.func59, rfl, rfl⟩, implGlueV_ok⟩
  cases h), (fun f φ h => by
  unfold GAl at h
  dsimp only at h
  cases h)⟩
theorem GAl_59 (ob : Objs) (ps : List PV) : evCall GAl ob 59 ps = (ps.mapM (reify false 0 ob fuel)).bind φGlueV := by
  have h : GAl.fn 59 = some φGlueV := by simp [GAl]
  unfold evCall
  rw [h]
  cases ps.mapM (reify false 0 ob fuel) <;> rfl
def φTrue : Fun := F0 (some (bv true))
theorem φTrue_ap : φTrue [] = some (.val (.bool true)) := rfl
theorem alive_ok : Sound Tryd.prog 28 φTrue := by
  refine sound_pq mixed GAl_ok Tryd.func28 rfl 3 rfl [.tmp 0] rfl (by kernel_rfl) fun ps r hr => ?_
  obtain ⟨rfl, hr⟩ := F0_some hr
  cases hr
  refine ⟨by simp, ?_⟩
  have gal_c59 := GAl_59; have ap := @φGlueV_ap
  have e : glueB (4, 0, 0, 0) = true := rfl
  repeat' (first | (with_reducible first | apply i_seq | apply i_block | apply i_skip | apply i_exit | apply i_ret | apply i_kS | apply i_kSx | apply i_kSr | apply i_kL | apply i_kLx | apply i_kLr | apply i_kB | apply i_kBr | apply i_kBs | apply i_nil) | ((with_reducible apply i_region); (focus (simp only [List.map_cons, List.map_nil] <;> exact rfl))) | ((with_reducible apply i_draw); (focus (simp only [List.map_cons, List.map_nil] <;> exact rfl)); (focus (decide +kernel))) | ((with_reducible apply i_kBo); (focus rfl)) | ((first | ((with_reducible apply i_V); (focus rfl); (focus rfl); (focus rfl)) | ((with_reducible apply i_E); (focus rfl); (focus (first | rfl | (simp only [push_cast, ↓reduceIte, effOk, touch, refsOf, List.flatMap_cons, List.flatMap_nil])))) | ((with_reducible apply i_S); (focus rfl); (focus (first | rfl | (simp only [push_cast, ↓reduceIte, effOk, touch, refsOf, List.flatMap_cons, List.flatMap_nil])))) | ((with_reducible apply i_Vq); (focus rfl); (focus rfl)) | ((with_reducible apply i_Vp); (focus rfl); (focus rfl); (focus rfl)) | (with_reducible first | apply i_Gb | apply i_cond)); (focus (simp (disch := (first | omega | (simp only [push_cast]; done) | (simp only [push_cast]; omega) | ((try simp only [push_cast]); (with_reducible first | apply sel_lt | apply sel_ge); (focus decide); (focus (simp only [push_cast]; omega))))) only [push_cast, ↓reduceIte, Nat.reduceEqDiff, Nat.reduceBEq, Nat.reduceAdd, Nat.reduceSub, Int.reduceToNat, *] <;> with_reducible exact rfl)); all_goals try (intro hX; first | (cases hX; done) | ((with_reducible first | have hX0 : true = true := hX | have hX0 : false = false := hX); clear hX0 hX) | ((try simp only [decide_eq_true_eq, decide_eq_false_iff_not, Bool.not_eq_true', Bool.not_eq_false'] at hX); (try have hXb := inB_iff.1 hX)))))
  all_goals ((first | apply i_end | apply i_endN); simp (disch := (first | omega | (simp only [push_cast]; done) | (simp only [push_cast]; omega) | ((try simp only [push_cast]); (with_reducible first | apply sel_lt | apply sel_ge); (focus decide); (focus (simp only [push_cast]; omega))))) only [push_cast, ↓reduceIte, Nat.reduceEqDiff, Nat.reduceBEq, Nat.reduceAdd, Nat.reduceSub, Int.reduceToNat, *])
noncomputable def GRd : Ctx := ⟨fun f => none, fun f => if f = 55 then some Φpick else if f = 91 then some Φodd else none⟩
theorem GRd_ok : SoundΓ Tryd.prog GRd := ⟨(fun f φ h => by
  unfold GRd at h
  dsimp only at h
  cases h), (fun f φ h => by
  unfold GRd at h
  dsimp only at h
  split at h
  · rename_i hf; cases h; subst hf; exact ⟨⟨_, Tryd.func55, rfl, rfl⟩, pick_io⟩
  split at h
  · rename_i hf; cases h; subst hf; exact ⟨⟨_, Tryd.func91, rfl, rfl⟩, odd_io⟩
  cases h)⟩
end Go.Proofs.YtenldjifipnjpaaDoor
namespace Go.Proofs.YtenldjifipnjpaaDoor
open Go.RowKit
set_option linter.all false
abbrev EStr (s : ByteArray) : PV := .val (.string s)
set_option maxHeartbeats 8000000 in
theorem text_ex : ∃ Φ : FunIO, SoundIO Tryd.prog 98 Φ ∧ Drw2 101 Φ 700000000 15 EStr (fun n => 0 ≤ n ∧ n ≤ 1000) (fun _ s => s.size ≤ 21) := by
  refine drw2_of mixed GRd_ok Tryd.func98 rfl 39 rfl [.tmp 4] rfl (by kernel_rfl) (by simp) _ _ _ _ _ _ fun code p n hok hp hn => ?_
  have hp0 := hok.pos
  repeat' (first | (first | (with_reducible first | apply i_seq | apply i_block | apply i_skip | apply i_exit | apply i_ret | apply i_kS | apply i_kSx | apply i_kSr | apply i_kL | apply i_kLx | apply i_kLr | apply i_kB | apply i_kBr | apply i_kBs | apply i_nil) | ((with_reducible apply i_region); (focus (simp only [List.map_cons, List.map_nil] <;> exact rfl))) | ((with_reducible apply i_draw); (focus (simp only [List.map_cons, List.map_nil] <;> exact rfl)); (focus (decide +kernel))) | ((with_reducible apply i_kBo); (focus rfl)) | ((first | ((with_reducible apply i_V); (focus rfl); (focus rfl); (focus rfl)) | ((with_reducible apply i_E); (focus rfl); (focus (first | rfl | (simp only [push_cast, ↓reduceIte, effOk, touch, refsOf, List.flatMap_cons, List.flatMap_nil])))) | ((with_reducible apply i_S); (focus rfl); (focus (first | rfl | (simp only [push_cast, ↓reduceIte, effOk, touch, refsOf, List.flatMap_cons, List.flatMap_nil])))) | ((with_reducible apply i_Vq); (focus rfl); (focus rfl)) | ((with_reducible apply i_Vp); (focus rfl); (focus rfl); (focus rfl)) | (with_reducible first | apply i_Gb | apply i_cond)); (focus (simp (disch := (first | omega | (simp only [push_cast]; done) | (simp only [push_cast]; omega) | ((try simp only [push_cast]); (with_reducible first | apply sel_lt | apply sel_ge); (focus decide); (focus (simp only [push_cast]; omega))))) only [push_cast, ↓reduceIte, Nat.reduceEqDiff, Nat.reduceBEq, Nat.reduceAdd, Nat.reduceSub, Int.reduceToNat, *] <;> with_reducible exact rfl)); all_goals try (intro hX; first | (cases hX; done) | ((with_reducible first | have hX0 : true = true := hX | have hX0 : false = false := hX); clear hX0 hX) | ((try simp only [decide_eq_true_eq, decide_eq_false_iff_not, Bool.not_eq_true', Bool.not_eq_false'] at hX); (try have hXb := inB_iff.1 hX))))) | ((with_reducible apply i_drw2 pick_drw (fun _ _ => rfl)); (focus rfl); (focus (simp (disch := (first | omega | (simp only [push_cast]; done) | (simp only [push_cast]; omega) | ((try simp only [push_cast]); (with_reducible first | apply sel_lt | apply sel_ge); (focus decide); (focus (simp only [push_cast]; omega))))) only [push_cast, ↓reduceIte, Nat.reduceEqDiff, Nat.reduceBEq, Nat.reduceAdd, Nat.reduceSub, Int.reduceToNat, *] <;> with_reducible exact rfl)); (focus (simp (disch := (first | omega | (simp only [push_cast]; done) | (simp only [push_cast]; omega) | ((try simp only [push_cast]); (with_reducible first | apply sel_lt | apply sel_ge); (focus decide); (focus (simp only [push_cast]; omega))))) only [push_cast, ↓reduceIte, Nat.reduceEqDiff, Nat.reduceBEq, Nat.reduceAdd, Nat.reduceSub, Int.reduceToNat, *] <;> with_reducible exact rfl)); (focus (simp (disch := (first | omega | (simp only [push_cast]; done) | (simp only [push_cast]; omega) | ((try simp only [push_cast]); (with_reducible first | apply sel_lt | apply sel_ge); (focus decide); (focus (simp only [push_cast]; omega))))) only [push_cast, ↓reduceIte, Nat.reduceEqDiff, Nat.reduceBEq, Nat.reduceAdd, Nat.reduceSub, Int.reduceToNat, *] <;> with_reducible exact rfl)); (focus assumption); (focus omega); (focus (first | trivial | omega)); (focus (first | rfl | (simp only [push_cast, ↓reduceIte, effOk, touch, refsOf, List.flatMap_cons, List.flatMap_nil]))); intro v pp hv hok hpp1 hpp2) | ((with_reducible apply i_drw2 odd_drw (fun _ _ => rfl)); (focus rfl); (focus (simp (disch := (first | omega | (simp only [push_cast]; done) | (simp only [push_cast]; omega) | ((try simp only [push_cast]); (with_reducible first | apply sel_lt | apply sel_ge); (focus decide); (focus (simp only [push_cast]; omega))))) only [push_cast, ↓reduceIte, Nat.reduceEqDiff, Nat.reduceBEq, Nat.reduceAdd, Nat.reduceSub, Int.reduceToNat, *] <;> with_reducible exact rfl)); (focus (simp (disch := (first | omega | (simp only [push_cast]; done) | (simp only [push_cast]; omega) | ((try simp only [push_cast]); (with_reducible first | apply sel_lt | apply sel_ge); (focus decide); (focus (simp only [push_cast]; omega))))) only [push_cast, ↓reduceIte, Nat.reduceEqDiff, Nat.reduceBEq, Nat.reduceAdd, Nat.reduceSub, Int.reduceToNat, *] <;> with_reducible exact rfl)); (focus (simp (disch := (first | omega | (simp only [push_cast]; done) | (simp only [push_cast]; omega) | ((try simp only [push_cast]); (with_reducible first | apply sel_lt | apply sel_ge); (focus decide); (focus (simp only [push_cast]; omega))))) only [push_cast, ↓reduceIte, Nat.reduceEqDiff, Nat.reduceBEq, Nat.reduceAdd, Nat.reduceSub, Int.reduceToNat, *] <;> with_reducible exact rfl)); (focus assumption); (focus omega); (focus (first | trivial | omega)); (focus (first | rfl | (simp only [push_cast, ↓reduceIte, effOk, touch, refsOf, List.flatMap_cons, List.flatMap_nil]))); intro v pp hv hok hpp1 hpp2))
  all_goals try ((with_reducible apply i_fin1 (by first | exact .inl rfl | exact .inr rfl)); (focus (simp (disch := (first | omega | (simp only [push_cast]; done) | (simp only [push_cast]; omega) | ((try simp only [push_cast]); (with_reducible first | apply sel_lt | apply sel_ge); (focus decide); (focus (simp only [push_cast]; omega))))) only [push_cast, ↓reduceIte, Nat.reduceEqDiff, Nat.reduceBEq, Nat.reduceAdd, Nat.reduceSub, Int.reduceToNat, rep_iv, rep_sv, rep_w, rep_i3, rep_i4, *] <;> with_reducible exact rfl)); (focus (simp (disch := (first | omega | (simp only [push_cast]; done) | (simp only [push_cast]; omega) | ((try simp only [push_cast]); (with_reducible first | apply sel_lt | apply sel_ge); (focus decide); (focus (simp only [push_cast]; omega))))) only [push_cast, ↓reduceIte, Nat.reduceEqDiff, Nat.reduceBEq, Nat.reduceAdd, Nat.reduceSub, Int.reduceToNat, rep_iv, rep_sv, rep_w, rep_i3, rep_i4, *] <;> with_reducible exact rfl)))
  all_goals try (first | omega | assumption | exact sel_all (p := fun a : ByteArray => a.size ≤ 21) (by decide) (by simp only [List.length_cons, List.length_nil]; omega))
  refine i_loop (α := ByteArray × Int × Int × Nat) mixed (fun s => [(0, .own 0 2 0 0), (5, .val (.string s.1)), (6, iv s.2.1)])
    (fun s => [(0, rdC 101 code s.2.2.1)]) (fun s => s.2.2.2)
    (fun s => okRd code s.2.2.1 ∧ p ≤ s.2.2.1 ∧ s.2.2.1 + s.2.1 ≤ p + 14 ∧ s.1.size + s.2.1 ≤ 10 ∧ 0 ≤ s.2.1 ∧ 0 < s.2.2.2) (fun s => s.2.1.toNat) (by kernel_rfl) (⟨#[]⟩, 1 + v, pp, 1) ⟨hok, ?_⟩ ?_ ?_ rfl ?_
  · have h0 : ((⟨#[]⟩ : ByteArray)).size = 0 := rfl
    dsimp only; omega
  · simp (disch := (first | omega | (simp only [push_cast]; done) | (simp only [push_cast]; omega) | ((try simp only [push_cast]); (with_reducible first | apply sel_lt | apply sel_ge); (focus decide); (focus (simp only [push_cast]; omega))))) only [push_cast, ↓reduceIte, Nat.reduceEqDiff, Nat.reduceBEq, Nat.reduceAdd, Nat.reduceSub, Int.reduceToNat, List.length_append, *]
  · simp (disch := (first | omega | (simp only [push_cast]; done) | (simp only [push_cast]; omega) | ((try simp only [push_cast]); (with_reducible first | apply sel_lt | apply sel_ge); (focus decide); (focus (simp only [push_cast]; omega))))) only [push_cast, ↓reduceIte, Nat.reduceEqDiff, Nat.reduceBEq, Nat.reduceAdd, Nat.reduceSub, Int.reduceToNat, List.length_append, *]
  rintro ⟨s, k, q, y⟩ ⟨okq, i1, i2, i3, i4, i5⟩
  dsimp only at okq i1 i2 i3 i4 i5
  repeat' (first | (first | (with_reducible first | apply i_seq | apply i_block | apply i_skip | apply i_exit | apply i_ret | apply i_kS | apply i_kSx | apply i_kSr | apply i_kL | apply i_kLx | apply i_kLr | apply i_kB | apply i_kBr | apply i_kBs | apply i_nil) | ((with_reducible apply i_region); (focus (simp only [List.map_cons, List.map_nil] <;> exact rfl))) | ((with_reducible apply i_draw); (focus (simp only [List.map_cons, List.map_nil] <;> exact rfl)); (focus (decide +kernel))) | ((with_reducible apply i_kBo); (focus rfl)) | ((first | ((with_reducible apply i_V); (focus rfl); (focus rfl); (focus rfl)) | ((with_reducible apply i_E); (focus rfl); (focus (first | rfl | (simp only [push_cast, ↓reduceIte, effOk, touch, refsOf, List.flatMap_cons, List.flatMap_nil])))) | ((with_reducible apply i_S); (focus rfl); (focus (first | rfl | (simp only [push_cast, ↓reduceIte, effOk, touch, refsOf, List.flatMap_cons, List.flatMap_nil])))) | ((with_reducible apply i_Vq); (focus rfl); (focus rfl)) | ((with_reducible apply i_Vp); (focus rfl); (focus rfl); (focus rfl)) | (with_reducible first | apply i_Gb | apply i_cond)); (focus (simp (disch := (first | omega | (simp only [push_cast]; done) | (simp only [push_cast]; omega) | ((try simp only [push_cast]); (with_reducible first | apply sel_lt | apply sel_ge); (focus decide); (focus (simp only [push_cast]; omega))))) only [push_cast, ↓reduceIte, Nat.reduceEqDiff, Nat.reduceBEq, Nat.reduceAdd, Nat.reduceSub, Int.reduceToNat, *] <;> with_reducible exact rfl)); all_goals try (intro hX; first | (cases hX; done) | ((with_reducible first | have hX0 : true = true := hX | have hX0 : false = false := hX); clear hX0 hX) | ((try simp only [decide_eq_true_eq, decide_eq_false_iff_not, Bool.not_eq_true', Bool.not_eq_false'] at hX); (try have hXb := inB_iff.1 hX))))) | ((with_reducible apply i_drw2 pick_drw (fun _ _ => rfl)); (focus rfl); (focus (simp (disch := (first | omega | (simp only [push_cast]; done) | (simp only [push_cast]; omega) | ((try simp only [push_cast]); (with_reducible first | apply sel_lt | apply sel_ge); (focus decide); (focus (simp only [push_cast]; omega))))) only [push_cast, ↓reduceIte, Nat.reduceEqDiff, Nat.reduceBEq, Nat.reduceAdd, Nat.reduceSub, Int.reduceToNat, *] <;> with_reducible exact rfl)); (focus (simp (disch := (first | omega | (simp only [push_cast]; done) | (simp only [push_cast]; omega) | ((try simp only [push_cast]); (with_reducible first | apply sel_lt | apply sel_ge); (focus decide); (focus (simp only [push_cast]; omega))))) only [push_cast, ↓reduceIte, Nat.reduceEqDiff, Nat.reduceBEq, Nat.reduceAdd, Nat.reduceSub, Int.reduceToNat, *] <;> with_reducible exact rfl)); (focus (simp (disch := (first | omega | (simp only [push_cast]; done) | (simp only [push_cast]; omega) | ((try simp only [push_cast]); (with_reducible first | apply sel_lt | apply sel_ge); (focus decide); (focus (simp only [push_cast]; omega))))) only [push_cast, ↓reduceIte, Nat.reduceEqDiff, Nat.reduceBEq, Nat.reduceAdd, Nat.reduceSub, Int.reduceToNat, *] <;> with_reducible exact rfl)); (focus assumption); (focus omega); (focus (first | trivial | omega)); (focus (first | rfl | (simp only [push_cast, ↓reduceIte, effOk, touch, refsOf, List.flatMap_cons, List.flatMap_nil]))); intro v pp hv hok hpp1 hpp2))
  all_goals try ((with_reducible apply i_fin1 (by first | exact .inl rfl | exact .inr rfl)); (focus (simp (disch := (first | omega | (simp only [push_cast]; done) | (simp only [push_cast]; omega) | ((try simp only [push_cast]); (with_reducible first | apply sel_lt | apply sel_ge); (focus decide); (focus (simp only [push_cast]; omega))))) only [push_cast, ↓reduceIte, Nat.reduceEqDiff, Nat.reduceBEq, Nat.reduceAdd, Nat.reduceSub, Int.reduceToNat, rep_iv, rep_sv, rep_w, rep_i3, rep_i4, *] <;> with_reducible exact rfl)); (focus (simp (disch := (first | omega | (simp only [push_cast]; done) | (simp only [push_cast]; omega) | ((try simp only [push_cast]); (with_reducible first | apply sel_lt | apply sel_ge); (focus decide); (focus (simp only [push_cast]; omega))))) only [push_cast, ↓reduceIte, Nat.reduceEqDiff, Nat.reduceBEq, Nat.reduceAdd, Nat.reduceSub, Int.reduceToNat, rep_iv, rep_sv, rep_w, rep_i3, rep_i4, *] <;> with_reducible exact rfl)))
  all_goals try (first | omega | assumption)
  refine ⟨(s ++ bytesOf [IntKind.u8.wrap (97 + v)], k - 1, pp, y + 1), ⟨hok, ?_⟩, ?_, ?_, ?_, rfl⟩
  · simp only [ByteArray.size_append, size_bytesOf, List.length_cons, List.length_nil]; omega
  · dsimp only; omega
  · simp (disch := (first | omega | (simp only [push_cast]; done) | (simp only [push_cast]; omega) | ((try simp only [push_cast]); (with_reducible first | apply sel_lt | apply sel_ge); (focus decide); (focus (simp only [push_cast]; omega))))) only [push_cast, ↓reduceIte, Nat.reduceEqDiff, Nat.reduceBEq, Nat.reduceAdd, Nat.reduceSub, Int.reduceToNat, List.length_append, *]
  · simp (disch := (first | omega | (simp only [push_cast]; done) | (simp only [push_cast]; omega) | ((try simp only [push_cast]); (with_reducible first | apply sel_lt | apply sel_ge); (focus decide); (focus (simp only [push_cast]; omega))))) only [push_cast, ↓reduceIte, Nat.reduceEqDiff, Nat.reduceBEq, Nat.reduceAdd, Nat.reduceSub, Int.reduceToNat, List.length_append, *]
noncomputable def Φtext : FunIO := Classical.choose text_ex
theorem text_io : SoundIO Tryd.prog 98 Φtext := (Classical.choose_spec text_ex).1
theorem text_drw : Drw2 101 Φtext 700000000 15 EStr (fun n => 0 ≤ n ∧ n ≤ 1000) (fun _ s => s.size ≤ 21) := (Classical.choose_spec text_ex).2
abbrev ESs (l : LS) : PV := .lst true 1 (l.map fun s => PV.val (.string s))
def okT (n : Nat) (l : LS) : Prop := l.length ≤ n ∧ ∀ s ∈ l, s.size ≤ 21
theorem okT_app {l : LS} {a : ByteArray} {m n : Nat} (h : l.length ≤ m) (hn : m < n) (h1 : ∀ s ∈ l, s.size ≤ 21) (h2 : a.size ≤ 21) : okT n (l ++ [a]) := by
  refine ⟨by simp; omega, fun x hx => ?_⟩
  rcases List.mem_append.1 hx with hx | hx
  · exact h1 x hx
  · simp only [List.mem_singleton] at hx
    subst hx
    exact h2
noncomputable def GRw : Ctx := ⟨fun f => none, fun f => if f = 55 then some Φpick else if f = 91 then some Φodd else if f = 98 then some Φtext else none⟩
theorem GRw_ok : SoundΓ Tryd.prog GRw := ⟨(fun f φ h => by
  unfold GRw at h
  dsimp only at h
  cases h), (fun f φ h => by
  unfold GRw at h
  dsimp only at h
  split at h
  · rename_i hf; cases h; subst hf; exact ⟨⟨_, Tryd.func55, rfl, rfl⟩, pick_io⟩
  split at h
  · rename_i hf; cases h; subst hf; exact ⟨⟨_, Tryd.func91, rfl, rfl⟩, odd_io⟩
  split at h
  · rename_i hf; cases h; subst hf; exact ⟨⟨_, Tryd.func98, rfl, rfl⟩, text_io⟩
  cases h)⟩
set_option maxHeartbeats 8000000 in
theorem words_ex : ∃ Φ : FunIO, SoundIO Tryd.prog 75 Φ ∧ Drw2 101 Φ 600000000 200 ESs (fun n => 0 ≤ n ∧ n ≤ 1000) (fun _ l => okT 13 l) := by
  refine drw2_of mixed GRw_ok Tryd.func75 rfl 37 rfl [.tmp 4] rfl (by kernel_rfl) (by simp) _ _ _ _ _ _ fun code p n hok hp hn => ?_
  have hp0 := hok.pos
  repeat' (first | (first | (with_reducible first | apply i_seq | apply i_block | apply i_skip | apply i_exit | apply i_ret | apply i_kS | apply i_kSx | apply i_kSr | apply i_kL | apply i_kLx | apply i_kLr | apply i_kB | apply i_kBr | apply i_kBs | apply i_nil) | ((with_reducible apply i_region); (focus (simp only [List.map_cons, List.map_nil] <;> exact rfl))) | ((with_reducible apply i_draw); (focus (simp only [List.map_cons, List.map_nil] <;> exact rfl)); (focus (decide +kernel))) | ((with_reducible apply i_kBo); (focus rfl)) | ((first | ((with_reducible apply i_V); (focus rfl); (focus rfl); (focus rfl)) | ((with_reducible apply i_E); (focus rfl); (focus (first | rfl | (simp only [push_cast, ↓reduceIte, effOk, touch, refsOf, List.flatMap_cons, List.flatMap_nil])))) | ((with_reducible apply i_S); (focus rfl); (focus (first | rfl | (simp only [push_cast, ↓reduceIte, effOk, touch, refsOf, List.flatMap_cons, List.flatMap_nil])))) | ((with_reducible apply i_Vq); (focus rfl); (focus rfl)) | ((with_reducible apply i_Vp); (focus rfl); (focus rfl); (focus rfl)) | (with_reducible first | apply i_Gb | apply i_cond)); (focus (simp (disch := (first | omega | (simp only [push_cast]; done) | (simp only [push_cast]; omega) | ((try simp only [push_cast]); (with_reducible first | apply sel_lt | apply sel_ge); (focus decide); (focus (simp only [push_cast]; omega))))) only [push_cast, ↓reduceIte, Nat.reduceEqDiff, Nat.reduceBEq, Nat.reduceAdd, Nat.reduceSub, Int.reduceToNat, *] <;> with_reducible exact rfl)); all_goals try (intro hX; first | (cases hX; done) | ((with_reducible first | have hX0 : true = true := hX | have hX0 : false = false := hX); clear hX0 hX) | ((try simp only [decide_eq_true_eq, decide_eq_false_iff_not, Bool.not_eq_true', Bool.not_eq_false'] at hX); (try have hXb := inB_iff.1 hX))))) | ((with_reducible apply i_drw2 pick_drw (fun _ _ => rfl)); (focus rfl); (focus (simp (disch := (first | omega | (simp only [push_cast]; done) | (simp only [push_cast]; omega) | ((try simp only [push_cast]); (with_reducible first | apply sel_lt | apply sel_ge); (focus decide); (focus (simp only [push_cast]; omega))))) only [push_cast, ↓reduceIte, Nat.reduceEqDiff, Nat.reduceBEq, Nat.reduceAdd, Nat.reduceSub, Int.reduceToNat, *] <;> with_reducible exact rfl)); (focus (simp (disch := (first | omega | (simp only [push_cast]; done) | (simp only [push_cast]; omega) | ((try simp only [push_cast]); (with_reducible first | apply sel_lt | apply sel_ge); (focus decide); (focus (simp only [push_cast]; omega))))) only [push_cast, ↓reduceIte, Nat.reduceEqDiff, Nat.reduceBEq, Nat.reduceAdd, Nat.reduceSub, Int.reduceToNat, *] <;> with_reducible exact rfl)); (focus (simp (disch := (first | omega | (simp only [push_cast]; done) | (simp only [push_cast]; omega) | ((try simp only [push_cast]); (with_reducible first | apply sel_lt | apply sel_ge); (focus decide); (focus (simp only [push_cast]; omega))))) only [push_cast, ↓reduceIte, Nat.reduceEqDiff, Nat.reduceBEq, Nat.reduceAdd, Nat.reduceSub, Int.reduceToNat, *] <;> with_reducible exact rfl)); (focus assumption); (focus omega); (focus (first | trivial | omega)); (focus (first | rfl | (simp only [push_cast, ↓reduceIte, effOk, touch, refsOf, List.flatMap_cons, List.flatMap_nil]))); intro v pp hv hok hpp1 hpp2) | ((with_reducible apply i_drw2 odd_drw (fun _ _ => rfl)); (focus rfl); (focus (simp (disch := (first | omega | (simp only [push_cast]; done) | (simp only [push_cast]; omega) | ((try simp only [push_cast]); (with_reducible first | apply sel_lt | apply sel_ge); (focus decide); (focus (simp only [push_cast]; omega))))) only [push_cast, ↓reduceIte, Nat.reduceEqDiff, Nat.reduceBEq, Nat.reduceAdd, Nat.reduceSub, Int.reduceToNat, *] <;> with_reducible exact rfl)); (focus (simp (disch := (first | omega | (simp only [push_cast]; done) | (simp only [push_cast]; omega) | ((try simp only [push_cast]); (with_reducible first | apply sel_lt | apply sel_ge); (focus decide); (focus (simp only [push_cast]; omega))))) only [push_cast, ↓reduceIte, Nat.reduceEqDiff, Nat.reduceBEq, Nat.reduceAdd, Nat.reduceSub, Int.reduceToNat, *] <;> with_reducible exact rfl)); (focus (simp (disch := (first | omega | (simp only [push_cast]; done) | (simp only [push_cast]; omega) | ((try simp only [push_cast]); (with_reducible first | apply sel_lt | apply sel_ge); (focus decide); (focus (simp only [push_cast]; omega))))) only [push_cast, ↓reduceIte, Nat.reduceEqDiff, Nat.reduceBEq, Nat.reduceAdd, Nat.reduceSub, Int.reduceToNat, *] <;> with_reducible exact rfl)); (focus assumption); (focus omega); (focus (first | trivial | omega)); (focus (first | rfl | (simp only [push_cast, ↓reduceIte, effOk, touch, refsOf, List.flatMap_cons, List.flatMap_nil]))); intro v pp hv hok hpp1 hpp2) | ((with_reducible apply i_drw2 text_drw (fun _ _ => by simp only [push_cast, ↓reduceIte, Nat.reduceEqDiff, Nat.reduceBEq, Nat.reduceAdd, Nat.reduceSub, Int.reduceToNat])); (focus rfl); (focus (simp (disch := (first | omega | (simp only [push_cast]; done) | (simp only [push_cast]; omega) | ((try simp only [push_cast]); (with_reducible first | apply sel_lt | apply sel_ge); (focus decide); (focus (simp only [push_cast]; omega))))) only [push_cast, ↓reduceIte, Nat.reduceEqDiff, Nat.reduceBEq, Nat.reduceAdd, Nat.reduceSub, Int.reduceToNat, *] <;> with_reducible exact rfl)); (focus (simp (disch := (first | omega | (simp only [push_cast]; done) | (simp only [push_cast]; omega) | ((try simp only [push_cast]); (with_reducible first | apply sel_lt | apply sel_ge); (focus decide); (focus (simp only [push_cast]; omega))))) only [push_cast, ↓reduceIte, Nat.reduceEqDiff, Nat.reduceBEq, Nat.reduceAdd, Nat.reduceSub, Int.reduceToNat, *] <;> with_reducible exact rfl)); (focus (simp (disch := (first | omega | (simp only [push_cast]; done) | (simp only [push_cast]; omega) | ((try simp only [push_cast]); (with_reducible first | apply sel_lt | apply sel_ge); (focus decide); (focus (simp only [push_cast]; omega))))) only [push_cast, ↓reduceIte, Nat.reduceEqDiff, Nat.reduceBEq, Nat.reduceAdd, Nat.reduceSub, Int.reduceToNat, *] <;> with_reducible exact rfl)); (focus assumption); (focus omega); (focus (first | trivial | omega)); (focus (first | rfl | (simp only [push_cast, ↓reduceIte, effOk, touch, refsOf, List.flatMap_cons, List.flatMap_nil]))); intro v pp hv hok hpp1 hpp2))
  rename_i h0
  refine i_loop (α := LS × Int × Int × Nat × Nat) mixed (fun s => [(0, .own 0 2 0 0), (1, iv n), (5, .row s.2.2.2.1 1 0 s.1.length), (6, iv s.2.1)])
    (fun s => [(0, rdC 101 code s.2.2.1), (s.2.2.2.1, 9, 1, s.1.map fun s => PV.val (.string s))]) (fun s => s.2.2.2.2)
    (fun s => okRd code s.2.2.1 ∧ (∀ x ∈ s.1, x.size ≤ 21) ∧ p ≤ s.2.2.1 ∧ s.2.2.1 + 15 * s.2.1 ≤ p + 110 ∧ s.1.length + s.2.1 ≤ 8 ∧ 0 ≤ s.2.1 ∧ 0 < s.2.2.2.1 ∧ s.2.2.2.1 < s.2.2.2.2) (fun s => s.2.1.toNat) (by kernel_rfl) ([], v, pp, 1, 2) ⟨hok, by simp, ?_⟩ ?_ ?_ rfl ?_
  · dsimp only [List.length_nil]; omega
  · simp (disch := (first | omega | (simp only [push_cast]; done) | (simp only [push_cast]; omega) | ((try simp only [push_cast]); (with_reducible first | apply sel_lt | apply sel_ge); (focus decide); (focus (simp only [push_cast]; omega))))) only [push_cast, ↓reduceIte, Nat.reduceEqDiff, Nat.reduceBEq, Nat.reduceAdd, Nat.reduceSub, Int.reduceToNat, List.length_append, *]
  · simp (disch := (first | omega | (simp only [push_cast]; done) | (simp only [push_cast]; omega) | ((try simp only [push_cast]); (with_reducible first | apply sel_lt | apply sel_ge); (focus decide); (focus (simp only [push_cast]; omega))))) only [push_cast, ↓reduceIte, Nat.reduceEqDiff, Nat.reduceBEq, Nat.reduceAdd, Nat.reduceSub, Int.reduceToNat, List.length_append, *]
  rintro ⟨l, k, q, x, y⟩ ⟨okq, hl, i1, i2, i3, i4, i5, i6⟩
  dsimp only at okq hl i1 i2 i3 i4 i5 i6
  clear hok h0
  repeat' (first | (first | (with_reducible first | apply i_seq | apply i_block | apply i_skip | apply i_exit | apply i_ret | apply i_kS | apply i_kSx | apply i_kSr | apply i_kL | apply i_kLx | apply i_kLr | apply i_kB | apply i_kBr | apply i_kBs | apply i_nil) | ((with_reducible apply i_region); (focus (simp only [List.map_cons, List.map_nil] <;> exact rfl))) | ((with_reducible apply i_draw); (focus (simp only [List.map_cons, List.map_nil] <;> exact rfl)); (focus (decide +kernel))) | ((with_reducible apply i_kBo); (focus rfl)) | ((first | ((with_reducible apply i_V); (focus rfl); (focus rfl); (focus rfl)) | ((with_reducible apply i_E); (focus rfl); (focus (first | rfl | (simp only [push_cast, ↓reduceIte, effOk, touch, refsOf, List.flatMap_cons, List.flatMap_nil])))) | ((with_reducible apply i_S); (focus rfl); (focus (first | rfl | (simp only [push_cast, ↓reduceIte, effOk, touch, refsOf, List.flatMap_cons, List.flatMap_nil])))) | ((with_reducible apply i_Vq); (focus rfl); (focus rfl)) | ((with_reducible apply i_Vp); (focus rfl); (focus rfl); (focus rfl)) | (with_reducible first | apply i_Gb | apply i_cond)); (focus (simp (disch := (first | omega | (simp only [push_cast]; done) | (simp only [push_cast]; omega) | ((try simp only [push_cast]); (with_reducible first | apply sel_lt | apply sel_ge); (focus decide); (focus (simp only [push_cast]; omega))))) only [push_cast, ↓reduceIte, Nat.reduceEqDiff, Nat.reduceBEq, Nat.reduceAdd, Nat.reduceSub, Int.reduceToNat, *] <;> with_reducible exact rfl)); all_goals try (intro hX; first | (cases hX; done) | ((with_reducible first | have hX0 : true = true := hX | have hX0 : false = false := hX); clear hX0 hX) | ((try simp only [decide_eq_true_eq, decide_eq_false_iff_not, Bool.not_eq_true', Bool.not_eq_false'] at hX); (try have hXb := inB_iff.1 hX))))) | ((with_reducible apply i_drw2 pick_drw (fun _ _ => rfl)); (focus rfl); (focus (simp (disch := (first | omega | (simp only [push_cast]; done) | (simp only [push_cast]; omega) | ((try simp only [push_cast]); (with_reducible first | apply sel_lt | apply sel_ge); (focus decide); (focus (simp only [push_cast]; omega))))) only [push_cast, ↓reduceIte, Nat.reduceEqDiff, Nat.reduceBEq, Nat.reduceAdd, Nat.reduceSub, Int.reduceToNat, *] <;> with_reducible exact rfl)); (focus (simp (disch := (first | omega | (simp only [push_cast]; done) | (simp only [push_cast]; omega) | ((try simp only [push_cast]); (with_reducible first | apply sel_lt | apply sel_ge); (focus decide); (focus (simp only [push_cast]; omega))))) only [push_cast, ↓reduceIte, Nat.reduceEqDiff, Nat.reduceBEq, Nat.reduceAdd, Nat.reduceSub, Int.reduceToNat, *] <;> with_reducible exact rfl)); (focus (simp (disch := (first | omega | (simp only [push_cast]; done) | (simp only [push_cast]; omega) | ((try simp only [push_cast]); (with_reducible first | apply sel_lt | apply sel_ge); (focus decide); (focus (simp only [push_cast]; omega))))) only [push_cast, ↓reduceIte, Nat.reduceEqDiff, Nat.reduceBEq, Nat.reduceAdd, Nat.reduceSub, Int.reduceToNat, *] <;> with_reducible exact rfl)); (focus assumption); (focus omega); (focus (first | trivial | omega)); (focus (first | rfl | (simp only [push_cast, ↓reduceIte, effOk, touch, refsOf, List.flatMap_cons, List.flatMap_nil]))); intro v pp hv hok hpp1 hpp2) | ((with_reducible apply i_drw2 odd_drw (fun _ _ => rfl)); (focus rfl); (focus (simp (disch := (first | omega | (simp only [push_cast]; done) | (simp only [push_cast]; omega) | ((try simp only [push_cast]); (with_reducible first | apply sel_lt | apply sel_ge); (focus decide); (focus (simp only [push_cast]; omega))))) only [push_cast, ↓reduceIte, Nat.reduceEqDiff, Nat.reduceBEq, Nat.reduceAdd, Nat.reduceSub, Int.reduceToNat, *] <;> with_reducible exact rfl)); (focus (simp (disch := (first | omega | (simp only [push_cast]; done) | (simp only [push_cast]; omega) | ((try simp only [push_cast]); (with_reducible first | apply sel_lt | apply sel_ge); (focus decide); (focus (simp only [push_cast]; omega))))) only [push_cast, ↓reduceIte, Nat.reduceEqDiff, Nat.reduceBEq, Nat.reduceAdd, Nat.reduceSub, Int.reduceToNat, *] <;> with_reducible exact rfl)); (focus (simp (disch := (first | omega | (simp only [push_cast]; done) | (simp only [push_cast]; omega) | ((try simp only [push_cast]); (with_reducible first | apply sel_lt | apply sel_ge); (focus decide); (focus (simp only [push_cast]; omega))))) only [push_cast, ↓reduceIte, Nat.reduceEqDiff, Nat.reduceBEq, Nat.reduceAdd, Nat.reduceSub, Int.reduceToNat, *] <;> with_reducible exact rfl)); (focus assumption); (focus omega); (focus (first | trivial | omega)); (focus (first | rfl | (simp only [push_cast, ↓reduceIte, effOk, touch, refsOf, List.flatMap_cons, List.flatMap_nil]))); intro v pp hv hok hpp1 hpp2) | ((with_reducible apply i_drw2 text_drw (fun _ _ => by simp only [push_cast, ↓reduceIte, Nat.reduceEqDiff, Nat.reduceBEq, Nat.reduceAdd, Nat.reduceSub, Int.reduceToNat])); (focus rfl); (focus (simp (disch := (first | omega | (simp only [push_cast]; done) | (simp only [push_cast]; omega) | ((try simp only [push_cast]); (with_reducible first | apply sel_lt | apply sel_ge); (focus decide); (focus (simp only [push_cast]; omega))))) only [push_cast, ↓reduceIte, Nat.reduceEqDiff, Nat.reduceBEq, Nat.reduceAdd, Nat.reduceSub, Int.reduceToNat, *] <;> with_reducible exact rfl)); (focus (simp (disch := (first | omega | (simp only [push_cast]; done) | (simp only [push_cast]; omega) | ((try simp only [push_cast]); (with_reducible first | apply sel_lt | apply sel_ge); (focus decide); (focus (simp only [push_cast]; omega))))) only [push_cast, ↓reduceIte, Nat.reduceEqDiff, Nat.reduceBEq, Nat.reduceAdd, Nat.reduceSub, Int.reduceToNat, *] <;> with_reducible exact rfl)); (focus (simp (disch := (first | omega | (simp only [push_cast]; done) | (simp only [push_cast]; omega) | ((try simp only [push_cast]); (with_reducible first | apply sel_lt | apply sel_ge); (focus decide); (focus (simp only [push_cast]; omega))))) only [push_cast, ↓reduceIte, Nat.reduceEqDiff, Nat.reduceBEq, Nat.reduceAdd, Nat.reduceSub, Int.reduceToNat, *] <;> with_reducible exact rfl)); (focus assumption); (focus omega); (focus (first | trivial | omega)); (focus (first | rfl | (simp only [push_cast, ↓reduceIte, effOk, touch, refsOf, List.flatMap_cons, List.flatMap_nil]))); intro v pp hv hok hpp1 hpp2))
  all_goals try ((with_reducible apply i_fin1 (by first | exact .inl rfl | exact .inr rfl)); (focus (simp (disch := (first | omega | (simp only [push_cast]; done) | (simp only [push_cast]; omega) | ((try simp only [push_cast]); (with_reducible first | apply sel_lt | apply sel_ge); (focus decide); (focus (simp only [push_cast]; omega))))) only [push_cast, ↓reduceIte, Nat.reduceEqDiff, Nat.reduceBEq, Nat.reduceAdd, Nat.reduceSub, Int.reduceToNat, rep_iv, rep_sv, rep_w, rep_i3, rep_i4, *] <;> with_reducible exact rfl)); (focus (simp (disch := (first | omega | (simp only [push_cast]; done) | (simp only [push_cast]; omega) | ((try simp only [push_cast]); (with_reducible first | apply sel_lt | apply sel_ge); (focus decide); (focus (simp only [push_cast]; omega))))) only [push_cast, ↓reduceIte, Nat.reduceEqDiff, Nat.reduceBEq, Nat.reduceAdd, Nat.reduceSub, Int.reduceToNat, rep_iv, rep_sv, rep_w, rep_i3, rep_i4, *] <;> with_reducible exact rfl)))
  all_goals try (first | omega | assumption | exact ⟨by omega, by assumption⟩ | exact okT_app (m := 12) (by omega) (by omega) (by assumption) (by assumption))
  · refine ⟨(l ++ [v], k - 1, pp, y + 1, y + 2), ⟨hok, (okT_app (m := 8) (n := 9) (by omega) (by omega) hl (by assumption)).2, ?_⟩, ?_, ?_, ?_, rfl⟩
    · simp only [List.length_append, List.length_cons, List.length_nil]; omega
    · dsimp only; omega
    all_goals simp (disch := (first | omega | (simp only [push_cast]; done) | (simp only [push_cast]; omega) | ((try simp only [push_cast]); (with_reducible first | apply sel_lt | apply sel_ge); (focus decide); (focus (simp only [push_cast]; omega))))) only [push_cast, ↓reduceIte, Nat.reduceEqDiff, Nat.reduceBEq, Nat.reduceAdd, Nat.reduceSub, Int.reduceToNat, List.length_append, *]
  refine i_loop (α := LS × Nat × Nat) mixed (fun s => [(0, .own 0 2 0 0), (5, .row s.2.1 1 0 s.1.length)])
    (fun s => [(0, rdC 101 code pp), (s.2.1, 9, 1, s.1.map fun s => PV.val (.string s))]) (fun s => s.2.2)
    (fun s => (∀ x ∈ s.1, x.size ≤ 21) ∧ s.1.length ≤ 13 ∧ 0 < s.2.1 ∧ s.2.1 < s.2.2) (fun s => 13 - s.1.length) (by kernel_rfl) (l, x, y) ⟨hl, ?_⟩ ?_ ?_ rfl ?_
  · dsimp only; omega
  · simp (disch := (first | omega | (simp only [push_cast]; done) | (simp only [push_cast]; omega) | ((try simp only [push_cast]); (with_reducible first | apply sel_lt | apply sel_ge); (focus decide); (focus (simp only [push_cast]; omega))))) only [push_cast, ↓reduceIte, Nat.reduceEqDiff, Nat.reduceBEq, Nat.reduceAdd, Nat.reduceSub, Int.reduceToNat, List.length_append, *]
  · simp (disch := (first | omega | (simp only [push_cast]; done) | (simp only [push_cast]; omega) | ((try simp only [push_cast]); (with_reducible first | apply sel_lt | apply sel_ge); (focus decide); (focus (simp only [push_cast]; omega))))) only [push_cast, ↓reduceIte, Nat.reduceEqDiff, Nat.reduceBEq, Nat.reduceAdd, Nat.reduceSub, Int.reduceToNat, List.length_append, *]
  rintro ⟨l2, x2, y2⟩ ⟨hl2, j1, j2, j3⟩
  dsimp only at hl2 j1 j2 j3
  clear hl
  repeat' (first | (first | (with_reducible first | apply i_seq | apply i_block | apply i_skip | apply i_exit | apply i_ret | apply i_kS | apply i_kSx | apply i_kSr | apply i_kL | apply i_kLx | apply i_kLr | apply i_kB | apply i_kBr | apply i_kBs | apply i_nil) | ((with_reducible apply i_region); (focus (simp only [List.map_cons, List.map_nil] <;> exact rfl))) | ((with_reducible apply i_draw); (focus (simp only [List.map_cons, List.map_nil] <;> exact rfl)); (focus (decide +kernel))) | ((with_reducible apply i_kBo); (focus rfl)) | ((first | ((with_reducible apply i_V); (focus rfl); (focus rfl); (focus rfl)) | ((with_reducible apply i_E); (focus rfl); (focus (first | rfl | (simp only [push_cast, ↓reduceIte, effOk, touch, refsOf, List.flatMap_cons, List.flatMap_nil])))) | ((with_reducible apply i_S); (focus rfl); (focus (first | rfl | (simp only [push_cast, ↓reduceIte, effOk, touch, refsOf, List.flatMap_cons, List.flatMap_nil])))) | ((with_reducible apply i_Vq); (focus rfl); (focus rfl)) | ((with_reducible apply i_Vp); (focus rfl); (focus rfl); (focus rfl)) | (with_reducible first | apply i_Gb | apply i_cond)); (focus (simp (disch := (first | omega | (simp only [push_cast]; done) | (simp only [push_cast]; omega) | ((try simp only [push_cast]); (with_reducible first | apply sel_lt | apply sel_ge); (focus decide); (focus (simp only [push_cast]; omega))))) only [push_cast, ↓reduceIte, Nat.reduceEqDiff, Nat.reduceBEq, Nat.reduceAdd, Nat.reduceSub, Int.reduceToNat, *] <;> with_reducible exact rfl)); all_goals try (intro hX; first | (cases hX; done) | ((with_reducible first | have hX0 : true = true := hX | have hX0 : false = false := hX); clear hX0 hX) | ((try simp only [decide_eq_true_eq, decide_eq_false_iff_not, Bool.not_eq_true', Bool.not_eq_false'] at hX); (try have hXb := inB_iff.1 hX))))) | ((with_reducible apply i_drw2 pick_drw (fun _ _ => rfl)); (focus rfl); (focus (simp (disch := (first | omega | (simp only [push_cast]; done) | (simp only [push_cast]; omega) | ((try simp only [push_cast]); (with_reducible first | apply sel_lt | apply sel_ge); (focus decide); (focus (simp only [push_cast]; omega))))) only [push_cast, ↓reduceIte, Nat.reduceEqDiff, Nat.reduceBEq, Nat.reduceAdd, Nat.reduceSub, Int.reduceToNat, *] <;> with_reducible exact rfl)); (focus (simp (disch := (first | omega | (simp only [push_cast]; done) | (simp only [push_cast]; omega) | ((try simp only [push_cast]); (with_reducible first | apply sel_lt | apply sel_ge); (focus decide); (focus (simp only [push_cast]; omega))))) only [push_cast, ↓reduceIte, Nat.reduceEqDiff, Nat.reduceBEq, Nat.reduceAdd, Nat.reduceSub, Int.reduceToNat, *] <;> with_reducible exact rfl)); (focus (simp (disch := (first | omega | (simp only [push_cast]; done) | (simp only [push_cast]; omega) | ((try simp only [push_cast]); (with_reducible first | apply sel_lt | apply sel_ge); (focus decide); (focus (simp only [push_cast]; omega))))) only [push_cast, ↓reduceIte, Nat.reduceEqDiff, Nat.reduceBEq, Nat.reduceAdd, Nat.reduceSub, Int.reduceToNat, *] <;> with_reducible exact rfl)); (focus assumption); (focus omega); (focus (first | trivial | omega)); (focus (first | rfl | (simp only [push_cast, ↓reduceIte, effOk, touch, refsOf, List.flatMap_cons, List.flatMap_nil]))); intro v pp hv hok hpp1 hpp2))
  all_goals try ((with_reducible apply i_fin1 (by first | exact .inl rfl | exact .inr rfl)); (focus (simp (disch := (first | omega | (simp only [push_cast]; done) | (simp only [push_cast]; omega) | ((try simp only [push_cast]); (with_reducible first | apply sel_lt | apply sel_ge); (focus decide); (focus (simp only [push_cast]; omega))))) only [push_cast, ↓reduceIte, Nat.reduceEqDiff, Nat.reduceBEq, Nat.reduceAdd, Nat.reduceSub, Int.reduceToNat, rep_iv, rep_sv, rep_w, rep_i3, rep_i4, *] <;> with_reducible exact rfl)); (focus (simp (disch := (first | omega | (simp only [push_cast]; done) | (simp only [push_cast]; omega) | ((try simp only [push_cast]); (with_reducible first | apply sel_lt | apply sel_ge); (focus decide); (focus (simp only [push_cast]; omega))))) only [push_cast, ↓reduceIte, Nat.reduceEqDiff, Nat.reduceBEq, Nat.reduceAdd, Nat.reduceSub, Int.reduceToNat, rep_iv, rep_sv, rep_w, rep_i3, rep_i4, *] <;> with_reducible exact rfl)))
  all_goals try (first | omega | assumption | exact ⟨by omega, by assumption⟩)
  refine ⟨(l2 ++ [⟨#[111, 102]⟩], y2 + 1, y2 + 2), ⟨(okT_app (m := 12) (n := 13) (by omega) (by omega) hl2 (by decide)).2, ?_⟩, ?_, ?_, ?_, rfl⟩
  · simp only [List.length_append, List.length_cons, List.length_nil]; omega
  · simp only [List.length_append, List.length_cons, List.length_nil]; omega
  all_goals simp (disch := (first | omega | (simp only [push_cast]; done) | (simp only [push_cast]; omega) | ((try simp only [push_cast]); (with_reducible first | apply sel_lt | apply sel_ge); (focus decide); (focus (simp only [push_cast]; omega))))) only [push_cast, ↓reduceIte, Nat.reduceEqDiff, Nat.reduceBEq, Nat.reduceAdd, Nat.reduceSub, Int.reduceToNat, List.length_append, *]
noncomputable def Φwords : FunIO := Classical.choose words_ex
theorem words_io : SoundIO Tryd.prog 75 Φwords := (Classical.choose_spec words_ex).1
theorem words_drw : Drw2 101 Φwords 600000000 200 ESs (fun n => 0 ≤ n ∧ n ≤ 1000) (fun _ l => okT 13 l) := (Classical.choose_spec words_ex).2
abbrev EStrs (o : Nat) (l : LS) : PV := .row o 1 0 l.length
attribute [push_cast]
  EStrs List.length_append
end Go.Proofs.YtenldjifipnjpaaDoor
namespace Go.Proofs.YtenldjifipnjpaaDoor
open Go.RowKit
set_option linter.all false
theorem sel_rng {a b d : Int} {l : List Int} {i : Nat} (h : ∀ x ∈ l, a ≤ x ∧ x ≤ b) (h1 : a ≤ d) (h2 : d ≤ b) : a ≤ sel d l i ∧ sel d l i ≤ b := by
  unfold sel
  by_cases hi : i < l.length
  · rw [List.getElem?_eq_getElem hi, Option.getD_some]
    exact h _ (List.getElem_mem hi)
  · rw [List.getElem?_eq_none (by omega)]
    exact ⟨h1, h2⟩
end Go.Proofs.YtenldjifipnjpaaDoor
namespace Go.Proofs.YtenldjifipnjpaaDoor
open Go.RowKit
set_option linter.all false
def sumI (l : List Int) : Int := l.sum
theorem sumI_take {l : List Int} {k : Nat} (h : k < l.length) : sumI (l.take (k + 1)) = sumI (l.take k) + l[k]?.getD 0 := by
  rw [List.take_add_one, List.getElem?_eq_getElem h]
  simp only [sumI, List.sum_append, Option.toList_some, List.sum_cons, List.sum_nil, Int.add_zero, Option.getD_some]
theorem okT_at {n : Nat} {l : LS} (h : okT n l) (k : Nat) : (l[k]?.getD .empty).size ≤ 21 := by
  by_cases hk : k < l.length
  · rw [List.getElem?_eq_getElem hk, Option.getD_some]
    exact h.2 _ (List.getElem_mem hk)
  · rw [List.getElem?_eq_none (by omega)]
    decide
theorem gapsK_sum {l : LS} {wd : Int} (h : 0 < (l.length : Int) - 1) : ∀ k : Nat, sumI (gapsK l wd k) = k + (wd - natN l) * k / ((l.length : Int) - 1)
  | 0 => by simp [gapsK, sumI]
  | k + 1 => by
    have ih := gapsK_sum (l := l) (wd := wd) h k
    have e : gapsK l wd (k + 1) = gapsK l wd k ++ [gapF (wd - natN l) ((l.length : Int) - 1) k] := by simp [gapsK, List.range_succ]
    have e2 : sumI (gapsK l wd k ++ [gapF (wd - natN l) ((l.length : Int) - 1) k]) = sumI (gapsK l wd k) + gapF (wd - natN l) ((l.length : Int) - 1) k := by simp only [sumI, List.sum_append, List.sum_cons, List.sum_nil, Int.add_zero]
    rw [e, e2, ih]
    unfold gapF
    rw [Int.natCast_add]
    simp only [Int.natCast_one]
    omega
theorem okT_ss {n : Nat} {l : LS} (h : okT n l) (hn : n ≤ 1000) : okSs l := ⟨by have := h.1; omega, fun i => by have := okT_at h i; omega⟩
end Go.Proofs.YtenldjifipnjpaaDoor
namespace Go.Proofs.YtenldjifipnjpaaDoor
open Go.RowKit
set_option linter.all false
theorem wordsM_word : ∀ (w r acc : List UInt8), (∀ b ∈ w, ¬ b = 32) → wordsM (w ++ r) acc = wordsM r (acc ++ w)
  | [], r, acc, _ => by simp
  | b :: w, r, acc, h => by
    rw [List.cons_append]
    conv => lhs; unfold wordsM
    rw [if_neg (h b (by simp)), wordsM_word w r (acc ++ [b]) fun x hx => h x (by simp [hx])]
    simp
theorem wordsM_sp0 : ∀ (c : Nat) (r : List UInt8), wordsM (List.replicate c 32 ++ r) [] = wordsM r []
  | 0, r => by simp
  | c + 1, r => by
    rw [List.replicate_succ, List.cons_append]
    conv => lhs; unfold wordsM
    rw [if_pos rfl, if_pos rfl, List.nil_append, wordsM_sp0 c r]
theorem wordsM_cut (w r : List UInt8) (h : ∀ b ∈ w, ¬ b = 32) (h0 : w ≠ []) : wordsM (w ++ 32 :: r) [] = w :: wordsM r [] := by
  rw [wordsM_word w _ [] h, List.nil_append]
  conv => lhs; unfold wordsM
  rw [if_pos rfl, if_neg h0]
  rfl
theorem wordsM_gap (w r : List UInt8) (c : Nat) (h : ∀ b ∈ w, ¬ b = 32) (h0 : w ≠ []) (hc : 0 < c) : wordsM (w ++ (List.replicate c 32 ++ r)) [] = w :: wordsM r [] := by
  obtain ⟨c, rfl⟩ : ∃ d, c = d + 1 := ⟨c - 1, by omega⟩
  rw [List.replicate_succ, List.cons_append, wordsM_cut w _ h h0, wordsM_sp0]
theorem word_bytes {s : ByteArray} (h : wordB s = true) : s.data.toList ≠ [] ∧ ∀ b ∈ s.data.toList, 97 ≤ b.toNat ∧ b.toNat ≤ 122 := by
  have hl : s.data.toList.length = s.size := Array.length_toList
  unfold wordB at h
  simp only [Bool.and_eq_true, List.all_eq_true, List.mem_range] at h
  obtain ⟨h1, h2⟩ := h
  have h2 := inB_iff.1 h2
  refine ⟨fun e => by rw [e] at hl; simp at hl; omega, fun b hb => ?_⟩
  obtain ⟨j, hj, rfl⟩ := List.getElem_of_mem hb
  have h3 := inB_iff.1 (h1 j (by omega))
  rw [at8_u hj] at h3
  omega
theorem word_nosp {s : ByteArray} (h : wordB s = true) : ∀ b ∈ s.data.toList, ¬ b = 32 := fun b hb e => by
  have := (word_bytes h).2 b hb
  subst e
  simp at this
theorem word_nohy {s : ByteArray} (h : wordB s = true) : ∀ b ∈ s.data.toList, ¬ b = 45 := fun b hb e => by
  have := (word_bytes h).2 b hb
  subst e
  simp at this
theorem allWords_at {l : LS} {k : Nat} (h : allWords l = true) (hk : k < l.length) : wordB l[k] = true := by
  unfold allWords at h
  simp only [Bool.and_eq_true, List.all_eq_true] at h
  exact h.2 _ (List.getElem_mem hk)
theorem line_word {p w : List UInt8} (h0 : w ≠ []) (h : ∀ b ∈ w, ¬ b = 45) : lineB (p ++ w) = p ++ w ++ [32] := by
  unfold lineB
  rw [if_neg]
  have e : w = w.dropLast ++ [w.getLast h0] := (List.dropLast_concat_getLast h0).symm
  rw [e, ← List.append_assoc, suf_last, decide_eq_true_eq]
  exact h _ (List.getLast_mem h0)
def LineP (s : List UInt8) (ws : LS) : Prop := lineB s = s ++ [32] ∧ s ≠ [] ∧ ∀ r, wordsM (s ++ 32 :: r) [] = ws.map (·.data.toList) ++ wordsM r []
theorem take_map_succ {l : LS} {k : Nat} (h : k < l.length) : (l.take (k + 1)).map (·.data.toList) = (l.take k).map (·.data.toList) ++ [l[k].data.toList] := by
  rw [List.take_succ_eq_append_getElem h, List.map_append]
  rfl
theorem just_words {l : LS} {g : List Int} (hw : allWords l = true) (hl : g.length + 1 = l.length) (hg : ∀ j, j < g.length → 1 ≤ g[j]?.getD 0) : ∀ k, k ≤ g.length → ∀ r, wordsM (justL l g k ++ r) [] = (l.take k).map (·.data.toList) ++ wordsM r []
  | 0, _, r => by simp [justL]
  | k + 1, hk, r => by
    have hkl : k < l.length := by omega
    have hwk := allWords_at hw hkl
    unfold justL
    rw [if_pos (by omega), List.getElem?_eq_getElem hkl, Option.getD_some, List.append_assoc, List.append_assoc, just_words hw hl hg k (by omega), take_map_succ hkl, wordsM_gap _ _ _ (word_nosp hwk) (word_bytes hwk).1 (by have := hg k (by omega); omega), List.append_assoc]
    rfl
theorem just_line {l : LS} {g : List Int} (hw : allWords l = true) (hl : g.length + 1 = l.length) (hg : ∀ j, j < g.length → 1 ≤ g[j]?.getD 0) : LineP (justL l g l.length) l := by
  have hkl : g.length < l.length := by omega
  have hwk := allWords_at hw hkl
  have e : justL l g l.length = justL l g g.length ++ l[g.length].data.toList := by
    rw [← hl]
    show justL l g g.length ++ ((l[g.length]?.getD .empty).data.toList ++ if g.length < g.length then _ else []) = _
    rw [if_neg (by omega), List.append_nil, List.getElem?_eq_getElem hkl, Option.getD_some]
  refine ⟨by rw [e]; exact line_word (word_bytes hwk).1 (word_nohy hwk), fun q => ?_, fun r => ?_⟩
  · rw [e] at q
    exact (word_bytes hwk).1 (List.append_eq_nil_iff.1 q).2
  · have hr := just_words hw hl hg g.length (Nat.le_refl _) (l[g.length].data.toList ++ 32 :: r)
    rw [wordsM_cut _ r (word_nosp hwk) (word_bytes hwk).1] at hr
    have h2 := take_map_succ hkl
    rw [hl, List.take_of_length_le (Nat.le_refl _)] at h2
    rw [e, List.append_assoc, hr, h2, List.append_assoc]
    rfl
theorem join_words {l : LS} (hw : allWords l = true) : ∀ k, k < l.length → LineP (joinB (l.take (k + 1)) spB).data.toList (l.take (k + 1))
  | 0, hk => by
    have hwk := allWords_at hw hk
    have e : joinB (l.take (0 + 1)) spB = l[0] := by rw [join_take1 hk, List.getElem?_eq_getElem hk, Option.getD_some]
    have e2 : (l.take (0 + 1)).map (·.data.toList) = [l[0].data.toList] := by rw [take_map_succ hk]; rfl
    unfold LineP
    rw [e, e2]
    refine ⟨?_, (word_bytes hwk).1, fun r => wordsM_cut _ r (word_nosp hwk) (word_bytes hwk).1⟩
    have := line_word (p := []) (word_bytes hwk).1 (word_nohy hwk)
    simpa using this
  | k + 1, hk => by
    have hwk := allWords_at hw hk
    obtain ⟨_, _, ih⟩ := join_words hw k (by omega)
    have e : (joinB (l.take (k + 1 + 1)) spB).data.toList = (joinB (l.take (k + 1)) spB).data.toList ++ [32] ++ l[k + 1].data.toList := by
      rw [join_take_succ (by omega) hk, List.getElem?_eq_getElem hk, Option.getD_some, ba_app, ba_app]
    unfold LineP
    rw [e]
    refine ⟨line_word (word_bytes hwk).1 (word_nohy hwk), fun q => (word_bytes hwk).1 (List.append_eq_nil_iff.1 q).2, fun r => ?_⟩
    rw [take_map_succ hk, List.append_assoc, List.append_assoc, List.singleton_append, ih, wordsM_cut _ r (word_nosp hwk) (word_bytes hwk).1, List.append_assoc]
    rfl
theorem gapsR_ge {l : LS} {wd : Int} (h : gapsB l wd = true) : ∀ j, j < (gapsR l wd).length → 1 ≤ (gapsR l wd)[j]?.getD 0 := fun j hj => by
  obtain ⟨hw, h0, hwd, hle⟩ := gapsB_iff.1 h
  rw [gapsR_yes h] at hj ⊢
  have hlen : (gapsL l wd).length = l.length - 1 := by simp [gapsL]
  have hj2 : j < l.length - 1 := by omega
  have e : (gapsL l wd)[j]?.getD 0 = gapF (wd - natN l) ((l.length : Int) - 1) j := by simp [gapsL, hj2]
  rw [e]
  have k1 := gap_near (m := wd - natN l) (n := (l.length : Int) - 1) (by omega) (by omega) j
  have k3 : 0 ≤ (wd - natN l) / ((l.length : Int) - 1) := Int.ediv_nonneg (by omega) (by omega)
  omega
theorem justS_line {l : LS} {wd : Int} (h : gapsB l wd = true) : LineP (justS l wd).data.toList l := by
  have e : (justS l wd).data.toList = justL l (gapsR l wd) l.length := by
    unfold justS
    rw [if_pos h]
  rw [e]
  exact just_line (gapsB_iff.1 h).1 (gaps_rngs h).1 (gapsR_ge h)
theorem justL_size {l : LS} {g : List Int} (hl : g.length + 1 = l.length) (hg : ∀ j, j < g.length → 0 ≤ g[j]?.getD 0) : ∀ k, k ≤ g.length → ((justL l g k).length : Int) = sumS (l.take k) + sumI (g.take k)
  | 0, _ => by simp [justL, sumS, sumI]
  | k + 1, hk => by
    have ih := justL_size hl hg k (by omega)
    have h1 := sumS_take (l := l) (k := k) (by omega)
    have h2 := sumI_take (l := g) (k := k) (by omega)
    have h3 := hg k (by omega)
    have h4 : (l[k]?.getD .empty).data.toList.length = (l[k]?.getD .empty).size := Array.length_toList
    unfold justL
    rw [if_pos (by omega), List.length_append, List.length_append, List.length_replicate]
    omega
theorem justS_size {l : LS} {wd : Int} (h : gapsB l wd = true) : ((justS l wd).size : Int) = if l.length = 1 then (natN l : Int) else wd := by
  obtain ⟨hw, h0, hwd, hle⟩ := gapsB_iff.1 h
  have hr := gaps_rngs h
  have hge := gapsR_ge h
  have e : (justS l wd).size = (justL l (gapsR l wd) l.length).length := by
    unfold justS
    rw [if_pos h]
    rfl
  have hs := justL_size hr.1 (fun j hj => by have := hge j hj; omega) (gapsR l wd).length (Nat.le_refl _)
  rw [List.take_of_length_le (Nat.le_refl (gapsR l wd).length)] at hs
  have hkl : (gapsR l wd).length < l.length := by omega
  have e2 : (justL l (gapsR l wd) l.length).length = (justL l (gapsR l wd) (gapsR l wd).length).length + (l[(gapsR l wd).length]?.getD .empty).size := by
    have h4 : (l[(gapsR l wd).length]?.getD .empty).data.toList.length = (l[(gapsR l wd).length]?.getD .empty).size := Array.length_toList
    conv => lhs; rw [← hr.1]
    show (justL l (gapsR l wd) (gapsR l wd).length ++ ((l[(gapsR l wd).length]?.getD .empty).data.toList ++ if (gapsR l wd).length < (gapsR l wd).length then _ else [])).length = _
    rw [if_neg (by omega), List.append_nil, List.length_append, h4]
  have h3 := sumS_take (l := l) (k := (gapsR l wd).length) hkl
  rw [hr.1, List.take_of_length_le (Nat.le_refl l.length)] at h3
  have hn : natN l = sumS l + (l.length - 1) := rfl
  split
  · rename_i h1
    have hnil : gapsR l wd = [] := List.eq_nil_of_length_eq_zero (by omega)
    have hs0 : sumI (gapsR l wd) = 0 := by rw [hnil]; rfl
    have ht0 : sumS (l.take (gapsR l wd).length) = 0 := by rw [hnil]; simp [sumS]
    omega
  · rename_i h1
    have hlen : (gapsL l wd).length = l.length - 1 := by simp [gapsL]
    have hsum := gapsK_sum (l := l) (wd := wd) (by omega) (l.length - 1)
    rw [← gapsL_K, ← gapsR_yes h] at hsum
    have e3 : ((l.length - 1 : Nat) : Int) = (l.length : Int) - 1 := by omega
    rw [e3, Int.mul_ediv_cancel _ (by omega)] at hsum
    omega
theorem natN_join {l : LS} (h : 0 < l.length) : (joinB l spB).size = natN l := by
  rw [joinB_size]
  have h3 : spB.size = 1 := rfl
  unfold natN
  rw [h3, Nat.mul_one]
theorem lineS_line {l : LS} {wd : Int} {n : Nat} (hw : allWords l = true) (hwd : inB wd 1 60 = true) (hn : n < l.length) (hf : fits l wd n = true) : LineP (lineS l wd (n + 1)).data.toList (l.take (n + 1)) ∧ ((lineS l wd (n + 1)).size : Int) ≤ wd := by
  have hfi : (natN (l.take (n + 1)) : Int) ≤ wd := by simpa [fits] using hf
  unfold lineS
  split
  · rename_i h
    have hg : gapsB (l.take (n + 1)) wd = true := by
      have := gapsB_fits (a := 0) (n := n) hw hwd (by omega)
      rw [List.drop_zero] at this
      rw [this, hf]
    refine ⟨justS_line hg, ?_⟩
    rw [justS_size hg]
    split <;> omega
  · exact ⟨join_words hw n hn, by rw [natN_join (by rw [List.length_take]; omega)]; exact hfi⟩
theorem fitN_fits {l : LS} {wd : Int} {n : Nat} (h : fitN l wd = n + 1) : n < l.length ∧ fits l wd n = true := by
  have key : ∀ f k m, fitF l wd f k = m → k ≤ m ∧ m ≤ k + f ∧ ∀ j, k ≤ j → j < m → fits l wd j = true := by
    intro f
    induction f with
    | zero => intro k m h; have : k = m := h; subst this; exact ⟨Nat.le_refl _, Nat.le_refl _, fun j h1 h2 => by omega⟩
    | succ f ih =>
      intro k m h
      unfold fitF at h
      split at h
      · rename_i hk
        obtain ⟨h1, h2, h3⟩ := ih _ _ h
        refine ⟨by omega, by omega, fun j h4 h5 => ?_⟩
        by_cases hj : j = k
        · subst hj; exact hk
        · exact h3 j (by omega) h5
      · subst h
        exact ⟨Nat.le_refl _, by omega, fun j h1 h2 => by omega⟩
  obtain ⟨h1, h2, h3⟩ := key _ _ _ h
  exact ⟨by omega, h3 n (Nat.zero_le _) (by omega)⟩
theorem linesF_words {wd : Int} (hwd : inB wd 1 60 = true) : ∀ (f : Nat) (ws acc L : LS), ws.length ≤ f → allWords ws = true → linesF wd f ws acc = some L →
    ∃ L', L = acc ++ L' ∧ (∀ s ∈ L', 0 < s.size ∧ (s.size : Int) ≤ wd) ∧ wordsM (linesB (L'.map (·.data.toList))) [] = ws.map (·.data.toList)
  | 0, ws, acc, L, hf, hw, h => by
    have : acc = L := by simpa [linesF] using h
    subst this
    obtain rfl : ws = [] := List.eq_nil_of_length_eq_zero (by omega)
    exact ⟨[], by simp, by simp, rfl⟩
  | f + 1, ws, acc, L, hf, hw, h => by
    unfold linesF at h
    split at h
    · rename_i h0
      have : acc = L := by simpa using h
      subst this
      obtain rfl : ws = [] := List.eq_nil_of_length_eq_zero h0
      exact ⟨[], by simp, by simp, rfl⟩
    · rename_i h0
      split at h
      · cases h
      · rename_i h1
        obtain ⟨n, hn⟩ : ∃ n, fitN ws wd = n + 1 := ⟨fitN ws wd - 1, by omega⟩
        obtain ⟨hnl, hfi⟩ := fitN_fits hn
        rw [hn] at h
        obtain ⟨⟨p1, p2, p3⟩, p4⟩ := lineS_line hw hwd hnl hfi
        have hw' : allWords (ws.drop (n + 1)) = true := allWords_sub hw (fun x hx => List.mem_of_mem_drop hx) (by rw [List.length_drop]; omega)
        obtain ⟨L', rfl, q2, q3⟩ := linesF_words hwd f _ _ L (by rw [List.length_drop]; omega) hw' h
        generalize lineS ws wd (n + 1) = s at *
        refine ⟨s :: L', by simp, fun x hx => ?_, ?_⟩
        · rcases List.mem_cons.1 hx with rfl | hx
          · have hl : x.data.toList.length = x.size := Array.length_toList
            have : 0 < x.data.toList.length := List.length_pos_iff.2 p2
            exact ⟨by omega, p4⟩
          · exact q2 x hx
        · rw [List.map_cons]
          show wordsM (lineB s.data.toList ++ linesB (L'.map (·.data.toList))) [] = _
          rw [p1, List.append_assoc, List.singleton_append, p3, q3, ← List.map_append, List.take_append_drop]
theorem tlR_words {l L : LS} {wd : Int} (h : tlR l wd = some L) : (∀ s ∈ L, 0 < s.size ∧ (s.size : Int) ≤ wd) ∧ wolR L = l := by
  unfold tlR at h
  split at h
  case isFalse => cases h
  case isTrue hA =>
  obtain ⟨L', rfl, h2, h3⟩ := linesF_words hA.2 _ _ _ _ (Nat.le_refl _) hA.1 h
  refine ⟨by simpa using h2, ?_⟩
  unfold wolR
  rw [h3, List.map_map]
  exact List.map_id _
end Go.Proofs.YtenldjifipnjpaaDoor
