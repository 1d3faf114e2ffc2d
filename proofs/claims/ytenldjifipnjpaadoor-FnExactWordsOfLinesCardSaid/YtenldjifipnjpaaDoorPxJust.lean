/- JustifyText, of the program: a strings.Builder. -/
import Derived.Test.YtenldjifipnjpaaDoorPxText
import Derived.Lib.Builder
namespace Go.Proofs.YtenldjifipnjpaaDoor
open Go.RowKit
set_option linter.all false
/-- The bytes of the first k words, each with the gap behind it. -/
def justL (l : LS) (g : List Int) : Nat → List UInt8
  | 0 => []
  | k + 1 => justL l g k ++ ((l[k]?.getD .empty).data.toList ++ if k < g.length then List.replicate (g[k]?.getD 0).toNat 32 else [])
noncomputable def justS (l : LS) (wd : Int) : ByteArray := if gapsB l wd = true then ⟨(justL l (gapsR l wd) l.length).toArray⟩ else ⟨#[]⟩
theorem cells_app (a b : List UInt8) : Lib.byteCells (a ++ b) = Lib.byteCells a ++ Lib.byteCells b := by simp [Lib.byteCells]
theorem strCells_eq (s : ByteArray) : Lib.strCells s = Lib.byteCells s.data.toList := Lib.strCells_eq s
/-- Strings lie in a row. -/
def StrAt (w : World) (b off : Nat) (l : LS) : Prop := ∀ (j : Nat) x, l[j]? = some x → w.cell? ⟨b, off + j, none⟩ = some (.string x)
theorem StrAt.below {B : Nat} {w w' : World} {b off : Nat} {l : LS} (h : StrAt w b off l) (hB : b < B) (hb : Below B w w') : StrAt w' b off l := fun j x hj => by
  rw [hb.cell (p := ⟨b, off + j, none⟩) hB]
  exact h j x hj
theorem below_weak {B B' : Nat} {w w' : World} (h : Below B w w') (hB : B' ≤ B) : Below B' w w' := ⟨h.os, h.tape, h.output, h.size, fun b hb => h.block b (Nat.lt_of_lt_of_le hb hB)⟩
theorem bldAt_below {T e : TypeId} {B b : Nat} {p : Value} {bs : List Value} {w w' : World} (h : Lib.BuilderAt T e B b p bs w) (hb : Below w.heap.size w w') : Lib.BuilderAt T e B b p bs w' := by
  obtain ⟨h1, v, h2, h3, h4⟩ := h
  have hlt : b < w.heap.size := lt_of_heap h2
  exact ⟨h1, v, by rw [hb.block b hlt]; exact h2, h3.kept (row := none) ⟨hb.os, hb.tape, hb.output, hb.size, fun i hi _ => hb.block i hi⟩ (by
    cases h : v.ownBlock with
    | none => exact .inl rfl
    | some x => exact .inr (by simp)), h4⟩
theorem bld_below {T e : TypeId} {B b : Nat} {bs : List Value} {w w' : World} (h : Lib.IsBuilder T e B b bs w) (hb : Below w.heap.size w w') : Lib.IsBuilder T e B b bs w' := h.imp (fun h => bldAt_below h hb) fun h => bldAt_below h hb
theorem write_any {B b : Nat} {l : List UInt8} {s : ByteArray} {w : World} (h : Lib.IsBuilder 58 5 B b (Lib.byteCells l) w) (hlen : l.length + s.size ≤ 140737488355328) (hBw : B ≤ w.heap.size) :
    Calls Tryd.prog 45 #[.pointer (some ⟨b, 0, none⟩), .string s] w fun e w' => e = .returned (.tuple #[.int .i64 s.size, .nilIface]) ∧ Lib.IsBuilder 58 5 B b (Lib.byteCells (l ++ s.data.toList)) w' ∧ Below B w w' := by
  refine (Any.Builder_WriteString (ρ := YtenldjifipnjpaaDoor.lays156_ren) { YtenldjifipnjpaaDoor.lays156 with } YtenldjifipnjpaaDoor.Builder_Extra_156 B b (Lib.byteCells l) s w h (by simpa [Lib.byteCells] using hlen) hBw).mono ?_
  rintro e w' ⟨rfl, h1, h2⟩
  refine ⟨rfl, .inr ?_, h2⟩
  rw [cells_app, ← strCells_eq]
  exact h1
theorem repeat_sp (c : Nat) : Lib.repeatL [32] c = List.replicate c 32 := by
  induction c with
  | zero => rfl
  | succ c ih => simp_all [Lib.repeatL, List.replicate_succ]
/-- Numbers lie in a row. -/
def NumAt (w : World) (b off : Nat) (g : List Int) : Prop := ∀ (j : Nat) x, g[j]? = some x → w.cell? ⟨b, off + j, none⟩ = some (.int .i64 x)
theorem NumAt.below {B : Nat} {w w' : World} {b off : Nat} {l : List Int} (h : NumAt w b off l) (hB : b < B) (hb : Below B w w') : NumAt w' b off l := fun j x hj => by
  rw [hb.cell (p := ⟨b, off + j, none⟩) hB]
  exact h j x hj
theorem justL_len {l : LS} {g : List Int} (hg : ∀ j : Nat, (g[j]?.getD 0).toNat ≤ 70) : ∀ k, k ≤ l.length → (justL l g k).length ≤ sumS (l.take k) + 70 * k
  | 0, _ => by simp [justL]
  | k + 1, hk => by
    have ih := justL_len (l := l) hg k (by omega)
    have h1 := sumS_take (l := l) (k := k) (by omega)
    have h2 := hg k
    have h3 : (l[k]?.getD .empty).data.toList.length = (l[k]?.getD .empty).size := Array.length_toList
    unfold justL
    simp only [List.length_append]
    split
    · rw [List.length_replicate]; omega
    · simp only [List.length_nil]; omega
set_option maxHeartbeats 4000000 in
theorem just_any {w : World} {a : Option Addr} {b off n c : Nat} {l : LS} {wd : Int} {g : List Int} {ok : Bool} (hz : l.length = n) (hn : n ≤ 1048576) (ha : 0 < n → a = some ⟨b, off, none⟩ ∧ b < w.heap.size) (hs : StrAt w b off l)
    (hgl : ok = true → g.length + 1 = n ∧ (∀ j : Nat, 0 ≤ g[j]?.getD 0 ∧ g[j]?.getD 0 ≤ 70) ∧ sumS l ≤ 1000 ∧ n ≤ 1000)
    (hg : Calls Tryd.prog 72 #[.slice a n c, .int .i64 wd] w fun e w' => ∃ ga gb go gc, e = .returned (.tuple #[.slice ga g.length gc, .bool ok]) ∧ Below w.heap.size w w' ∧ (0 < g.length → ga = some ⟨gb, go, none⟩ ∧ gb < w'.heap.size ∧ NumAt w' gb go g)) :
    Calls Tryd.prog 38 #[.slice a n c, .int .i64 wd] w fun e w' => e = .returned (.tuple #[.string (if ok = true then ⟨(justL l g n).toArray⟩ else ⟨#[]⟩), .bool ok]) ∧ Below w.heap.size w w' := by
  have HZ := Lib.hid hz
  have HS := Lib.hid hs
  have HA := Lib.hid ha
  have HG := Lib.hid hgl
  clear hz hs ha hgl
  cases ok with
  | false =>
    go_enter Tryd.func38, Tryd.ntmps38
    go_wp2_with (go_at_call 72; refine hg.mono ?_; rintro e w1 ⟨ga, gb, go, gc, rfl, hb1, hga⟩)
    go_ret2
    exact ⟨rfl, hb1⟩
  | true =>
    obtain ⟨g1, g2, g3, g4⟩ := HG.out rfl
    have HG2 := Lib.hid g2
    clear g2 HG
    go_enter Tryd.func38, Tryd.ntmps38
    go_wp2_with (go_at_call 72; refine hg.mono ?_; rintro e w1 ⟨ga, gb, go, gc, rfl, hb1, hga⟩)
    have HGA := Lib.hid hga
    have HB1 := Lib.hid hb1
    clear hga hg
    go_loopw [21] (fun i wr => ∃ k : Nat, k ≤ n ∧ i = .int .i64 k ∧ Aside (Lib.IsBuilder 58 5 w1.heap.size w1.heap.size (Lib.byteCells (justL l g k)) wr) ∧ Aside (Below w1.heap.size w1 wr)) (fun i _ => n - (intOf i).toNat)
    case atStart => exact ⟨0, Nat.zero_le _, rfl, (show Lib.IsBuilder _ _ _ _ _ _ from Lib.fresh_isBuilder _ _ _), (show Below _ _ _ from below_alloc (Below.refl _ _))⟩
    case round =>
      obtain ⟨k, hk, rfl, AB, AW⟩ := hrel
      by_cases hlt : k < n
      · obtain ⟨rfl, hb⟩ := HA.out (by omega)
        have hkl : k < l.length := by rw [HZ.out]; exact hlt
        have hc := ((HS.out.below hb HB1.out).below (Nat.lt_of_lt_of_le hb HB1.out.size) AW.out) k _ (List.getElem?_eq_getElem hkl)
        have hjl := justL_len (l := l) (g := g) (fun j => by have := HG2.out j; omega) k (by rw [HZ.out]; exact hk)
        have hst := sumS_take (l := l) hkl
        have hle := sumS_take_le l (k + 1)
        have hjs : justL l g (k + 1) = justL l g k ++ ((l[k]?.getD .empty).data.toList ++ if k < g.length then List.replicate (g[k]?.getD 0).toNat 32 else []) := rfl
        rw [List.getElem?_eq_getElem hkl, Option.getD_some] at hst hjs
        generalize l[k] = x at *
        have HJ := Lib.hid hjs
        have i1 : (0 : Int) ≤ (k : Int) := by omega
        have i2 : (k : Int) < (n : Int) := by omega
        have hbw : w1.heap.size ≤ wr.heap.size := AW.out.size
        have hwr := fun (W : World) (hW : Lib.IsBuilder 58 5 w1.heap.size w1.heap.size (Lib.byteCells (justL l g k)) W) (hs : w1.heap.size ≤ W.heap.size) => write_any (s := x) hW (by omega) hs
        have HWR := Lib.hid hwr
        have hjk : (justL l g k).length + x.size ≤ 100000 := by omega
        clear hwr hst hle hjs hjl
        by_cases hkg : k < g.length
        · obtain ⟨rfl, hgb, -⟩ := HGA.out (by omega)
          obtain ⟨q1, q2⟩ := HG2.out k
          have hcg := fun (W : World) (hW : Below w1.heap.size w1 W) => ((HGA.out (by omega)).2.2.below hgb hW) k _ (List.getElem?_eq_getElem hkg)
          rw [if_pos hkg] at HJ
          rw [List.getElem?_eq_getElem hkg, Option.getD_some] at q1 q2 HJ
          generalize g[k] = y at *
          obtain ⟨y, rfl⟩ := Int.eq_ofNat_of_zero_le q1
          have HCG := Lib.hid hcg
          have i3 : (k : Int) < (g.length : Int) := by omega
          clear hcg
          have hrs : Lib.repeatL [32] y = List.replicate y 32 := repeat_sp y
          have HRS := Lib.hid hrs
          have hsz : ((⟨(Lib.repeatL [32] y).toArray⟩ : ByteArray)).size = y := by rw [hrs]; exact List.length_replicate
          have HSZ := Lib.hid hsz
          have hxl : x.data.toList.length = x.size := Array.length_toList
          have HXL := Lib.hid hxl
          clear hrs hsz hxl
          go_wp2_with (first
            | (go_at_call 73; refine (YtenldjifipnjpaaDoor.strings_Repeat ⟨#[32]⟩ y _ (by omega) (by simp [ByteArray.size]; omega)).mono ?_; rintro e w3 ⟨rfl, hb3⟩; have AB3 := Lib.hid (bld_below AB2.out hb3); have AW3 := Lib.hid (AW2.out.trans (below_weak hb3 AW2.out.size)); clear AB2 AW2 hb3)
            | (go_at_call 45; refine (HWR.out _ AB.out hbw).mono ?_; rintro e w2 ⟨rfl, hab2, hb2⟩; have hcg2 := HCG.out _ (AW.out.trans hb2); have AB2 := Lib.hid hab2; have AW2 := Lib.hid (AW.out.trans hb2); clear hab2 hb2 AB AW HWR)
            | (go_at_call 45; refine (write_any AB3.out (by rw [List.length_append, HSZ.out, HXL.out]; omega) AW3.out.size).mono ?_; rintro e w4 ⟨rfl, hab4, hb4⟩; have AB4 := Lib.hid hab4; have AW4 := Lib.hid (AW3.out.trans hb4); clear hab4 hb4))
          go_roundw
          case rel => exact ⟨k + 1, by omega, by go_num, (show Lib.IsBuilder _ _ _ _ (Lib.byteCells (justL l g (k + 1))) _ from by have h4 := AB4.out; rw [List.append_assoc, HRS.out] at h4; rw [HJ.out]; exact h4), (show Below _ _ _ from AW4.out)⟩
          case measure => simp [intOf]; omega
        · rw [if_neg hkg, List.append_nil] at HJ
          have i3 : ¬ (k : Int) < (g.length : Int) := by omega
          go_wp2_with (go_at_call 45; refine (HWR.out _ AB.out hbw).mono ?_; rintro e w2 ⟨rfl, hab2, hb2⟩; have AB2 := Lib.hid hab2; have AW2 := Lib.hid (AW.out.trans hb2); clear hab2 hb2)
          go_roundw
          case rel => exact ⟨k + 1, by omega, by go_num, (show Lib.IsBuilder _ _ _ _ (Lib.byteCells (justL l g (k + 1))) _ from by rw [HJ.out]; exact AB2.out), (show Below _ _ _ from AW2.out)⟩
          case measure => simp [intOf]; omega
      · obtain rfl : k = n := by omega
        go_wp2_with (go_at_call 47; refine (YtenldjifipnjpaaDoor.Builder_String_any w1.heap.size w1.heap.size (justL l g k) _ AB.out AW.out.size).mono ?_; rintro e w5 ⟨rfl, hb5⟩)
        go_ret2
        exact ⟨rfl, below_trans hb1 (AW.out.trans hb5)⟩
noncomputable def φJust : Fun := F2 dSs dI fun l wd => if okSs l then some (.tup [.val (.string (justS l wd)), .val (.bool (gapsB l wd))]) else none
theorem φJust_ap {l : LS} {wd : Int} (h : okSs l) : φJust [.lst false 1 (l.map fun s => .val (.string s)), .val (.int .i64 wd)] = some (.tup [.val (.string (justS l wd)), .val (.bool (gapsB l wd))]) :=
  (F2_ap (A := dSs) (B := dI) l wd).trans (if_pos h)
theorem num_cells {g : Gh} {w : World} {b off : Nat} {l : List Int} (h : RepEs g w 1 (l.map fun n => PV.val (.int .i64 n)) b off) : NumAt w b off l := fun j x hj => by
  obtain ⟨u, h1, h2, _⟩ := h.get (i := j) (e := .val (.int .i64 x)) (by simp [hj])
  simp only [Rep] at h1
  subst h1
  have := h2.2 0 (by simp [Value.cells])
  simpa [Value.cells] using this
theorem gaps_rngs {l : LS} {wd : Int} (h : gapsB l wd = true) : (gapsR l wd).length + 1 = l.length ∧ (∀ j : Nat, 0 ≤ (gapsR l wd)[j]?.getD 0 ∧ (gapsR l wd)[j]?.getD 0 ≤ 70) ∧ sumS l ≤ 1000 ∧ l.length ≤ 1000 := by
  obtain ⟨hw, h0, hwd, hle⟩ := gapsB_iff.1 h
  have h12 := allWords_len hw
  have hwb := inB_iff.1 hwd
  have hn : natN l = sumS l + (l.length - 1) := rfl
  rw [gapsR_yes h]
  have hlen : (gapsL l wd).length = l.length - 1 := by simp [gapsL]
  refine ⟨by omega, fun j => ?_, by omega, by omega⟩
  by_cases hj : j < l.length - 1
  · have e : (gapsL l wd)[j]?.getD 0 = gapF (wd - natN l) ((l.length : Int) - 1) j := by simp [gapsL, hj]
    rw [e]
    have k1 := gap_near (m := wd - natN l) (n := (l.length : Int) - 1) (by omega) (by omega) j
    have k3 : 0 ≤ (wd - natN l) / ((l.length : Int) - 1) := Int.ediv_nonneg (by omega) (by omega)
    have k4 := Int.ediv_le_self ((l.length : Int) - 1) (show 0 ≤ wd - natN l by omega)
    omega
  · rw [List.getElem?_eq_none (by omega)]
    simp
theorem implJust_ok : Sound Tryd.prog 38 φJust := by
  intro w J ps args r hr hJ hT hargs
  obtain ⟨l, wd, rfl, hq⟩ := F2_some hr
  split at hq
  case isFalse => cases hq
  case isTrue hok =>
  cases hq
  have hg := implTextGaps_ok w J _ args _ (φGaps_ap (wd := wd) hok) hJ hT hargs
  simp only [RepL] at hargs
  obtain ⟨v1, vs1, e1, h1, v2, vs2, rfl, h2, rfl⟩ := hargs
  obtain rfl : args = #[v1, v2] := by
    obtain ⟨a⟩ := args
    simp only at e1
    rw [e1]
  simp only [dSs, dL, dS, dI, Rep] at h1 h2
  subst h2
  obtain ⟨a, cap, rfl, k1, k2, k3⟩ := h1
  simp only [List.length_map] at k1 hg ⊢
  have hfact : ∃ b off, (0 < l.length → a = some ⟨b, off, none⟩ ∧ b < w.heap.size) ∧ StrAt w b off l := by
    rcases k3 with k3 | ⟨b, off, rfl, k4, k5⟩
    · have : l = [] := by simpa using k3
      subst this
      exact ⟨0, 0, fun h => by simp at h, fun j x hj => by simp at hj⟩
    · exact ⟨b, off, fun _ => ⟨rfl, hJ b k4.2⟩, str_cells k5⟩
  obtain ⟨b, off, ha, hs⟩ := hfact
  have hgr := fun h => gaps_rngs (l := l) (wd := wd) h
  generalize hgR : gapsR l wd = g at *
  have hfin := just_any (ok := gapsB l wd) (g := g) (n := l.length) rfl hok.1 ha hs hgr (hg.mono fun e w' h => by
    obtain ⟨v, rfl, hb, hv⟩ := h
    have hv2 := hv { I := fun k x => w.heap.size ≤ x ∧ x < w'.heap.size, β := fun _ => 0, κ := fun _ => 0, nx := 0 } fun x h1 h2 => ⟨h1, h2⟩
    simp only [Rep, RepL, List.length_map] at hv2
    obtain ⟨vs, rfl, x1, xs1, e3, ⟨ga, gc, rfl, _, _, m3⟩, x2, xs2, rfl, rfl, rfl⟩ := hv2
    obtain rfl : vs = #[.slice ga g.length gc, .bool (gapsB l wd)] := by
      obtain ⟨a⟩ := vs
      simp only at e3
      rw [e3]
    rcases m3 with m3 | ⟨gb, go, rfl, m4, m5⟩
    · have : g = [] := by simpa using m3
      subst this
      exact ⟨ga, 0, 0, gc, rfl, hb, fun h => by simp at h⟩
    · exact ⟨_, gb, go, gc, rfl, hb, fun _ => ⟨rfl, m4.2, num_cells m5⟩⟩)
  refine hfin.mono ?_
  rintro e w' ⟨rfl, hb⟩
  refine ⟨_, rfl, hb, fun g' _ => ?_⟩
  unfold justS
  rw [hgR]
  simp only [Rep, RepL]
  exact ⟨_, rfl, _, _, rfl, rfl, _, _, rfl, rfl, rfl⟩
end Go.Proofs.YtenldjifipnjpaaDoor
