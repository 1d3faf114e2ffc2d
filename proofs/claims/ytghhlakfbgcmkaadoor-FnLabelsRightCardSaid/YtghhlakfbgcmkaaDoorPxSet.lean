/- PiecesValid, of the program: it keeps a set of labels in a map. -/
import Derived.Maps.OwnOps
import Derived.Maps.Views
import Derived.Test.YtghhlakfbgcmkaaDoorPxGrid
namespace Go.Proofs.YtghhlakfbgcmkaaDoor
open Go.RowKit
set_option linter.all false
/-- Block b is a map of at most n entries that holds the numbers of S. -/
def SetAt (w : World) (b n : Nat) (S : Int → Bool) : Prop :=
  ∃ D : DataW Unit, w.ownsMap Tryd.prog 3 (plainElem Tryd.prog 4) b n D ∧ Maps.IsMap D ∧ ∀ j : Int, D.atKey (.int .i64 j) (.lit (.bool false)) = .lit (.bool (S j))
theorem set_law : Maps.Keyed Tryd.prog 3 := Maps.int_keyed (q := .i64) (by kernel_rfl)
theorem set_zero (w : World) : (zeroValue 4).run Tryd.prog w = .ok (.bool false) w := by kernel_rfl
theorem set_made (w : World) : SetAt (w.alloc (.map #[] 0)) w.heap.size 0 fun _ => false :=
  ⟨.map [], World.ownsMap_made _ _ _ _, ⟨[], rfl⟩, fun _ => rfl⟩
theorem plainElem_bool_inv {P : Program} {e : TypeId} (he : P.underlying e = some .bool) {v : Value} {z : DataW Unit × List MemPlace} (h : plainElem P e v = some z) : ∃ x, v = .bool x ∧ z = (.lit (.bool x), []) := by
  unfold plainElem at h
  rw [he] at h
  split at h
  · simp only [Option.some.injEq] at h
    exact ⟨_, rfl, h.symm⟩
  all_goals simp_all
theorem SetAt.look {w : World} {b n : Nat} {S : Int → Bool} (h : SetAt w b n S) {j : Int} (hj : okI j) : (Instr.lookup 65 (.map (some b)) (.int .i64 j) false).run Tryd.prog w = .ok (.bool (S j)) w := by
  obtain ⟨D, h1, h2, h3⟩ := h
  obtain ⟨v, ps, hrun, hv⟩ := h1.lookup (t := 65) (e := 4) set_law (by kernel_rfl) (set_zero w) (Go.plainElem_bool (by kernel_rfl) false) (key := .int .i64 j) (Maps.keyOf_int_mk (q := .i64) (by kernel_rfl) (by simpa [Lit.wf, IntKind.min, IntKind.max, IntKind.signed, IntKind.bits] using hj))
  obtain ⟨x, rfl, hx⟩ := plainElem_bool_inv (by kernel_rfl) hv
  rw [h3 j] at hx
  simp only [Prod.mk.injEq, DataW.lit.injEq, Lit.bool.injEq] at hx
  rw [hrun, hx.1]
theorem SetAt.upd {w : World} {b n : Nat} {S : Int → Bool} (h : SetAt w b n S) {j : Int} (hj : okI j) (hn : n < 1099511627778) :
    ∃ w', (Instr.mapUpdate 65 (.map (some b)) (.int .i64 j) (.bool true)).run Tryd.prog w = .ok () w' ∧ SetAt w' b (n + 1) (fun i => decide (i = j) || S i) ∧ w.grownBy w' (some b) := by
  obtain ⟨D, h1, h2, h3⟩ := h
  obtain ⟨w', hrun, hown, hg⟩ := h1.update (t := 65) (e := 4) set_law (by kernel_rfl) (by unfold maxLen; omega) (key := .int .i64 j) (val := .bool true) (Maps.keyOf_int_mk (q := .i64) (by kernel_rfl) (by simpa [Lit.wf, IntKind.min, IntKind.max, IntKind.signed, IntKind.bits] using hj)) (Go.plainElem_bool (by kernel_rfl) true)
  refine ⟨w', hrun, ⟨_, hown, h2.put _ _, fun i => ?_⟩, hg⟩
  by_cases hi : i = j
  · subst hi
    rw [Maps.atKey_put_same h2 (by simp [WideAt.IsKeyLit])]
    simp
  · rw [Maps.atKey_put_other (by simpa using hi), h3 i]
    simp [hi]
theorem SetAt.kept {w w' : World} {b n : Nat} {S : Int → Bool} {r : Option Nat} (h : SetAt w b n S) (hg : w.grownBy w' r) (hr : some b ≠ r) : SetAt w' b n S := by
  obtain ⟨D, h1, h2⟩ := h
  exact ⟨D, h1.kept hg hr, h2⟩
theorem SetAt.lt {w : World} {b n : Nat} {S : Int → Bool} (h : SetAt w b n S) : b < w.heap.size := by
  obtain ⟨D, h1, h2⟩ := h
  exact h1.lt
theorem SetAt.alloc {w : World} {b n : Nat} {S : Int → Bool} (h : SetAt w b n S) (o : Obj) : SetAt (w.alloc o) b n S := h.kept (World.grownBy_alloc w o none) (by simp)
theorem cell_alloc {w : World} {B j : Nat} {v : Value} (h : w.cell? ⟨B, j, none⟩ = some v) (o : Obj) : (w.alloc o).cell? ⟨B, j, none⟩ = some v := by
  have := ((Below.refl w.heap.size w).alloc (Nat.le_refl _) o).cell (p := ⟨B, j, none⟩) (World.block_lt_of_cell? w _ h)
  rw [this, h]
def i3V (p : I3) : Value := .agg #[.int .i64 p.1, .int .i64 p.2.1, .int .i64 p.2.2]
theorem pieceFn_any {W : World} {B1 B0 n : Nat} {S : Int → Bool} (hv : W.cell? ⟨B1, 0, none⟩ = some (.map (some B0))) (hS : SetAt W B0 n S) (a b c : Int) (hc : okI c) :
    Calls Tryd.prog 48 #[.agg #[.int .i64 a, .int .i64 b, .int .i64 c], .pointer (some ⟨B1, 0, none⟩)] W fun e w' => e = .returned (.bool (!S c)) ∧ Below W.heap.size W w' := by
  have hv' := cell_alloc hv
  have hlk : ∀ o, (Instr.lookup 65 (.map (some B0)) (.int .i64 c) false).run Tryd.prog (W.alloc o) = .ok (.bool (S c)) (W.alloc o) := fun o => (hS.alloc o).look hc
  generalize S c = s at hlk ⊢
  clear hS
  go_enter Tryd.func48, Tryd.ntmps48
  go_wp2
  all_goals go_ret
  all_goals exact ⟨by (first | rfl | simp), by (repeat (first | (with_reducible exact Below.refl _ _) | (with_reducible assumption) | (with_reducible apply below_alloc) | ((with_reducible apply Below.setCell); rotate_left; (focus (first | omega | (simp; done) | (simp; omega)))) | (with_reducible apply Below.drew) | (with_reducible apply below_drewN) | (with_reducible refine below_trans ?_ (by assumption))))⟩
/-- Pieces lie in a row. -/
def PcsAt (w : World) (b off : Nat) (l : List I3) : Prop :=
  ∀ k, k < l.length → w.cell? ⟨b, off + k * 3, none⟩ = some (.int .i64 l[k]!.1) ∧ w.cell? ⟨b, off + k * 3 + 1, none⟩ = some (.int .i64 l[k]!.2.1) ∧ w.cell? ⟨b, off + k * 3 + 2, none⟩ = some (.int .i64 l[k]!.2.2)
theorem PcsAt.below {B : Nat} {w w' : World} {b off : Nat} {l : List I3} (h : PcsAt w b off l) (hB : b < B) (hb : Below B w w') : PcsAt w' b off l := fun k hk => by
  obtain ⟨h0, h1, h2⟩ := h k hk
  rw [hb.cell (p := ⟨b, off + k * 3, none⟩) hB, hb.cell (p := ⟨b, off + k * 3 + 1, none⟩) hB, hb.cell (p := ⟨b, off + k * 3 + 2, none⟩) hB]
  exact ⟨h0, h1, h2⟩
set_option maxHeartbeats 2000000 in
theorem pcIndex_any {w : World} {a : Option Addr} {b off n c g : Nat} {lb : Array Value} {l : List I3} {p : I3 → Bool} (hz : l.length = n) (hbig : n ≤ 1099511627776) (ha : 0 < n → a = some ⟨b, off, none⟩ ∧ b < w.heap.size) (hc : PcsAt w b off l)
    (eg : ∀ args w, (callFunc g args).run Tryd.prog w = .ok (.enter g args) w)
    (hp : ∀ W x, x ∈ l → Below w.heap.size w W → Calls Tryd.prog g (#[i3V x] ++ lb) W fun e w' => e = .returned (.bool (p x)) ∧ Below W.heap.size W w') :
    Calls Tryd.prog 51 #[.slice a n c, .func (.func g) #[] lb] w fun e w' => ∃ r : Int, e = .returned (.int .i64 r) ∧ decide (0 ≤ r) = l.any p ∧ Below w.heap.size w w' := by
  have HZ := Lib.hid hz
  have HC := Lib.hid hc
  have HP := Lib.hid hp
  have HA := Lib.hid ha
  clear hz hc hp ha
  go_enter Tryd.func51, Tryd.ntmps51
  go_wp2
  go_loopw [5, 8] (fun _ i wr => ∃ k : Nat, k ≤ n ∧ i = .int .i64 k ∧ Aside ((l.take k).any p = false) ∧ Aside (Below w.heap.size w wr)) (fun _ i _ => n - (intOf i).toNat)
  case atStart => exact ⟨0, Nat.zero_le _, rfl, (show _ = false by simp), Below.refl _ _⟩
  case round =>
    obtain ⟨k, hk, rfl, A, BW⟩ := hrel
    by_cases hlt : k < n
    · obtain ⟨rfl, hb⟩ := HA.out (by omega)
      have hkl : k < l.length := by rw [HZ.out]; exact hlt
      obtain ⟨c0, c1, c2⟩ := (HC.out.below hb BW.out) k hkl
      have hcall := HP.out wr l[k]! (by rw [getElem!_pos l k hkl]; exact List.getElem_mem _) BW.out
      have hnext : (l.take (k + 1)).any p = ((l.take k).any p || p l[k]!) := by
        rw [getElem!_pos l k hkl, ← List.take_append_getElem hkl, List.any_append]
        simp
      have hin : p l[k]! = true → l.any p = true := fun h => List.any_eq_true.2 ⟨l[k]!, by rw [getElem!_pos l k hkl]; exact List.getElem_mem _, h⟩
      generalize l[k]! = y at *
      obtain ⟨y0, y1, y2⟩ := y
      dsimp only at c0 c1 c2
      unfold i3V at hcall
      dsimp only at hcall
      have i1 : (0 : Int) ≤ (k : Int) := by omega
      have i2 : (k : Int) < (n : Int) := by omega
      have HN := Lib.hid hnext
      have HI := Lib.hid hin
      clear hnext hin HC HP hkl
      cases hq : p (y0, y1, y2) with
      | true =>
        rw [hq] at hcall
        go_wp2_with (refine hcall.mono ?_; rintro e w' ⟨rfl, hb'⟩)
        go_ret
        exact ⟨k, rfl, by rw [HI.out hq]; simp, below_trans BW.out hb'⟩
      | false =>
        rw [hq] at hcall
        go_wp2_with (refine hcall.mono ?_; rintro e w' ⟨rfl, hb'⟩)
        go_roundw
        case rel => exact ⟨k + 1, by omega, by go_num, (show _ = false by rw [HN.out, A.out, hq]; rfl), below_trans BW.out hb'⟩
        case measure => simp [intOf]; omega
    · have hkn : k = n := by omega
      subst hkn
      have HX : Aside (l.any p = false) := by
        have := A.out
        rw [List.take_of_length_le (by rw [HZ.out]; exact Nat.le_refl _)] at this
        exact this
      clear HC HP HZ A HA
      go_wp2
      go_ret
      exact ⟨-1, rfl, by rw [HX.out]; rfl, BW.out⟩
theorem pcContains_any {w : World} {a : Option Addr} {b off n c g : Nat} {lb : Array Value} {l : List I3} {p : I3 → Bool} (hz : l.length = n) (hbig : n ≤ 1099511627776) (ha : 0 < n → a = some ⟨b, off, none⟩ ∧ b < w.heap.size) (hc : PcsAt w b off l)
    (eg : ∀ args w, (callFunc g args).run Tryd.prog w = .ok (.enter g args) w)
    (hp : ∀ W x, x ∈ l → Below w.heap.size w W → Calls Tryd.prog g (#[i3V x] ++ lb) W fun e w' => e = .returned (.bool (p x)) ∧ Below W.heap.size W w') :
    Calls Tryd.prog 47 #[.slice a n c, .func (.func g) #[] lb] w fun e w' => e = .returned (.bool (l.any p)) ∧ Below w.heap.size w w' := by
  have hcon := pcIndex_any hz hbig ha hc eg hp (c := c)
  clear hz hc hp ha
  go_enter Tryd.func47, Tryd.ntmps47
  go_wp2_with (go_at_call 51; refine hcon.mono ?_; rintro e w1 ⟨r, rfl, hr, hb⟩)
  all_goals go_ret
  all_goals exact ⟨by rw [← hr]; rfl, hb⟩
/-- The labels that are set by the first k pieces. -/
def setS (l : List I3) (k : Nat) (j : Int) : Bool := decide (j = 0) || (l.take k).any fun q => decide (q.2.1 = j)
def pcAt (l : List I3) (k : Nat) : Bool := inB l[k]!.1 1 30 && (inB l[k]!.2.1 0 10 && (inB l[k]!.2.2 0 10 && !(decide (0 < l[k]!.2.1) && setS l k l[k]!.2.1)))
def pcUp (l : List I3) (k : Nat) : Bool := (List.range k).all (pcAt l)
/-- What PiecesValid answers. -/
def piecesB (l : List I3) : Bool := pcUp l l.length && (decide (l.length ≤ 20) && !(l.any fun q => !setS l l.length q.2.2))
theorem pcUp_succ {l : List I3} {k : Nat} : pcUp l (k + 1) = (pcUp l k && pcAt l k) := by simp [pcUp, List.range_succ]
theorem pcUp_no {l : List I3} {k n : Nat} (h : k < n) (hk : pcAt l k = false) : pcUp l n = false := by
  simp only [pcUp, List.all_eq_false]
  exact ⟨k, by simpa using h, by simp [hk]⟩
theorem setS_succ {l : List I3} {k : Nat} (h : k < l.length) : (fun i => decide (i = l[k]!.2.1) || setS l k i) = setS l (k + 1) := by
  funext i
  unfold setS
  rw [getElem!_pos l k h, ← List.take_append_getElem h, List.any_append, List.any_cons, List.any_nil]
  cases decide (i = 0) <;> cases (List.take k l).any (fun q => decide (q.2.1 = i)) <;> simp [eq_comm]
theorem inC_any (n a b : Int) (w : World) :
    Calls Tryd.prog 43 #[.int .i64 n, .int .i64 a, .int .i64 b] w fun e w' => e = .returned (.bool (inB n a b)) ∧ w = w' := by
  by_cases h1 : a ≤ n
  · go_enter Tryd.func43, Tryd.ntmps43
    go_wp2
    all_goals go_ret
    all_goals exact ⟨by simp [inB, *], rfl⟩
  · go_enter Tryd.func43, Tryd.ntmps43
    go_wp2
    all_goals go_ret
    all_goals exact ⟨by simp [inB]; omega, rfl⟩
theorem grown_of_below {w w' : World} (h : Below w.heap.size w w') : w.grownBy w' none := ⟨h.os, h.tape, h.output, h.size, fun i hi _ => h.block i hi⟩
set_option maxHeartbeats 4000000 in
theorem implPieces_any {w : World} {a : Option Addr} {b off n c : Nat} {l : List I3} (hz : l.length = n) (hbig : n ≤ 1048576) (ha : 0 < n → a = some ⟨b, off, none⟩ ∧ b < w.heap.size) (hc : PcsAt w b off l) (hI : ∀ k, k < l.length → okI l[k]!.1 ∧ okI l[k]!.2.1 ∧ okI l[k]!.2.2) :
    Calls Tryd.prog 42 #[.slice a n c] w fun e w' => e = .returned (.bool (piecesB l)) ∧ Below w.heap.size w w' := by
  have HZ := Lib.hid hz
  have HC := Lib.hid hc
  have HI := Lib.hid hI
  have HA := Lib.hid ha
  clear hz hc hI ha
  have hmm := @run_makeMap Tryd.prog
  have hmf : ∀ (fn : Fn) (first cap : Array Value) (w : World), (Instr.makeFunc fn first cap).run Tryd.prog w = .ok (.func fn first cap) w := fun _ _ _ _ => rfl
  obtain ⟨w1, hrun1, hS1, hg1⟩ := (set_made w).upd (j := 0) (by constructor <;> omega) (by omega)
  have hl1 := hS1.lt
  have HS1 := Lib.hid hS1
  have HG1 := Lib.hid hg1
  clear hS1 hg1
  go_enter Tryd.func42, Tryd.ntmps42
  go_wp2
  go_loopw [10] (fun i wr => ∃ k : Nat, k ≤ n ∧ i = .int .i64 k ∧ Aside (SetAt wr w.heap.size (k + 1) (setS l k)) ∧ Aside (OwnC wr w1.heap.size #[.map (some w.heap.size)] 65) ∧ Aside (Below w.heap.size w wr) ∧ Aside (pcUp l k = true)) (fun i _ => n - (intOf i).toNat)
  case atStart =>
    refine ⟨0, Nat.zero_le _, rfl, (show SetAt _ _ _ _ from ?_), (show OwnC _ _ _ _ from OwnC.new _ _ _), (show Below _ _ _ from below_alloc (below_grown (below_alloc (Below.refl _ _)) HG1.out (Nat.le_refl _))), (show pcUp l 0 = true by simp [pcUp])⟩
    have e : setS l 0 = fun i => decide (i = 0) || false := by funext i; simp [setS]
    rw [e]
    exact HS1.out.alloc _
  case round =>
    obtain ⟨k, hk, rfl, AS, AO, AB, AP⟩ := hrel
    by_cases hlt : k < n
    · obtain ⟨rfl, hb⟩ := HA.out (by omega)
      have hkl : k < l.length := by rw [HZ.out]; exact hlt
      obtain ⟨c0, c1, c2⟩ := (HC.out.below hb AB.out) k hkl
      obtain ⟨o0, o1, o2⟩ := HI.out k hkl
      have i1 : (0 : Int) ≤ (k : Int) := by omega
      have i2 : (k : Int) < (n : Int) := by omega
      have hat : pcAt l k = (inB l[k]!.1 1 30 && (inB l[k]!.2.1 0 10 && (inB l[k]!.2.2 0 10 && !(decide (0 < l[k]!.2.1) && setS l k l[k]!.2.1)))) := rfl
      have HT := Lib.hid hat
      have hres := Lib.hid (show pcAt l k = false → piecesB l = false from fun h => by unfold piecesB; rw [pcUp_no hkl h]; rfl)
      have HSU := Lib.hid (setS_succ hkl)
      clear hat
      generalize l[k]! = y at *
      obtain ⟨y0, y1, y2⟩ := y
      dsimp only at c0 c1 c2 o0 o1 o2 HT HSU
      have hv := cell_alloc (AO.out.facts.1 0) (.cells #[.int .i64 y0, .int .i64 y1, .int .i64 y2] 40)
      have hlk := (AS.out.alloc (.cells #[.int .i64 y0, .int .i64 y1, .int .i64 y2] 40)).look o1
      obtain ⟨w3, hup, hS3, hg3⟩ := (AS.out.alloc (.cells #[.int .i64 y0, .int .i64 y1, .int .i64 y2] 40)).upd o1 (by omega)
      rw [HSU.out] at hS3
      generalize setS l k y1 = s at hlk HT
      have HS3 := Lib.hid hS3
      have HG3 := Lib.hid hg3
      clear hS3 hg3 HSU o0 o1 o2 hkl
      cases h0 : inB y0 1 30 with
      | false =>
        have HX : Aside (piecesB l = false) := hres.out (by rw [HT.out, h0]; rfl)
        clear hlk HT hres
        go_wp2_with (go_at_call 43; refine (inC_any _ _ _ _).mono ?_; rintro e w' ⟨rfl, rfl⟩)
        go_ret
        exact ⟨by (rw [HX.out]; first | done | rfl), below_alloc AB.out⟩
      | true =>
      cases h1 : inB y1 0 10 with
      | false =>
        have HX : Aside (piecesB l = false) := hres.out (by rw [HT.out, h0, h1]; rfl)
        clear hlk HT hres
        go_wp2_with (go_at_call 43; refine (inC_any _ _ _ _).mono ?_; rintro e w' ⟨rfl, rfl⟩)
        go_ret
        exact ⟨by (rw [HX.out]; first | done | rfl), below_alloc AB.out⟩
      | true =>
      cases h2 : inB y2 0 10 with
      | false =>
        have HX : Aside (piecesB l = false) := hres.out (by rw [HT.out, h0, h1, h2]; rfl)
        clear hlk HT hres
        go_wp2_with (go_at_call 43; refine (inC_any _ _ _ _).mono ?_; rintro e w' ⟨rfl, rfl⟩)
        go_ret
        exact ⟨by (rw [HX.out]; first | done | rfl), below_alloc AB.out⟩
      | true =>
      by_cases hp : 0 < y1
      · cases s with
        | true =>
          have HX : Aside (piecesB l = false) := hres.out (by rw [HT.out, h0, h1, h2]; simp [hp])
          clear HT hres
          go_wp2_with (go_at_call 43; refine (inC_any _ _ _ _).mono ?_; rintro e w' ⟨rfl, rfl⟩)
          go_ret
          exact ⟨by (rw [HX.out]; first | done | rfl), below_alloc AB.out⟩
        | false =>
          have hpc : pcAt l k = true := by rw [HT.out, h0, h1, h2]; simp [hp]
          have HQ := Lib.hid (show pcUp l (k + 1) = true by rw [pcUp_succ, AP.out, hpc]; rfl)
          clear HT hres hpc
          go_wp2_with (go_at_call 43; refine (inC_any _ _ _ _).mono ?_; rintro e w' ⟨rfl, rfl⟩)
          go_roundw
          case rel => exact ⟨k + 1, by omega, by go_num, (show SetAt _ _ _ _ from HS3.out), (show OwnC _ _ _ _ from (AO.out.alloc _).grown HG3.out (by simp; omega)), (show Below _ _ _ from below_grown (below_alloc AB.out) HG3.out (Nat.le_refl _)), (show pcUp l (k + 1) = true from HQ.out)⟩
          case measure => simp [intOf]; omega
      · have hpc : pcAt l k = true := by rw [HT.out, h0, h1, h2]; simp [hp]
        have hd : decide (0 < y1) = false := by simpa using hp
        clear hp hlk
        have HQ := Lib.hid (show pcUp l (k + 1) = true by rw [pcUp_succ, AP.out, hpc]; rfl)
        clear HT hres hpc
        go_wp2_with (go_at_call 43; refine (inC_any _ _ _ _).mono ?_; rintro e w' ⟨rfl, rfl⟩)
        go_roundw
        case rel => exact ⟨k + 1, by omega, by go_num, (show SetAt _ _ _ _ from HS3.out), (show OwnC _ _ _ _ from (AO.out.alloc _).grown HG3.out (by simp; omega)), (show Below _ _ _ from below_grown (below_alloc AB.out) HG3.out (Nat.le_refl _)), (show pcUp l (k + 1) = true from HQ.out)⟩
        case measure => simp [intOf]; omega
    · have hkn : k = n := by omega
      subst hkn
      have hcon := pcContains_any (c := c) (lb := #[.pointer (some ⟨w1.heap.size, 0, none⟩)]) (g := 48) (p := fun q => !setS l k q.2.2) HZ.out (by omega) (fun h => ⟨(HA.out h).1, Nat.lt_of_lt_of_le (HA.out h).2 AB.out.size⟩) (b := b) (off := off) (fun j hj => (HC.out.below (HA.out (by have := HZ.out; omega)).2 AB.out) j hj) (fun args w => by kernel_rfl)
        (fun W x hx hW => by
          obtain ⟨j, hj, rfl⟩ := List.mem_iff_getElem.1 hx
          have ho := (HI.out j hj).2.2
          rw [getElem!_pos l j hj] at ho
          exact pieceFn_any ((hW.cell (p := ⟨w1.heap.size, 0, none⟩) AO.out.lt).trans (AO.out.facts.1 0)) (AS.out.kept (grown_of_below hW) (by simp)) _ _ _ ho)
      have hX : piecesB l = (decide ((k : Int) ≤ 20) && !(l.any fun q => !setS l k q.2.2)) := by
        unfold piecesB
        rw [HZ.out, AP.out, Bool.true_and, show decide (k ≤ 20) = decide ((k : Int) ≤ 20) from by rw [decide_eq_decide]; omega]
      have HX := Lib.hid hX
      clear hX HC HI HZ HA AS AO AP HS1 HG1
      generalize (l.any fun q => !setS l k q.2.2) = s at hcon HX
      cases hle : decide ((k : Int) ≤ 20) with
      | false =>
        go_wp2
        go_ret
        exact ⟨by (rw [HX.out, hle]; first | done | rfl), AB.out⟩
      | true =>
        go_wp2_with (go_at_call 47; refine hcon.mono ?_; rintro e w2 ⟨rfl, hb2⟩)
        all_goals go_ret
        all_goals exact ⟨by (rw [HX.out, hle]; first | done | rfl | simp), below_trans AB.out hb2⟩
abbrev dPcs := dL 3 (dA3 dI dI dI)
abbrev okPcs (l : List I3) : Prop := l.length ≤ 1048576 ∧ ∀ q ∈ l, okI q.1 ∧ okI q.2.1 ∧ okI q.2.2
noncomputable instance (l : List I3) : Decidable (okPcs l) := Classical.propDecidable _
noncomputable def φPieces : Fun := F1 dPcs fun l => if okPcs l then some (bv (piecesB l)) else none
theorem φPieces_ap {l : List I3} (h : okPcs l) : φPieces [.lst false 3 (l.map fun q => .agg [.val (.int .i64 q.1), .val (.int .i64 q.2.1), .val (.int .i64 q.2.2)])] = some (.val (.bool (piecesB l))) :=
  (F1_ap (A := dPcs) l).trans (if_pos h)
theorem pcs_of {g : Gh} {w : World} {b off : Nat} {l : List I3} (h : RepEs g w 3 (l.map fun q => PV.agg [.val (.int .i64 q.1), .val (.int .i64 q.2.1), .val (.int .i64 q.2.2)]) b off) : PcsAt w b off l := fun k hk => by
  obtain ⟨u, h1, h2, _⟩ := h.get (i := k) (e := PV.agg [.val (.int .i64 l[k]!.1), .val (.int .i64 l[k]!.2.1), .val (.int .i64 l[k]!.2.2)]) (by rw [getElem!_pos l k hk]; simp [hk])
  simp only [Rep, RepL] at h1
  obtain ⟨⟨vs⟩, rfl, v0, vs0, e0, rfl, v1, vs1, rfl, rfl, v2, vs2, rfl, rfl, rfl⟩ := h1
  dsimp only at e0
  subst e0
  have h3 := h2.2
  exact ⟨by simpa [Value.cells] using h3 0 (by simp [Value.cells]), by simpa [Value.cells] using h3 1 (by simp [Value.cells]), by simpa [Value.cells] using h3 2 (by simp [Value.cells])⟩
theorem implPieces_ok : Sound Tryd.prog 42 φPieces := by
  intro w J ps args r hr hJ _ hargs
  obtain ⟨l, rfl, hq⟩ := F1_some hr
  split at hq
  case isFalse => cases hq
  case isTrue hok =>
  cases hq
  simp only [RepL] at hargs
  obtain ⟨v1, vs1, e1, h1, rfl⟩ := hargs
  obtain rfl : args = #[v1] := by
    obtain ⟨a⟩ := args
    simp only at e1
    rw [e1]
  have hII : ∀ k, k < l.length → okI l[k]!.1 ∧ okI l[k]!.2.1 ∧ okI l[k]!.2.2 := fun k hk => by
    rw [getElem!_pos l k hk]
    exact hok.2 _ (List.getElem_mem hk)
  simp only [dPcs, dL, dA3, dI, Rep] at h1
  obtain ⟨a, cap, rfl, k1, k2, k3⟩ := h1
  simp only [List.length_map] at k1 ⊢
  rcases k3 with k3 | ⟨b, off, rfl, k4, k5⟩
  · have h0 : l.length = 0 := by simpa using k3
    exact (implPieces_any (b := 0) (off := 0) rfl hok.1 (fun h => by omega) (fun k hk => by omega) hII).mono fun e w' h => ⟨_, h.1, h.2, fun g' _ => by simp [Rep]⟩
  · exact (implPieces_any rfl hok.1 (fun h => ⟨rfl, hJ _ (by simpa [argG] using k4)⟩) (pcs_of k5) hII).mono fun e w' h => ⟨_, h.1, h.2, fun g' _ => by simp [Rep]⟩
end Go.Proofs.YtghhlakfbgcmkaaDoor
