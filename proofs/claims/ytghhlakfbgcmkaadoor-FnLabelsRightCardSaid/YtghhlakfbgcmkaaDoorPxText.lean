/- Gaps between words. -/
import Derived.Test.YtghhlakfbgcmkaaDoorPxObj
import Derived.Test.YtghhlakfbgcmkaaDoorPxBook
namespace Go.Proofs.YtghhlakfbgcmkaaDoor
open Go.RowKit
set_option linter.all false
/-- Bytes of words with single spaces between them. -/
def natN (l : LS) : Nat := sumS l + (l.length - 1)
theorem natN_le {l : LS} (h : okSs l) : natN l ≤ 1099512676352 := by
  have h1 := sumS_le h.2
  have h2 : l.length * 1048576 ≤ 1048576 * 1048576 := Nat.mul_le_mul_right _ h.1
  unfold natN
  have := h.1
  omega
noncomputable def φNat : Fun := F1 dSs fun l => if okSs l then some (iv (natN l)) else none
theorem φNat_ap {l : LS} (h : okSs l) : φNat [.lst false 1 (l.map fun s => .val (.string s))] = some (.val (.int .i64 (natN l))) :=
  (F1_ap (A := dSs) l).trans (if_pos h)
def gapF (m n : Int) (k : Nat) : Int := 1 + m * (k + 1) / n - m * k / n
def gapsL (l : LS) (wd : Int) : List Int := (List.range (l.length - 1)).map (gapF (wd - natN l) ((l.length : Int) - 1))
def gapsK (l : LS) (wd : Int) (k : Nat) : List Int := (List.range k).map (gapF (wd - natN l) ((l.length : Int) - 1))
theorem gapsL_K {l : LS} {wd : Int} : gapsL l wd = gapsK l wd (l.length - 1) := rfl
theorem gapsK_step {l : LS} {wd : Int} {L : List Int} (h : L = gapsK l wd L.length) : L ++ [gapF (wd - natN l) ((l.length : Int) - 1) L.length] = gapsK l wd (L ++ [gapF (wd - natN l) ((l.length : Int) - 1) L.length]).length := by
  have e : gapsK l wd (L.length + 1) = gapsK l wd L.length ++ [gapF (wd - natN l) ((l.length : Int) - 1) L.length] := by
    simp [gapsK, List.range_succ]
  rw [List.length_append, List.length_cons, List.length_nil, Nat.zero_add, e, ← h]
def gapsB (l : LS) (wd : Int) : Bool := allWords l && (!decide (l.length = 0) && (inB wd 1 60 && decide ((natN l : Int) ≤ wd)))
def gapsR (l : LS) (wd : Int) : List Int := if gapsB l wd = true then gapsL l wd else []
noncomputable def φGaps : Fun := F2 dSs dI fun l wd => if okSs l then some (.tup [.lst true 1 ((gapsR l wd).map fun n => .val (.int .i64 n)), .val (.bool (gapsB l wd))]) else none
theorem φGaps_ap {l : LS} {wd : Int} (h : okSs l) : φGaps [.lst false 1 (l.map fun s => .val (.string s)), .val (.int .i64 wd)] = some (.tup [.lst true 1 ((gapsR l wd).map fun n => .val (.int .i64 n)), .val (.bool (gapsB l wd))]) :=
  (F2_ap (A := dSs) (B := dI) l wd).trans (if_pos h)
theorem gapsR_no {l : LS} {wd : Int} (h : gapsB l wd = false) : gapsR l wd = [] := by simp [gapsR, h]
theorem gapsR_yes {l : LS} {wd : Int} (h : gapsB l wd = true) : gapsR l wd = gapsL l wd := by simp [gapsR, h]
theorem gaps_no {l : LS} {wd : Int} (h : gapsB l wd = false) : (PV.tup [.val (.slice none 0 0), .val (.bool false)]).le (.tup [.lst true 1 ((gapsR l wd).map fun n => .val (.int .i64 n)), .val (.bool (gapsB l wd))]) := by
  rw [gapsR_no h, h]
  exact tup_le ⟨nil_le _ _, PV.le_refl _, trivial⟩
theorem gapsB_iff {l : LS} {wd : Int} : gapsB l wd = true ↔ allWords l = true ∧ l.length ≠ 0 ∧ inB wd 1 60 = true ∧ (natN l : Int) ≤ wd := by
  simp [gapsB]
theorem allWords_len {l : LS} (h : allWords l = true) : l.length ≤ 12 := by
  unfold allWords at h
  simp only [Bool.and_eq_true, decide_eq_true_eq] at h
  exact h.1
theorem gap_rng {m n : Int} {k : Nat} (hm : 0 ≤ m) (hm2 : m ≤ 60) (hk : (k : Int) ≤ 12) (hn : 0 ≤ n) :
    (0 ≤ m * (k + 1) ∧ m * (k + 1) ≤ 780) ∧ (0 ≤ m * k ∧ m * k ≤ 780) ∧ (0 ≤ m * (k + 1) / n ∧ m * (k + 1) / n ≤ 780) ∧ (0 ≤ m * k / n ∧ m * k / n ≤ 780) := by
  have h1 : 0 ≤ m * (k + 1) := Int.mul_nonneg hm (by omega)
  have h2 : 0 ≤ m * k := Int.mul_nonneg hm (by omega)
  have h3 : m * (k + 1) ≤ 60 * 13 := Int.mul_le_mul hm2 (by omega) (by omega) (by omega)
  have h4 : m * k ≤ 60 * 13 := Int.mul_le_mul hm2 (by omega) (by omega) (by omega)
  refine ⟨⟨h1, by omega⟩, ⟨h2, by omega⟩, ⟨Int.ediv_nonneg h1 hn, ?_⟩, ⟨Int.ediv_nonneg h2 hn, ?_⟩⟩
  · have := Int.ediv_le_self n h1; omega
  · have := Int.ediv_le_self n h2; omega
theorem sumS_nil : sumS [] = 0 := rfl
theorem sumS_take {l : LS} {k : Nat} (h : k < l.length) : sumS (l.take (k + 1)) = sumS (l.take k) + (l[k]?.getD .empty).size := by
  rw [List.take_add_one, List.getElem?_eq_getElem h]
  simp only [sumS, List.map_append, List.sum_append, Option.toList_some, List.map_cons, List.map_nil, List.sum_cons, List.sum_nil, Nat.add_zero, Option.getD_some]
theorem sumS_take_le (l : LS) (k : Nat) : sumS (l.take k) ≤ sumS l := by
  have h : sumS l = sumS (l.take k) + sumS (l.drop k) := by
    conv => lhs; rw [← List.take_append_drop k l]
    simp only [sumS, List.map_append, List.sum_append]
  omega
end Go.Proofs.YtghhlakfbgcmkaaDoor
