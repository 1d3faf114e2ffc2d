/- Marks written into rows, and whether they are still there. -/
import Derived.Test.YtenhkmkajmnaaaaPxObj
import Derived.Test.YtenhkmkajmnaaaaPxBook
namespace Go.Proofs.Ytenhkmkajmnaaaa
open Go.RowKit
set_option linter.all false
/-- A list of which the first j elements are marks. -/
def mixL {α : Type} (m : Nat → α) (l : List α) (j : Nat) : List α := (List.range j).map m ++ l.drop j
section
variable {α : Type} {m : Nat → α} {l : List α} {j : Nat}
theorem mixL_length (h : j ≤ l.length) : (mixL m l j).length = l.length := by simp [mixL]; omega
theorem mixL_zero : mixL m l 0 = l := by simp [mixL]
theorem mixL_full (h : l.length ≤ j) : mixL m l j = (List.range j).map m := by simp [mixL, List.drop_eq_nil_of_le h]
theorem mixL_set (h : j < l.length) : (mixL m l j).set j (m j) = mixL m l (j + 1) := by
  have e : l.drop j = l[j] :: l.drop (j + 1) := List.drop_eq_getElem_cons h
  unfold mixL
  rw [List.set_append_right _ _ (by simp), e, show j - ((List.range j).map m).length = 0 by simp, List.set_cons_zero, List.range_succ]
  simp
end
def marksI (k : Int) (n : Nat) : List Int := (List.range n).map fun j : Nat => k + j
theorem marksI_length (k : Int) (n : Nat) : (marksI k n).length = n := by simp [marksI]
theorem marksI_at (k : Int) {n j : Nat} (h : j < n) : (marksI k n)[j]?.getD 0 = k + j := by simp [marksI, h]
/-- What 'mark' asks and gives: a row whose cells hold what en gives. -/
def MarkD {α : Type} (T : Nat) (en : α → PV) (ps : List PV) (cs : List CellIO) : Prop :=
  (∃ (l : List α) (k : Int), ps = [.row 0 1 0 l.length, .val (.int .i64 k)] ∧ cs = [(T, 1, l.map en)] ∧ l.length ≤ 1048576 ∧ 0 < k ∧ k ≤ 1099511627776) ∨ ∃ k : Int, ps = [.val (.slice none 0 0), .val (.int .i64 k)] ∧ cs = []
def Marks {α : Type} (T : Nat) (en : α → PV) (mk : Int → Nat → List α) (Φ : FunIO) : Prop :=
  (∀ (l : List α) (k : Int), l.length ≤ 1048576 → 0 < k → k ≤ 1099511627776 → Φ [.row 0 1 0 l.length, .val (.int .i64 k)] [(T, 1, l.map en)] = some (.val (.int .i64 (k + l.length)), [(T, 1, (mk k l.length).map en)])) ∧
  ∀ k : Int, Φ [.val (.slice none 0 0), .val (.int .i64 k)] [] = some (.val (.int .i64 k), [])
end Go.Proofs.Ytenhkmkajmnaaaa
