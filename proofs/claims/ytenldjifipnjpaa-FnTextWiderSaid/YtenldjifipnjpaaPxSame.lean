/- Equal lists of numbers, as the statements compare them. -/
import Derived.Test.YtenldjifipnjpaaPxText
namespace Go.Proofs.Ytenldjifipnjpaa
open Go.RowKit
set_option linter.all false
theorem sel_rng {a b d : Int} {l : List Int} {i : Nat} (h : ∀ x ∈ l, a ≤ x ∧ x ≤ b) (h1 : a ≤ d) (h2 : d ≤ b) : a ≤ sel d l i ∧ sel d l i ≤ b := by
  unfold sel
  by_cases hi : i < l.length
  · rw [List.getElem?_eq_getElem hi, Option.getD_some]
    exact h _ (List.getElem_mem hi)
  · rw [List.getElem?_eq_none (by omega)]
    exact ⟨h1, h2⟩
end Go.Proofs.Ytenldjifipnjpaa
