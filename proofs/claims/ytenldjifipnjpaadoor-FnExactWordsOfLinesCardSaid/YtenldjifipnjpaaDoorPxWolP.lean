/- Words between spaces: the plain law of strings.Split with the empty pieces left out. -/
import Derived.Test.YtenldjifipnjpaaDoorPxGl
import Derived.Lib.SplitLaws
namespace Go.Proofs.YtenldjifipnjpaaDoor
open Go.RowKit
set_option linter.all false
/-- Cut at each c. -/
def splitC (c : UInt8) : List UInt8 → List (List UInt8)
  | [] => [[]]
  | b :: l => if b = c then [] :: splitC c l else match splitC c l with
    | h :: t => (b :: h) :: t
    | [] => [[b]]
theorem splitC_ne (c : UInt8) : ∀ s, splitC c s ≠ []
  | [] => by simp [splitC]
  | b :: l => by
    unfold splitC
    split
    · simp
    · split <;> simp
theorem index_eq (c : UInt8) (l : List UInt8) : Lib.index (c :: l) [c] = 0 := by simp [Lib.index, List.isPrefixOf]
theorem index_ne {b c : UInt8} (l : List UInt8) (h : ¬ b = c) : Lib.index (b :: l) [c] = if Lib.index l [c] == -1 then -1 else Lib.index l [c] + 1 := by
  have hp : ([c] : List UInt8).isPrefixOf (b :: l) = false := by
    have : ¬ c = b := fun e => h e.symm
    simp [List.isPrefixOf, this]
  rw [Lib.index, hp]
  simp
theorem splitK_ne {b c : UInt8} (l : List UInt8) (h : ¬ b = c) : ∀ k, ∃ h0 t, Lib.splitK [c] 0 k l = h0 :: t ∧ Lib.splitK [c] 0 k (b :: l) = (b :: h0) :: t
  | 0 => ⟨l, [], rfl, rfl⟩
  | k + 1 => by
    by_cases hi : Lib.index l [c] = -1
    · refine ⟨l, [], ?_, ?_⟩
      · unfold Lib.splitK
        rw [if_pos (beq_iff_eq.2 hi)]
      · unfold Lib.splitK
        rw [index_ne l h, if_pos (beq_iff_eq.2 hi)]
        rfl
    · have hge := Lib.index_ge l [c]
      have h1 : ¬ (Lib.index l [c] == -1) = true := fun e => hi (beq_iff_eq.1 e)
      have h2 : ¬ (Lib.index l [c] + 1 == -1) = true := fun e => by have := beq_iff_eq.1 e; omega
      refine ⟨l.take ((Lib.index l [c]).toNat + 0), Lib.splitK [c] 0 k (l.drop ((Lib.index l [c]).toNat + 1)), ?_, ?_⟩
      · conv => lhs; unfold Lib.splitK
        rw [if_neg h1]
        rfl
      · conv => lhs; unfold Lib.splitK
        rw [index_ne l h, if_neg h1, if_neg h2, show (Lib.index l [c] + 1).toNat = (Lib.index l [c]).toNat + 1 by omega]
        rfl
theorem splitK_C (c : UInt8) : ∀ s : List UInt8, Lib.splitK [c] 0 (Lib.count s [c]) s = splitC c s
  | [] => by
    rw [Lib.count_one]
    rfl
  | b :: l => by
    have ih := splitK_C c l
    by_cases h : b = c
    · subst h
      rw [Lib.count_cons_eq, Nat.add_comm]
      unfold splitC
      conv => lhs; unfold Lib.splitK
      rw [index_eq, if_neg (by decide), if_pos rfl, ← ih]
      rfl
    · rw [Lib.count_cons_ne b c l h]
      obtain ⟨h0, t, e1, e2⟩ := splitK_ne l h (Lib.count l [c])
      rw [e2]
      unfold splitC
      rw [if_neg h, ← ih, e1]
/-- The words, byte by byte; w: the word so far. -/
def wordsM : List UInt8 → List UInt8 → List (List UInt8)
  | [], w => if w = [] then [] else [w]
  | b :: l, w => if b = 32 then (if w = [] then [] else [w]) ++ wordsM l [] else wordsM l (w ++ [b])
def hcat (w : List UInt8) : List (List UInt8) → List (List UInt8)
  | h :: t => (w ++ h) :: t
  | [] => []
theorem hcat_nil (l : List (List UInt8)) : hcat [] l = l := by cases l <;> rfl
theorem wordsM_split : ∀ (s w : List UInt8), (hcat w (splitC 32 s)).filter (fun x => decide (x ≠ [])) = wordsM s w
  | [], w => by
    by_cases h : w = [] <;> simp [splitC, hcat, wordsM, h]
  | b :: l, w => by
    by_cases h : b = 32
    · subst h
      have ih := wordsM_split l []
      rw [hcat_nil] at ih
      unfold splitC wordsM
      rw [if_pos rfl, if_pos rfl, ← ih]
      by_cases hw : w = [] <;> simp [hcat, hw]
    · have ih := wordsM_split l (w ++ [b])
      unfold splitC wordsM
      rw [if_neg h, if_neg h, ← ih]
      have hne := splitC_ne 32 l
      generalize splitC 32 l = L at *
      cases L with
      | nil => exact absurd rfl hne
      | cons x t => simp [hcat]
/-- The text that stands for a line: without the hyphen at its end, or with a space behind it. -/
def lineB (s : List UInt8) : List UInt8 := if Lib.hasSuffix s [45] then s.take (s.length - 1) else s ++ [32]
def linesB : List (List UInt8) → List UInt8
  | [] => []
  | s :: l => lineB s ++ linesB l
/-- What strings.Split and the loop behind it leave of the text. -/
theorem words_split (s : ByteArray) : ((Lib.splitB ⟨#[32]⟩ 0 (Lib.countB s ⟨#[32]⟩) s).filter fun x => decide (x.data.toList ≠ [])).map (·.data.toList) = wordsM s.data.toList [] := by
  have h := wordsM_split s.data.toList []
  rw [hcat_nil, ← splitK_C] at h
  rw [← h]
  have e := Lib.splitB_data ⟨#[32]⟩ 0 (Lib.countB s ⟨#[32]⟩) s
  have e2 : Lib.splitK [32] 0 (Lib.count s.data.toList [32]) s.data.toList = (Lib.splitB ⟨#[32]⟩ 0 (Lib.countB s ⟨#[32]⟩) s).map (·.data.toList) := e.symm
  rw [e2, List.filter_map]
  rfl
theorem suf_last (l : List UInt8) (z : UInt8) : Lib.hasSuffix (l ++ [z]) [45] = decide (z = 45) := by
  unfold Lib.hasSuffix List.isSuffixOf
  rw [List.reverse_append]
  by_cases h : z = 45
  · subst h; simp [List.isPrefixOf]
  · have h2 : ¬ (45 : UInt8) = z := fun e => h e.symm
    simp [List.isPrefixOf, h, h2]
theorem at8_u {s : ByteArray} {j : Nat} (h : j < s.data.toList.length) : at8 s j = (s.data.toList[j].toNat : Int) := by
  have hl : s.data.toList.length = s.size := Array.length_toList
  have e : s[j]? = some s.data.toList[j] := by
    rw [getElem?_pos s j (by omega)]
    congr 1
  unfold at8
  rw [e]
  rfl
/-- A line that ends with a hyphen. -/
theorem lb_hy {s : ByteArray} (h : 0 < s.size) (h2 : at8 s (s.size - 1) = 45) : lineB s.data.toList = s.data.toList.take (s.size - 1) := by
  obtain ⟨l, z, h3, h4, h5⟩ := str_last h
  have hl : s.data.toList.length = s.size := Array.length_toList
  have hz : z = 45 := UInt8.toNat_inj.1 (by have : (z.toNat : Int) = 45 := by rw [← h4]; exact h2
                                            show z.toNat = 45; omega)
  unfold lineB
  rw [if_pos (by rw [h3, suf_last, hz]; rfl), hl]
/-- A line that does not. -/
theorem lb_no {s : ByteArray} (h : s.size = 0 ∨ ¬ at8 s (s.size - 1) = 45) : lineB s.data.toList = s.data.toList ++ [32] := by
  have hl : s.data.toList.length = s.size := Array.length_toList
  unfold lineB
  rw [if_neg]
  intro hs
  by_cases h0 : s.size = 0
  · have : s.data.toList = [] := List.eq_nil_of_length_eq_zero (by omega)
    rw [this] at hs
    simp [Lib.hasSuffix, List.isSuffixOf, List.isPrefixOf] at hs
  · obtain ⟨l, z, h3, h4, h5⟩ := str_last (s := s) (by omega)
    rw [h3, suf_last, decide_eq_true_eq] at hs
    rcases h with h | h
    · exact h0 h
    · exact h (by rw [h4, hs]; rfl)
/-- One byte more. -/
theorem lb_step {s : ByteArray} {j : Nat} (h : j < s.data.toList.length) (h2 : ¬ (at8 s j = 45 ∧ j + 1 = s.size)) : (lineB s.data.toList).drop j = s.data.toList[j] :: (lineB s.data.toList).drop (j + 1) := by
  have hl : s.data.toList.length = s.size := Array.length_toList
  by_cases hy : at8 s (s.size - 1) = 45
  · rw [lb_hy (by omega) hy]
    have hj : j < s.size - 1 := by
      rcases Nat.lt_or_ge j (s.size - 1) with h3 | h3
      · exact h3
      · have e : j = s.size - 1 := by omega
        exact absurd ⟨by rw [e]; exact hy, by omega⟩ h2
    rw [List.drop_eq_getElem_cons (by rw [List.length_take]; omega), List.getElem_take]
  · rw [lb_no (.inr hy), List.drop_eq_getElem_cons (by rw [List.length_append]; omega), List.getElem_append_left h]
theorem lb_skip {s : ByteArray} {j : Nat} (h : j < s.size) (h2 : at8 s j = 45) (h3 : j + 1 = s.size) : (lineB s.data.toList).drop j = (lineB s.data.toList).drop (j + 1) := by
  have hl : s.data.toList.length = s.size := Array.length_toList
  have e : j = s.size - 1 := by omega
  rw [lb_hy (by omega) (by rw [← e]; exact h2), List.drop_of_length_le (by rw [List.length_take]; omega), List.drop_of_length_le (by rw [List.length_take]; omega)]
theorem lb_end_hy {s : ByteArray} (h : 0 < s.size) (h2 : at8 s (s.size - 1) = 45) : (lineB s.data.toList).drop s.size = [] := by
  rw [lb_hy h h2, List.drop_of_length_le (by rw [List.length_take]; omega)]
theorem lb_end_no {s : ByteArray} (h : s.size = 0 ∨ ¬ at8 s (s.size - 1) = 45) : (lineB s.data.toList).drop s.size = [32] := by
  have hl : s.data.toList.length = s.size := Array.length_toList
  rw [lb_no h, List.drop_append_of_le_length (by omega), List.drop_of_length_le (by omega), List.nil_append]
end Go.Proofs.YtenldjifipnjpaaDoor
