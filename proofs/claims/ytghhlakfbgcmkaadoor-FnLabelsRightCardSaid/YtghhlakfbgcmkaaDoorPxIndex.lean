/- Lists of words (IndexValid) by the engine. -/
import Derived.Test.YtghhlakfbgcmkaaDoorPxTy
import Derived.Test.YtghhlakfbgcmkaaDoorPlain
import Derived.Test.YtghhlakfbgcmkaaDoorPxGrid
namespace Go.Proofs.YtghhlakfbgcmkaaDoor
open Go.RowKit
set_option linter.all false
/-- What WordValid answers. -/
def wordB (s : ByteArray) : Bool := (List.range s.size).all (fun k => inB (at8 s k) 97 122) && inB s.size 1 20
theorem wordB_no {s : ByteArray} {k : Nat} (h : k < s.size) (hb : ¬ (97 ≤ at8 s k ∧ at8 s k ≤ 122)) : wordB s = false := by
  unfold wordB
  have : (List.range s.size).all (fun k => inB (at8 s k) 97 122) = false := by
    rw [List.all_eq_false]
    exact ⟨k, List.mem_range.2 h, by rw [inB_iff]; exact hb⟩
  rw [this]
  rfl
theorem wordB_yes {s : ByteArray} (h : ∀ j, j < s.size → 97 ≤ at8 s j ∧ at8 s j ≤ 122) : wordB s = inB s.size 1 20 := by
  unfold wordB
  have : (List.range s.size).all (fun k => inB (at8 s k) 97 122) = true := by
    rw [List.all_eq_true]
    intro k hk
    exact inB_iff.2 (h k (List.mem_range.1 hk))
  rw [this]
  rfl
def φWord : Fun := F1 dS fun s => if s.size ≤ 1099511627776 then some (bv (wordB s)) else none
theorem φWord_ap {s : ByteArray} (h : s.size ≤ 1099511627776) : φWord [.val (.string s)] = some (.val (.bool (wordB s))) :=
  (F1_ap (A := dS) s).trans (if_pos h)
def φSmall : Fun := F1 dU fun n => some (bv (inB n 97 122))
theorem φSmall_ap (n : Int) : φSmall [.val (.int .u8 n)] = some (.val (.bool (inB n 97 122))) := rfl
def φPage : Fun := F1 dI fun n => some (bv (inB n 1 999))
theorem φPage_ap (n : Int) : φPage [.val (.int .i64 n)] = some (.val (.bool (inB n 1 999))) := rfl
/-- An entry of an index that is not valid. -/
def badW (x : W2) : Bool := !wordB x.1 || !inB x.2 1 999
def φBadW : Fun := F1 dW2 fun x => if x.1.size ≤ 1099511627776 then some (bv (badW x)) else none
theorem φBadW_ap {s : ByteArray} {n : Int} (h : s.size ≤ 1099511627776) : φBadW [.agg [.val (.string s), .val (.int .i64 n)]] = some (.val (.bool (badW (s, n)))) :=
  (F1_ap (A := dW2) (s, n)).trans (if_pos h)
/-- The first element at which p holds, or -1. -/
def firstAtG {α : Type} (p : α → Bool) (zs : List α) : Int := match zs.findIdx? p with | some i => i | none => -1
theorem firstAtG_found {α : Type} {d : α} {p : α → Bool} {zs : List α} {k : Nat} (h : ∀ j, j < k → p (zs[j]?.getD d) = false) (hk : k < zs.length) (hp : p (zs[k]?.getD d) = true) : firstAtG p zs = k := by
  have : zs.findIdx? p = some k := by
    rw [List.findIdx?_eq_some_iff_getElem]
    refine ⟨hk, by simpa [hk] using hp, fun j hj => ?_⟩
    have := h j hj
    simpa [show j < zs.length by omega] using this
  simp [firstAtG, this]
theorem firstAtG_none {α : Type} {d : α} {p : α → Bool} {zs : List α} (h : ∀ j, j < zs.length → p (zs[j]?.getD d) = false) : firstAtG p zs = -1 := by
  have : zs.findIdx? p = none := by
    rw [List.findIdx?_eq_none_iff]
    intro x hx
    obtain ⟨j, hj, rfl⟩ := List.getElem_of_mem hx
    simpa [hj] using h j hj
  simp [firstAtG, this]
theorem firstAtG_any {α : Type} (p : α → Bool) (zs : List α) : decide (0 ≤ firstAtG p zs) = zs.any p := by
  unfold firstAtG
  split
  · rename_i i h
    rw [List.findIdx?_eq_some_iff_getElem] at h
    obtain ⟨h1, h2, _⟩ := h
    have : zs.any p = true := List.any_eq_true.2 ⟨_, List.getElem_mem h1, h2⟩
    simp [this]
  · rename_i h
    rw [List.findIdx?_eq_none_iff] at h
    have : zs.any p = false := by
      rw [List.any_eq_false]
      intro x hx
      simp [h x hx]
    simp [this]
theorem any_splitG {α : Type} {d : α} {zs : List α} {p : α → Bool} {k : Nat} (hk : k < zs.length) (hp : p (zs[k]?.getD d) = true) : zs.any p = true :=
  List.any_eq_true.2 ⟨zs[k], List.getElem_mem hk, by simpa [hk] using hp⟩
theorem any_noneG {α : Type} {d : α} {zs : List α} {p : α → Bool} (h : ∀ j, j < zs.length → p (zs[j]?.getD d) = false) : zs.any p = false := by
  rw [List.any_eq_false]
  intro x hx
  obtain ⟨j, hj, rfl⟩ := List.getElem_of_mem hx
  simpa [hj] using h j hj
/-- Short enough a list of words of which each is short enough. -/
abbrev okW (l : List W2) : Prop := l.length ≤ 1099511627776 ∧ ∀ i : Nat, (l[i]?.getD w0).1.size ≤ 1099511627776
noncomputable instance (l : List W2) : Decidable (okW l) := Classical.propDecidable _
abbrev dWs : Dec (List W2) := dL 2 dW2
abbrev pvW (x : W2) : PV := .agg [.val (.string x.1), .val (.int .i64 x.2)]
/-- What is left when the sizes are taken off one after the other; -1: too much. -/
def takeOff : Int → List Nat → Int
  | left, [] => left
  | left, n :: l => if left - n < 0 then -1 else takeOff (left - n) l
theorem takeOff_pos : ∀ {l : List Nat} {left : Int}, 0 ≤ takeOff left l → 0 ≤ left → ∀ n ∈ l, (n : Int) ≤ left
  | [], left, h, h0, n, hn => by simp at hn
  | m :: l, left, h, h0, n, hn => by
    unfold takeOff at h
    split at h
    · omega
    · rename_i h1
      rcases List.mem_cons.1 hn with rfl | h2
      · omega
      · have := takeOff_pos h (by omega) n h2
        omega
def szWs (left : Int) (l : List W2) : Int := if left - l.length < 0 then -1 else takeOff (left - l.length) (l.map (·.1.size))
abbrev okWL (l : List W2) : Prop := l.length ≤ 9223372036854775807 ∧ ∀ i : Nat, (l[i]?.getD w0).1.size ≤ 9223372036854775807
noncomputable instance (l : List W2) : Decidable (okWL l) := Classical.propDecidable _
end Go.Proofs.YtghhlakfbgcmkaaDoor
