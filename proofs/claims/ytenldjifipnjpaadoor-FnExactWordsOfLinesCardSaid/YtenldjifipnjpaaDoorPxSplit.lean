/- strings.Split at a separator of one byte: none of the library's variables is read then. -/
import Derived.Test.YtenldjifipnjpaaDoorPxLib
import Derived.Test.YtenldjifipnjpaaDoorShelf
import Derived.Lib.SplitLaws
import Derived.Lib.IndexBytes
import Derived.Shelf.Strings.Split
namespace Go.Proofs.YtenldjifipnjpaaDoor
open Go.RowKit
set_option linter.all false
/-- What strings.Split cuts a text into. -/
def piecesB (c : UInt8) (s : ByteArray) : List ByteArray := Lib.splitB ⟨#[c]⟩ 0 (Lib.countB s ⟨#[c]⟩) s
theorem one_size (c : UInt8) : (1 : Nat) ≤ (⟨#[c]⟩ : ByteArray).size := by simp [ByteArray.size]
theorem piecesB_len (c : UInt8) (s : ByteArray) : (piecesB c s).length = Lib.countB s ⟨#[c]⟩ + 1 := Lib.splitB_all _ (one_size c) 0 _ s rfl
theorem piecesB_le (c : UInt8) (s : ByteArray) : (piecesB c s).length ≤ s.size + 1 := by
  rw [piecesB_len]
  have := Lib.countB_le ⟨#[c]⟩ (one_size c) s.size s (Nat.le_refl _)
  omega
set_option maxHeartbeats 1000000 in
theorem split_one (c : UInt8) (s : ByteArray) (w : World) (hs : s.size < 4294967281) : Calls Tryd.prog 46 #[.string s, .string ⟨#[c]⟩] w fun e w' =>
    e = .returned (.slice (some ⟨w.heap.size, 0, none⟩) (piecesB c s).length (piecesB c s).length) ∧ w' = w.alloc (.cells ((piecesB c s).map Value.string).toArray 9) := by
  have hle := Lib.countB_le ⟨#[c]⟩ (one_size c) s.size s (Nat.le_refl _)
  have hpl := piecesB_len c s
  have hI : ∀ (x : ByteArray) (cs : Array Value), x.size ≤ s.size → Calls Tryd.prog 105 #[.string x, .string ⟨#[c]⟩] (w.alloc (.cells cs 9)) fun e w' => e = .returned (.int .i64 (Lib.indexB x ⟨#[c]⟩)) ∧ w' = w.alloc (.cells cs 9) := fun x cs _ =>
    (YtenldjifipnjpaaDoor.strings_Index_one x c _).mono fun e w' ⟨he, hw⟩ => ⟨by rw [he]; exact congrArg (fun z => Ending.returned (Value.int .i64 z)) (Lib.index_one x.data.toList c).symm, hw⟩
  have hC : Calls Tryd.prog 104 #[.string s, .string ⟨#[c]⟩] w fun e w' => e = .returned (.int .i64 (Lib.countB s ⟨#[c]⟩)) ∧ w' = w :=
    (YtenldjifipnjpaaDoor.strings_Count_one s c w).mono fun e w' ⟨he, hw⟩ => ⟨by rw [he]; exact congrArg (fun z : Nat => Ending.returned (Value.int .i64 z)) (Lib.count_one c s.data.toList).symm, hw⟩
  have hg := Any.strings_genSplit_core YtenldjifipnjpaaDoor.lays221 (by kernel_rfl) s ⟨#[c]⟩ 0 (-1) (Lib.countB s ⟨#[c]⟩ + 1) w hs (one_size c) (Nat.zero_le _) hI hC (by decide) (by decide) (by rw [if_pos (by decide)]; omega)
  have e1 : Lib.splitB ⟨#[c]⟩ 0 (Lib.countB s ⟨#[c]⟩ + 1 - 1) s = piecesB c s := rfl
  have e2 : Lib.cellsOf (piecesB c s) (Lib.countB s ⟨#[c]⟩ + 1) = ((piecesB c s).map Value.string).toArray := by rw [← hpl]; exact Lib.cellsOf_full _
  rw [e1, e2, ← hpl] at hg
  clear hI hC hle hpl e1 e2
  generalize piecesB c s = ps at *
  go_enter Tryd.func46, Tryd.ntmps46
  go_wp2_with (go_at_call 83; refine hg.mono ?_; rintro e w' ⟨rfl, hw⟩; rw [hw])
  go_ret
  exact ⟨rfl, rfl⟩
end Go.Proofs.YtenldjifipnjpaaDoor
