/- A row that a call makes and fills cell by cell: plain lemmas. -/
import Derived.Test.YtijeoiffkgemdaaBase
namespace Go.Proofs.Ytijeoiffkgemdaa
open Go.RowKit
set_option linter.unusedVariables false

/-- The first k cells filled by f, the others still z. -/
def fillTo (f : Nat → Value) (z : Value) (k n : Nat) : Array Value := ((List.range n).map fun i => if i < k then f i else z).toArray
theorem fillTo_size (f : Nat → Value) (z : Value) (k n : Nat) : (fillTo f z k n).size = n := by simp [fillTo]
theorem fillTo_at (f : Nat → Value) (z : Value) {k n i : Nat} (h : i < n) : (fillTo f z k n)[i]? = some (if i < k then f i else z) := by
  simp [fillTo, h]
theorem fillTo_set (f : Nat → Value) (z : Value) {k n : Nat} (h : k < n) : (fillTo f z k n).setIfInBounds k (f k) = fillTo f z (k + 1) n := by
  apply Array.ext_getElem?
  intro i
  rw [Array.getElem?_setIfInBounds, fillTo_size]
  by_cases hi : i < n
  · rw [fillTo_at _ _ hi]
    by_cases hk : k = i
    · subst hk; simp [hi, fillTo]
    · rw [if_neg hk, fillTo_at _ _ hi]
      congr 1
      by_cases h1 : i < k
      · rw [if_pos h1, if_pos (by omega)]
      · rw [if_neg h1, if_neg (by omega)]
  · rw [if_neg (by omega), Array.getElem?_eq_none (by rw [fillTo_size]; omega), Array.getElem?_eq_none (by rw [fillTo_size]; omega)]
theorem fillTo_full (f : Nat → Value) (z : Value) (n : Nat) : fillTo f z n n = ((List.range n).map f).toArray := by
  simp only [fillTo]
  congr 1
  apply List.map_congr_left
  intro i hi
  rw [if_pos (by simpa using hi)]
theorem made_fill (f : Nat → Value) (z : Value) (n : Nat) : madeCells #[z] (n * 1) = fillTo f z 0 n := by
  apply Array.ext_getElem?
  intro i
  by_cases hi : i < n
  · rw [fillTo_at _ _ hi]; simp [madeCells, hi, Nat.mod_one]
  · rw [Array.getElem?_eq_none (by rw [size_madeCells]; omega), Array.getElem?_eq_none (by rw [fillTo_size]; omega)]

/-- 'make([]T, n)' of one-cell elements: the equation that the walk takes. -/
theorem run_mk {P : Program} (f : Nat → Value) (t e : TypeId) (z : Value) (bytes n : Nat) (ht : P.underlying t = some (.slice e)) (hi : (P.info? e).map (fun i => (i.zero, i.size, i.bytes)) = some (some z, 1, bytes))
    (hz : z.cells = #[z]) (hb : bytes * n ≤ 281474976710656) (h63 : n ≤ 9223372036854775807) (w : World) :
    (Instr.makeSlice t (.int .i64 (n : Int)) (.int .i64 (n : Int))).run P w = .ok (.slice (some ⟨w.heap.size, 0, none⟩) n n) (w.alloc (.cells (fillTo f z 0 n) e)) := by
  obtain ⟨i, hi1, hi2, hi3, hi4⟩ := info_parts hi
  have hbb : (i.bytes : Int) * (n : Int) ≤ 281474976710656 := by
    rw [hi4]
    have h : ((bytes * n : Nat) : Int) ≤ 281474976710656 := by omega
    rwa [Int.natCast_mul] at h
  have hr := run_make (P := P) w t e i z ht hi1 hi2 .i64 .i64 n n (by omega) (Int.le_refl _) hbb (by omega)
  simp only [Int.toNat_natCast, hi3, hz, made_fill f] at hr
  exact hr
end Go.Proofs.Ytijeoiffkgemdaa
