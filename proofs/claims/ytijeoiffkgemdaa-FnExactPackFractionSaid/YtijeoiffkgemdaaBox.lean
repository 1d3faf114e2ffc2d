/- Contracts over boxes. -/
import Derived.Test.YtijeoiffkgemdaaProg
import Derived.Test.YtijeoiffkgemdaaIn
namespace Go.Proofs.Ytijeoiffkgemdaa
open Go.RowKit
set_option linter.unusedVariables false

def boxB (a b c d : Int) : Bool := inB a 0 10000 && inB b 0 10000 && inB c 0 10000 && inB d (-10000) 10000
theorem boxB_iff {a b c d : Int} : boxB a b c d = true ↔ (0 ≤ a ∧ a ≤ 10000) ∧ (0 ≤ b ∧ b ≤ 10000) ∧ (0 ≤ c ∧ c ≤ 10000) ∧ (-10000 ≤ d ∧ d ≤ 10000) := by
  simp [boxB, inB_iff, and_assoc]

theorem specBoxValid_any (a b c d : Int) (w : World) :
    Calls Try.prog 15 #[.agg #[.int .i64 a, .int .i64 b, .int .i64 c, .int .i64 d]] w fun e w' => e = .returned (.bool (boxB a b c d)) ∧ Below w.heap.size w w' := by
  go_enter Try.func15, Try.ntmps15
  go_wp2_with (go_at_call 47; refine (l1In_any _ _ _ _).mono ?_; rintro e w' ⟨rfl, rfl⟩)
  all_goals go_ret
  all_goals exact ⟨by simp [boxB, *], (Below.refl _ _).alloc (Nat.le_refl _) _⟩
theorem implBoxValid_any (a b c d : Int) (w : World) :
    Calls Try.prog 17 #[.agg #[.int .i64 a, .int .i64 b, .int .i64 c, .int .i64 d]] w fun e w' => e = .returned (.bool (boxB a b c d)) ∧ Below w.heap.size w w' := by
  go_enter Try.func17, Try.ntmps17
  go_wp2_with (go_at_call 48; refine (in_any _ _ _ _).mono ?_; rintro e w' ⟨rfl, rfl⟩)
  all_goals go_ret
  all_goals exact ⟨by simp [boxB, *], (Below.refl _ _).alloc (Nat.le_refl _) _⟩
theorem toBox_any (a b c d : Int) (w : World) :
    Calls Try.prog 16 #[.agg #[.int .i64 a, .int .i64 b, .int .i64 c, .int .i64 d]] w fun e w' => e = .returned (.agg #[.int .i64 a, .int .i64 b, .int .i64 c, .int .i64 d]) ∧ Below w.heap.size w w' := by
  go_enter Try.func16, Try.ntmps16
  go_wp2
  refine bodyPost_ret (v := .agg #[.int .i64 a, .int .i64 b, .int .i64 c, .int .i64 d]) (by simp [results, Try.results16, go_sem]) rfl ⟨rfl, ?_⟩
  (repeat (first | (with_reducible exact Below.refl _ _) | (with_reducible assumption) | (with_reducible apply below_alloc) | ((with_reducible apply Below.setCell); rotate_left; (focus (first | omega | (simp; done) | (simp; omega)))) | (with_reducible apply Below.drew) | (with_reducible apply below_drewN) | (with_reducible refine below_trans ?_ (by assumption))))
theorem eqBox_any (a b c d : Int) (w : World) :
    Calls Try.prog 31 #[.agg #[.int .i64 a, .int .i64 b, .int .i64 c, .int .i64 d], .agg #[.int .i64 a, .int .i64 b, .int .i64 c, .int .i64 d]] w fun e w' => e = .returned (.bool true) ∧ Below w.heap.size w w' := by
  go_enter Try.func31, Try.ntmps31
  go_wp2
  go_ret
  refine ⟨rfl, ?_⟩
  (repeat (first | (with_reducible exact Below.refl _ _) | (with_reducible assumption) | (with_reducible apply below_alloc) | ((with_reducible apply Below.setCell); rotate_left; (focus (first | omega | (simp; done) | (simp; omega)))) | (with_reducible apply Below.drew) | (with_reducible apply below_drewN) | (with_reducible refine below_trans ?_ (by assumption))))
def pfH (b c rule gap : Int) : Int := rule - rule / 2 + gap + b + c
def pfD (b c rule gap : Int) : Int := rule / 2 + gap + b + c
def pfOk (a b c d a' b' c' d' rule gap : Int) : Bool :=
  boxB a b c d && boxB a' b' c' d' && inB rule 1 100 && inB gap 0 100 && boxB (max a a') (pfH b c rule gap) (pfD b' c' rule gap) 0
def pf0 (ok : Bool) (n : Int) : Int := if ok then n else 0
theorem packed_any (a b c d : Int) (w : World) :
    Calls Try.prog 54 #[.agg #[.int .i64 a, .int .i64 b, .int .i64 c, .int .i64 d]] w fun e w' =>
      e = .returned (.tuple #[.agg #[.int .i64 (pf0 (boxB a b c d) a), .int .i64 (pf0 (boxB a b c d) b), .int .i64 (pf0 (boxB a b c d) c), .int .i64 (pf0 (boxB a b c d) d)], .bool (boxB a b c d)]) ∧ Below w.heap.size w w' := by
  cases hk : boxB a b c d with
  | false =>
    go_enter Try.func54, Try.ntmps54
    go_wp2_with (go_at_call 17; refine (implBoxValid_any _ _ _ _ _).mono ?_; rintro e w1 ⟨rfl, hbn⟩; (first | (replace hb := below_trans hb hbn; clear hc hf hs; obtain ⟨hc, hf, hs⟩ := bcell hb; clear hbn) | (have hb2 := below_alloc_trans hb hbn; clear hc hf hs; obtain ⟨hc, hf, hs⟩ := bcell hb2; obtain ⟨hc2, hf2, hs2⟩ := bcell hbn; clear hb; have hb := hb2; clear hb2) | (obtain ⟨hc, hf, hs⟩ := bcell hbn; have hb := hbn; clear hbn)))
    refine bodyPost_ret (v := .tuple #[.agg #[.int .i64 0, .int .i64 0, .int .i64 0, .int .i64 0], .bool false]) (by simp [results, Try.results54, go_sem, *]) rfl ⟨by simp [pf0], ?_⟩
    (repeat (first | (with_reducible exact Below.refl _ _) | (with_reducible assumption) | (with_reducible apply below_alloc) | ((with_reducible apply Below.setCell); rotate_left; (focus (first | omega | (simp; done) | (simp; omega)))) | (with_reducible apply Below.drew) | (with_reducible apply below_drewN) | (with_reducible refine below_trans ?_ (by assumption))))
  | true =>
    go_enter Try.func54, Try.ntmps54
    go_wp2_with (go_at_call 17; refine (implBoxValid_any _ _ _ _ _).mono ?_; rintro e w1 ⟨rfl, hbn⟩; (first | (replace hb := below_trans hb hbn; clear hc hf hs; obtain ⟨hc, hf, hs⟩ := bcell hb; clear hbn) | (have hb2 := below_alloc_trans hb hbn; clear hc hf hs; obtain ⟨hc, hf, hs⟩ := bcell hb2; obtain ⟨hc2, hf2, hs2⟩ := bcell hbn; clear hb; have hb := hb2; clear hb2) | (obtain ⟨hc, hf, hs⟩ := bcell hbn; have hb := hbn; clear hbn)))
    refine bodyPost_ret (v := .tuple #[.agg #[.int .i64 a, .int .i64 b, .int .i64 c, .int .i64 d], .bool true]) (by simp [results, Try.results54, go_sem, *]) rfl ⟨by simp [pf0], ?_⟩
    (repeat (first | (with_reducible exact Below.refl _ _) | (with_reducible assumption) | (with_reducible apply below_alloc) | ((with_reducible apply Below.setCell); rotate_left; (focus (first | omega | (simp; done) | (simp; omega)))) | (with_reducible apply Below.drew) | (with_reducible apply below_drewN) | (with_reducible refine below_trans ?_ (by assumption))))
end Go.Proofs.Ytijeoiffkgemdaa
