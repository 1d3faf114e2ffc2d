/- PackFraction, of the program. -/
import Derived.Test.YtijeoiffkgemdaaProg
import Derived.Test.YtijeoiffkgemdaaBox
namespace Go.Proofs.Ytijeoiffkgemdaa
open Go.RowKit
set_option linter.unusedVariables false

set_option maxHeartbeats 2000000 in
theorem implPackFraction_any (a b c d a' b' c' d' rule gap : Int) (w : World) :
    Calls Try.prog 30 #[.agg #[.int .i64 a, .int .i64 b, .int .i64 c, .int .i64 d], .agg #[.int .i64 a', .int .i64 b', .int .i64 c', .int .i64 d'], .int .i64 rule, .int .i64 gap] w fun e w' =>
      e = .returned (.tuple #[.agg #[.int .i64 (pf0 (pfOk a b c d a' b' c' d' rule gap) (max a a')), .int .i64 (pf0 (pfOk a b c d a' b' c' d' rule gap) (pfH b c rule gap)), .int .i64 (pf0 (pfOk a b c d a' b' c' d' rule gap) (pfD b' c' rule gap)), .int .i64 0], .bool (pfOk a b c d a' b' c' d' rule gap)]) ∧ Below w.heap.size w w' := by
  obtain ⟨lt2, lt3, lt4, lt5⟩ := lts
  cases h1 : boxB a b c d with
  | false =>
    go_enter Try.func30, Try.ntmps30
    go_wp2_with (first
    | (go_at_call 17; refine (implBoxValid_any _ _ _ _ _).mono ?_; rintro e w1 ⟨rfl, hbn⟩; (first | (replace hb := below_trans hb hbn; clear hc hf hs; obtain ⟨hc, hf, hs⟩ := bcell hb; clear hbn) | (have hb2 := below_alloc_trans hb hbn; clear hc hf hs; obtain ⟨hc, hf, hs⟩ := bcell hb2; obtain ⟨hc2, hf2, hs2⟩ := bcell hbn; clear hb; have hb := hb2; clear hb2) | (obtain ⟨hc, hf, hs⟩ := bcell hbn; have hb := hbn; clear hbn)))
    | (go_at_call 48; refine (in_any _ _ _ _).mono ?_; rintro e w1 ⟨rfl, rfl⟩)
    | (go_at_call 54; refine (packed_any _ _ _ _ _).mono ?_; rintro e w1 ⟨rfl, hbn⟩; (first | (replace hb := below_trans hb hbn; clear hc hf hs; obtain ⟨hc, hf, hs⟩ := bcell hb; clear hbn) | (have hb2 := below_alloc_trans hb hbn; clear hc hf hs; obtain ⟨hc, hf, hs⟩ := bcell hb2; obtain ⟨hc2, hf2, hs2⟩ := bcell hbn; clear hb; have hb := hb2; clear hb2) | (obtain ⟨hc, hf, hs⟩ := bcell hbn; have hb := hbn; clear hbn))))
    refine bodyPost_ret (v := .tuple #[.agg #[.int .i64 0, .int .i64 0, .int .i64 0, .int .i64 0], .bool false]) (by simp [results, Try.results30, go_sem, *]) rfl ⟨by simp [pfOk, pf0, *], ?_⟩
    (repeat (first | (with_reducible exact Below.refl _ _) | (with_reducible assumption) | (with_reducible apply below_alloc) | ((with_reducible apply Below.setCell); rotate_left; (focus (first | omega | (simp; done) | (simp; omega)))) | (with_reducible apply Below.drew) | (with_reducible apply below_drewN) | (with_reducible refine below_trans ?_ (by assumption))))
  | true =>
  cases h2 : boxB a' b' c' d' with
  | false =>
    go_enter Try.func30, Try.ntmps30
    go_wp2_with (first
    | (go_at_call 17; refine (implBoxValid_any _ _ _ _ _).mono ?_; rintro e w1 ⟨rfl, hbn⟩; (first | (replace hb := below_trans hb hbn; clear hc hf hs; obtain ⟨hc, hf, hs⟩ := bcell hb; clear hbn) | (have hb2 := below_alloc_trans hb hbn; clear hc hf hs; obtain ⟨hc, hf, hs⟩ := bcell hb2; obtain ⟨hc2, hf2, hs2⟩ := bcell hbn; clear hb; have hb := hb2; clear hb2) | (obtain ⟨hc, hf, hs⟩ := bcell hbn; have hb := hbn; clear hbn)))
    | (go_at_call 48; refine (in_any _ _ _ _).mono ?_; rintro e w1 ⟨rfl, rfl⟩)
    | (go_at_call 54; refine (packed_any _ _ _ _ _).mono ?_; rintro e w1 ⟨rfl, hbn⟩; (first | (replace hb := below_trans hb hbn; clear hc hf hs; obtain ⟨hc, hf, hs⟩ := bcell hb; clear hbn) | (have hb2 := below_alloc_trans hb hbn; clear hc hf hs; obtain ⟨hc, hf, hs⟩ := bcell hb2; obtain ⟨hc2, hf2, hs2⟩ := bcell hbn; clear hb; have hb := hb2; clear hb2) | (obtain ⟨hc, hf, hs⟩ := bcell hbn; have hb := hbn; clear hbn))))
    refine bodyPost_ret (v := .tuple #[.agg #[.int .i64 0, .int .i64 0, .int .i64 0, .int .i64 0], .bool false]) (by simp [results, Try.results30, go_sem, *]) rfl ⟨by simp [pfOk, pf0, *], ?_⟩
    (repeat (first | (with_reducible exact Below.refl _ _) | (with_reducible assumption) | (with_reducible apply below_alloc) | ((with_reducible apply Below.setCell); rotate_left; (focus (first | omega | (simp; done) | (simp; omega)))) | (with_reducible apply Below.drew) | (with_reducible apply below_drewN) | (with_reducible refine below_trans ?_ (by assumption))))
  | true =>
  cases h3 : inB rule 1 100 with
  | false =>
    go_enter Try.func30, Try.ntmps30
    go_wp2_with (first
    | (go_at_call 17; refine (implBoxValid_any _ _ _ _ _).mono ?_; rintro e w1 ⟨rfl, hbn⟩; (first | (replace hb := below_trans hb hbn; clear hc hf hs; obtain ⟨hc, hf, hs⟩ := bcell hb; clear hbn) | (have hb2 := below_alloc_trans hb hbn; clear hc hf hs; obtain ⟨hc, hf, hs⟩ := bcell hb2; obtain ⟨hc2, hf2, hs2⟩ := bcell hbn; clear hb; have hb := hb2; clear hb2) | (obtain ⟨hc, hf, hs⟩ := bcell hbn; have hb := hbn; clear hbn)))
    | (go_at_call 48; refine (in_any _ _ _ _).mono ?_; rintro e w1 ⟨rfl, rfl⟩)
    | (go_at_call 54; refine (packed_any _ _ _ _ _).mono ?_; rintro e w1 ⟨rfl, hbn⟩; (first | (replace hb := below_trans hb hbn; clear hc hf hs; obtain ⟨hc, hf, hs⟩ := bcell hb; clear hbn) | (have hb2 := below_alloc_trans hb hbn; clear hc hf hs; obtain ⟨hc, hf, hs⟩ := bcell hb2; obtain ⟨hc2, hf2, hs2⟩ := bcell hbn; clear hb; have hb := hb2; clear hb2) | (obtain ⟨hc, hf, hs⟩ := bcell hbn; have hb := hbn; clear hbn))))
    refine bodyPost_ret (v := .tuple #[.agg #[.int .i64 0, .int .i64 0, .int .i64 0, .int .i64 0], .bool false]) (by simp [results, Try.results30, go_sem, *]) rfl ⟨by simp [pfOk, pf0, *], ?_⟩
    (repeat (first | (with_reducible exact Below.refl _ _) | (with_reducible assumption) | (with_reducible apply below_alloc) | ((with_reducible apply Below.setCell); rotate_left; (focus (first | omega | (simp; done) | (simp; omega)))) | (with_reducible apply Below.drew) | (with_reducible apply below_drewN) | (with_reducible refine below_trans ?_ (by assumption))))
  | true =>
  cases h4 : inB gap 0 100 with
  | false =>
    go_enter Try.func30, Try.ntmps30
    go_wp2_with (first
    | (go_at_call 17; refine (implBoxValid_any _ _ _ _ _).mono ?_; rintro e w1 ⟨rfl, hbn⟩; (first | (replace hb := below_trans hb hbn; clear hc hf hs; obtain ⟨hc, hf, hs⟩ := bcell hb; clear hbn) | (have hb2 := below_alloc_trans hb hbn; clear hc hf hs; obtain ⟨hc, hf, hs⟩ := bcell hb2; obtain ⟨hc2, hf2, hs2⟩ := bcell hbn; clear hb; have hb := hb2; clear hb2) | (obtain ⟨hc, hf, hs⟩ := bcell hbn; have hb := hbn; clear hbn)))
    | (go_at_call 48; refine (in_any _ _ _ _).mono ?_; rintro e w1 ⟨rfl, rfl⟩)
    | (go_at_call 54; refine (packed_any _ _ _ _ _).mono ?_; rintro e w1 ⟨rfl, hbn⟩; (first | (replace hb := below_trans hb hbn; clear hc hf hs; obtain ⟨hc, hf, hs⟩ := bcell hb; clear hbn) | (have hb2 := below_alloc_trans hb hbn; clear hc hf hs; obtain ⟨hc, hf, hs⟩ := bcell hb2; obtain ⟨hc2, hf2, hs2⟩ := bcell hbn; clear hb; have hb := hb2; clear hb2) | (obtain ⟨hc, hf, hs⟩ := bcell hbn; have hb := hbn; clear hbn))))
    refine bodyPost_ret (v := .tuple #[.agg #[.int .i64 0, .int .i64 0, .int .i64 0, .int .i64 0], .bool false]) (by simp [results, Try.results30, go_sem, *]) rfl ⟨by simp [pfOk, pf0, *], ?_⟩
    (repeat (first | (with_reducible exact Below.refl _ _) | (with_reducible assumption) | (with_reducible apply below_alloc) | ((with_reducible apply Below.setCell); rotate_left; (focus (first | omega | (simp; done) | (simp; omega)))) | (with_reducible apply Below.drew) | (with_reducible apply below_drewN) | (with_reducible refine below_trans ?_ (by assumption))))
  | true =>
    have b1 := boxB_iff.1 h1
    have b2 := boxB_iff.1 h2
    have b3 := inB_iff.1 h3
    have b4 := inB_iff.1 h4
    go_enter Try.func30, Try.ntmps30
    go_wp2_with (first
    | (go_at_call 17; refine (implBoxValid_any _ _ _ _ _).mono ?_; rintro e w1 ⟨rfl, hbn⟩; (first | (replace hb := below_trans hb hbn; clear hc hf hs; obtain ⟨hc, hf, hs⟩ := bcell hb; clear hbn) | (have hb2 := below_alloc_trans hb hbn; clear hc hf hs; obtain ⟨hc, hf, hs⟩ := bcell hb2; obtain ⟨hc2, hf2, hs2⟩ := bcell hbn; clear hb; have hb := hb2; clear hb2) | (obtain ⟨hc, hf, hs⟩ := bcell hbn; have hb := hbn; clear hbn)))
    | (go_at_call 48; refine (in_any _ _ _ _).mono ?_; rintro e w1 ⟨rfl, rfl⟩)
    | (go_at_call 54; refine (packed_any _ _ _ _ _).mono ?_; rintro e w1 ⟨rfl, hbn⟩; (first | (replace hb := below_trans hb hbn; clear hc hf hs; obtain ⟨hc, hf, hs⟩ := bcell hb; clear hbn) | (have hb2 := below_alloc_trans hb hbn; clear hc hf hs; obtain ⟨hc, hf, hs⟩ := bcell hb2; obtain ⟨hc2, hf2, hs2⟩ := bcell hbn; clear hb; have hb := hb2; clear hb2) | (obtain ⟨hc, hf, hs⟩ := bcell hbn; have hb := hbn; clear hbn))))
    all_goals
      have hm : (a < a' ∧ max a a' = a') ∨ (¬ a < a' ∧ max a a' = a) := by omega
      rcases hm with ⟨hlt, hm⟩ | ⟨hlt, hm⟩
      all_goals first
        | (exfalso; omega)
        | (refine bodyPost_ret (v := .tuple #[.agg #[.int .i64 (pf0 (boxB (max a a') (pfH b c rule gap) (pfD b' c' rule gap) 0) (max a a')), .int .i64 (pf0 (boxB (max a a') (pfH b c rule gap) (pfD b' c' rule gap) 0) (pfH b c rule gap)), .int .i64 (pf0 (boxB (max a a') (pfH b c rule gap) (pfD b' c' rule gap) 0) (pfD b' c' rule gap)), .int .i64 0], .bool (boxB (max a a') (pfH b c rule gap) (pfD b' c' rule gap) 0)]) (by simp [results, Try.results30, go_sem, pfH, pfD, pf0, *]) rfl ⟨by simp [pfOk, h1, h2, h3, h4], ?_⟩)
      (repeat (first | (with_reducible exact Below.refl _ _) | (with_reducible assumption) | (with_reducible apply below_alloc) | ((with_reducible apply Below.setCell); rotate_left; (focus (first | omega | (simp; done) | (simp; omega)))) | (with_reducible apply Below.drew) | (with_reducible apply below_drewN) | (with_reducible refine below_trans ?_ (by assumption))))
end Go.Proofs.Ytijeoiffkgemdaa
