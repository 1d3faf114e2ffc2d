/- PackFraction, of the reference. -/
import Derived.Test.YtijeoiffkgemdaaProg
import Derived.Test.YtijeoiffkgemdaaBox
namespace Go.Proofs.Ytijeoiffkgemdaa
open Go.RowKit
set_option linter.unusedVariables false

set_option maxHeartbeats 2000000 in
theorem specPackFraction_any (a b c d a' b' c' d' rule gap : Int) (w : World) :
    Calls Try.prog 29 #[.agg #[.int .i64 a, .int .i64 b, .int .i64 c, .int .i64 d], .agg #[.int .i64 a', .int .i64 b', .int .i64 c', .int .i64 d'], .int .i64 rule, .int .i64 gap] w fun e w' =>
      e = .returned (.tuple #[.agg #[.int .i64 (pf0 (pfOk a b c d a' b' c' d' rule gap) (max a a')), .int .i64 (pf0 (pfOk a b c d a' b' c' d' rule gap) (pfH b c rule gap)), .int .i64 (pf0 (pfOk a b c d a' b' c' d' rule gap) (pfD b' c' rule gap)), .int .i64 0], .bool (pfOk a b c d a' b' c' d' rule gap)]) ∧ Below w.heap.size w w' := by
  obtain ⟨lt2, lt3, lt4, lt5⟩ := lts
  cases h1 : boxB a b c d with
  | false =>
    go_enter Try.func29, Try.ntmps29
    go_wp2_with (first
    | (go_at_call 15; refine (specBoxValid_any _ _ _ _ _).mono ?_; rintro e w1 ⟨rfl, hbn⟩; (first | (replace hb := below_trans hb hbn; clear hc hf hs; obtain ⟨hc, hf, hs⟩ := bcell hb; clear hbn) | (have hb2 := below_alloc_trans hb hbn; clear hc hf hs; obtain ⟨hc, hf, hs⟩ := bcell hb2; obtain ⟨hc2, hf2, hs2⟩ := bcell hbn; clear hb; have hb := hb2; clear hb2) | (obtain ⟨hc, hf, hs⟩ := bcell hbn; have hb := hbn; clear hbn)))
    | (go_at_call 47; refine (l1In_any _ _ _ _).mono ?_; rintro e w1 ⟨rfl, rfl⟩))
    refine bodyPost_ret (v := .tuple #[.agg #[.int .i64 0, .int .i64 0, .int .i64 0, .int .i64 0], .bool false]) (by simp [results, Try.results29, go_sem, *]) rfl ⟨by simp [pfOk, pf0, *], ?_⟩
    (repeat (first | (with_reducible exact Below.refl _ _) | (with_reducible assumption) | (with_reducible apply below_alloc) | ((with_reducible apply Below.setCell); rotate_left; (focus (first | omega | (simp; done) | (simp; omega)))) | (with_reducible apply Below.drew) | (with_reducible apply below_drewN) | (with_reducible refine below_trans ?_ (by assumption))))
  | true =>
  cases h2 : boxB a' b' c' d' with
  | false =>
    go_enter Try.func29, Try.ntmps29
    go_wp2_with (first
    | (go_at_call 15; refine (specBoxValid_any _ _ _ _ _).mono ?_; rintro e w1 ⟨rfl, hbn⟩; (first | (replace hb := below_trans hb hbn; clear hc hf hs; obtain ⟨hc, hf, hs⟩ := bcell hb; clear hbn) | (have hb2 := below_alloc_trans hb hbn; clear hc hf hs; obtain ⟨hc, hf, hs⟩ := bcell hb2; obtain ⟨hc2, hf2, hs2⟩ := bcell hbn; clear hb; have hb := hb2; clear hb2) | (obtain ⟨hc, hf, hs⟩ := bcell hbn; have hb := hbn; clear hbn)))
    | (go_at_call 47; refine (l1In_any _ _ _ _).mono ?_; rintro e w1 ⟨rfl, rfl⟩))
    refine bodyPost_ret (v := .tuple #[.agg #[.int .i64 0, .int .i64 0, .int .i64 0, .int .i64 0], .bool false]) (by simp [results, Try.results29, go_sem, *]) rfl ⟨by simp [pfOk, pf0, *], ?_⟩
    (repeat (first | (with_reducible exact Below.refl _ _) | (with_reducible assumption) | (with_reducible apply below_alloc) | ((with_reducible apply Below.setCell); rotate_left; (focus (first | omega | (simp; done) | (simp; omega)))) | (with_reducible apply Below.drew) | (with_reducible apply below_drewN) | (with_reducible refine below_trans ?_ (by assumption))))
  | true =>
  cases h3 : inB rule 1 100 with
  | false =>
    go_enter Try.func29, Try.ntmps29
    go_wp2_with (first
    | (go_at_call 15; refine (specBoxValid_any _ _ _ _ _).mono ?_; rintro e w1 ⟨rfl, hbn⟩; (first | (replace hb := below_trans hb hbn; clear hc hf hs; obtain ⟨hc, hf, hs⟩ := bcell hb; clear hbn) | (have hb2 := below_alloc_trans hb hbn; clear hc hf hs; obtain ⟨hc, hf, hs⟩ := bcell hb2; obtain ⟨hc2, hf2, hs2⟩ := bcell hbn; clear hb; have hb := hb2; clear hb2) | (obtain ⟨hc, hf, hs⟩ := bcell hbn; have hb := hbn; clear hbn)))
    | (go_at_call 47; refine (l1In_any _ _ _ _).mono ?_; rintro e w1 ⟨rfl, rfl⟩))
    refine bodyPost_ret (v := .tuple #[.agg #[.int .i64 0, .int .i64 0, .int .i64 0, .int .i64 0], .bool false]) (by simp [results, Try.results29, go_sem, *]) rfl ⟨by simp [pfOk, pf0, *], ?_⟩
    (repeat (first | (with_reducible exact Below.refl _ _) | (with_reducible assumption) | (with_reducible apply below_alloc) | ((with_reducible apply Below.setCell); rotate_left; (focus (first | omega | (simp; done) | (simp; omega)))) | (with_reducible apply Below.drew) | (with_reducible apply below_drewN) | (with_reducible refine below_trans ?_ (by assumption))))
  | true =>
  cases h4 : inB gap 0 100 with
  | false =>
    go_enter Try.func29, Try.ntmps29
    go_wp2_with (first
    | (go_at_call 15; refine (specBoxValid_any _ _ _ _ _).mono ?_; rintro e w1 ⟨rfl, hbn⟩; (first | (replace hb := below_trans hb hbn; clear hc hf hs; obtain ⟨hc, hf, hs⟩ := bcell hb; clear hbn) | (have hb2 := below_alloc_trans hb hbn; clear hc hf hs; obtain ⟨hc, hf, hs⟩ := bcell hb2; obtain ⟨hc2, hf2, hs2⟩ := bcell hbn; clear hb; have hb := hb2; clear hb2) | (obtain ⟨hc, hf, hs⟩ := bcell hbn; have hb := hbn; clear hbn)))
    | (go_at_call 47; refine (l1In_any _ _ _ _).mono ?_; rintro e w1 ⟨rfl, rfl⟩))
    refine bodyPost_ret (v := .tuple #[.agg #[.int .i64 0, .int .i64 0, .int .i64 0, .int .i64 0], .bool false]) (by simp [results, Try.results29, go_sem, *]) rfl ⟨by simp [pfOk, pf0, *], ?_⟩
    (repeat (first | (with_reducible exact Below.refl _ _) | (with_reducible assumption) | (with_reducible apply below_alloc) | ((with_reducible apply Below.setCell); rotate_left; (focus (first | omega | (simp; done) | (simp; omega)))) | (with_reducible apply Below.drew) | (with_reducible apply below_drewN) | (with_reducible refine below_trans ?_ (by assumption))))
  | true =>
    have b1 := boxB_iff.1 h1
    have b2 := boxB_iff.1 h2
    have b3 := inB_iff.1 h3
    have b4 := inB_iff.1 h4
    by_cases hlt : a < a'
    · have hm : max a a' = a' := by omega
      cases hk : boxB a' (rule - rule / 2 + gap + b + c) (rule / 2 + gap + b' + c') 0 with
      | false =>
        have hfin : pfOk a b c d a' b' c' d' rule gap = false := by simp only [pfOk, h1, h2, h3, h4, hm, pfH, pfD, hk]; rfl
        have HF := Lib.hid hfin
        have HM := Lib.hid hm
        clear hfin hm
        go_enter Try.func29, Try.ntmps29
        go_wp2_with (first
        | (go_at_call 15; refine (specBoxValid_any _ _ _ _ _).mono ?_; rintro e w1 ⟨rfl, hbn⟩; (first | (replace hb := below_trans hb hbn; clear hc hf hs; obtain ⟨hc, hf, hs⟩ := bcell hb; clear hbn) | (have hb2 := below_alloc_trans hb hbn; clear hc hf hs; obtain ⟨hc, hf, hs⟩ := bcell hb2; obtain ⟨hc2, hf2, hs2⟩ := bcell hbn; clear hb; have hb := hb2; clear hb2) | (obtain ⟨hc, hf, hs⟩ := bcell hbn; have hb := hbn; clear hbn)))
        | (go_at_call 47; refine (l1In_any _ _ _ _).mono ?_; rintro e w1 ⟨rfl, rfl⟩))
        refine bodyPost_ret (v := .tuple #[.agg #[.int .i64 0, .int .i64 0, .int .i64 0, .int .i64 0], .bool false]) (by simp [results, Try.results29, go_sem, *]) rfl ⟨by rw [HF.out, HM.out]; rfl, ?_⟩
        (repeat (first | (with_reducible exact Below.refl _ _) | (with_reducible assumption) | (with_reducible apply below_alloc) | ((with_reducible apply Below.setCell); rotate_left; (focus (first | omega | (simp; done) | (simp; omega)))) | (with_reducible apply Below.drew) | (with_reducible apply below_drewN) | (with_reducible refine below_trans ?_ (by assumption))))
      | true =>
        have hfin : pfOk a b c d a' b' c' d' rule gap = true := by simp only [pfOk, h1, h2, h3, h4, hm, pfH, pfD, hk]; rfl
        have HF := Lib.hid hfin
        have HM := Lib.hid hm
        clear hfin hm
        go_enter Try.func29, Try.ntmps29
        go_wp2_with (first
        | (go_at_call 15; refine (specBoxValid_any _ _ _ _ _).mono ?_; rintro e w1 ⟨rfl, hbn⟩; (first | (replace hb := below_trans hb hbn; clear hc hf hs; obtain ⟨hc, hf, hs⟩ := bcell hb; clear hbn) | (have hb2 := below_alloc_trans hb hbn; clear hc hf hs; obtain ⟨hc, hf, hs⟩ := bcell hb2; obtain ⟨hc2, hf2, hs2⟩ := bcell hbn; clear hb; have hb := hb2; clear hb2) | (obtain ⟨hc, hf, hs⟩ := bcell hbn; have hb := hbn; clear hbn)))
        | (go_at_call 47; refine (l1In_any _ _ _ _).mono ?_; rintro e w1 ⟨rfl, rfl⟩))
        refine bodyPost_ret (v := .tuple #[.agg #[.int .i64 a', .int .i64 (rule - rule / 2 + gap + b + c), .int .i64 (rule / 2 + gap + b' + c'), .int .i64 0], .bool true]) (by simp [results, Try.results29, go_sem, *]) rfl ⟨by rw [HF.out, HM.out]; rfl, ?_⟩
        (repeat (first | (with_reducible exact Below.refl _ _) | (with_reducible assumption) | (with_reducible apply below_alloc) | ((with_reducible apply Below.setCell); rotate_left; (focus (first | omega | (simp; done) | (simp; omega)))) | (with_reducible apply Below.drew) | (with_reducible apply below_drewN) | (with_reducible refine below_trans ?_ (by assumption))))
    · have hm : max a a' = a := by omega
      cases hk : boxB a (rule - rule / 2 + gap + b + c) (rule / 2 + gap + b' + c') 0 with
      | false =>
        have hfin : pfOk a b c d a' b' c' d' rule gap = false := by simp only [pfOk, h1, h2, h3, h4, hm, pfH, pfD, hk]; rfl
        have HF := Lib.hid hfin
        have HM := Lib.hid hm
        clear hfin hm
        go_enter Try.func29, Try.ntmps29
        go_wp2_with (first
        | (go_at_call 15; refine (specBoxValid_any _ _ _ _ _).mono ?_; rintro e w1 ⟨rfl, hbn⟩; (first | (replace hb := below_trans hb hbn; clear hc hf hs; obtain ⟨hc, hf, hs⟩ := bcell hb; clear hbn) | (have hb2 := below_alloc_trans hb hbn; clear hc hf hs; obtain ⟨hc, hf, hs⟩ := bcell hb2; obtain ⟨hc2, hf2, hs2⟩ := bcell hbn; clear hb; have hb := hb2; clear hb2) | (obtain ⟨hc, hf, hs⟩ := bcell hbn; have hb := hbn; clear hbn)))
        | (go_at_call 47; refine (l1In_any _ _ _ _).mono ?_; rintro e w1 ⟨rfl, rfl⟩))
        refine bodyPost_ret (v := .tuple #[.agg #[.int .i64 0, .int .i64 0, .int .i64 0, .int .i64 0], .bool false]) (by simp [results, Try.results29, go_sem, *]) rfl ⟨by rw [HF.out, HM.out]; rfl, ?_⟩
        (repeat (first | (with_reducible exact Below.refl _ _) | (with_reducible assumption) | (with_reducible apply below_alloc) | ((with_reducible apply Below.setCell); rotate_left; (focus (first | omega | (simp; done) | (simp; omega)))) | (with_reducible apply Below.drew) | (with_reducible apply below_drewN) | (with_reducible refine below_trans ?_ (by assumption))))
      | true =>
        have hfin : pfOk a b c d a' b' c' d' rule gap = true := by simp only [pfOk, h1, h2, h3, h4, hm, pfH, pfD, hk]; rfl
        have HF := Lib.hid hfin
        have HM := Lib.hid hm
        clear hfin hm
        go_enter Try.func29, Try.ntmps29
        go_wp2_with (first
        | (go_at_call 15; refine (specBoxValid_any _ _ _ _ _).mono ?_; rintro e w1 ⟨rfl, hbn⟩; (first | (replace hb := below_trans hb hbn; clear hc hf hs; obtain ⟨hc, hf, hs⟩ := bcell hb; clear hbn) | (have hb2 := below_alloc_trans hb hbn; clear hc hf hs; obtain ⟨hc, hf, hs⟩ := bcell hb2; obtain ⟨hc2, hf2, hs2⟩ := bcell hbn; clear hb; have hb := hb2; clear hb2) | (obtain ⟨hc, hf, hs⟩ := bcell hbn; have hb := hbn; clear hbn)))
        | (go_at_call 47; refine (l1In_any _ _ _ _).mono ?_; rintro e w1 ⟨rfl, rfl⟩))
        refine bodyPost_ret (v := .tuple #[.agg #[.int .i64 a, .int .i64 (rule - rule / 2 + gap + b + c), .int .i64 (rule / 2 + gap + b' + c'), .int .i64 0], .bool true]) (by simp [results, Try.results29, go_sem, *]) rfl ⟨by rw [HF.out, HM.out]; rfl, ?_⟩
        (repeat (first | (with_reducible exact Below.refl _ _) | (with_reducible assumption) | (with_reducible apply below_alloc) | ((with_reducible apply Below.setCell); rotate_left; (focus (first | omega | (simp; done) | (simp; omega)))) | (with_reducible apply Below.drew) | (with_reducible apply below_drewN) | (with_reducible refine below_trans ?_ (by assumption))))
end Go.Proofs.Ytijeoiffkgemdaa
