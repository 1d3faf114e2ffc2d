/- 'FnExactPackFraction': for all arguments the program's PackFraction and the reference's give the same box and the same answer, so the law returns true and leaves its arguments as they were. No condition. -/
import Derived.Test.YtijeoiffkgemdaaFrame
import Derived.Test.YtijeoiffkgemdaaBoxI
import Derived.Test.YtijeoiffkgemdaaBoxS
namespace Go.Proofs.Ytijeoiffkgemdaa.lawExactPackFraction
open Go.ChangeShapes Go.WideShapes Go.ChangeAt Go.RowKit
open Go.ChangeMaps (open_string shut_string)
set_option linter.unusedVariables false

set_option maxHeartbeats 2000000 in
theorem walk (a b c d a' b' c' d' rule gap : Int) (w : World) (hr : -9223372036854775808 ≤ rule ∧ rule ≤ 9223372036854775807) (hg : -9223372036854775808 ≤ gap ∧ gap ≤ 9223372036854775807) :
    Calls Try.prog 7 #[.agg #[.int .i64 a, .int .i64 b, .int .i64 c, .int .i64 d], .agg #[.int .i64 a', .int .i64 b', .int .i64 c', .int .i64 d'], .int .i64 rule, .int .i64 gap] w fun e w' => e = .returned (.bool true) ∧ Below w.heap.size w w' := by
  obtain ⟨lt2, lt3, lt4, lt5⟩ := lts
  obtain ⟨ne2, ne3, ne4⟩ := nes
  go_enter Try.func7, Try.ntmps7
  go_upto_region 1 with fail
  go_cut [9, 10] (fun s9 s10 wx => ∃ b9, s9 = .pointer (some ⟨b9, 0, none⟩) ∧ s10 = .bool (pfOk a b c d a' b' c' d' rule gap) ∧ OwnC wx b9 #[.int .i64 (pf0 (pfOk a b c d a' b' c' d' rule gap) (max a a')), .int .i64 (pf0 (pfOk a b c d a' b' c' d' rule gap) (pfH b c rule gap)), .int .i64 (pf0 (pfOk a b c d a' b' c' d' rule gap) (pfD b' c' rule gap)), .int .i64 0] 25 ∧ Below w.heap.size w wx ∧ OwnC wx w.heap.size #[.int .i64 a, .int .i64 b, .int .i64 c, .int .i64 d] 23 ∧ OwnC wx (w.heap.size + 1) #[.int .i64 a', .int .i64 b', .int .i64 c', .int .i64 d'] 23)
  case first =>
    go_region_held3 (fun w' => w'.cell? ⟨w.heap.size, 0, none⟩ = some (.int .i64 a) ∧ w'.cell? ⟨w.heap.size, 1, none⟩ = some (.int .i64 b) ∧ w'.cell? ⟨w.heap.size, 2, none⟩ = some (.int .i64 c) ∧ w'.cell? ⟨w.heap.size, 3, none⟩ = some (.int .i64 d) ∧ w'.cell? ⟨w.heap.size + 1, 0, none⟩ = some (.int .i64 a') ∧ w'.cell? ⟨w.heap.size + 1, 1, none⟩ = some (.int .i64 b') ∧ w'.cell? ⟨w.heap.size + 1, 2, none⟩ = some (.int .i64 c') ∧ w'.cell? ⟨w.heap.size + 1, 3, none⟩ = some (.int .i64 d'))
      (first | (exact OwnC.keep44 (T := 23) (T' := 23) (by repeat (first | (with_reducible assumption) | (with_reducible exact OwnC.new _ _ _) | (with_reducible exact OwnC.new1 _ _ _ _) | (with_reducible exact OwnC.new2 _ _ _ _ _) | (with_reducible exact OwnC.new3 _ _ _ _ _ _) | (with_reducible apply OwnC.set4) | (with_reducible apply OwnC.set3) | (with_reducible apply OwnC.set2) | (with_reducible refine OwnC.set ?_ _ _) | (with_reducible apply OwnC.alloc) | (with_reducible apply OwnC.drew) | (with_reducible apply OwnC.drewN) | ((with_reducible apply OwnC.other); rotate_left; (focus (first | omega | (simp; done) | (simp; omega)))) | ((with_reducible refine OwnC.grownR ?_ (by assumption) ?_); rotate_left; (focus (first | omega | (simp; done) | (simp; omega)))) | (with_reducible apply OwnC.below (hb := by assumption)))) (by repeat (first | (with_reducible assumption) | (with_reducible exact OwnC.new _ _ _) | (with_reducible exact OwnC.new1 _ _ _ _) | (with_reducible exact OwnC.new2 _ _ _ _ _) | (with_reducible exact OwnC.new3 _ _ _ _ _ _) | (with_reducible apply OwnC.set4) | (with_reducible apply OwnC.set3) | (with_reducible apply OwnC.set2) | (with_reducible refine OwnC.set ?_ _ _) | (with_reducible apply OwnC.alloc) | (with_reducible apply OwnC.drew) | (with_reducible apply OwnC.drewN) | ((with_reducible apply OwnC.other); rotate_left; (focus (first | omega | (simp; done) | (simp; omega)))) | ((with_reducible refine OwnC.grownR ?_ (by assumption) ?_); rotate_left; (focus (first | omega | (simp; done) | (simp; omega)))) | (with_reducible apply OwnC.below (hb := by assumption))))))
      (first
      | (go_at_call 16; refine (toBox_any _ _ _ _ _).mono ?_; rintro e w1 ⟨rfl, hbn⟩; (first | (have hb2 := below_trans hb hbn; clear hb; have hb := hb2; clear hb2; clear hc hf hs) | (have hb2 := below_alloc_trans hb hbn; clear hb; have hb := hb2; clear hb2; clear hc hf hs) | (have hb := hbn)); obtain ⟨hc, hf, hs⟩ := bcell hb; obtain ⟨hc2, hf2, hs2⟩ := bcell hbn; have hbl := hbn; clear hbn; have g0 := hs w.heap.size (by simp <;> omega); have g1 := hs (w.heap.size + 1) (by simp <;> omega); have n0 : ¬ w1.heap.size = w.heap.size := (by omega); have n1 : ¬ w1.heap.size = w.heap.size + 1 := (by omega))
      | (go_at_call 29; refine (specPackFraction_any _ _ _ _ _ _ _ _ _ _ _).mono ?_; rintro e w1 ⟨rfl, hbn⟩; (first | (have hb2 := below_trans hb hbn; clear hb; have hb := hb2; clear hb2; clear hc hf hs) | (have hb2 := below_alloc_trans hb hbn; clear hb; have hb := hb2; clear hb2; clear hc hf hs) | (have hb := hbn)); obtain ⟨hc, hf, hs⟩ := bcell hb; obtain ⟨hc2, hf2, hs2⟩ := bcell hbn; have hbl := hbn; clear hbn; have g0 := hs w.heap.size (by simp <;> omega); have g1 := hs (w.heap.size + 1) (by simp <;> omega); have n0 : ¬ w1.heap.size = w.heap.size := (by omega); have n1 : ¬ w1.heap.size = w.heap.size + 1 := (by omega)))
    all_goals
      go_wp2_with fail
      go_meet
      case rel => exact ⟨_, rfl, rfl, (by repeat (first | (with_reducible assumption) | (with_reducible exact OwnC.new _ _ _) | (with_reducible exact OwnC.new1 _ _ _ _) | (with_reducible exact OwnC.new2 _ _ _ _ _) | (with_reducible exact OwnC.new3 _ _ _ _ _ _) | (with_reducible apply OwnC.set4) | (with_reducible apply OwnC.set3) | (with_reducible apply OwnC.set2) | (with_reducible refine OwnC.set ?_ _ _) | (with_reducible apply OwnC.alloc) | (with_reducible apply OwnC.drew) | (with_reducible apply OwnC.drewN) | ((with_reducible apply OwnC.other); rotate_left; (focus (first | omega | (simp; done) | (simp; omega)))) | ((with_reducible refine OwnC.grownR ?_ (by assumption) ?_); rotate_left; (focus (first | omega | (simp; done) | (simp; omega)))) | (with_reducible apply OwnC.below (hb := by assumption)))), by (repeat (first | (with_reducible exact Below.refl _ _) | (with_reducible assumption) | (with_reducible apply below_alloc) | ((with_reducible apply Below.setCell); rotate_left; (focus (first | omega | (simp; done) | (simp; omega)))) | (with_reducible apply Below.drew) | (with_reducible apply below_drewN) | (with_reducible refine below_trans ?_ (by assumption)))), (by repeat (first | (with_reducible assumption) | (with_reducible exact OwnC.new _ _ _) | (with_reducible exact OwnC.new1 _ _ _ _) | (with_reducible exact OwnC.new2 _ _ _ _ _) | (with_reducible exact OwnC.new3 _ _ _ _ _ _) | (with_reducible apply OwnC.set4) | (with_reducible apply OwnC.set3) | (with_reducible apply OwnC.set2) | (with_reducible refine OwnC.set ?_ _ _) | (with_reducible apply OwnC.alloc) | (with_reducible apply OwnC.drew) | (with_reducible apply OwnC.drewN) | ((with_reducible apply OwnC.other); rotate_left; (focus (first | omega | (simp; done) | (simp; omega)))) | ((with_reducible refine OwnC.grownR ?_ (by assumption) ?_); rotate_left; (focus (first | omega | (simp; done) | (simp; omega)))) | (with_reducible apply OwnC.below (hb := by assumption)))), (by repeat (first | (with_reducible assumption) | (with_reducible exact OwnC.new _ _ _) | (with_reducible exact OwnC.new1 _ _ _ _) | (with_reducible exact OwnC.new2 _ _ _ _ _) | (with_reducible exact OwnC.new3 _ _ _ _ _ _) | (with_reducible apply OwnC.set4) | (with_reducible apply OwnC.set3) | (with_reducible apply OwnC.set2) | (with_reducible refine OwnC.set ?_ _ _) | (with_reducible apply OwnC.alloc) | (with_reducible apply OwnC.drew) | (with_reducible apply OwnC.drewN) | ((with_reducible apply OwnC.other); rotate_left; (focus (first | omega | (simp; done) | (simp; omega)))) | ((with_reducible refine OwnC.grownR ?_ (by assumption) ?_); rotate_left; (focus (first | omega | (simp; done) | (simp; omega)))) | (with_reducible apply OwnC.below (hb := by assumption))))⟩
  case rest =>
    obtain ⟨b9, rfl, rfl, o9, hbw, o4, o5⟩ := hcut
    have z4 := o4.lt
    have z5 := o5.lt
    have z9 := o9.lt
    have c40 := o4.facts.1 0
    have c41 := o4.facts.1 1
    have c42 := o4.facts.1 2
    have c43 := o4.facts.1 3
    have c50 := o5.facts.1 0
    have c51 := o5.facts.1 1
    have c52 := o5.facts.1 2
    have c53 := o5.facts.1 3
    simp at c40 c41 c42 c43 c50 c51 c52 c53
    go_upto_region 2 with fail
    go_cut [11, 12] (fun s11 s12 wx => ∃ b11, s11 = .pointer (some ⟨b11, 0, none⟩) ∧ s12 = .bool (pfOk a b c d a' b' c' d' rule gap) ∧ OwnC wx b9 #[.int .i64 (pf0 (pfOk a b c d a' b' c' d' rule gap) (max a a')), .int .i64 (pf0 (pfOk a b c d a' b' c' d' rule gap) (pfH b c rule gap)), .int .i64 (pf0 (pfOk a b c d a' b' c' d' rule gap) (pfD b' c' rule gap)), .int .i64 0] 25 ∧ OwnC wx b11 #[.int .i64 (pf0 (pfOk a b c d a' b' c' d' rule gap) (max a a')), .int .i64 (pf0 (pfOk a b c d a' b' c' d' rule gap) (pfH b c rule gap)), .int .i64 (pf0 (pfOk a b c d a' b' c' d' rule gap) (pfD b' c' rule gap)), .int .i64 0] 25 ∧ Below w.heap.size w wx)
    case first =>
      go_region_held3 (fun w' => w'.cell? ⟨w.heap.size, 0, none⟩ = some (.int .i64 a) ∧ w'.cell? ⟨w.heap.size, 1, none⟩ = some (.int .i64 b) ∧ w'.cell? ⟨w.heap.size, 2, none⟩ = some (.int .i64 c) ∧ w'.cell? ⟨w.heap.size, 3, none⟩ = some (.int .i64 d) ∧ w'.cell? ⟨w.heap.size + 1, 0, none⟩ = some (.int .i64 a') ∧ w'.cell? ⟨w.heap.size + 1, 1, none⟩ = some (.int .i64 b') ∧ w'.cell? ⟨w.heap.size + 1, 2, none⟩ = some (.int .i64 c') ∧ w'.cell? ⟨w.heap.size + 1, 3, none⟩ = some (.int .i64 d'))
        (first | (exact OwnC.keep44 (T := 23) (T' := 23) (by repeat (first | (with_reducible assumption) | (with_reducible exact OwnC.new _ _ _) | (with_reducible exact OwnC.new1 _ _ _ _) | (with_reducible exact OwnC.new2 _ _ _ _ _) | (with_reducible exact OwnC.new3 _ _ _ _ _ _) | (with_reducible apply OwnC.set4) | (with_reducible apply OwnC.set3) | (with_reducible apply OwnC.set2) | (with_reducible refine OwnC.set ?_ _ _) | (with_reducible apply OwnC.alloc) | (with_reducible apply OwnC.drew) | (with_reducible apply OwnC.drewN) | ((with_reducible apply OwnC.other); rotate_left; (focus (first | omega | (simp; done) | (simp; omega)))) | ((with_reducible refine OwnC.grownR ?_ (by assumption) ?_); rotate_left; (focus (first | omega | (simp; done) | (simp; omega)))) | (with_reducible apply OwnC.below (hb := by assumption)))) (by repeat (first | (with_reducible assumption) | (with_reducible exact OwnC.new _ _ _) | (with_reducible exact OwnC.new1 _ _ _ _) | (with_reducible exact OwnC.new2 _ _ _ _ _) | (with_reducible exact OwnC.new3 _ _ _ _ _ _) | (with_reducible apply OwnC.set4) | (with_reducible apply OwnC.set3) | (with_reducible apply OwnC.set2) | (with_reducible refine OwnC.set ?_ _ _) | (with_reducible apply OwnC.alloc) | (with_reducible apply OwnC.drew) | (with_reducible apply OwnC.drewN) | ((with_reducible apply OwnC.other); rotate_left; (focus (first | omega | (simp; done) | (simp; omega)))) | ((with_reducible refine OwnC.grownR ?_ (by assumption) ?_); rotate_left; (focus (first | omega | (simp; done) | (simp; omega)))) | (with_reducible apply OwnC.below (hb := by assumption))))))
        (first
        | (go_at_call 16; refine (toBox_any _ _ _ _ _).mono ?_; rintro e w1 ⟨rfl, hbn⟩; (first | (have hb2 := below_trans hb hbn; clear hb; have hb := hb2; clear hb2; clear hc hf hs) | (have hb2 := below_alloc_trans hb hbn; clear hb; have hb := hb2; clear hb2; clear hc hf hs) | (have hb := hbn)); obtain ⟨hc, hf, hs⟩ := bcell hb; obtain ⟨hc2, hf2, hs2⟩ := bcell hbn; have hbl := hbn; clear hbn; have g0 := hs w.heap.size (by simp <;> omega); have g1 := hs (w.heap.size + 1) (by simp <;> omega); have n0 : ¬ w1.heap.size = w.heap.size := (by omega); have n1 : ¬ w1.heap.size = w.heap.size + 1 := (by omega); have g9 := hs b9 (by simp <;> omega))
        | (go_at_call 30; refine (implPackFraction_any _ _ _ _ _ _ _ _ _ _ _).mono ?_; rintro e w1 ⟨rfl, hbn⟩; (first | (have hb2 := below_trans hb hbn; clear hb; have hb := hb2; clear hb2; clear hc hf hs) | (have hb2 := below_alloc_trans hb hbn; clear hb; have hb := hb2; clear hb2; clear hc hf hs) | (have hb := hbn)); obtain ⟨hc, hf, hs⟩ := bcell hb; obtain ⟨hc2, hf2, hs2⟩ := bcell hbn; have hbl := hbn; clear hbn; have g0 := hs w.heap.size (by simp <;> omega); have g1 := hs (w.heap.size + 1) (by simp <;> omega); have n0 : ¬ w1.heap.size = w.heap.size := (by omega); have n1 : ¬ w1.heap.size = w.heap.size + 1 := (by omega); have g9 := hs b9 (by simp <;> omega)))
      all_goals
        go_wp2_with fail
        go_meet
        case rel => exact ⟨_, rfl, rfl, (by repeat (first | (with_reducible assumption) | (with_reducible exact OwnC.new _ _ _) | (with_reducible exact OwnC.new1 _ _ _ _) | (with_reducible exact OwnC.new2 _ _ _ _ _) | (with_reducible exact OwnC.new3 _ _ _ _ _ _) | (with_reducible apply OwnC.set4) | (with_reducible apply OwnC.set3) | (with_reducible apply OwnC.set2) | (with_reducible refine OwnC.set ?_ _ _) | (with_reducible apply OwnC.alloc) | (with_reducible apply OwnC.drew) | (with_reducible apply OwnC.drewN) | ((with_reducible apply OwnC.other); rotate_left; (focus (first | omega | (simp; done) | (simp; omega)))) | ((with_reducible refine OwnC.grownR ?_ (by assumption) ?_); rotate_left; (focus (first | omega | (simp; done) | (simp; omega)))) | (with_reducible apply OwnC.below (hb := by assumption)))), (by repeat (first | (with_reducible assumption) | (with_reducible exact OwnC.new _ _ _) | (with_reducible exact OwnC.new1 _ _ _ _) | (with_reducible exact OwnC.new2 _ _ _ _ _) | (with_reducible exact OwnC.new3 _ _ _ _ _ _) | (with_reducible apply OwnC.set4) | (with_reducible apply OwnC.set3) | (with_reducible apply OwnC.set2) | (with_reducible refine OwnC.set ?_ _ _) | (with_reducible apply OwnC.alloc) | (with_reducible apply OwnC.drew) | (with_reducible apply OwnC.drewN) | ((with_reducible apply OwnC.other); rotate_left; (focus (first | omega | (simp; done) | (simp; omega)))) | ((with_reducible refine OwnC.grownR ?_ (by assumption) ?_); rotate_left; (focus (first | omega | (simp; done) | (simp; omega)))) | (with_reducible apply OwnC.below (hb := by assumption)))), by (repeat (first | (with_reducible exact Below.refl _ _) | (with_reducible assumption) | (with_reducible apply below_alloc) | ((with_reducible apply Below.setCell); rotate_left; (focus (first | omega | (simp; done) | (simp; omega)))) | (with_reducible apply Below.drew) | (with_reducible apply below_drewN) | (with_reducible refine below_trans ?_ (by assumption))))⟩
    case rest =>
      clear z4 z5 o4 o5 o9 z9 hbw c40 c41 c42 c43 c50 c51 c52 c53
      obtain ⟨b11, rfl, rfl, o9, o11, hbw⟩ := hcut
      obtain ⟨x9, y9, z9⟩ := o9.facts
      obtain ⟨x11, y11, z11⟩ := o11.facts
      go_wp2_with (go_at_call 31; refine (eqBox_any _ _ _ _ _).mono ?_; rintro e w1 ⟨rfl, hbn⟩; (first | (replace hb := below_trans hb hbn; clear hc hf hs; obtain ⟨hc, hf, hs⟩ := bcell hb; clear hbn) | (have hb2 := below_alloc_trans hb hbn; clear hc hf hs; obtain ⟨hc, hf, hs⟩ := bcell hb2; obtain ⟨hc2, hf2, hs2⟩ := bcell hbn; clear hb; have hb := hb2; clear hb2) | (obtain ⟨hc, hf, hs⟩ := bcell hbn; have hb := hbn; clear hbn)))
      go_ret
      refine ⟨rfl, ?_⟩
      (repeat (first | (with_reducible exact Below.refl _ _) | (with_reducible assumption) | (with_reducible apply below_alloc) | ((with_reducible apply Below.setCell); rotate_left; (focus (first | omega | (simp; done) | (simp; omega)))) | (with_reducible apply Below.drew) | (with_reducible apply below_drewN) | (with_reducible refine below_trans ?_ (by assumption))))
set_option maxRecDepth 100000 in
theorem lifted (os : Os) (started : os.Started) (H : Type) (enc : TypeId × Value → H) :
    ReturnsInHanded {} Try.checked os 7 .any (Rows.fnExactPackFractionSpec.pre6 enc Try.prog Try.f7 Rows.fnExactPackFractionRow.domain false) (Rows.fnExactPackFractionSpec.post enc Try.prog Try.f7 false true false false) := by
  refine returnsInHanded_of_change (C := Try.checked) own started (by kernel_rfl) Try.func7
    (ChangeSpec.witness6 (enc := enc) (C := Try.checked) false ⟨#[], #[.agg #[.int .i64 0, .int .i64 0, .int .i64 0, .int .i64 0], .agg #[.int .i64 0, .int .i64 0, .int .i64 0, .int .i64 0], .int .i64 0, .int .i64 0], []⟩ 8 (by kernel_rfl) (by kernel_rfl) (by kernel_rfl) (by kernel_rfl)) ?_
  intro W base args ds gs before hval0 hW hcnd _
  have hval : ∀ (j : Nat) t v, (Try.f7).params[j]? = some t → args[j]? = some v → Value.okWide Try.prog W .any base t v := hval0
  have hW' := hW
  obtain ⟨p, q, hA0, hV, rfl, hfz, hnd⟩ := hW
  have hA : DataW.TrodAll enc Try.prog W 0 (fun _ => true) true (Try.f7).params.toList args.toList ds p := hA0
  rw [Try.params7] at hA hval
  obtain ⟨v0, vs0, d0, ds0, p0, q0, hargs, rfl, rfl, h0, r0⟩ := trodAll_cons hA
  obtain ⟨v1, vs1, d1, ds1, p1, q1, rfl, rfl, rfl, h1, r1⟩ := trodAll_cons r0
  obtain ⟨v2, vs2, d2, ds2, p2, q2, rfl, rfl, rfl, h2, r2⟩ := trodAll_cons r1
  obtain ⟨v3, vs3, d3, ds3, p3, q3, rfl, rfl, rfl, h3, r3⟩ := trodAll_cons r2
  obtain ⟨rfl, rfl, rfl⟩ := trodAll_nil r3
  obtain rfl : args = #[v0, v1, v2, v3] := by cases args; simp_all
  obtain ⟨rfl, rfl⟩ := trodVars_none hV
  have k0 := h0
  have lt0 : ∀ x ∈ p0, x.block < W.heap.size := by obtain ⟨m, hm⟩ := k0; exact DataW.trod_lt m _ _ _ hm
  have k1 := h1
  have lt1 : ∀ x ∈ p1, x.block < W.heap.size := by obtain ⟨m, hm⟩ := k1; exact DataW.trod_lt m _ _ _ hm
  have k2 := h2
  have lt2 : ∀ x ∈ p2, x.block < W.heap.size := by obtain ⟨m, hm⟩ := k2; exact DataW.trod_lt m _ _ _ hm
  have k3 := h3
  have lt3 : ∀ x ∈ p3, x.block < W.heap.size := by obtain ⟨m, hm⟩ := k3; exact DataW.trod_lt m _ _ _ hm
  obtain ⟨x0a, x0b, x0c, x0d, rfl⟩ := open_box (hval 0 23 v0 rfl rfl) h0
  obtain ⟨x1a, x1b, x1c, x1d, rfl⟩ := open_box (hval 1 23 v1 rfl rfl) h1
  obtain ⟨x2, rfl, rfl, rfl, wf2⟩ := open_int Try.underlying3 (hval 2 3 v2 rfl rfl) h2
  have hb2 := wf_bounds wf2
  obtain ⟨x3, rfl, rfl, rfl, wf3⟩ := open_int Try.underlying3 (hval 3 3 v3 rfl rfl) h3
  have hb3 := wf_bounds wf3
  clear hA0 hval0
  refine (walk x0a x0b x0c x0d x1a x1b x1c x1d x2 x3 W hb2 hb3).mono fun e W' ⟨he, bel⟩ => ?_
  subst he
  exact ⟨_, rfl, _, _, _, [], _, [], hW', trodAll_mk1 (shut_bool Try.underlying4 _), (trodAll_cons_mk (Below.trod laidOut (by kernel_rfl) (of_decide_eq_true (by kernel_rfl)) k0 bel lt0) (trodAll_cons_mk (Below.trod laidOut (by kernel_rfl) (of_decide_eq_true (by kernel_rfl)) k1 bel lt1) (trodAll_cons_mk (Below.trod laidOut (by kernel_rfl) (of_decide_eq_true (by kernel_rfl)) k2 bel lt2) (trodAll_cons_mk (Below.trod laidOut (by kernel_rfl) (of_decide_eq_true (by kernel_rfl)) k3 bel lt3) trodAll_mk0)))), rfl, bel.frame _, fun h => by cases h⟩

theorem over : Rows.fnExactPackFractionRow.holds Try.pinned (OpenSpec.ofChange Rows.fnExactPackFractionSpec) :=
  OpenClaim.holds_of_wide 7 Try.f7 rfl rfl rfl rfl rfl rfl rfl ⟨rfl, rfl, rfl, rfl, rfl⟩ rfl rfl rfl rfl rfl (by kernel_rfl) Try.func7 (by kernel_rfl)
    (of_decide_eq_true (by kernel_rfl)) (by unfold Func.isWrapper; first | (rw [if_pos (by decide +kernel)]; kernel_rfl) | (rw [if_neg (by decide +kernel)]; exact ⟨rfl, rfl⟩))
    (fun os started H enc _ => lifted os started H enc)

theorem proved : Rows.FnExactPackFractionSaid := over
end Go.Proofs.Ytijeoiffkgemdaa.lawExactPackFraction
