/- 'FnBoxValid': for every code the law returns true and leaves its argument as it was: the program's answer on a drawn box is the reference's, a box with a negative width is invalid, and how a box is moved does not matter. No condition. -/
import Derived.Test.YtijeoiffkgemdaaFrame
import Derived.Test.YtijeoiffkgemdaaDrawBox
import Derived.Test.YtijeoiffkgemdaaBox
namespace Go.Proofs.Ytijeoiffkgemdaa.lawBoxValid
open Go.ChangeShapes Go.WideShapes Go.ChangeAt Go.RowKit
open Go.ChangeMaps (open_string shut_string)
set_option linter.unusedVariables false

theorem move_any {a b c d : Int} (h : boxB a b c d = true) : boxB a b c (-5) = true := by
  rw [boxB_iff] at *; omega

set_option maxHeartbeats 2000000 in
theorem walk (a : Option Addr) (n cap : Nat) (w : World) (hcap : n ≤ cap) (hmax : cap ≤ 9223372036854775807) (hb : BytesAt w a n) :
    Calls Try.prog 5 #[.slice a n cap] w fun e w' => e = .returned (.bool true) ∧ Below w.heap.size w w' := by
  have HB := Lib.hid hb
  clear hb
  by_cases hbig : 1048576 < n
  · have h1 : (1048576 : Int) < (n : Int) := by omega
    go_enter Try.func5, Try.ntmps5
    go_wp2
    go_ret
    exact ⟨rfl, Below.refl _ _⟩
  · have h1 : (n : Int) ≤ 1048576 := by omega
    go_enter Try.func5, Try.ntmps5
    go_wp2_with fail
    refine (DrawBoxValid_any _ _ _ _ hcap hmax HB.out).mono ?_
    rintro e w1 ⟨x0, x1, x2, x3, rfl, hb⟩
    cases hk : boxB x0 x1 x2 x3 with
    | false =>
      go_wp2_with (first
        | (go_at_call 15; refine (specBoxValid_any _ _ _ _ _).mono ?_; rintro e w1 ⟨rfl, hbn⟩; (first | (replace hb := below_trans hb hbn; clear hc hf hs; obtain ⟨hc, hf, hs⟩ := bcell hb; clear hbn) | (have hb2 := below_alloc_trans hb hbn; clear hc hf hs; obtain ⟨hc, hf, hs⟩ := bcell hb2; obtain ⟨hc2, hf2, hs2⟩ := bcell hbn; clear hb; have hb := hb2; clear hb2) | (obtain ⟨hc, hf, hs⟩ := bcell hbn; have hb := hbn; clear hbn)))
        | (go_at_call 17; refine (implBoxValid_any _ _ _ _ _).mono ?_; rintro e w1 ⟨rfl, hbn⟩; (first | (replace hb := below_trans hb hbn; clear hc hf hs; obtain ⟨hc, hf, hs⟩ := bcell hb; clear hbn) | (have hb2 := below_alloc_trans hb hbn; clear hc hf hs; obtain ⟨hc, hf, hs⟩ := bcell hb2; obtain ⟨hc2, hf2, hs2⟩ := bcell hbn; clear hb; have hb := hb2; clear hb2) | (obtain ⟨hc, hf, hs⟩ := bcell hbn; have hb := hbn; clear hbn)))
        | (go_at_call 23; refine (alive_any _).mono ?_; rintro e w1 ⟨rfl, hbn⟩; (first | (replace hb := below_trans hb hbn; clear hc hf hs; obtain ⟨hc, hf, hs⟩ := bcell hb; clear hbn) | (have hb2 := below_alloc_trans hb hbn; clear hc hf hs; obtain ⟨hc, hf, hs⟩ := bcell hb2; obtain ⟨hc2, hf2, hs2⟩ := bcell hbn; clear hb; have hb := hb2; clear hb2) | (obtain ⟨hc, hf, hs⟩ := bcell hbn; have hb := hbn; clear hbn))))
      go_ret
      refine ⟨rfl, ?_⟩
      (repeat (first | (with_reducible exact Below.refl _ _) | (with_reducible assumption) | (with_reducible apply below_alloc) | ((with_reducible apply Below.setCell); rotate_left; (focus (first | omega | (simp; done) | (simp; omega)))) | (with_reducible apply Below.drew) | (with_reducible apply below_drewN) | (with_reducible refine below_trans ?_ (by assumption))))
    | true =>
      have hk2 := move_any hk
      go_wp2_with (first
        | (go_at_call 15; refine (specBoxValid_any _ _ _ _ _).mono ?_; rintro e w1 ⟨rfl, hbn⟩; (first | (replace hb := below_trans hb hbn; clear hc hf hs; obtain ⟨hc, hf, hs⟩ := bcell hb; clear hbn) | (have hb2 := below_alloc_trans hb hbn; clear hc hf hs; obtain ⟨hc, hf, hs⟩ := bcell hb2; obtain ⟨hc2, hf2, hs2⟩ := bcell hbn; clear hb; have hb := hb2; clear hb2) | (obtain ⟨hc, hf, hs⟩ := bcell hbn; have hb := hbn; clear hbn)))
        | (go_at_call 17; refine (implBoxValid_any _ _ _ _ _).mono ?_; rintro e w1 ⟨rfl, hbn⟩; (first | (replace hb := below_trans hb hbn; clear hc hf hs; obtain ⟨hc, hf, hs⟩ := bcell hb; clear hbn) | (have hb2 := below_alloc_trans hb hbn; clear hc hf hs; obtain ⟨hc, hf, hs⟩ := bcell hb2; obtain ⟨hc2, hf2, hs2⟩ := bcell hbn; clear hb; have hb := hb2; clear hb2) | (obtain ⟨hc, hf, hs⟩ := bcell hbn; have hb := hbn; clear hbn)))
        | (go_at_call 23; refine (alive_any _).mono ?_; rintro e w1 ⟨rfl, hbn⟩; (first | (replace hb := below_trans hb hbn; clear hc hf hs; obtain ⟨hc, hf, hs⟩ := bcell hb; clear hbn) | (have hb2 := below_alloc_trans hb hbn; clear hc hf hs; obtain ⟨hc, hf, hs⟩ := bcell hb2; obtain ⟨hc2, hf2, hs2⟩ := bcell hbn; clear hb; have hb := hb2; clear hb2) | (obtain ⟨hc, hf, hs⟩ := bcell hbn; have hb := hbn; clear hbn))))
      go_ret
      refine ⟨rfl, ?_⟩
      (repeat (first | (with_reducible exact Below.refl _ _) | (with_reducible assumption) | (with_reducible apply below_alloc) | ((with_reducible apply Below.setCell); rotate_left; (focus (first | omega | (simp; done) | (simp; omega)))) | (with_reducible apply Below.drew) | (with_reducible apply below_drewN) | (with_reducible refine below_trans ?_ (by assumption))))
set_option maxRecDepth 100000 in
theorem lifted (os : Os) (started : os.Started) (H : Type) (enc : TypeId × Value → H) :
    ReturnsInHanded {} Try.checked os 5 .any (Rows.fnBoxValidSpec.pre6 enc Try.prog Try.f5 Rows.fnBoxValidRow.domain false) (Rows.fnBoxValidSpec.post enc Try.prog Try.f5 false true false false) := by
  refine returnsInHanded_of_change (C := Try.checked) own started (by kernel_rfl) Try.func5
    (ChangeSpec.witness6 (enc := enc) (C := Try.checked) false ⟨#[], #[.slice none 0 0], []⟩ 8 (by kernel_rfl) (by kernel_rfl) (by kernel_rfl) (by kernel_rfl)) ?_
  intro W base args ds gs before hval0 hW hcnd _
  have hval : ∀ (j : Nat) t v, (Try.f5).params[j]? = some t → args[j]? = some v → Value.okWide Try.prog W .any base t v := hval0
  have hW' := hW
  obtain ⟨p, q, hA0, hV, rfl, hfz, hnd⟩ := hW
  have hA : DataW.TrodAll enc Try.prog W 0 (fun _ => true) true (Try.f5).params.toList args.toList ds p := hA0
  rw [Try.params5] at hA hval
  obtain ⟨v0, vs0, d0, ds0, p0, q0, hargs, rfl, rfl, h0, r0⟩ := trodAll_cons hA
  obtain ⟨rfl, rfl, rfl⟩ := trodAll_nil r0
  obtain rfl : args = #[v0] := by cases args; simp_all
  obtain ⟨rfl, rfl⟩ := trodVars_none hV
  have k0 := h0
  have lt0 : ∀ x ∈ p0, x.block < W.heap.size := by obtain ⟨m, hm⟩ := k0; exact DataW.trod_lt m _ _ _ hm
  obtain ⟨a0, n0, cap0, rfl, hc0, hm0, hb0⟩ := open_code (hval 0 32 v0 rfl rfl) h0
  clear hA0 hval0
  refine (walk a0 n0 cap0 W hc0 hm0 hb0).mono fun e W' ⟨he, bel⟩ => ?_
  subst he
  exact ⟨_, rfl, _, _, _, [], _, [], hW', trodAll_mk1 (shut_bool Try.underlying4 _), (trodAll_cons_mk (Below.trod laidOut (by kernel_rfl) (of_decide_eq_true (by kernel_rfl)) k0 bel lt0) trodAll_mk0), rfl, bel.frame _, fun h => by cases h⟩

theorem over : Rows.fnBoxValidRow.holds Try.pinned (OpenSpec.ofChange Rows.fnBoxValidSpec) :=
  OpenClaim.holds_of_wide 5 Try.f5 rfl rfl rfl rfl rfl rfl rfl ⟨rfl, rfl, rfl, rfl, rfl⟩ rfl rfl rfl rfl rfl (by kernel_rfl) Try.func5 (by kernel_rfl)
    (of_decide_eq_true (by kernel_rfl)) (by unfold Func.isWrapper; first | (rw [if_pos (by decide +kernel)]; kernel_rfl) | (rw [if_neg (by decide +kernel)]; exact ⟨rfl, rfl⟩))
    (fun os started H enc _ => lifted os started H enc)

theorem proved : Rows.FnBoxValidSaid := over
end Go.Proofs.Ytijeoiffkgemdaa.lawBoxValid
