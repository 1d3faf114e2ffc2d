/- 'FnExactPiecesValid': the program's PiecesValid answers as the reference's. No condition. -/
import Derived.Test.YtenhkmkajmnaaaaPxPcs
import Derived.Test.YtenhkmkajmnaaaaPxOpen
namespace Go.Proofs.Ytenhkmkajmnaaaa.lawExactPiecesValid
open Go.ChangeShapes Go.WideShapes Go.ChangeAt Go.RowKit
open Go.ChangeMaps (open_string shut_string)
set_option linter.unusedVariables false
set_option linter.all false
theorem law_ap {l : List (Int × Int × Int)} (h : okL (fun p => okI p.1 ∧ okI p.2.1 ∧ okI p.2.2) l) : φLawPcs [(dL 3 (dA3 dI dI dI)).e l] = some (bv true) :=
  (F1_ap (A := dPcs) l).trans (if_pos h)
theorem walk {W : World} {a0} {v0 : Value} (k0 : (okL (fun p => okI p.1 ∧ okI p.2.1 ∧ okI p.2.2)) a0) (r0 : Rep (gW W) W ((dL 3 (dA3 dI dI dI)).e a0) v0) : Calls Try.prog 12 #[v0] W fun e w' => e = .returned (.bool true) ∧ Below W.heap.size W w' :=
  walk_of (ps := [(dL 3 (dA3 dI dI dI)).e a0]) lawPcs_ok (law_ap k0) ⟨v0, [], rfl, r0, rfl⟩

set_option maxRecDepth 100000 in
theorem lifted (os : Os) (started : os.Started) (H : Type) (enc : TypeId × Value → H) :
    ReturnsInHanded {} Try.checked os 12 .any (Rows.fnExactPiecesValidSpec.pre6 enc Try.prog Try.f12 Rows.fnExactPiecesValidRow.domain false) (Rows.fnExactPiecesValidSpec.post enc Try.prog Try.f12 false true false false) := by
  refine returnsInHanded_of_change (C := Try.checked) own started (by kernel_rfl) Try.func12
    (ChangeSpec.witness6 (enc := enc) (C := Try.checked) false ⟨#[], #[.slice none 0 0], []⟩ 8 (by kernel_rfl) (by kernel_rfl) (by kernel_rfl) (by kernel_rfl)) ?_
  intro W base args ds gs before hval0 hW hcnd _
  have hval : ∀ (j : Nat) t v, (Try.f12).params[j]? = some t → args[j]? = some v → Value.okWide Try.prog W .any base t v := hval0
  have hW' := hW
  obtain ⟨p, q, hA0, hV, rfl, hfz, hnd⟩ := hW
  have hA : DataW.TrodAll enc Try.prog W 0 (fun _ => true) true (Try.f12).params.toList args.toList ds p := hA0
  rw [Try.params12] at hA hval
  obtain ⟨v0, vs0, d0, ds0, p0, q0, hargs, rfl, rfl, h0, r0⟩ := trodAll_cons hA
  obtain ⟨rfl, rfl, rfl⟩ := trodAll_nil r0
  obtain rfl : args = #[v0] := by cases args; simp_all
  obtain ⟨rfl, rfl⟩ := trodVars_none hV
  have k0 := h0
  have lt0 : ∀ x ∈ p0, x.block < W.heap.size := by obtain ⟨m, hm⟩ := k0; exact DataW.trod_lt m _ _ _ hm
  obtain ⟨ad0, len0, cap0, rfl⟩ := okWide_slice Try.underlying59 (hval 0 59 v0 rfl rfl)
  obtain ⟨a0, ok0, rep0⟩ := op1 (opL 3 Try.underlying59 (by kernel_rfl) (by omega) (opA3 Try.underlying101 (by kernel_rfl) (by kernel_rfl) (opI Try.underlying3) (fun _ => rfl) (opI Try.underlying3) (fun _ => rfl) (opI Try.underlying3) (fun _ => rfl))) (fun _ => rfl) rfl h0
  clear hA0 hval0
  refine (walk ok0 rep0).mono fun e W' ⟨he, bel⟩ => ?_
  subst he
  exact ⟨_, rfl, _, _, _, [], _, [], hW', trodAll_mk1 (shut_bool Try.underlying4 _), (trodAll_cons_mk (Below.trod laidOut (by kernel_rfl) (of_decide_eq_true (by kernel_rfl)) k0 bel lt0) trodAll_mk0), rfl, bel.frame _, fun h => by cases h⟩

theorem over : Rows.fnExactPiecesValidRow.holds Try.pinned (OpenSpec.ofChange Rows.fnExactPiecesValidSpec) :=
  OpenClaim.holds_of_wide 12 Try.f12 rfl rfl rfl rfl rfl rfl rfl ⟨rfl, rfl, rfl, rfl, rfl⟩ rfl rfl rfl rfl rfl (by kernel_rfl) Try.func12 (by kernel_rfl)
    (of_decide_eq_true (by kernel_rfl)) (by unfold Func.isWrapper; first | (rw [if_pos (by decide +kernel)]; kernel_rfl) | (rw [if_neg (by decide +kernel)]; exact ⟨rfl, rfl⟩))
    (fun os started H enc _ => lifted os started H enc)

theorem proved : Rows.FnExactPiecesValidSaid := over
end Go.Proofs.Ytenhkmkajmnaaaa.lawExactPiecesValid
