/- 'FnExactPutText': the program's PutText answers as the reference's. No condition. -/
import Derived.Test.YtbfcdpgnelihfaaPxPutE
import Derived.Test.YtbfcdpgnelihfaaPxOpen
namespace Go.Proofs.Ytbfcdpgnelihfaa.lawExactPutText
open Go.ChangeShapes Go.WideShapes Go.ChangeAt Go.RowKit
open Go.ChangeMaps (open_string shut_string)
set_option linter.unusedVariables false
set_option linter.all false
theorem law_ap {g : Int × List Int} {col row : Int} {s : ByteArray} (h : okI g.1 ∧ okL okB8 g.2) (h2 : okI col) (h3 : okI row) (h4 : okS s) : φLawPutE [(dA2 dI dUs).e g, dI.e col, dI.e row, dS.e s] = some (bv true) :=
  (F4_ap (A := dGrid) (B := dI) (C := dI) (D := dS) g col row s).trans (if_pos ⟨h.2.1, List.all_eq_true.2 fun x hx => inB_iff.2 (h.2.2 x hx), h4⟩)
theorem walk {W : World} {a0} {v0 : Value} (k0 : (fun p => okI p.1 ∧ okL okB8 p.2) a0) (r0 : Rep (gW W) W ((dA2 dI dUs).e a0) v0) {a1} {v1 : Value} (k1 : okI a1) (r1 : Rep (gW W) W (dI.e a1) v1) {a2} {v2 : Value} (k2 : okI a2) (r2 : Rep (gW W) W (dI.e a2) v2) {a3} {v3 : Value} (k3 : okS a3) (r3 : Rep (gW W) W (dS.e a3) v3) : Calls Try.prog 5 #[v0, v1, v2, v3] W fun e w' => e = .returned (.bool true) ∧ Below W.heap.size W w' :=
  walk_of (ps := [(dA2 dI dUs).e a0, dI.e a1, dI.e a2, dS.e a3]) lawPutE_ok (law_ap k0 k1 k2 k3) ⟨v0, [v1, v2, v3], rfl, r0, ⟨v1, [v2, v3], rfl, r1, ⟨v2, [v3], rfl, r2, ⟨v3, [], rfl, r3, rfl⟩⟩⟩⟩

set_option maxRecDepth 100000 in
theorem lifted (os : Os) (started : os.Started) (H : Type) (enc : TypeId × Value → H) :
    ReturnsInHanded {} Try.checked os 5 .any (Rows.fnExactPutTextSpec.pre6 enc Try.prog Try.f5 Rows.fnExactPutTextRow.domain false) (Rows.fnExactPutTextSpec.post enc Try.prog Try.f5 false true false false) := by
  refine returnsInHanded_of_change (C := Try.checked) own started (by kernel_rfl) Try.func5
    (ChangeSpec.witness6 (enc := enc) (C := Try.checked) false ⟨#[], #[.agg #[.int .i64 0, .slice none 0 0], .int .i64 0, .int .i64 0, .string ByteArray.empty], []⟩ 8 (by kernel_rfl) (by kernel_rfl) (by kernel_rfl) (by kernel_rfl)) ?_
  intro W base args ds gs before hval0 hW hcnd _
  have hval : ∀ (j : Nat) t v, (Try.f5).params[j]? = some t → args[j]? = some v → Value.okWide Try.prog W .any base t v := hval0
  have hW' := hW
  obtain ⟨p, q, hA0, hV, rfl, hfz, hnd⟩ := hW
  have hA : DataW.TrodAll enc Try.prog W 0 (fun _ => true) true (Try.f5).params.toList args.toList ds p := hA0
  rw [Try.params5] at hA hval
  obtain ⟨v0, vs0, d0, ds0, p0, q0, hargs, rfl, rfl, h0, r0⟩ := trodAll_cons hA
  obtain ⟨v1, vs1, d1, ds1, p1, q1, rfl, rfl, rfl, h1, r1⟩ := trodAll_cons r0
  obtain ⟨v2, vs2, d2, ds2, p2, q2, rfl, rfl, rfl, h2, r2⟩ := trodAll_cons r1
  obtain ⟨v3, vs3, d3, ds3, p3, q3, rfl, rfl, rfl, h3, r3⟩ := trodAll_cons r2
  obtain ⟨rfl, rfl, rfl⟩ := trodAll_nil r3
  obtain rfl : args = #[v0, v1, v2, v3] := by cases args; simp_all
  obtain ⟨rfl, rfl⟩ := trodVars_none hV
  have k0 := h0
  have lt0 : ∀ x ∈ p0, x.block < W.heap.size := by obtain ⟨m, hm⟩ := k0; exact DataW.trod_lt m _ _ _ hm
  have k1 := h1
  have lt1 : ∀ x ∈ p1, x.block < W.heap.size := by obtain ⟨m, hm⟩ := k1; exact DataW.trod_lt m _ _ _ hm
  have k2 := h2
  have lt2 : ∀ x ∈ p2, x.block < W.heap.size := by obtain ⟨m, hm⟩ := k2; exact DataW.trod_lt m _ _ _ hm
  have k3 := h3
  have lt3 : ∀ x ∈ p3, x.block < W.heap.size := by obtain ⟨m, hm⟩ := k3; exact DataW.trod_lt m _ _ _ hm
  obtain ⟨cs0, rfl, -⟩ := okWide_struct Try.underlying39 (hval 0 39 v0 rfl rfl)
  obtain ⟨a0, ok0, rep0⟩ := opT (opA2 Try.underlying39 (by kernel_rfl) (by kernel_rfl) (opI Try.underlying3) (fun _ => rfl) (opL 1 Try.underlying22 (by kernel_rfl) (by omega) (opU Try.underlying5)) (fun _ => rfl)) (fun _ => ⟨_, rfl⟩) h0
  obtain ⟨n1, rfl⟩ := okWide_int Try.underlying3 (hval 1 3 v1 rfl rfl)
  obtain ⟨a1, ok1, rep1⟩ := op1 (opI Try.underlying3) (fun _ => rfl) rfl h1
  obtain ⟨n2, rfl⟩ := okWide_int Try.underlying3 (hval 2 3 v2 rfl rfl)
  obtain ⟨a2, ok2, rep2⟩ := op1 (opI Try.underlying3) (fun _ => rfl) rfl h2
  obtain ⟨s3, rfl⟩ := okWide_string Try.underlying9 (hval 3 9 v3 rfl rfl)
  obtain ⟨a3, ok3, rep3⟩ := op1 (opS Try.underlying9) (fun _ => rfl) rfl h3
  clear hA0 hval0
  refine (walk ok0 rep0 ok1 rep1 ok2 rep2 ok3 rep3).mono fun e W' ⟨he, bel⟩ => ?_
  subst he
  exact ⟨_, rfl, _, _, _, [], _, [], hW', trodAll_mk1 (shut_bool Try.underlying4 _), (trodAll_cons_mk (Below.trod laidOut (by kernel_rfl) (of_decide_eq_true (by kernel_rfl)) k0 bel lt0) (trodAll_cons_mk (Below.trod laidOut (by kernel_rfl) (of_decide_eq_true (by kernel_rfl)) k1 bel lt1) (trodAll_cons_mk (Below.trod laidOut (by kernel_rfl) (of_decide_eq_true (by kernel_rfl)) k2 bel lt2) (trodAll_cons_mk (Below.trod laidOut (by kernel_rfl) (of_decide_eq_true (by kernel_rfl)) k3 bel lt3) trodAll_mk0)))), rfl, bel.frame _, fun h => by cases h⟩

theorem over : Rows.fnExactPutTextRow.holds Try.pinned (OpenSpec.ofChange Rows.fnExactPutTextSpec) :=
  OpenClaim.holds_of_wide 5 Try.f5 rfl rfl rfl rfl rfl rfl rfl ⟨rfl, rfl, rfl, rfl, rfl⟩ rfl rfl rfl rfl rfl (by kernel_rfl) Try.func5 (by kernel_rfl)
    (of_decide_eq_true (by kernel_rfl)) (by unfold Func.isWrapper; first | (rw [if_pos (by decide +kernel)]; kernel_rfl) | (rw [if_neg (by decide +kernel)]; exact ⟨rfl, rfl⟩))
    (fun os started H enc _ => lifted os started H enc)

theorem proved : Rows.FnExactPutTextSaid := over
end Go.Proofs.Ytbfcdpgnelihfaa.lawExactPutText
