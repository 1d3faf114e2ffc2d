/- 'FnExactParagraphLines': the program's ParagraphLines answers as the reference's. No condition. -/
import Derived.Test.YtngcedklbinhjaaZPlE18
import Derived.Test.YtngcedklbinhjaaRows
namespace Go.Proofs.Ytngcedklbinhjaa.lawExactParagraphLines
open Go.ChangeShapes Go.WideShapes Go.ChangeAt Go.RowKit
open Go.ChangeMaps (open_string shut_string)
set_option linter.unusedVariables false
set_option linter.all false
theorem okSL_of {l : LS} (h : okL okS l) : okSL l := ⟨h.1, fun i => by
  by_cases hi : i < l.length
  · rw [List.getElem?_eq_getElem hi, Option.getD_some]
    exact h.2 _ (List.getElem_mem hi)
  · rw [List.getElem?_eq_none (by omega)]
    simp⟩
theorem law_ap {a b : LS} {wd most : Int} (h : okL okS a) (h2 : okL okS b) (h3 : okI wd) (h4 : okI most) : φLawPlE [dSs.e a, dSs.e b, dI.e wd, dI.e most] = some (bv true) := (F4_ap (A := dSs) (B := dSs) (C := dI) (D := dI) a b wd most).trans (if_pos ⟨okSL_of h, okSL_of h2⟩)
theorem walk {W : World} (hT : TabF W fun _ => False) {a0} {v0 : Value} (k0 : (okL okS) a0) (r0 : Rep (gW W) W (dSs.e a0) v0) {a1} {v1 : Value} (k1 : (okL okS) a1) (r1 : Rep (gW W) W (dSs.e a1) v1) {a2} {v2 : Value} (k2 : okI a2) (r2 : Rep (gW W) W (dI.e a2) v2) {a3} {v3 : Value} (k3 : okI a3) (r3 : Rep (gW W) W (dI.e a3) v3) : Calls Try.prog 4 #[v0, v1, v2, v3] W fun e w' => e = .returned (.bool true) ∧ Below W.heap.size W w' :=
  walk_of (ps := [dSs.e a0, dSs.e a1, dI.e a2, dI.e a3]) lawPlE_ok hT (law_ap k0 k1 k2 k3) ⟨v0, [v1, v2, v3], rfl, r0, ⟨v1, [v2, v3], rfl, r1, ⟨v2, [v3], rfl, r2, ⟨v3, [], rfl, r3, rfl⟩⟩⟩⟩

set_option maxRecDepth 100000 in
theorem lifted (os : Os) (started : os.Started) (H : Type) (enc : TypeId × Value → H) :
    ReturnsInHanded {} Try.checked os 4 .any (Rows.fnExactParagraphLinesSpec.pre6 enc Try.prog Try.f4 Rows.fnExactParagraphLinesRow.domain false) (Rows.fnExactParagraphLinesSpec.post enc Try.prog Try.f4 false true false false) := by
  refine returnsInHanded_of_change (C := Try.checked) own started (by kernel_rfl) Try.func4
    (ChangeSpec.witness6 (enc := enc) (C := Try.checked) false ⟨#[], #[.slice none 0 0, .slice none 0 0, .int .i64 0, .int .i64 0], []⟩ 8 (by kernel_rfl) (by kernel_rfl) (by kernel_rfl) (by kernel_rfl)) ?_
  intro W base args ds gs before hval0 hW hcnd _
  have hval : ∀ (j : Nat) t v, (Try.f4).params[j]? = some t → args[j]? = some v → Value.okWide Try.prog W .any base t v := hval0
  have hW' := hW
  obtain ⟨p, q, hA0, hV, rfl, hfz, hnd⟩ := hW
  have hA : DataW.TrodAll enc Try.prog W 0 (fun _ => true) true (Try.f4).params.toList args.toList ds p := hA0
  rw [Try.params4] at hA hval
  obtain ⟨v0, vs0, d0, ds0, p0, q0, hargs, rfl, rfl, h0, r0⟩ := trodAll_cons hA
  obtain ⟨v1, vs1, d1, ds1, p1, q1, rfl, rfl, rfl, h1, r1⟩ := trodAll_cons r0
  obtain ⟨v2, vs2, d2, ds2, p2, q2, rfl, rfl, rfl, h2, r2⟩ := trodAll_cons r1
  obtain ⟨v3, vs3, d3, ds3, p3, q3, rfl, rfl, rfl, h3, r3⟩ := trodAll_cons r2
  obtain ⟨rfl, rfl, rfl⟩ := trodAll_nil r3
  obtain rfl : args = #[v0, v1, v2, v3] := by cases args; simp_all
  obtain ⟨rfl, rfl⟩ := trodVars_none hV
  have k0 := h0
  have lt0 : ∀ x ∈ p0, x.block < W.heap.size := by obtain ⟨m, hm⟩ := k0; exact DataW.trod_lt m _ _ _ hm
  have k1 := h1
  have lt1 : ∀ x ∈ p1, x.block < W.heap.size := by obtain ⟨m, hm⟩ := k1; exact DataW.trod_lt m _ _ _ hm
  have k2 := h2
  have lt2 : ∀ x ∈ p2, x.block < W.heap.size := by obtain ⟨m, hm⟩ := k2; exact DataW.trod_lt m _ _ _ hm
  have k3 := h3
  have lt3 : ∀ x ∈ p3, x.block < W.heap.size := by obtain ⟨m, hm⟩ := k3; exact DataW.trod_lt m _ _ _ hm
  obtain ⟨ad0, len0, cap0, rfl⟩ := okWide_slice Try.underlying23 (hval 0 23 v0 rfl rfl)
  obtain ⟨a0, ok0, rep0⟩ := op1 (opL 1 Try.underlying23 (by kernel_rfl) (by omega) (opS Try.underlying9)) (fun _ => rfl) rfl h0
  obtain ⟨ad1, len1, cap1, rfl⟩ := okWide_slice Try.underlying23 (hval 1 23 v1 rfl rfl)
  obtain ⟨a1, ok1, rep1⟩ := op1 (opL 1 Try.underlying23 (by kernel_rfl) (by omega) (opS Try.underlying9)) (fun _ => rfl) rfl h1
  obtain ⟨n2, rfl⟩ := okWide_int Try.underlying3 (hval 2 3 v2 rfl rfl)
  obtain ⟨a2, ok2, rep2⟩ := op1 (opI Try.underlying3) (fun _ => rfl) rfl h2
  obtain ⟨n3, rfl⟩ := okWide_int Try.underlying3 (hval 3 3 v3 rfl rfl)
  obtain ⟨a3, ok3, rep3⟩ := op1 (opI Try.underlying3) (fun _ => rfl) rfl h3
  have hT : TabF W fun _ => False := ⟨fun t ht => by simp only [tabs, List.not_mem_nil] at ht, fun t ht => by simp only [gls, List.not_mem_nil] at ht, fun _ _ q => q⟩
  clear hA0 hval0
  refine (walk hT ok0 rep0 ok1 rep1 ok2 rep2 ok3 rep3).mono fun e W' ⟨he, bel⟩ => ?_
  subst he
  exact ⟨_, rfl, _, _, _, [], _, [], hW', trodAll_mk1 (shut_bool Try.underlying4 _), (trodAll_cons_mk (Below.trod laidOut (by kernel_rfl) (of_decide_eq_true (by kernel_rfl)) k0 bel lt0) (trodAll_cons_mk (Below.trod laidOut (by kernel_rfl) (of_decide_eq_true (by kernel_rfl)) k1 bel lt1) (trodAll_cons_mk (Below.trod laidOut (by kernel_rfl) (of_decide_eq_true (by kernel_rfl)) k2 bel lt2) (trodAll_cons_mk (Below.trod laidOut (by kernel_rfl) (of_decide_eq_true (by kernel_rfl)) k3 bel lt3) trodAll_mk0)))), rfl, bel.frame _, fun h => by cases h⟩

theorem over : Rows.fnExactParagraphLinesRow.holds Try.pinned (OpenSpec.ofChange Rows.fnExactParagraphLinesSpec) :=
  OpenClaim.holds_of_wide 4 Try.f4 rfl rfl rfl rfl rfl rfl rfl ⟨rfl, rfl, rfl, rfl, rfl⟩ rfl rfl rfl rfl rfl (by kernel_rfl) Try.func4 (by kernel_rfl)
    (of_decide_eq_true (by kernel_rfl)) (by unfold Func.isWrapper; first | (rw [if_pos (by decide +kernel)]; kernel_rfl) | (rw [if_neg (by decide +kernel)]; exact ⟨rfl, rfl⟩))
    (fun os started H enc _ => lifted os started H enc)

theorem proved : Rows.FnExactParagraphLinesSaid := over
end Go.Proofs.Ytngcedklbinhjaa.lawExactParagraphLines
