/- 'FnExactHyphenLines': for every slice of texts the program's HyphenLines and the reference's count the same, so the law returns true and leaves its argument as it was. No condition. -/
import Derived.Test.YtijeoiffkgemdaaFrame
import Derived.Test.YtijeoiffkgemdaaStrs
namespace Go.Proofs.Ytijeoiffkgemdaa.lawExactHyphenLines
open Go.ChangeShapes Go.WideShapes Go.ChangeAt Go.RowKit
open Go.ChangeMaps (open_string shut_string)
set_option linter.unusedVariables false

theorem strs_of_new {w : World} {b n T : Nat} {ss : List ByteArray} (hl : ss.length = n) (hr : ∀ i : Nat, (ss[i]?.getD ByteArray.empty).size ≤ 9223372036854775807) (hn : n ≤ 1048576)
    (h : OwnC w b ((List.range n).map (strAt ss)).toArray T) : StrsAt w (some ⟨b, 0, none⟩) n n ss :=
  ⟨hl, Nat.le_refl _, by omega, hr, fun _ => ⟨b, 0, rfl, fun i hi => by rw [Nat.zero_add, h.facts.1 i]; simp [hi, strAt]⟩⟩

set_option maxHeartbeats 2000000 in
theorem walk (a : Option Addr) (n cap : Nat) (ss : List ByteArray) (w : World) (h : StrsAt w a n cap ss) :
    Calls Try.prog 6 #[.slice a n cap] w fun e w' => e = .returned (.bool true) ∧ Below w.heap.size w w' := by
  have hl := h.len
  have HL := Lib.hid hl
  have HR := Lib.hid h.rng
  clear hl
  go_enter Try.func6, Try.ntmps6
  go_wp2_with fail
  refine (szStringS_any _ _ _ _ _ _ (by omega) (by omega) h).mono ?_
  rintro e w0 ⟨k, rfl, bl0, hk0, hk1⟩
  by_cases hneg : k < 0
  · go_wp2
    go_ret
    exact ⟨rfl, by (repeat (first | (with_reducible exact Below.refl _ _) | (with_reducible assumption) | (with_reducible apply below_alloc) | ((with_reducible apply Below.setCell); rotate_left; (focus (first | omega | (simp; done) | (simp; omega)))) | (with_reducible apply Below.drew) | (with_reducible apply below_drewN) | (with_reducible refine below_trans ?_ (by assumption))))⟩
  · have hn : n ≤ 1048576 := by have := hk1 (by omega); omega
    have h0 := h.below bl0
    clear hk1
    go_wp2_with fail
    refine (toStringS_any _ _ _ _ _ hn h0).mono ?_
    rintro e w1 ⟨b1, rfl, hb1, o1, bl1⟩
    have i1 := strs_of_new HL.out HR.out hn o1
    go_wp2_with fail
    refine (specHyphenLines_any _ _ _ _ _ i1).mono ?_
    rintro e w2 ⟨rfl, bl2⟩
    have h2 := (h0.below bl1).below bl2
    go_wp2_with fail
    refine (toStringS_any _ _ _ _ _ hn h2).mono ?_
    rintro e w3 ⟨b3, rfl, hb3, o3, bl3⟩
    have i3 := strs_of_new HL.out HR.out hn o3
    go_wp2_with fail
    refine (implHyphenLines_any _ _ _ _ _ i3).mono ?_
    rintro e w4 ⟨rfl, bl4⟩
    have h4 := (h2.below bl3).below bl4
    have i4 := i3.below bl4
    go_wp2_with fail
    refine (toStringS_any _ _ _ _ _ hn h4).mono ?_
    rintro e w5 ⟨b5, rfl, hb5, o5, bl5⟩
    have i5 := strs_of_new HL.out HR.out hn o5
    have i6 := i4.below bl5
    go_wp2_with fail
    refine (eqStringS_any _ _ _ _ _ _ _ i6 i5).mono ?_
    rintro e w6 ⟨rfl, bl6⟩
    go_wp2
    go_ret
    exact ⟨rfl, by (repeat (first | (with_reducible exact Below.refl _ _) | (with_reducible assumption) | (with_reducible apply below_alloc) | ((with_reducible apply Below.setCell); rotate_left; (focus (first | omega | (simp; done) | (simp; omega)))) | (with_reducible apply Below.drew) | (with_reducible apply below_drewN) | (with_reducible refine below_trans ?_ (by assumption))))⟩
set_option maxRecDepth 100000 in
theorem lifted (os : Os) (started : os.Started) (H : Type) (enc : TypeId × Value → H) :
    ReturnsInHanded {} Try.checked os 6 .any (Rows.fnExactHyphenLinesSpec.pre6 enc Try.prog Try.f6 Rows.fnExactHyphenLinesRow.domain false) (Rows.fnExactHyphenLinesSpec.post enc Try.prog Try.f6 false true false false) := by
  refine returnsInHanded_of_change (C := Try.checked) own started (by kernel_rfl) Try.func6
    (ChangeSpec.witness6 (enc := enc) (C := Try.checked) false ⟨#[], #[.slice none 0 0], []⟩ 8 (by kernel_rfl) (by kernel_rfl) (by kernel_rfl) (by kernel_rfl)) ?_
  intro W base args ds gs before hval0 hW hcnd _
  have hval : ∀ (j : Nat) t v, (Try.f6).params[j]? = some t → args[j]? = some v → Value.okWide Try.prog W .any base t v := hval0
  have hW' := hW
  obtain ⟨p, q, hA0, hV, rfl, hfz, hnd⟩ := hW
  have hA : DataW.TrodAll enc Try.prog W 0 (fun _ => true) true (Try.f6).params.toList args.toList ds p := hA0
  rw [Try.params6] at hA hval
  obtain ⟨v0, vs0, d0, ds0, p0, q0, hargs, rfl, rfl, h0, r0⟩ := trodAll_cons hA
  obtain ⟨rfl, rfl, rfl⟩ := trodAll_nil r0
  obtain rfl : args = #[v0] := by cases args; simp_all
  obtain ⟨rfl, rfl⟩ := trodVars_none hV
  have k0 := h0
  have lt0 : ∀ x ∈ p0, x.block < W.heap.size := by obtain ⟨m, hm⟩ := k0; exact DataW.trod_lt m _ _ _ hm
  obtain ⟨a0, n0, cap0, ss0, rfl, hb0⟩ := open_slist (hval 0 36 v0 rfl rfl) h0
  clear hA0 hval0
  refine (walk a0 n0 cap0 ss0 W hb0).mono fun e W' ⟨he, bel⟩ => ?_
  subst he
  exact ⟨_, rfl, _, _, _, [], _, [], hW', trodAll_mk1 (shut_bool Try.underlying4 _), (trodAll_cons_mk (Below.trod laidOut (by kernel_rfl) (of_decide_eq_true (by kernel_rfl)) k0 bel lt0) trodAll_mk0), rfl, bel.frame _, fun h => by cases h⟩

theorem over : Rows.fnExactHyphenLinesRow.holds Try.pinned (OpenSpec.ofChange Rows.fnExactHyphenLinesSpec) :=
  OpenClaim.holds_of_wide 6 Try.f6 rfl rfl rfl rfl rfl rfl rfl ⟨rfl, rfl, rfl, rfl, rfl⟩ rfl rfl rfl rfl rfl (by kernel_rfl) Try.func6 (by kernel_rfl)
    (of_decide_eq_true (by kernel_rfl)) (by unfold Func.isWrapper; first | (rw [if_pos (by decide +kernel)]; kernel_rfl) | (rw [if_neg (by decide +kernel)]; exact ⟨rfl, rfl⟩))
    (fun os started H enc _ => lifted os started H enc)

theorem proved : Rows.FnExactHyphenLinesSaid := over
end Go.Proofs.Ytijeoiffkgemdaa.lawExactHyphenLines
