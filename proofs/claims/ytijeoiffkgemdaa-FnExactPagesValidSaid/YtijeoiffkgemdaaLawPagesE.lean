/- 'FnExactPagesValid': for every slice of numbers the program's PagesValid and the reference's give the same answer, so the law returns true and leaves its argument as it was. No condition. -/
import Derived.Test.YtijeoiffkgemdaaFrame
import Derived.Test.YtijeoiffkgemdaaPages
namespace Go.Proofs.Ytijeoiffkgemdaa.lawExactPagesValid
open Go.ChangeShapes Go.WideShapes Go.ChangeAt Go.RowKit
open Go.ChangeMaps (open_string shut_string)
set_option linter.unusedVariables false

theorem ints_of_new {w : World} {b n T : Nat} {zs : List Int} (hl : zs.length = n) (hr : ∀ i : Nat, -9223372036854775808 ≤ zs[i]?.getD 0 ∧ zs[i]?.getD 0 ≤ 9223372036854775807) (hn : n ≤ 1048576)
    (h : OwnC w b ((List.range n).map (intAt zs)).toArray T) : IntsAt w (some ⟨b, 0, none⟩) n n zs :=
  ⟨hl, Nat.le_refl _, by omega, hr, fun _ => ⟨b, 0, rfl, fun i hi => by rw [Nat.zero_add, h.facts.1 i]; simp [hi, intAt]⟩⟩

set_option maxHeartbeats 2000000 in
theorem walk (a : Option Addr) (n cap : Nat) (zs : List Int) (w : World) (h : IntsAt w a n cap zs) :
    Calls Try.prog 4 #[.slice a n cap] w fun e w' => e = .returned (.bool true) ∧ Below w.heap.size w w' := by
  by_cases hbig : 1048576 < n
  · clear h
    have h1 : (1048576 : Int) < (n : Int) := by omega
    go_enter Try.func4, Try.ntmps4
    go_wp2
    go_ret
    exact ⟨rfl, Below.refl _ _⟩
  · have hn : n ≤ 1048576 := by omega
    have h1 : (n : Int) ≤ 1048576 := by omega
    have hl := h.len
    have HL := Lib.hid hl
    have HR := Lib.hid h.rng
    clear hl hbig
    go_enter Try.func4, Try.ntmps4
    go_wp2_with fail
    refine (toIntS_any _ _ _ _ _ hn h).mono ?_
    rintro e w1 ⟨b1, rfl, hb1, o1, bl1⟩
    have i1 := ints_of_new HL.out HR.out hn o1
    go_wp2_with fail
    refine (specPagesValid_any _ _ _ _ _ i1).mono ?_
    rintro e w2 ⟨rfl, bl2⟩
    have h2 := (h.below bl1).below bl2
    go_wp2_with fail
    refine (toIntS_any _ _ _ _ _ hn h2).mono ?_
    rintro e w3 ⟨b3, rfl, hb3, o3, bl3⟩
    have i3 := ints_of_new HL.out HR.out hn o3
    go_wp2_with fail
    refine (implPagesValid_any _ _ _ _ _ i3).mono ?_
    rintro e w4 ⟨rfl, bl4⟩
    have h4 := (h2.below bl3).below bl4
    have i4 := i3.below bl4
    go_wp2_with fail
    refine (toIntS_any _ _ _ _ _ hn h4).mono ?_
    rintro e w5 ⟨b5, rfl, hb5, o5, bl5⟩
    have i5 := ints_of_new HL.out HR.out hn o5
    have i6 := i4.below bl5
    go_wp2_with fail
    refine (eqIntS_any _ _ _ _ _ _ _ i6 i5).mono ?_
    rintro e w6 ⟨rfl, bl6⟩
    go_wp2
    go_ret
    exact ⟨rfl, by (repeat (first | (with_reducible exact Below.refl _ _) | (with_reducible assumption) | (with_reducible apply below_alloc) | ((with_reducible apply Below.setCell); rotate_left; (focus (first | omega | (simp; done) | (simp; omega)))) | (with_reducible apply Below.drew) | (with_reducible apply below_drewN) | (with_reducible refine below_trans ?_ (by assumption))))⟩
set_option maxRecDepth 100000 in
theorem lifted (os : Os) (started : os.Started) (H : Type) (enc : TypeId × Value → H) :
    ReturnsInHanded {} Try.checked os 4 .any (Rows.fnExactPagesValidSpec.pre6 enc Try.prog Try.f4 Rows.fnExactPagesValidRow.domain false) (Rows.fnExactPagesValidSpec.post enc Try.prog Try.f4 false true false false) := by
  refine returnsInHanded_of_change (C := Try.checked) own started (by kernel_rfl) Try.func4
    (ChangeSpec.witness6 (enc := enc) (C := Try.checked) false ⟨#[], #[.slice none 0 0], []⟩ 8 (by kernel_rfl) (by kernel_rfl) (by kernel_rfl) (by kernel_rfl)) ?_
  intro W base args ds gs before hval0 hW hcnd _
  have hval : ∀ (j : Nat) t v, (Try.f4).params[j]? = some t → args[j]? = some v → Value.okWide Try.prog W .any base t v := hval0
  have hW' := hW
  obtain ⟨p, q, hA0, hV, rfl, hfz, hnd⟩ := hW
  have hA : DataW.TrodAll enc Try.prog W 0 (fun _ => true) true (Try.f4).params.toList args.toList ds p := hA0
  rw [Try.params4] at hA hval
  obtain ⟨v0, vs0, d0, ds0, p0, q0, hargs, rfl, rfl, h0, r0⟩ := trodAll_cons hA
  obtain ⟨rfl, rfl, rfl⟩ := trodAll_nil r0
  obtain rfl : args = #[v0] := by cases args; simp_all
  obtain ⟨rfl, rfl⟩ := trodVars_none hV
  have k0 := h0
  have lt0 : ∀ x ∈ p0, x.block < W.heap.size := by obtain ⟨m, hm⟩ := k0; exact DataW.trod_lt m _ _ _ hm
  obtain ⟨a0, n0, cap0, zs0, rfl, hb0⟩ := open_ilist (hval 0 28 v0 rfl rfl) h0
  clear hA0 hval0
  refine (walk a0 n0 cap0 zs0 W hb0).mono fun e W' ⟨he, bel⟩ => ?_
  subst he
  exact ⟨_, rfl, _, _, _, [], _, [], hW', trodAll_mk1 (shut_bool Try.underlying4 _), (trodAll_cons_mk (Below.trod laidOut (by kernel_rfl) (of_decide_eq_true (by kernel_rfl)) k0 bel lt0) trodAll_mk0), rfl, bel.frame _, fun h => by cases h⟩

theorem over : Rows.fnExactPagesValidRow.holds Try.pinned (OpenSpec.ofChange Rows.fnExactPagesValidSpec) :=
  OpenClaim.holds_of_wide 4 Try.f4 rfl rfl rfl rfl rfl rfl rfl ⟨rfl, rfl, rfl, rfl, rfl⟩ rfl rfl rfl rfl rfl (by kernel_rfl) Try.func4 (by kernel_rfl)
    (of_decide_eq_true (by kernel_rfl)) (by unfold Func.isWrapper; first | (rw [if_pos (by decide +kernel)]; kernel_rfl) | (rw [if_neg (by decide +kernel)]; exact ⟨rfl, rfl⟩))
    (fun os started H enc _ => lifted os started H enc)

theorem proved : Rows.FnExactPagesValidSaid := over
end Go.Proofs.Ytijeoiffkgemdaa.lawExactPagesValid
