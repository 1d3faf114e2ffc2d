/- 'FnWordsOfLines': none of the words is empty, none has a space; an empty line more changes nothing. No condition. -/
import Derived.Test.YtngcedklbinhjaaDoorZWw13
import Derived.Test.YtngcedklbinhjaaDoorRows
import Derived.Test.YtngcedklbinhjaaDoorCards
import Derived.Test.YtngcedklbinhjaaDoorTie
namespace Go.Proofs.YtngcedklbinhjaaDoor.lawWordsOfLines
open Go.ChangeShapes Go.WideShapes Go.ChangeAt Go.RowKit
open Go.ChangeMaps (open_string shut_string)
set_option linter.unusedVariables false
set_option linter.all false
theorem law_ap {code : List Int} (h : okL okB8 code) : φLawWw [dUs.e code] = some (bv true) := (F1_ap (A := dUs) code).trans (if_pos h)
theorem walk {W : World} (hT : TabF W fun _ => False) {a0} {v0 : Value} (k0 : (okL okB8) a0) (r0 : Rep (gW W) W (dUs.e a0) v0) : Calls Tryd.prog 3 #[v0] W fun e w' => e = .returned (.bool true) ∧ Below W.heap.size W w' :=
  walk_of (ps := [dUs.e a0]) lawWw_ok hT (law_ap k0) ⟨v0, [], rfl, r0, rfl⟩

set_option maxRecDepth 100000 in
theorem lifted (os : Os) (started : os.Started) (H : Type) (enc : TypeId × Value → H) :
    ReturnsInHanded {} Tryd.checked os 3 .any (fun w args => (Rows.fnWordsOfLinesSpec.pre enc Tryd.prog Tryd.f3 Rows.fnWordsOfLinesRow.domain false w args ∧ laidMet Tryd.prog Rows.fnWordsOfLinesRow.laid w) ∧ sizedMet enc Tryd.prog Tryd.f3 (OpenSpec.ofChange Rows.fnWordsOfLinesSpec) false w args) (Rows.fnWordsOfLinesSpec.post enc Tryd.prog Tryd.f3 false true false false) := by
  refine returnsInHanded_of_change_and (C := Tryd.checked) (X := fun w _ => laidMet Tryd.prog Rows.fnWordsOfLinesRow.laid w) (fun _ _ _ hh h => h.of_heap hh) own started (by kernel_rfl) Tryd.func3
    (ChangeSpec.witness_shaped (enc := enc) (C := Tryd.checked) (os := os) (X := fun w _ => laidMet Tryd.prog Rows.fnWordsOfLinesRow.laid w) false (World.laidAll Tryd.prog os Rows.fnWordsOfLinesRow.laid) #[.slice none 0 0] 8 (World.laidAll_os _ _ _) (World.shaped_of_ZipB (by kernel_rfl) (by kernel_rfl)) (by kernel_rfl) (by kernel_rfl) (by kernel_rfl) (laidMet_laidAll _ (by kernel_rfl) (by kernel_rfl))) ?_
  intro W base args ds gs before hval0 hW hcnd _ hL _
  have hval : ∀ (j : Nat) t v, (Tryd.f3).params[j]? = some t → args[j]? = some v → Value.okWide Tryd.prog W .any base t v := hval0
  have hW' := hW
  obtain ⟨p, q, hA0, hV, rfl, hfz, hnd⟩ := hW
  have hA : DataW.TrodAll enc Tryd.prog W 0 (fun _ => true) true (Tryd.f3).params.toList args.toList ds p := hA0
  rw [Tryd.params3] at hA hval
  obtain ⟨v0, vs0, d0, ds0, p0, q0, hargs, rfl, rfl, h0, r0⟩ := trodAll_cons hA
  obtain ⟨rfl, rfl, rfl⟩ := trodAll_nil r0
  obtain rfl : args = #[v0] := by cases args; simp_all
  obtain ⟨rfl, rfl⟩ := trodVars_none hV
  have k0 := h0
  have lt0 : ∀ x ∈ p0, x.block < W.heap.size := by obtain ⟨m, hm⟩ := k0; exact DataW.trod_lt m _ _ _ hm
  obtain ⟨ad0, len0, cap0, rfl⟩ := okWide_slice Tryd.underlying22 (hval 0 22 v0 rfl rfl)
  obtain ⟨a0, ok0, rep0⟩ := op1 (opL 1 Tryd.underlying22 (by kernel_rfl) (by omega) (opU Tryd.underlying5)) (fun _ => rfl) rfl h0
  have hT : TabF W fun _ => False := ⟨fun t ht => by simp only [tabs, List.not_mem_nil] at ht, fun t ht => by simp only [gls, List.not_mem_nil] at ht, fun _ _ q => q⟩
  clear hA0 hval0
  refine (walk hT ok0 rep0).mono fun e W' ⟨he, bel⟩ => ?_
  subst he
  exact ⟨_, rfl, _, _, _, [], _, [], hW', trodAll_mk1 (shut_bool Tryd.underlying4 _), (trodAll_cons_mk (Below.trod laidOut (by kernel_rfl) (of_decide_eq_true (by kernel_rfl)) k0 bel lt0) trodAll_mk0), rfl, bel.frame _, fun h => by cases h⟩

theorem over : Rows.fnWordsOfLinesRow.holds Tryd.pinned (OpenSpec.ofChange Rows.fnWordsOfLinesSpec) :=
  OpenClaim.holds_of_wide 3 Tryd.f3 rfl rfl rfl rfl rfl rfl rfl ⟨rfl, rfl, rfl, rfl, rfl⟩ rfl rfl rfl rfl rfl (by kernel_rfl) Tryd.func3 (by kernel_rfl)
    (of_decide_eq_true (by kernel_rfl)) (by unfold Func.isWrapper; first | (rw [if_pos (by decide +kernel)]; kernel_rfl) | (rw [if_neg (by decide +kernel)]; exact ⟨rfl, rfl⟩))
    (fun os started H enc _ => lifted os started H enc)

set_option maxRecDepth 100000 in
theorem proved : Rows.FnWordsOfLinesCardSaid :=
  Claim7.holds_tied_plain_at .later [] [.data, .pinned] true (true, "618ed050351c144a41e9b72c04112a54beb3cd2a87cd28116d5d40481f0c1bb4") false over (fun _ h => by cases h) (by kernel_rfl) (fun _ h => by cases h) fnWordsOfLines_row_tie rfl ⟨rfl, rfl⟩ (by kernel_rfl) rfl
    (fun f fn hf hfn => by
      obtain rfl : f = 3 := (Option.some.inj ((show Tryd.prog.funcNamed "loop.example/pagebuilder/laws.FnWordsOfLines" = some 3 by kernel_rfl).symm.trans hf)).symm
      obtain rfl : fn = Tryd.f3 := (Option.some.inj (Tryd.func3.symm.trans hfn)).symm
      refine ⟨by kernel_rfl, fun j t ht => ?_⟩
      have hall : (Tryd.f3).params.toList.all (fun t => Tryd.prog.wantsStandIn t = false) = true := by kernel_rfl
      exact (show Tryd.prog.wantsStandIn t = false from by simpa using List.all_eq_true.1 hall t (List.mem_of_getElem? (by simpa using ht))))
    (by kernel_rfl)
end Go.Proofs.YtngcedklbinhjaaDoor.lawWordsOfLines
