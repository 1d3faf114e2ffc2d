/- What the proof rests on, part 15: contracts of functions. No condition beyond what each states. -/
import Derived.Test.YtngcedklbinhjaaGreatDoorZBw14
namespace Go.Proofs.YtngcedklbinhjaaGreatDoor
open Go.RowKit
set_option linter.all false
def wh : fG := fun ps cs => match ps, cs with
 | [p], [] => (dUs.d p).map fun code => (.own 0 2 0 0, [rdC 84 (code.take 2000) 0])
 | _, _ => none
theorem ajg {code : List Int} : wh [.lst false 1 (code.map fun n => .val (.int .u8 n))] [] = some (.own 0 2 0 0, [rdC 84 (code.take 2000) 0]) := by
 have := dUs.h' code
 simp only [dUs, fA, fq] at this
 simp only [wh, dUs, this, Option.map_some]
theorem apY : dM Tryz.prog 18 wh := by
 refine z8 mixed jQ Tryz.func18 rfl 11 rfl [.tmp 2] rfl (by kernel_rfl) fun ps cs r cs' hr => ?_
 unfold wh at hr
 split at hr
 case h_2 => cases hr
 rename_i p
 rw [Option.map_eq_some_iff] at hr
 obtain ⟨code, h1, h2⟩ := hr
 obtain rfl := dUs.h _ _ h1
 clear h1
 cases h2
 refine ⟨rfl, by simp, ?_⟩
 simp only [dIs, dUs, dSs, eX, fq, eT, fE, bS, fA, bO, bP, bR, bQ]
 repeat' (first | (with_reducible first | apply bF | apply av | apply aO | apply aJ | apply bC | apply dY | apply bA | apply bH | apply d9 | apply bE | apply bJ | apply dX | apply bI | apply bG | apply bD) | ((with_reducible apply au); (simp only [List.map_cons, List.map_nil] <;> exact rfl)) | ((with_reducible apply aI); (simp only [List.map_cons, List.map_nil] <;> exact rfl); decide +kernel) | ((with_reducible apply bB); rfl) | ((first | ((with_reducible apply i_V); rfl; rfl; rfl) | ((first | ((with_reducible apply i_E); rfl) | ((with_reducible apply i_S); rfl)); first | rfl | (simp only [push_cast, ↓reduceIte])) | ((with_reducible apply dW); rfl; rfl) | ((with_reducible apply dZ); rfl; rfl; rfl) | (with_reducible first | apply dV | apply aL)); (simp (disch := (first | omega | (simp only [push_cast]; first | done | omega))) only [push_cast, ↓reduceIte, Nat.reduceEqDiff, Nat.reduceBEq, Nat.reduceAdd, Nat.reduceSub, Int.reduceToNat, *] <;> with_reducible exact rfl); all_goals try (first | (with_reducible first | refine hyT ?_ | refine hyF ?_ | exact hyA | exact hyB) | (intro hX; first | (cases hX; done) | ((try simp only [decide_eq_true_eq, decide_eq_false_iff_not, Bool.not_eq_true', Bool.not_eq_false'] at hX); (try have hXb := aj.1 hX))))))
 ·refine qj 0 (by first | exact .inl rfl | exact .inr rfl) ?_ ?_
  ·(focus (simp (disch := (first | omega | (simp only [push_cast]; first | done | omega))) only [push_cast, ↓reduceIte, Nat.reduceEqDiff, Nat.reduceBEq, Nat.reduceAdd, Nat.reduceSub, Int.reduceToNat, bg, bf, cO, bq, bn, *] <;> with_reducible exact rfl))
  ·simp only [push_cast, ↓reduceIte, Nat.reduceEqDiff, Nat.reduceBEq, Nat.reduceAdd, Nat.reduceSub, Int.reduceToNat, rdC]
 ·have h : code.take 2000 = code := List.take_of_length_le (by simp_all; omega)
  refine qj 0 (by first | exact .inl rfl | exact .inr rfl) ?_ ?_
  ·(focus (simp (disch := (first | omega | (simp only [push_cast]; first | done | omega))) only [push_cast, ↓reduceIte, Nat.reduceEqDiff, Nat.reduceBEq, Nat.reduceAdd, Nat.reduceSub, Int.reduceToNat, bg, bf, cO, bq, bn, *] <;> with_reducible exact rfl))
  ·simp only [push_cast, ↓reduceIte, Nat.reduceEqDiff, Nat.reduceBEq, Nat.reduceAdd, Nat.reduceSub, Int.reduceToNat, rdC, h]
theorem abf : ∃ Φ : fG, dM Tryz.prog 38 Φ ∧ adL 84 Φ 1000000000 1 (fun v : Int => PV.val (.int .i64 v)) (fun _ => True) (fun n v => 0 ≤ v ∧ (1 ≤ n → v < n)) := by
 refine qD mixed jQ Tryz.func38 rfl 99 rfl [.tmp 4] rfl (by kernel_rfl) (by simp) _ _ _ _ _ _ fun code p n hok hp _ => ?_
 obtain ⟨hlen, hbyte, hp0, hp1⟩ := id hok
 have hb0 := hbyte p.toNat
 have hb1 := hbyte (p % code.length).toNat
 have hb2 := hbyte ((p * 7 + 3) % code.length).toNat
 have hm : 0 < code.length → 0 ≤ p % (code.length : Int) ∧ p % (code.length : Int) < code.length ∧ 0 ≤ (p * 7 + 3) % (code.length : Int) ∧ (p * 7 + 3) % (code.length : Int) < code.length ∧ 0 ≤ p / (code.length : Int) ∧ p / (code.length : Int) ≤ p := fun h =>
  ⟨Int.emod_nonneg _ (by omega), Int.emod_lt_of_pos _ (by omega), Int.emod_nonneg _ (by omega), Int.emod_lt_of_pos _ (by omega), Int.ediv_nonneg hp0 (by omega), Int.ediv_le_self _ hp0⟩
 clear hbyte
 repeat' (first | (first | (with_reducible first | apply bF | apply av | apply aO | apply aJ | apply bC | apply dY | apply bA | apply bH | apply d9 | apply bE | apply bJ | apply dX | apply bI | apply bG | apply bD) | ((with_reducible apply au); (simp only [List.map_cons, List.map_nil] <;> exact rfl)) | ((with_reducible apply aI); (simp only [List.map_cons, List.map_nil] <;> exact rfl); decide +kernel) | ((with_reducible apply bB); rfl) | ((first | ((with_reducible apply i_V); rfl; rfl; rfl) | ((first | ((with_reducible apply i_E); rfl) | ((with_reducible apply i_S); rfl)); first | rfl | (simp only [push_cast, ↓reduceIte])) | ((with_reducible apply dW); rfl; rfl) | ((with_reducible apply dZ); rfl; rfl; rfl) | (with_reducible first | apply dV | apply aL)); (simp (disch := (first | omega | (simp only [push_cast]; first | done | omega))) only [push_cast, ↓reduceIte, Nat.reduceEqDiff, Nat.reduceBEq, Nat.reduceAdd, Nat.reduceSub, Int.reduceToNat, *] <;> with_reducible exact rfl); all_goals try (first | (with_reducible first | refine hyT ?_ | refine hyF ?_ | exact hyA | exact hyB) | (intro hX; first | (cases hX; done) | ((try simp only [decide_eq_true_eq, decide_eq_false_iff_not, Bool.not_eq_true', Bool.not_eq_false'] at hX); (try have hXb := aj.1 hX)))))) | ((with_reducible apply aBH); rfl; (simp (disch := (first | omega | (simp only [push_cast]; first | done | omega))) only [push_cast, ↓reduceIte, Nat.reduceEqDiff, Nat.reduceBEq, Nat.reduceAdd, Nat.reduceSub, Int.reduceToNat, *] <;> with_reducible exact rfl); (simp (disch := (first | omega | (simp only [push_cast]; first | done | omega))) only [push_cast, ↓reduceIte, Nat.reduceEqDiff, Nat.reduceBEq, Nat.reduceAdd, Nat.reduceSub, Int.reduceToNat, *] <;> with_reducible exact rfl); (first | omega | (simp only [push_cast]; first | done | omega)); (first | omega | (simp only [push_cast]; first | done | omega)); (first | omega | (simp only [push_cast]; first | done | omega)); (first | omega | (simp only [push_cast]; first | done | omega)); intro z hz1 hz2))
 all_goals ((with_reducible apply gK (by first | exact .inl rfl | exact .inr rfl)); (focus (simp (disch := (first | omega | (simp only [push_cast]; first | done | omega))) only [push_cast, ↓reduceIte, Nat.reduceEqDiff, Nat.reduceBEq, Nat.reduceAdd, Nat.reduceSub, Int.reduceToNat, bg, bf, cO, bq, bn, *] <;> with_reducible exact rfl)); (focus (simp (disch := (first | omega | (simp only [push_cast]; first | done | omega))) only [push_cast, ↓reduceIte, Nat.reduceEqDiff, Nat.reduceBEq, Nat.reduceAdd, Nat.reduceSub, Int.reduceToNat, bg, bf, cO, bq, bn, *] <;> with_reducible exact rfl)))
 all_goals (first | omega | exact hok.to (by omega) (by omega) | exact ⟨Int.emod_nonneg _ (by omega), fun _ => Int.emod_lt_of_pos _ (by omega)⟩)
noncomputable def tY : fG := Classical.choose abf
theorem uN : dM Tryz.prog 38 tY := (Classical.choose_spec abf).1
theorem fJ : adL 84 tY 1000000000 1 (fun v : Int => PV.val (.int .i64 v)) (fun _ => True) (fun n v => 0 ≤ v ∧ (1 ≤ n → v < n)) := (Classical.choose_spec abf).2
noncomputable def aA8 : Ctx := { fn := fun f => none, io := fun f => if f = 38 then some tY else none }
theorem aqw : aA Tryz.prog aA8 := ⟨(fun f φ h => by
 unfold aA8 at h
 dsimp only at h
 cases h), (fun f φ h => by
 unfold aA8 at h
 dsimp only at h
 split at h
 ·rename_i hf; cases h; subst hf; exact ⟨⟨_, Tryz.func38, rfl, rfl⟩, uN⟩
 cases h), rfl⟩
theorem ajZ : ∃ Φ : fG, dM Tryz.prog 40 Φ ∧ adL 84 Φ 900000000 1 (fun v : Bool => PV.val (.bool v)) (fun n => 0 ≤ n ∧ n ≤ 1000000) (fun n v => n ≤ 0 → v = false) := by
 refine qD mixed aqw Tryz.func40 rfl 15 rfl [.tmp 4] rfl (by kernel_rfl) (by simp) _ _ _ _ _ _ fun code p n hok hp hn => ?_
 have hp0 := hok.pos
 repeat' (first | (first | (with_reducible first | apply bF | apply av | apply aO | apply aJ | apply bC | apply dY | apply bA | apply bH | apply d9 | apply bE | apply bJ | apply dX | apply bI | apply bG | apply bD) | ((with_reducible apply au); (simp only [List.map_cons, List.map_nil] <;> exact rfl)) | ((with_reducible apply aI); (simp only [List.map_cons, List.map_nil] <;> exact rfl); decide +kernel) | ((with_reducible apply bB); rfl) | ((first | ((with_reducible apply i_V); rfl; rfl; rfl) | ((first | ((with_reducible apply i_E); rfl) | ((with_reducible apply i_S); rfl)); first | rfl | (simp only [push_cast, ↓reduceIte])) | ((with_reducible apply dW); rfl; rfl) | ((with_reducible apply dZ); rfl; rfl; rfl) | (with_reducible first | apply dV | apply aL)); (simp (disch := (first | omega | (simp only [push_cast]; first | done | omega))) only [push_cast, ↓reduceIte, Nat.reduceEqDiff, Nat.reduceBEq, Nat.reduceAdd, Nat.reduceSub, Int.reduceToNat, *] <;> with_reducible exact rfl); all_goals try (first | (with_reducible first | refine hyT ?_ | refine hyF ?_ | exact hyA | exact hyB) | (intro hX; first | (cases hX; done) | ((try simp only [decide_eq_true_eq, decide_eq_false_iff_not, Bool.not_eq_true', Bool.not_eq_false'] at hX); (try have hXb := aj.1 hX)))))) | ((with_reducible apply dG fJ (fun _ _ => rfl)); rfl; (simp (disch := (first | omega | (simp only [push_cast]; first | done | omega))) only [push_cast, ↓reduceIte, Nat.reduceEqDiff, Nat.reduceBEq, Nat.reduceAdd, Nat.reduceSub, Int.reduceToNat, *] <;> with_reducible exact rfl); (simp (disch := (first | omega | (simp only [push_cast]; first | done | omega))) only [push_cast, ↓reduceIte, Nat.reduceEqDiff, Nat.reduceBEq, Nat.reduceAdd, Nat.reduceSub, Int.reduceToNat, *] <;> with_reducible exact rfl); (simp (disch := (first | omega | (simp only [push_cast]; first | done | omega))) only [push_cast, ↓reduceIte, Nat.reduceEqDiff, Nat.reduceBEq, Nat.reduceAdd, Nat.reduceSub, Int.reduceToNat, *] <;> with_reducible exact rfl); assumption; omega; (focus (first | trivial | omega)); (focus (first | rfl | (simp only [push_cast, ↓reduceIte]))); intro v pp hv hok hpp1 hpp2))
 all_goals ((with_reducible apply gK (by first | exact .inl rfl | exact .inr rfl)); (focus (simp (disch := (first | omega | (simp only [push_cast]; first | done | omega))) only [push_cast, ↓reduceIte, Nat.reduceEqDiff, Nat.reduceBEq, Nat.reduceAdd, Nat.reduceSub, Int.reduceToNat, bg, bf, cO, bq, bn, *] <;> with_reducible exact rfl)); (focus (simp (disch := (first | omega | (simp only [push_cast]; first | done | omega))) only [push_cast, ↓reduceIte, Nat.reduceEqDiff, Nat.reduceBEq, Nat.reduceAdd, Nat.reduceSub, Int.reduceToNat, bg, bf, cO, bq, bn, *] <;> with_reducible exact rfl)))
 all_goals (first | omega | assumption | (intro h; first | omega | rfl | (simp; omega)))
noncomputable def aft : fG := Classical.choose ajZ
theorem aem : dM Tryz.prog 40 aft := (Classical.choose_spec ajZ).1
theorem jv : adL 84 aft 900000000 1 (fun v : Bool => PV.val (.bool v)) (fun n => 0 ≤ n ∧ n ≤ 1000000) (fun n v => n ≤ 0 → v = false) := (Classical.choose_spec ajZ).2
end Go.Proofs.YtngcedklbinhjaaGreatDoor
namespace Go.Proofs.YtngcedklbinhjaaGreatDoor
open Go.RowKit
set_option linter.all false
def ami (g : I4) : Bool := inB g.1 0 1000 && inB g.2.1 0 1000 && inB g.2.2.1 0 g.1 && inB g.2.2.2 0 1
def uH : Fun := F1 dI4 fun g => some (bv (ami g))
theorem afK {a b c d : Int} : uH [.agg [.val (.int .i64 a), .val (.int .i64 b), .val (.int .i64 c), .val (.int .i64 d)]] = some (.val (.bool (ami (a, b, c, d)))) := jM (A := dI4) (a, b, c, d)
noncomputable def GGl : Ctx := { fn := fun f => if f = 60 then some φIn else none, io := fun f => none }
theorem awy : aA Tryz.prog GGl := ⟨(fun f φ h => by
 unfold GGl at h
 dsimp only at h
 split at h
 ·rename_i hf; cases h; subst hf; exact ⟨⟨_, Tryz.func60, rfl, rfl⟩, vU⟩
 cases h), (fun f φ h => by
 unfold GGl at h
 dsimp only at h
 cases h), rfl⟩
theorem atK (ob : aF) (ps : List PV) : ah GGl ob 60 ps = (ps.mapM (reify false 0 ob fuel)).bind φIn := by
 have h : GGl.fn 60 = some φIn := by simp [GGl]
 unfold ah
 rw [h]
 cases ps.mapM (reify false 0 ob fuel) <;> rfl
set_option maxHeartbeats 4000000 in
theorem zY : Sound Tryz.prog 28 uH := by
 refine ay mixed awy Tryz.func28 rfl 23 rfl [.tmp 2] rfl (by kernel_rfl) fun ps r hr => ?_
 obtain ⟨⟨a, b, c, d⟩, rfl, hr⟩ := bY hr
 cases hr
 refine ⟨by simp, ?_⟩
 simp only [dIs, dUs, dSs, eX, fq, eT, fE, bS, fA, bO, bP, bR, bQ]
 have ggl_c60 := atK; have ap := dR
 repeat' (first | (with_reducible first | apply bF | apply av | apply aO | apply aJ | apply bC | apply dY | apply bA | apply bH | apply d9 | apply bE | apply bJ | apply dX | apply bI | apply bG | apply bD) | ((with_reducible apply au); (simp only [List.map_cons, List.map_nil] <;> exact rfl)) | ((with_reducible apply aI); (simp only [List.map_cons, List.map_nil] <;> exact rfl); decide +kernel) | ((with_reducible apply bB); rfl) | ((first | ((with_reducible apply i_V); rfl; rfl; rfl) | ((first | ((with_reducible apply i_E); rfl) | ((with_reducible apply i_S); rfl)); first | rfl | (simp only [push_cast, ↓reduceIte])) | ((with_reducible apply dW); rfl; rfl) | ((with_reducible apply dZ); rfl; rfl; rfl) | (with_reducible first | apply dV | apply aL)); (simp (disch := (first | omega | (simp only [push_cast]; first | done | omega))) only [push_cast, ↓reduceIte, Nat.reduceEqDiff, Nat.reduceBEq, Nat.reduceAdd, Nat.reduceSub, Int.reduceToNat, *] <;> with_reducible exact rfl); all_goals try (first | (with_reducible first | refine hyT ?_ | refine hyF ?_ | exact hyA | exact hyB) | (intro hX; first | (cases hX; done) | ((try simp only [decide_eq_true_eq, decide_eq_false_iff_not, Bool.not_eq_true', Bool.not_eq_false'] at hX); (try have hXb := aj.1 hX))))))
 all_goals ((first | apply dw | apply bK); simp (disch := (first | omega | (simp only [push_cast]; first | done | omega))) only [push_cast, ↓reduceIte, Nat.reduceEqDiff, Nat.reduceBEq, Nat.reduceAdd, Nat.reduceSub, Int.reduceToNat, *])
 all_goals simp_all [ami]
noncomputable def GAl : Ctx := { fn := fun f => if f = 28 then some uH else none, io := fun f => none }
theorem aub : aA Tryz.prog GAl := ⟨(fun f φ h => by
 unfold GAl at h
 dsimp only at h
 split at h
 ·rename_i hf; cases h; subst hf; exact ⟨⟨_, Tryz.func28, rfl, rfl⟩, zY⟩
 cases h), (fun f φ h => by
 unfold GAl at h
 dsimp only at h
 cases h), rfl⟩
theorem awe (ob : aF) (ps : List PV) : ah GAl ob 28 ps = (ps.mapM (reify false 0 ob fuel)).bind uH := by
 have h : GAl.fn 28 = some uH := by simp [GAl]
 unfold ah
 rw [h]
 cases ps.mapM (reify false 0 ob fuel) <;> rfl
def zM : Fun := F0 (some (bv true))
theorem aiW : zM [] = some (.val (.bool true)) := rfl
theorem amW : Sound Tryz.prog 9 zM := by
 refine ay mixed aub Tryz.func9 rfl 3 rfl [.tmp 0] rfl (by kernel_rfl) fun ps r hr => ?_
 obtain ⟨rfl, hr⟩ := apy hr
 cases hr
 refine ⟨by simp, ?_⟩
 have gal_c28 := awe; have ap := @afK
 have e : ami (4, 0, 0, 0) = true := rfl
 (refine wlkX ?_; intros)
 all_goals (exact fnF)
noncomputable def GRd : Ctx := { fn := fun f => none, io := fun f => if f = 38 then some tY else if f = 40 then some aft else none }
theorem ano : aA Tryz.prog GRd := ⟨(fun f φ h => by
 unfold GRd at h
 dsimp only at h
 cases h), (fun f φ h => by
 unfold GRd at h
 dsimp only at h
 split at h
 ·rename_i hf; cases h; subst hf; exact ⟨⟨_, Tryz.func38, rfl, rfl⟩, uN⟩
 split at h
 ·rename_i hf; cases h; subst hf; exact ⟨⟨_, Tryz.func40, rfl, rfl⟩, aem⟩
 cases h), rfl⟩
end Go.Proofs.YtngcedklbinhjaaGreatDoor
namespace Go.Proofs.YtngcedklbinhjaaGreatDoor
open Go.RowKit
set_option linter.all false
abbrev azi (s : ByteArray) : PV := .val (.string s)
set_option maxHeartbeats 8000000 in
theorem acS : ∃ Φ : fG, dM Tryz.prog 39 Φ ∧ adL 84 Φ 700000000 15 azi (fun n => 0 ≤ n ∧ n ≤ 1000) (fun _ s => s.size ≤ 21) := by
 refine qD mixed ano Tryz.func39 rfl 39 rfl [.tmp 4] rfl (by kernel_rfl) (by simp) _ _ _ _ _ _ fun code p n hok hp hn => ?_
 have hp0 := hok.pos
 repeat' (first | (first | (with_reducible first | apply bF | apply av | apply aO | apply aJ | apply bC | apply dY | apply bA | apply bH | apply d9 | apply bE | apply bJ | apply dX | apply bI | apply bG | apply bD) | ((with_reducible apply au); (simp only [List.map_cons, List.map_nil] <;> exact rfl)) | ((with_reducible apply aI); (simp only [List.map_cons, List.map_nil] <;> exact rfl); decide +kernel) | ((with_reducible apply bB); rfl) | ((first | ((with_reducible apply i_V); rfl; rfl; rfl) | ((first | ((with_reducible apply i_E); rfl) | ((with_reducible apply i_S); rfl)); first | rfl | (simp only [push_cast, ↓reduceIte])) | ((with_reducible apply dW); rfl; rfl) | ((with_reducible apply dZ); rfl; rfl; rfl) | (with_reducible first | apply dV | apply aL)); (simp (disch := (first | omega | (simp only [push_cast]; first | done | omega))) only [push_cast, ↓reduceIte, Nat.reduceEqDiff, Nat.reduceBEq, Nat.reduceAdd, Nat.reduceSub, Int.reduceToNat, *] <;> with_reducible exact rfl); all_goals try (first | (with_reducible first | refine hyT ?_ | refine hyF ?_ | exact hyA | exact hyB) | (intro hX; first | (cases hX; done) | ((try simp only [decide_eq_true_eq, decide_eq_false_iff_not, Bool.not_eq_true', Bool.not_eq_false'] at hX); (try have hXb := aj.1 hX)))))) | ((with_reducible apply dG fJ (fun _ _ => rfl)); rfl; (simp (disch := (first | omega | (simp only [push_cast]; first | done | omega))) only [push_cast, ↓reduceIte, Nat.reduceEqDiff, Nat.reduceBEq, Nat.reduceAdd, Nat.reduceSub, Int.reduceToNat, *] <;> with_reducible exact rfl); (simp (disch := (first | omega | (simp only [push_cast]; first | done | omega))) only [push_cast, ↓reduceIte, Nat.reduceEqDiff, Nat.reduceBEq, Nat.reduceAdd, Nat.reduceSub, Int.reduceToNat, *] <;> with_reducible exact rfl); (simp (disch := (first | omega | (simp only [push_cast]; first | done | omega))) only [push_cast, ↓reduceIte, Nat.reduceEqDiff, Nat.reduceBEq, Nat.reduceAdd, Nat.reduceSub, Int.reduceToNat, *] <;> with_reducible exact rfl); assumption; omega; (focus (first | trivial | omega)); (focus (first | rfl | (simp only [push_cast, ↓reduceIte]))); intro v pp hv hok hpp1 hpp2) | ((with_reducible apply dG jv (fun _ _ => rfl)); rfl; (simp (disch := (first | omega | (simp only [push_cast]; first | done | omega))) only [push_cast, ↓reduceIte, Nat.reduceEqDiff, Nat.reduceBEq, Nat.reduceAdd, Nat.reduceSub, Int.reduceToNat, *] <;> with_reducible exact rfl); (simp (disch := (first | omega | (simp only [push_cast]; first | done | omega))) only [push_cast, ↓reduceIte, Nat.reduceEqDiff, Nat.reduceBEq, Nat.reduceAdd, Nat.reduceSub, Int.reduceToNat, *] <;> with_reducible exact rfl); (simp (disch := (first | omega | (simp only [push_cast]; first | done | omega))) only [push_cast, ↓reduceIte, Nat.reduceEqDiff, Nat.reduceBEq, Nat.reduceAdd, Nat.reduceSub, Int.reduceToNat, *] <;> with_reducible exact rfl); assumption; omega; (focus (first | trivial | omega)); (focus (first | rfl | (simp only [push_cast, ↓reduceIte]))); intro v pp hv hok hpp1 hpp2))
 all_goals try ((with_reducible apply gK (by first | exact .inl rfl | exact .inr rfl)); (focus (simp (disch := (first | omega | (simp only [push_cast]; first | done | omega))) only [push_cast, ↓reduceIte, Nat.reduceEqDiff, Nat.reduceBEq, Nat.reduceAdd, Nat.reduceSub, Int.reduceToNat, bg, bf, cO, bq, bn, *] <;> with_reducible exact rfl)); (focus (simp (disch := (first | omega | (simp only [push_cast]; first | done | omega))) only [push_cast, ↓reduceIte, Nat.reduceEqDiff, Nat.reduceBEq, Nat.reduceAdd, Nat.reduceSub, Int.reduceToNat, bg, bf, cO, bq, bn, *] <;> with_reducible exact rfl)))
 all_goals try (first | omega | assumption | exact gB (p := fun a : ByteArray => a.size ≤ 21) (by decide) (by simp only [List.length_cons, List.length_nil]; omega))
 refine aT (α := ByteArray × Int × Int × Nat) mixed (fun s => [(0, .own 0 2 0 0), (5, .val (.string s.1)), (6, iv s.2.1)])
  (fun s => [(0, rdC 84 code s.2.2.1)]) (fun s => s.2.2.2)
  (fun s => p8 code s.2.2.1 ∧ p ≤ s.2.2.1 ∧ s.2.2.1 + s.2.1 ≤ p + 14 ∧ s.1.size + s.2.1 ≤ 10 ∧ 0 ≤ s.2.1 ∧ 0 < s.2.2.2) (fun s => s.2.1.toNat) (by kernel_rfl) (⟨#[]⟩, 1 + v, pp, 1) ⟨hok, ?_⟩ ?_ ?_ rfl ?_
 ·have h0 : ((⟨#[]⟩ : ByteArray)).size = 0 := rfl
  dsimp only; omega
 ·exact agr
 ·exact agr
 rintro ⟨s, k, q, y⟩ ⟨okq, i1, i2, i3, i4, i5⟩
 dsimp only at okq i1 i2 i3 i4 i5
 repeat' (first | (first | (with_reducible first | apply bF | apply av | apply aO | apply aJ | apply bC | apply dY | apply bA | apply bH | apply d9 | apply bE | apply bJ | apply dX | apply bI | apply bG | apply bD) | ((with_reducible apply au); (simp only [List.map_cons, List.map_nil] <;> exact rfl)) | ((with_reducible apply aI); (simp only [List.map_cons, List.map_nil] <;> exact rfl); decide +kernel) | ((with_reducible apply bB); rfl) | ((first | ((with_reducible apply i_V); rfl; rfl; rfl) | ((first | ((with_reducible apply i_E); rfl) | ((with_reducible apply i_S); rfl)); first | rfl | (simp only [push_cast, ↓reduceIte])) | ((with_reducible apply dW); rfl; rfl) | ((with_reducible apply dZ); rfl; rfl; rfl) | (with_reducible first | apply dV | apply aL)); (simp (disch := (first | omega | (simp only [push_cast]; first | done | omega))) only [push_cast, ↓reduceIte, Nat.reduceEqDiff, Nat.reduceBEq, Nat.reduceAdd, Nat.reduceSub, Int.reduceToNat, *] <;> with_reducible exact rfl); all_goals try (first | (with_reducible first | refine hyT ?_ | refine hyF ?_ | exact hyA | exact hyB) | (intro hX; first | (cases hX; done) | ((try simp only [decide_eq_true_eq, decide_eq_false_iff_not, Bool.not_eq_true', Bool.not_eq_false'] at hX); (try have hXb := aj.1 hX)))))) | ((with_reducible apply dG fJ (fun _ _ => rfl)); rfl; (simp (disch := (first | omega | (simp only [push_cast]; first | done | omega))) only [push_cast, ↓reduceIte, Nat.reduceEqDiff, Nat.reduceBEq, Nat.reduceAdd, Nat.reduceSub, Int.reduceToNat, *] <;> with_reducible exact rfl); (simp (disch := (first | omega | (simp only [push_cast]; first | done | omega))) only [push_cast, ↓reduceIte, Nat.reduceEqDiff, Nat.reduceBEq, Nat.reduceAdd, Nat.reduceSub, Int.reduceToNat, *] <;> with_reducible exact rfl); (simp (disch := (first | omega | (simp only [push_cast]; first | done | omega))) only [push_cast, ↓reduceIte, Nat.reduceEqDiff, Nat.reduceBEq, Nat.reduceAdd, Nat.reduceSub, Int.reduceToNat, *] <;> with_reducible exact rfl); assumption; omega; (focus (first | trivial | omega)); (focus (first | rfl | (simp only [push_cast, ↓reduceIte]))); intro v pp hv hok hpp1 hpp2))
 all_goals try ((with_reducible apply gK (by first | exact .inl rfl | exact .inr rfl)); (focus (simp (disch := (first | omega | (simp only [push_cast]; first | done | omega))) only [push_cast, ↓reduceIte, Nat.reduceEqDiff, Nat.reduceBEq, Nat.reduceAdd, Nat.reduceSub, Int.reduceToNat, bg, bf, cO, bq, bn, *] <;> with_reducible exact rfl)); (focus (simp (disch := (first | omega | (simp only [push_cast]; first | done | omega))) only [push_cast, ↓reduceIte, Nat.reduceEqDiff, Nat.reduceBEq, Nat.reduceAdd, Nat.reduceSub, Int.reduceToNat, bg, bf, cO, bq, bn, *] <;> with_reducible exact rfl)))
 all_goals try (first | omega | assumption)
 refine ⟨(s ++ bytesOf [IntKind.u8.wrap (97 + v)], k - 1, pp, y + 1), ⟨hok, ?_⟩, ?_, ?_, ?_, rfl⟩
 ·simp only [ByteArray.size_append, qN, List.length_cons, List.length_nil]; omega
 ·dsimp only; omega
 ·exact agr
 ·exact agr
noncomputable def ajv : fG := Classical.choose acS
theorem aqz : dM Tryz.prog 39 ajv := (Classical.choose_spec acS).1
theorem adq : adL 84 ajv 700000000 15 azi (fun n => 0 ≤ n ∧ n ≤ 1000) (fun _ s => s.size ≤ 21) := (Classical.choose_spec acS).2
abbrev ESs (l : LS) : PV := .lst true 1 (l.map fun s => PV.val (.string s))
def okT (n : Nat) (l : LS) : Prop := l.length ≤ n ∧ ∀ s ∈ l, s.size ≤ 21
theorem fD {l : LS} {a : ByteArray} {m n : Nat} (h : l.length ≤ m) (hn : m < n) (h1 : ∀ s ∈ l, s.size ≤ 21) (h2 : a.size ≤ 21) : okT n (l ++ [a]) := by
 refine ⟨by simp; omega, fun x hx => ?_⟩
 rcases List.mem_append.1 hx with hx | hx
 ·exact h1 x hx
 ·simp only [List.mem_singleton] at hx
  subst hx
  exact h2
noncomputable def GRw : Ctx := { fn := fun f => none, io := fun f => if f = 38 then some tY else if f = 40 then some aft else if f = 39 then some ajv else none }
theorem aug : aA Tryz.prog GRw := ⟨(fun f φ h => by
 unfold GRw at h
 dsimp only at h
 cases h), (fun f φ h => by
 unfold GRw at h
 dsimp only at h
 split at h
 ·rename_i hf; cases h; subst hf; exact ⟨⟨_, Tryz.func38, rfl, rfl⟩, uN⟩
 split at h
 ·rename_i hf; cases h; subst hf; exact ⟨⟨_, Tryz.func40, rfl, rfl⟩, aem⟩
 split at h
 ·rename_i hf; cases h; subst hf; exact ⟨⟨_, Tryz.func39, rfl, rfl⟩, aqz⟩
 cases h), rfl⟩
set_option maxHeartbeats 8000000 in
theorem yQ : ∃ Φ : fG, dM Tryz.prog 19 Φ ∧ adL 84 Φ 600000000 200 ESs (fun n => 0 ≤ n ∧ n ≤ 1000) (fun _ l => okT 13 l) := by
 refine qD mixed aug Tryz.func19 rfl 37 rfl [.tmp 4] rfl (by kernel_rfl) (by simp) _ _ _ _ _ _ fun code p n hok hp hn => ?_
 have hp0 := hok.pos
 repeat' (first | (first | (with_reducible first | apply bF | apply av | apply aO | apply aJ | apply bC | apply dY | apply bA | apply bH | apply d9 | apply bE | apply bJ | apply dX | apply bI | apply bG | apply bD) | ((with_reducible apply au); (simp only [List.map_cons, List.map_nil] <;> exact rfl)) | ((with_reducible apply aI); (simp only [List.map_cons, List.map_nil] <;> exact rfl); decide +kernel) | ((with_reducible apply bB); rfl) | ((first | ((with_reducible apply i_V); rfl; rfl; rfl) | ((first | ((with_reducible apply i_E); rfl) | ((with_reducible apply i_S); rfl)); first | rfl | (simp only [push_cast, ↓reduceIte])) | ((with_reducible apply dW); rfl; rfl) | ((with_reducible apply dZ); rfl; rfl; rfl) | (with_reducible first | apply dV | apply aL)); (simp (disch := (first | omega | (simp only [push_cast]; first | done | omega))) only [push_cast, ↓reduceIte, Nat.reduceEqDiff, Nat.reduceBEq, Nat.reduceAdd, Nat.reduceSub, Int.reduceToNat, *] <;> with_reducible exact rfl); all_goals try (first | (with_reducible first | refine hyT ?_ | refine hyF ?_ | exact hyA | exact hyB) | (intro hX; first | (cases hX; done) | ((try simp only [decide_eq_true_eq, decide_eq_false_iff_not, Bool.not_eq_true', Bool.not_eq_false'] at hX); (try have hXb := aj.1 hX)))))) | ((with_reducible apply dG fJ (fun _ _ => rfl)); rfl; (simp (disch := (first | omega | (simp only [push_cast]; first | done | omega))) only [push_cast, ↓reduceIte, Nat.reduceEqDiff, Nat.reduceBEq, Nat.reduceAdd, Nat.reduceSub, Int.reduceToNat, *] <;> with_reducible exact rfl); (simp (disch := (first | omega | (simp only [push_cast]; first | done | omega))) only [push_cast, ↓reduceIte, Nat.reduceEqDiff, Nat.reduceBEq, Nat.reduceAdd, Nat.reduceSub, Int.reduceToNat, *] <;> with_reducible exact rfl); (simp (disch := (first | omega | (simp only [push_cast]; first | done | omega))) only [push_cast, ↓reduceIte, Nat.reduceEqDiff, Nat.reduceBEq, Nat.reduceAdd, Nat.reduceSub, Int.reduceToNat, *] <;> with_reducible exact rfl); assumption; omega; (focus (first | trivial | omega)); (focus (first | rfl | (simp only [push_cast, ↓reduceIte]))); intro v pp hv hok hpp1 hpp2) | ((with_reducible apply dG jv (fun _ _ => rfl)); rfl; (simp (disch := (first | omega | (simp only [push_cast]; first | done | omega))) only [push_cast, ↓reduceIte, Nat.reduceEqDiff, Nat.reduceBEq, Nat.reduceAdd, Nat.reduceSub, Int.reduceToNat, *] <;> with_reducible exact rfl); (simp (disch := (first | omega | (simp only [push_cast]; first | done | omega))) only [push_cast, ↓reduceIte, Nat.reduceEqDiff, Nat.reduceBEq, Nat.reduceAdd, Nat.reduceSub, Int.reduceToNat, *] <;> with_reducible exact rfl); (simp (disch := (first | omega | (simp only [push_cast]; first | done | omega))) only [push_cast, ↓reduceIte, Nat.reduceEqDiff, Nat.reduceBEq, Nat.reduceAdd, Nat.reduceSub, Int.reduceToNat, *] <;> with_reducible exact rfl); assumption; omega; (focus (first | trivial | omega)); (focus (first | rfl | (simp only [push_cast, ↓reduceIte]))); intro v pp hv hok hpp1 hpp2) | ((with_reducible apply dG adq (fun _ _ => by simp only [push_cast, ↓reduceIte, Nat.reduceEqDiff, Nat.reduceBEq, Nat.reduceAdd, Nat.reduceSub, Int.reduceToNat])); (focus rfl); (focus (simp (disch := (first | omega | (simp only [push_cast]; first | done | omega))) only [push_cast, ↓reduceIte, Nat.reduceEqDiff, Nat.reduceBEq, Nat.reduceAdd, Nat.reduceSub, Int.reduceToNat, *] <;> with_reducible exact rfl)); (focus (simp (disch := (first | omega | (simp only [push_cast]; first | done | omega))) only [push_cast, ↓reduceIte, Nat.reduceEqDiff, Nat.reduceBEq, Nat.reduceAdd, Nat.reduceSub, Int.reduceToNat, *] <;> with_reducible exact rfl)); (focus (simp (disch := (first | omega | (simp only [push_cast]; first | done | omega))) only [push_cast, ↓reduceIte, Nat.reduceEqDiff, Nat.reduceBEq, Nat.reduceAdd, Nat.reduceSub, Int.reduceToNat, *] <;> with_reducible exact rfl)); (focus assumption); (focus omega); (focus (first | trivial | omega)); (focus (first | rfl | (simp only [push_cast, ↓reduceIte]))); intro v pp hv hok hpp1 hpp2))
 rename_i h0
 refine aT (α := LS × Int × Int × Nat × Nat) mixed (fun s => [(0, .own 0 2 0 0), (1, iv n), (5, .row s.2.2.2.1 1 0 s.1.length), (6, iv s.2.1)])
  (fun s => [(0, rdC 84 code s.2.2.1), (s.2.2.2.1, 9, 1, s.1.map fun s => PV.val (.string s))]) (fun s => s.2.2.2.2)
  (fun s => p8 code s.2.2.1 ∧ (∀ x ∈ s.1, x.size ≤ 21) ∧ p ≤ s.2.2.1 ∧ s.2.2.1 + 15 * s.2.1 ≤ p + 110 ∧ s.1.length + s.2.1 ≤ 8 ∧ 0 ≤ s.2.1 ∧ 0 < s.2.2.2.1 ∧ s.2.2.2.1 < s.2.2.2.2) (fun s => s.2.1.toNat) (by kernel_rfl) ([], v, pp, 1, 2) ⟨hok, by simp, ?_⟩ ?_ ?_ rfl ?_
 ·dsimp only [List.length_nil]; omega
 ·exact agr
 ·exact agr
 rintro ⟨l, k, q, x, y⟩ ⟨okq, hl, i1, i2, i3, i4, i5, i6⟩
 dsimp only at okq hl i1 i2 i3 i4 i5 i6
 clear hok h0
 repeat' (first | (first | (with_reducible first | apply bF | apply av | apply aO | apply aJ | apply bC | apply dY | apply bA | apply bH | apply d9 | apply bE | apply bJ | apply dX | apply bI | apply bG | apply bD) | ((with_reducible apply au); (simp only [List.map_cons, List.map_nil] <;> exact rfl)) | ((with_reducible apply aI); (simp only [List.map_cons, List.map_nil] <;> exact rfl); decide +kernel) | ((with_reducible apply bB); rfl) | ((first | ((with_reducible apply i_V); rfl; rfl; rfl) | ((first | ((with_reducible apply i_E); rfl) | ((with_reducible apply i_S); rfl)); first | rfl | (simp only [push_cast, ↓reduceIte])) | ((with_reducible apply dW); rfl; rfl) | ((with_reducible apply dZ); rfl; rfl; rfl) | (with_reducible first | apply dV | apply aL)); (simp (disch := (first | omega | (simp only [push_cast]; first | done | omega))) only [push_cast, ↓reduceIte, Nat.reduceEqDiff, Nat.reduceBEq, Nat.reduceAdd, Nat.reduceSub, Int.reduceToNat, *] <;> with_reducible exact rfl); all_goals try (first | (with_reducible first | refine hyT ?_ | refine hyF ?_ | exact hyA | exact hyB) | (intro hX; first | (cases hX; done) | ((try simp only [decide_eq_true_eq, decide_eq_false_iff_not, Bool.not_eq_true', Bool.not_eq_false'] at hX); (try have hXb := aj.1 hX)))))) | ((with_reducible apply dG fJ (fun _ _ => rfl)); rfl; (simp (disch := (first | omega | (simp only [push_cast]; first | done | omega))) only [push_cast, ↓reduceIte, Nat.reduceEqDiff, Nat.reduceBEq, Nat.reduceAdd, Nat.reduceSub, Int.reduceToNat, *] <;> with_reducible exact rfl); (simp (disch := (first | omega | (simp only [push_cast]; first | done | omega))) only [push_cast, ↓reduceIte, Nat.reduceEqDiff, Nat.reduceBEq, Nat.reduceAdd, Nat.reduceSub, Int.reduceToNat, *] <;> with_reducible exact rfl); (simp (disch := (first | omega | (simp only [push_cast]; first | done | omega))) only [push_cast, ↓reduceIte, Nat.reduceEqDiff, Nat.reduceBEq, Nat.reduceAdd, Nat.reduceSub, Int.reduceToNat, *] <;> with_reducible exact rfl); assumption; omega; (focus (first | trivial | omega)); (focus (first | rfl | (simp only [push_cast, ↓reduceIte]))); intro v pp hv hok hpp1 hpp2) | ((with_reducible apply dG jv (fun _ _ => rfl)); rfl; (simp (disch := (first | omega | (simp only [push_cast]; first | done | omega))) only [push_cast, ↓reduceIte, Nat.reduceEqDiff, Nat.reduceBEq, Nat.reduceAdd, Nat.reduceSub, Int.reduceToNat, *] <;> with_reducible exact rfl); (simp (disch := (first | omega | (simp only [push_cast]; first | done | omega))) only [push_cast, ↓reduceIte, Nat.reduceEqDiff, Nat.reduceBEq, Nat.reduceAdd, Nat.reduceSub, Int.reduceToNat, *] <;> with_reducible exact rfl); (simp (disch := (first | omega | (simp only [push_cast]; first | done | omega))) only [push_cast, ↓reduceIte, Nat.reduceEqDiff, Nat.reduceBEq, Nat.reduceAdd, Nat.reduceSub, Int.reduceToNat, *] <;> with_reducible exact rfl); assumption; omega; (focus (first | trivial | omega)); (focus (first | rfl | (simp only [push_cast, ↓reduceIte]))); intro v pp hv hok hpp1 hpp2) | ((with_reducible apply dG adq (fun _ _ => by simp only [push_cast, ↓reduceIte, Nat.reduceEqDiff, Nat.reduceBEq, Nat.reduceAdd, Nat.reduceSub, Int.reduceToNat])); (focus rfl); (focus (simp (disch := (first | omega | (simp only [push_cast]; first | done | omega))) only [push_cast, ↓reduceIte, Nat.reduceEqDiff, Nat.reduceBEq, Nat.reduceAdd, Nat.reduceSub, Int.reduceToNat, *] <;> with_reducible exact rfl)); (focus (simp (disch := (first | omega | (simp only [push_cast]; first | done | omega))) only [push_cast, ↓reduceIte, Nat.reduceEqDiff, Nat.reduceBEq, Nat.reduceAdd, Nat.reduceSub, Int.reduceToNat, *] <;> with_reducible exact rfl)); (focus (simp (disch := (first | omega | (simp only [push_cast]; first | done | omega))) only [push_cast, ↓reduceIte, Nat.reduceEqDiff, Nat.reduceBEq, Nat.reduceAdd, Nat.reduceSub, Int.reduceToNat, *] <;> with_reducible exact rfl)); (focus assumption); (focus omega); (focus (first | trivial | omega)); (focus (first | rfl | (simp only [push_cast, ↓reduceIte]))); intro v pp hv hok hpp1 hpp2))
 all_goals try ((with_reducible apply gK (by first | exact .inl rfl | exact .inr rfl)); (focus (simp (disch := (first | omega | (simp only [push_cast]; first | done | omega))) only [push_cast, ↓reduceIte, Nat.reduceEqDiff, Nat.reduceBEq, Nat.reduceAdd, Nat.reduceSub, Int.reduceToNat, bg, bf, cO, bq, bn, *] <;> with_reducible exact rfl)); (focus (simp (disch := (first | omega | (simp only [push_cast]; first | done | omega))) only [push_cast, ↓reduceIte, Nat.reduceEqDiff, Nat.reduceBEq, Nat.reduceAdd, Nat.reduceSub, Int.reduceToNat, bg, bf, cO, bq, bn, *] <;> with_reducible exact rfl)))
 all_goals try (first | omega | assumption | exact ⟨by omega, by assumption⟩ | exact fD (m := 12) (by omega) (by omega) (by assumption) (by assumption))
 ·refine ⟨(l ++ [v], k - 1, pp, y + 1, y + 2), ⟨hok, (fD (m := 8) (n := 9) (by omega) (by omega) hl (by assumption)).2, ?_⟩, ?_, ?_, ?_, rfl⟩
  ·simp only [List.length_append, List.length_cons, List.length_nil]; omega
  ·dsimp only; omega
  all_goals exact agr
 refine aT (α := LS × Nat × Nat) mixed (fun s => [(0, .own 0 2 0 0), (5, .row s.2.1 1 0 s.1.length)])
  (fun s => [(0, rdC 84 code pp), (s.2.1, 9, 1, s.1.map fun s => PV.val (.string s))]) (fun s => s.2.2)
  (fun s => (∀ x ∈ s.1, x.size ≤ 21) ∧ s.1.length ≤ 13 ∧ 0 < s.2.1 ∧ s.2.1 < s.2.2) (fun s => 13 - s.1.length) (by kernel_rfl) (l, x, y) ⟨hl, ?_⟩ ?_ ?_ rfl ?_
 ·dsimp only; omega
 ·exact agr
 ·exact agr
 rintro ⟨l2, x2, y2⟩ ⟨hl2, j1, j2, j3⟩
 dsimp only at hl2 j1 j2 j3
 clear hl
 repeat' (first | (first | (with_reducible first | apply bF | apply av | apply aO | apply aJ | apply bC | apply dY | apply bA | apply bH | apply d9 | apply bE | apply bJ | apply dX | apply bI | apply bG | apply bD) | ((with_reducible apply au); (simp only [List.map_cons, List.map_nil] <;> exact rfl)) | ((with_reducible apply aI); (simp only [List.map_cons, List.map_nil] <;> exact rfl); decide +kernel) | ((with_reducible apply bB); rfl) | ((first | ((with_reducible apply i_V); rfl; rfl; rfl) | ((first | ((with_reducible apply i_E); rfl) | ((with_reducible apply i_S); rfl)); first | rfl | (simp only [push_cast, ↓reduceIte])) | ((with_reducible apply dW); rfl; rfl) | ((with_reducible apply dZ); rfl; rfl; rfl) | (with_reducible first | apply dV | apply aL)); (simp (disch := (first | omega | (simp only [push_cast]; first | done | omega))) only [push_cast, ↓reduceIte, Nat.reduceEqDiff, Nat.reduceBEq, Nat.reduceAdd, Nat.reduceSub, Int.reduceToNat, *] <;> with_reducible exact rfl); all_goals try (first | (with_reducible first | refine hyT ?_ | refine hyF ?_ | exact hyA | exact hyB) | (intro hX; first | (cases hX; done) | ((try simp only [decide_eq_true_eq, decide_eq_false_iff_not, Bool.not_eq_true', Bool.not_eq_false'] at hX); (try have hXb := aj.1 hX)))))) | ((with_reducible apply dG fJ (fun _ _ => rfl)); rfl; (simp (disch := (first | omega | (simp only [push_cast]; first | done | omega))) only [push_cast, ↓reduceIte, Nat.reduceEqDiff, Nat.reduceBEq, Nat.reduceAdd, Nat.reduceSub, Int.reduceToNat, *] <;> with_reducible exact rfl); (simp (disch := (first | omega | (simp only [push_cast]; first | done | omega))) only [push_cast, ↓reduceIte, Nat.reduceEqDiff, Nat.reduceBEq, Nat.reduceAdd, Nat.reduceSub, Int.reduceToNat, *] <;> with_reducible exact rfl); (simp (disch := (first | omega | (simp only [push_cast]; first | done | omega))) only [push_cast, ↓reduceIte, Nat.reduceEqDiff, Nat.reduceBEq, Nat.reduceAdd, Nat.reduceSub, Int.reduceToNat, *] <;> with_reducible exact rfl); assumption; omega; (focus (first | trivial | omega)); (focus (first | rfl | (simp only [push_cast, ↓reduceIte]))); intro v pp hv hok hpp1 hpp2))
 all_goals try ((with_reducible apply gK (by first | exact .inl rfl | exact .inr rfl)); (focus (simp (disch := (first | omega | (simp only [push_cast]; first | done | omega))) only [push_cast, ↓reduceIte, Nat.reduceEqDiff, Nat.reduceBEq, Nat.reduceAdd, Nat.reduceSub, Int.reduceToNat, bg, bf, cO, bq, bn, *] <;> with_reducible exact rfl)); (focus (simp (disch := (first | omega | (simp only [push_cast]; first | done | omega))) only [push_cast, ↓reduceIte, Nat.reduceEqDiff, Nat.reduceBEq, Nat.reduceAdd, Nat.reduceSub, Int.reduceToNat, bg, bf, cO, bq, bn, *] <;> with_reducible exact rfl)))
 all_goals try (first | omega | assumption | exact ⟨by omega, by assumption⟩)
 refine ⟨(l2 ++ [⟨#[111, 102]⟩], y2 + 1, y2 + 2), ⟨(fD (m := 12) (n := 13) (by omega) (by omega) hl2 (by decide)).2, ?_⟩, ?_, ?_, ?_, rfl⟩
 ·simp only [List.length_append, List.length_cons, List.length_nil]; omega
 ·simp only [List.length_append, List.length_cons, List.length_nil]; omega
 all_goals exact agr
noncomputable def abH : fG := Classical.choose yQ
theorem alV : dM Tryz.prog 19 abH := (Classical.choose_spec yQ).1
theorem lS : adL 84 abH 600000000 200 ESs (fun n => 0 ≤ n ∧ n ≤ 1000) (fun _ l => okT 13 l) := (Classical.choose_spec yQ).2
set_option maxHeartbeats 8000000 in
theorem qG : ∃ Φ : fG, dM Tryz.prog 41 Φ ∧ adL 84 Φ 700000000 15 azi (fun n => 0 ≤ n ∧ n ≤ 1000) (fun _ s => s.size ≤ 21) := by
 refine qD mixed ano Tryz.func41 rfl 18 rfl [.tmp 4] rfl (by kernel_rfl) (by simp) _ _ _ _ _ _ fun code p n hok hp hn => ?_
 have hp0 := hok.pos
 repeat' (first | (first | (with_reducible first | apply bF | apply av | apply aO | apply aJ | apply bC | apply dY | apply bA | apply bH | apply d9 | apply bE | apply bJ | apply dX | apply bI | apply bG | apply bD) | ((with_reducible apply au); (simp only [List.map_cons, List.map_nil] <;> exact rfl)) | ((with_reducible apply aI); (simp only [List.map_cons, List.map_nil] <;> exact rfl); decide +kernel) | ((with_reducible apply bB); rfl) | ((first | ((with_reducible apply i_V); rfl; rfl; rfl) | ((first | ((with_reducible apply i_E); rfl) | ((with_reducible apply i_S); rfl)); first | rfl | (simp only [push_cast, ↓reduceIte])) | ((with_reducible apply dW); rfl; rfl) | ((with_reducible apply dZ); rfl; rfl; rfl) | (with_reducible first | apply dV | apply aL)); (simp (disch := (first | omega | (simp only [push_cast]; first | done | omega))) only [push_cast, ↓reduceIte, Nat.reduceEqDiff, Nat.reduceBEq, Nat.reduceAdd, Nat.reduceSub, Int.reduceToNat, *] <;> with_reducible exact rfl); all_goals try (first | (with_reducible first | refine hyT ?_ | refine hyF ?_ | exact hyA | exact hyB) | (intro hX; first | (cases hX; done) | ((try simp only [decide_eq_true_eq, decide_eq_false_iff_not, Bool.not_eq_true', Bool.not_eq_false'] at hX); (try have hXb := aj.1 hX)))))) | ((with_reducible apply dG fJ (fun _ _ => rfl)); rfl; (simp (disch := (first | omega | (simp only [push_cast]; first | done | omega))) only [push_cast, ↓reduceIte, Nat.reduceEqDiff, Nat.reduceBEq, Nat.reduceAdd, Nat.reduceSub, Int.reduceToNat, *] <;> with_reducible exact rfl); (simp (disch := (first | omega | (simp only [push_cast]; first | done | omega))) only [push_cast, ↓reduceIte, Nat.reduceEqDiff, Nat.reduceBEq, Nat.reduceAdd, Nat.reduceSub, Int.reduceToNat, *] <;> with_reducible exact rfl); (simp (disch := (first | omega | (simp only [push_cast]; first | done | omega))) only [push_cast, ↓reduceIte, Nat.reduceEqDiff, Nat.reduceBEq, Nat.reduceAdd, Nat.reduceSub, Int.reduceToNat, *] <;> with_reducible exact rfl); assumption; omega; (focus (first | trivial | omega)); (focus (first | rfl | (simp only [push_cast, ↓reduceIte]))); intro v pp hv hok hpp1 hpp2) | ((with_reducible apply dG jv (fun _ _ => rfl)); rfl; (simp (disch := (first | omega | (simp only [push_cast]; first | done | omega))) only [push_cast, ↓reduceIte, Nat.reduceEqDiff, Nat.reduceBEq, Nat.reduceAdd, Nat.reduceSub, Int.reduceToNat, *] <;> with_reducible exact rfl); (simp (disch := (first | omega | (simp only [push_cast]; first | done | omega))) only [push_cast, ↓reduceIte, Nat.reduceEqDiff, Nat.reduceBEq, Nat.reduceAdd, Nat.reduceSub, Int.reduceToNat, *] <;> with_reducible exact rfl); (simp (disch := (first | omega | (simp only [push_cast]; first | done | omega))) only [push_cast, ↓reduceIte, Nat.reduceEqDiff, Nat.reduceBEq, Nat.reduceAdd, Nat.reduceSub, Int.reduceToNat, *] <;> with_reducible exact rfl); assumption; omega; (focus (first | trivial | omega)); (focus (first | rfl | (simp only [push_cast, ↓reduceIte]))); intro v pp hv hok hpp1 hpp2))
 all_goals try ((with_reducible apply gK (by first | exact .inl rfl | exact .inr rfl)); (focus (simp (disch := (first | omega | (simp only [push_cast]; first | done | omega))) only [push_cast, ↓reduceIte, Nat.reduceEqDiff, Nat.reduceBEq, Nat.reduceAdd, Nat.reduceSub, Int.reduceToNat, bg, bf, cO, bq, bn, *] <;> with_reducible exact rfl)); (focus (simp (disch := (first | omega | (simp only [push_cast]; first | done | omega))) only [push_cast, ↓reduceIte, Nat.reduceEqDiff, Nat.reduceBEq, Nat.reduceAdd, Nat.reduceSub, Int.reduceToNat, bg, bf, cO, bq, bn, *] <;> with_reducible exact rfl)))
 all_goals try (first | omega | assumption | exact gB (p := fun a : ByteArray => a.size ≤ 21) (by decide) (by simp only [List.length_cons, List.length_nil]; omega))
noncomputable def uR : fG := Classical.choose qG
theorem aeM : dM Tryz.prog 41 uR := (Classical.choose_spec qG).1
theorem vv : adL 84 uR 700000000 15 azi (fun n => 0 ≤ n ∧ n ≤ 1000) (fun _ s => s.size ≤ 21) := (Classical.choose_spec qG).2
abbrev aaR (o : Nat) (l : LS) : PV := .row o 1 0 l.length
abbrev yS (l : LS) : aV := (9, 1, l.map fun s => .val (.string s))
attribute [push_cast]
 aaR List.length_append
theorem nW : ∀ (o nx : Nat) (a : LS), dJ (jy [o] nx) fuel (aaR 1 a) = some (aaR nx a) := fun o nx a => by
 simp only [fC, mY, ail, Option.map_some]
theorem nI : ∀ (nm : Nat → Option Nat) (a : LS), (yS a).2.2.mapM (dJ nm fuel) = some (yS a).2.2 := fun nm a => by
 show (a.map fun s => PV.val (.string s)).mapM (dJ nm 8) = _
 rw [aaw]
noncomputable def GRp : Ctx := { fn := fun f => none, io := fun f => if f = 38 then some tY else if f = 40 then some aft else if f = 41 then some uR else none }
theorem auI : aA Tryz.prog GRp := ⟨(fun f φ h => by
 unfold GRp at h
 dsimp only at h
 cases h), (fun f φ h => by
 unfold GRp at h
 dsimp only at h
 split at h
 ·rename_i hf; cases h; subst hf; exact ⟨⟨_, Tryz.func38, rfl, rfl⟩, uN⟩
 split at h
 ·rename_i hf; cases h; subst hf; exact ⟨⟨_, Tryz.func40, rfl, rfl⟩, aem⟩
 split at h
 ·rename_i hf; cases h; subst hf; exact ⟨⟨_, Tryz.func41, rfl, rfl⟩, aeM⟩
 cases h), rfl⟩
set_option maxHeartbeats 8000000 in
theorem nN : ∃ Φ : fG, dM Tryz.prog 20 Φ ∧ ams 84 Φ 600000000 200 aaR yS (fun n => 0 ≤ n ∧ n ≤ 1000) (fun _ l => okT 21 l) := by
 refine amR mixed auI Tryz.func20 rfl 37 rfl [.tmp 4] rfl (by kernel_rfl) (by simp) _ _ _ _ _ _ _ fun code p n hok hp hn => ?_
 have hp0 := hok.pos
 repeat' (first | (first | (with_reducible first | apply bF | apply av | apply aO | apply aJ | apply bC | apply dY | apply bA | apply bH | apply d9 | apply bE | apply bJ | apply dX | apply bI | apply bG | apply bD) | ((with_reducible apply au); (simp only [List.map_cons, List.map_nil] <;> exact rfl)) | ((with_reducible apply aI); (simp only [List.map_cons, List.map_nil] <;> exact rfl); decide +kernel) | ((with_reducible apply bB); rfl) | ((first | ((with_reducible apply i_V); rfl; rfl; rfl) | ((first | ((with_reducible apply i_E); rfl) | ((with_reducible apply i_S); rfl)); first | rfl | (simp only [push_cast, ↓reduceIte])) | ((with_reducible apply dW); rfl; rfl) | ((with_reducible apply dZ); rfl; rfl; rfl) | (with_reducible first | apply dV | apply aL)); (simp (disch := (first | omega | (simp only [push_cast]; first | done | omega))) only [push_cast, ↓reduceIte, Nat.reduceEqDiff, Nat.reduceBEq, Nat.reduceAdd, Nat.reduceSub, Int.reduceToNat, *] <;> with_reducible exact rfl); all_goals try (first | (with_reducible first | refine hyT ?_ | refine hyF ?_ | exact hyA | exact hyB) | (intro hX; first | (cases hX; done) | ((try simp only [decide_eq_true_eq, decide_eq_false_iff_not, Bool.not_eq_true', Bool.not_eq_false'] at hX); (try have hXb := aj.1 hX)))))) | ((with_reducible apply dG fJ (fun _ _ => rfl)); rfl; (simp (disch := (first | omega | (simp only [push_cast]; first | done | omega))) only [push_cast, ↓reduceIte, Nat.reduceEqDiff, Nat.reduceBEq, Nat.reduceAdd, Nat.reduceSub, Int.reduceToNat, *] <;> with_reducible exact rfl); (simp (disch := (first | omega | (simp only [push_cast]; first | done | omega))) only [push_cast, ↓reduceIte, Nat.reduceEqDiff, Nat.reduceBEq, Nat.reduceAdd, Nat.reduceSub, Int.reduceToNat, *] <;> with_reducible exact rfl); (simp (disch := (first | omega | (simp only [push_cast]; first | done | omega))) only [push_cast, ↓reduceIte, Nat.reduceEqDiff, Nat.reduceBEq, Nat.reduceAdd, Nat.reduceSub, Int.reduceToNat, *] <;> with_reducible exact rfl); assumption; omega; (focus (first | trivial | omega)); (focus (first | rfl | (simp only [push_cast, ↓reduceIte]))); intro v pp hv hok hpp1 hpp2) | ((with_reducible apply dG jv (fun _ _ => rfl)); rfl; (simp (disch := (first | omega | (simp only [push_cast]; first | done | omega))) only [push_cast, ↓reduceIte, Nat.reduceEqDiff, Nat.reduceBEq, Nat.reduceAdd, Nat.reduceSub, Int.reduceToNat, *] <;> with_reducible exact rfl); (simp (disch := (first | omega | (simp only [push_cast]; first | done | omega))) only [push_cast, ↓reduceIte, Nat.reduceEqDiff, Nat.reduceBEq, Nat.reduceAdd, Nat.reduceSub, Int.reduceToNat, *] <;> with_reducible exact rfl); (simp (disch := (first | omega | (simp only [push_cast]; first | done | omega))) only [push_cast, ↓reduceIte, Nat.reduceEqDiff, Nat.reduceBEq, Nat.reduceAdd, Nat.reduceSub, Int.reduceToNat, *] <;> with_reducible exact rfl); assumption; omega; (focus (first | trivial | omega)); (focus (first | rfl | (simp only [push_cast, ↓reduceIte]))); intro v pp hv hok hpp1 hpp2) | ((with_reducible apply dG vv (fun _ _ => by simp only [push_cast, ↓reduceIte, Nat.reduceEqDiff, Nat.reduceBEq, Nat.reduceAdd, Nat.reduceSub, Int.reduceToNat])); (focus rfl); (focus (simp (disch := (first | omega | (simp only [push_cast]; first | done | omega))) only [push_cast, ↓reduceIte, Nat.reduceEqDiff, Nat.reduceBEq, Nat.reduceAdd, Nat.reduceSub, Int.reduceToNat, *] <;> with_reducible exact rfl)); (focus (simp (disch := (first | omega | (simp only [push_cast]; first | done | omega))) only [push_cast, ↓reduceIte, Nat.reduceEqDiff, Nat.reduceBEq, Nat.reduceAdd, Nat.reduceSub, Int.reduceToNat, *] <;> with_reducible exact rfl)); (focus (simp (disch := (first | omega | (simp only [push_cast]; first | done | omega))) only [push_cast, ↓reduceIte, Nat.reduceEqDiff, Nat.reduceBEq, Nat.reduceAdd, Nat.reduceSub, Int.reduceToNat, *] <;> with_reducible exact rfl)); (focus assumption); (focus omega); (focus (first | trivial | omega)); (focus (first | rfl | (simp only [push_cast, ↓reduceIte]))); intro v pp hv hok hpp1 hpp2))
 rename_i h0
 refine aT (α := LS × Int × Int × Nat × Nat) mixed (fun s => [(0, .own 0 2 0 0), (1, iv n), (5, .row s.2.2.2.1 1 0 s.1.length), (6, iv s.2.1)])
  (fun s => [(0, rdC 84 code s.2.2.1), (s.2.2.2.1, 9, 1, s.1.map fun s => PV.val (.string s))]) (fun s => s.2.2.2.2)
  (fun s => p8 code s.2.2.1 ∧ (∀ x ∈ s.1, x.size ≤ 21) ∧ p ≤ s.2.2.1 ∧ s.2.2.1 + 15 * s.2.1 ≤ p + 110 ∧ s.1.length + s.2.1 ≤ 8 ∧ 0 ≤ s.2.1 ∧ 0 < s.2.2.2.1 ∧ s.2.2.2.1 < s.2.2.2.2) (fun s => s.2.1.toNat) (by kernel_rfl) ([], v, pp, 1, 2) ⟨hok, by simp, ?_⟩ ?_ ?_ rfl ?_
 ·dsimp only [List.length_nil]; omega
 ·exact agr
 ·exact agr
 rintro ⟨l, k, q, x, y⟩ ⟨okq, hl, i1, i2, i3, i4, i5, i6⟩
 dsimp only at okq hl i1 i2 i3 i4 i5 i6
 clear hok h0
 repeat' (first | (first | (with_reducible first | apply bF | apply av | apply aO | apply aJ | apply bC | apply dY | apply bA | apply bH | apply d9 | apply bE | apply bJ | apply dX | apply bI | apply bG | apply bD) | ((with_reducible apply au); (simp only [List.map_cons, List.map_nil] <;> exact rfl)) | ((with_reducible apply aI); (simp only [List.map_cons, List.map_nil] <;> exact rfl); decide +kernel) | ((with_reducible apply bB); rfl) | ((first | ((with_reducible apply i_V); rfl; rfl; rfl) | ((first | ((with_reducible apply i_E); rfl) | ((with_reducible apply i_S); rfl)); first | rfl | (simp only [push_cast, ↓reduceIte])) | ((with_reducible apply dW); rfl; rfl) | ((with_reducible apply dZ); rfl; rfl; rfl) | (with_reducible first | apply dV | apply aL)); (simp (disch := (first | omega | (simp only [push_cast]; first | done | omega))) only [push_cast, ↓reduceIte, Nat.reduceEqDiff, Nat.reduceBEq, Nat.reduceAdd, Nat.reduceSub, Int.reduceToNat, *] <;> with_reducible exact rfl); all_goals try (first | (with_reducible first | refine hyT ?_ | refine hyF ?_ | exact hyA | exact hyB) | (intro hX; first | (cases hX; done) | ((try simp only [decide_eq_true_eq, decide_eq_false_iff_not, Bool.not_eq_true', Bool.not_eq_false'] at hX); (try have hXb := aj.1 hX)))))) | ((with_reducible apply dG fJ (fun _ _ => rfl)); rfl; (simp (disch := (first | omega | (simp only [push_cast]; first | done | omega))) only [push_cast, ↓reduceIte, Nat.reduceEqDiff, Nat.reduceBEq, Nat.reduceAdd, Nat.reduceSub, Int.reduceToNat, *] <;> with_reducible exact rfl); (simp (disch := (first | omega | (simp only [push_cast]; first | done | omega))) only [push_cast, ↓reduceIte, Nat.reduceEqDiff, Nat.reduceBEq, Nat.reduceAdd, Nat.reduceSub, Int.reduceToNat, *] <;> with_reducible exact rfl); (simp (disch := (first | omega | (simp only [push_cast]; first | done | omega))) only [push_cast, ↓reduceIte, Nat.reduceEqDiff, Nat.reduceBEq, Nat.reduceAdd, Nat.reduceSub, Int.reduceToNat, *] <;> with_reducible exact rfl); assumption; omega; (focus (first | trivial | omega)); (focus (first | rfl | (simp only [push_cast, ↓reduceIte]))); intro v pp hv hok hpp1 hpp2) | ((with_reducible apply dG jv (fun _ _ => rfl)); rfl; (simp (disch := (first | omega | (simp only [push_cast]; first | done | omega))) only [push_cast, ↓reduceIte, Nat.reduceEqDiff, Nat.reduceBEq, Nat.reduceAdd, Nat.reduceSub, Int.reduceToNat, *] <;> with_reducible exact rfl); (simp (disch := (first | omega | (simp only [push_cast]; first | done | omega))) only [push_cast, ↓reduceIte, Nat.reduceEqDiff, Nat.reduceBEq, Nat.reduceAdd, Nat.reduceSub, Int.reduceToNat, *] <;> with_reducible exact rfl); (simp (disch := (first | omega | (simp only [push_cast]; first | done | omega))) only [push_cast, ↓reduceIte, Nat.reduceEqDiff, Nat.reduceBEq, Nat.reduceAdd, Nat.reduceSub, Int.reduceToNat, *] <;> with_reducible exact rfl); assumption; omega; (focus (first | trivial | omega)); (focus (first | rfl | (simp only [push_cast, ↓reduceIte]))); intro v pp hv hok hpp1 hpp2) | ((with_reducible apply dG vv (fun _ _ => by simp only [push_cast, ↓reduceIte, Nat.reduceEqDiff, Nat.reduceBEq, Nat.reduceAdd, Nat.reduceSub, Int.reduceToNat])); (focus rfl); (focus (simp (disch := (first | omega | (simp only [push_cast]; first | done | omega))) only [push_cast, ↓reduceIte, Nat.reduceEqDiff, Nat.reduceBEq, Nat.reduceAdd, Nat.reduceSub, Int.reduceToNat, *] <;> with_reducible exact rfl)); (focus (simp (disch := (first | omega | (simp only [push_cast]; first | done | omega))) only [push_cast, ↓reduceIte, Nat.reduceEqDiff, Nat.reduceBEq, Nat.reduceAdd, Nat.reduceSub, Int.reduceToNat, *] <;> with_reducible exact rfl)); (focus (simp (disch := (first | omega | (simp only [push_cast]; first | done | omega))) only [push_cast, ↓reduceIte, Nat.reduceEqDiff, Nat.reduceBEq, Nat.reduceAdd, Nat.reduceSub, Int.reduceToNat, *] <;> with_reducible exact rfl)); (focus assumption); (focus omega); (focus (first | trivial | omega)); (focus (first | rfl | (simp only [push_cast, ↓reduceIte]))); intro v pp hv hok hpp1 hpp2))
 all_goals try (first | ((with_reducible apply ab0 (E := aaR) (O := yS) (x) (by omega) (by first | exact .inl rfl | exact .inr rfl)); (focus (simp (disch := (first | omega | (simp only [push_cast]; first | done | omega))) only [push_cast, ↓reduceIte, Nat.reduceEqDiff, Nat.reduceBEq, Nat.reduceAdd, Nat.reduceSub, Int.reduceToNat, bg, bf, cO, bq, bn, *] <;> with_reducible exact rfl)); (focus (simp (disch := (first | omega | (simp only [push_cast]; first | done | omega))) only [push_cast, ↓reduceIte, Nat.reduceEqDiff, Nat.reduceBEq, Nat.reduceAdd, Nat.reduceSub, Int.reduceToNat, bg, bf, cO, bq, bn, *] <;> with_reducible exact rfl)); (focus (simp (disch := (first | omega | (simp only [push_cast]; first | done | omega))) only [push_cast, ↓reduceIte, Nat.reduceEqDiff, Nat.reduceBEq, Nat.reduceAdd, Nat.reduceSub, Int.reduceToNat, bg, bf, cO, bq, bn, *] <;> with_reducible exact rfl))) | ((with_reducible apply ab0 (E := aaR) (O := yS) (y + 1) (by omega) (by first | exact .inl rfl | exact .inr rfl)); (focus (simp (disch := (first | omega | (simp only [push_cast]; first | done | omega))) only [push_cast, ↓reduceIte, Nat.reduceEqDiff, Nat.reduceBEq, Nat.reduceAdd, Nat.reduceSub, Int.reduceToNat, bg, bf, cO, bq, bn, *] <;> with_reducible exact rfl)); (focus (simp (disch := (first | omega | (simp only [push_cast]; first | done | omega))) only [push_cast, ↓reduceIte, Nat.reduceEqDiff, Nat.reduceBEq, Nat.reduceAdd, Nat.reduceSub, Int.reduceToNat, bg, bf, cO, bq, bn, *] <;> with_reducible exact rfl)); (focus (simp (disch := (first | omega | (simp only [push_cast]; first | done | omega))) only [push_cast, ↓reduceIte, Nat.reduceEqDiff, Nat.reduceBEq, Nat.reduceAdd, Nat.reduceSub, Int.reduceToNat, bg, bf, cO, bq, bn, *] <;> with_reducible exact rfl))))
 all_goals try (first | omega | assumption | exact ⟨by omega, by assumption⟩ | exact fD (m := 20) (by omega) (by omega) (by assumption) (by assumption))
 ·refine ⟨(l ++ [v], k - 1, pp, y + 1, y + 2), ⟨hok, (fD (m := 8) (n := 9) (by omega) (by omega) hl (by assumption)).2, ?_⟩, ?_, ?_, ?_, rfl⟩
  ·simp only [List.length_append, List.length_cons, List.length_nil]; omega
  ·dsimp only; omega
  all_goals exact agr
 refine aT (α := LS × Nat × Nat) mixed (fun s => [(0, .own 0 2 0 0), (5, .row s.2.1 1 0 s.1.length)])
  (fun s => [(0, rdC 84 code pp), (s.2.1, 9, 1, s.1.map fun s => PV.val (.string s))]) (fun s => s.2.2)
  (fun s => (∀ x ∈ s.1, x.size ≤ 21) ∧ s.1.length ≤ 21 ∧ 0 < s.2.1 ∧ s.2.1 < s.2.2) (fun s => 21 - s.1.length) (by kernel_rfl) (l, x, y) ⟨hl, ?_⟩ ?_ ?_ rfl ?_
 ·dsimp only; omega
 ·exact agr
 ·exact agr
 rintro ⟨l2, x2, y2⟩ ⟨hl2, j1, j2, j3⟩
 dsimp only at hl2 j1 j2 j3
 clear hl
 repeat' (first | (first | (with_reducible first | apply bF | apply av | apply aO | apply aJ | apply bC | apply dY | apply bA | apply bH | apply d9 | apply bE | apply bJ | apply dX | apply bI | apply bG | apply bD) | ((with_reducible apply au); (simp only [List.map_cons, List.map_nil] <;> exact rfl)) | ((with_reducible apply aI); (simp only [List.map_cons, List.map_nil] <;> exact rfl); decide +kernel) | ((with_reducible apply bB); rfl) | ((first | ((with_reducible apply i_V); rfl; rfl; rfl) | ((first | ((with_reducible apply i_E); rfl) | ((with_reducible apply i_S); rfl)); first | rfl | (simp only [push_cast, ↓reduceIte])) | ((with_reducible apply dW); rfl; rfl) | ((with_reducible apply dZ); rfl; rfl; rfl) | (with_reducible first | apply dV | apply aL)); (simp (disch := (first | omega | (simp only [push_cast]; first | done | omega))) only [push_cast, ↓reduceIte, Nat.reduceEqDiff, Nat.reduceBEq, Nat.reduceAdd, Nat.reduceSub, Int.reduceToNat, *] <;> with_reducible exact rfl); all_goals try (first | (with_reducible first | refine hyT ?_ | refine hyF ?_ | exact hyA | exact hyB) | (intro hX; first | (cases hX; done) | ((try simp only [decide_eq_true_eq, decide_eq_false_iff_not, Bool.not_eq_true', Bool.not_eq_false'] at hX); (try have hXb := aj.1 hX)))))) | ((with_reducible apply dG fJ (fun _ _ => rfl)); rfl; (simp (disch := (first | omega | (simp only [push_cast]; first | done | omega))) only [push_cast, ↓reduceIte, Nat.reduceEqDiff, Nat.reduceBEq, Nat.reduceAdd, Nat.reduceSub, Int.reduceToNat, *] <;> with_reducible exact rfl); (simp (disch := (first | omega | (simp only [push_cast]; first | done | omega))) only [push_cast, ↓reduceIte, Nat.reduceEqDiff, Nat.reduceBEq, Nat.reduceAdd, Nat.reduceSub, Int.reduceToNat, *] <;> with_reducible exact rfl); (simp (disch := (first | omega | (simp only [push_cast]; first | done | omega))) only [push_cast, ↓reduceIte, Nat.reduceEqDiff, Nat.reduceBEq, Nat.reduceAdd, Nat.reduceSub, Int.reduceToNat, *] <;> with_reducible exact rfl); assumption; omega; (focus (first | trivial | omega)); (focus (first | rfl | (simp only [push_cast, ↓reduceIte]))); intro v pp hv hok hpp1 hpp2))
 all_goals try (first | ((with_reducible apply ab0 (E := aaR) (O := yS) (x2) (by omega) (by first | exact .inl rfl | exact .inr rfl)); (focus (simp (disch := (first | omega | (simp only [push_cast]; first | done | omega))) only [push_cast, ↓reduceIte, Nat.reduceEqDiff, Nat.reduceBEq, Nat.reduceAdd, Nat.reduceSub, Int.reduceToNat, bg, bf, cO, bq, bn, *] <;> with_reducible exact rfl)); (focus (simp (disch := (first | omega | (simp only [push_cast]; first | done | omega))) only [push_cast, ↓reduceIte, Nat.reduceEqDiff, Nat.reduceBEq, Nat.reduceAdd, Nat.reduceSub, Int.reduceToNat, bg, bf, cO, bq, bn, *] <;> with_reducible exact rfl)); (focus (simp (disch := (first | omega | (simp only [push_cast]; first | done | omega))) only [push_cast, ↓reduceIte, Nat.reduceEqDiff, Nat.reduceBEq, Nat.reduceAdd, Nat.reduceSub, Int.reduceToNat, bg, bf, cO, bq, bn, *] <;> with_reducible exact rfl))))
 all_goals try (first | omega | assumption | exact ⟨by omega, by assumption⟩)
 refine ⟨(l2 ++ [⟨#[97, 49]⟩], y2 + 1, y2 + 2), ⟨(fD (m := 20) (n := 21) (by omega) (by omega) hl2 (by decide)).2, ?_⟩, ?_, ?_, ?_, rfl⟩
 ·simp only [List.length_append, List.length_cons, List.length_nil]; omega
 ·simp only [List.length_append, List.length_cons, List.length_nil]; omega
 all_goals exact agr
noncomputable def qo : fG := Classical.choose nN
theorem ab6 : dM Tryz.prog 20 qo := (Classical.choose_spec nN).1
theorem lG : ams 84 qo 600000000 200 aaR yS (fun n => 0 ≤ n ∧ n ≤ 1000) (fun _ l => okT 21 l) := (Classical.choose_spec nN).2
end Go.Proofs.YtngcedklbinhjaaGreatDoor
namespace Go.Proofs.YtngcedklbinhjaaGreatDoor
open Go.RowKit
set_option linter.all false
def nL : List PV → List Nat
 | [] => []
 | .own o _ _ _ :: l => o :: nL l
 | .row o _ _ _ :: l => o :: nL l
 | _ :: l => nL l
def yD : PV → List Nat
 | .own o _ _ _ => [o]
 | .row o _ _ _ => [o]
 | .agg cs => nL cs
 | _ => []
def ze : List PV → List Nat
 | [] => []
 | p :: ps => yD p ++ ze ps
theorem adP : ∀ cs : List PV, (cs.flatMap fun c => match c with | .own o _ _ _ => [o] | .row o _ _ _ => [o] | _ => []) = nL cs
 | [] => rfl
 | c :: cs => by
  rw [List.flatMap_cons, adP cs]
  cases c <;> rfl
theorem ada : ∀ ps : List PV, ps.flatMap refsOf = ze ps
 | [] => rfl
 | p :: ps => by
  rw [List.flatMap_cons, ada ps]
  show _ = yD p ++ ze ps
  congr 1
  cases p with
  | agg cs => exact adP cs
  | _ => rfl
section
variable {Φ : fG} {ob : aF} {nx : Nat}
def anf (Φ : fG) (ob : aF) (nx a b : Nat) (qs : List PV) : Option aV → Option aV → Option (PV × aF × Nat)
 | some c, some d => (c.2.2.mapM (dJ (inn [a, b]) fuel)).bind fun es => (d.2.2.mapM (dJ (inn [a, b]) fuel)).bind fun fs => ioR [a, b] ob nx (Φ qs [(c.1, c.2.1, es), (d.1, d.2.1, fs)])
 | _, _ => none
def ioX (Φ : fG) (ob : aF) (nx : Nat) (ps : List PV) : List Nat → Option (PV × aF × Nat)
 | [] => (ps.mapM (dJ (inn []) fuel)).bind fun qs => ioR [] ob nx (Φ qs [])
 | [o] => (ps.mapM (dJ (inn [o]) fuel)).bind fun qs => oM Φ ob nx o qs (ob o)
 | [a, b] => (ps.mapM (dJ (inn [a, b]) fuel)).bind fun qs => anf Φ ob nx a b qs (ob a) (ob b)
 | _ => qH Φ ob nx ps
theorem avL (ps : List PV) : qH Φ ob nx ps = ioX Φ ob nx ps (dedup (ze ps)) := by
 generalize hos : dedup (ze ps) = os
 rw [← ada] at hos
 match os with
 | [] =>
  show _ = (ps.mapM (dJ (inn []) fuel)).bind _
  cases h2 : ps.mapM (dJ (inn []) fuel) with
  | some qs => rw [qM ps [] hos, h2, mapM_nil']; rfl
  | none => rw [qM ps [] hos, h2, mapM_nil']; rfl
 | [o] =>
  show _ = (ps.mapM (dJ (inn [o]) fuel)).bind _
  cases h2 : ps.mapM (dJ (inn [o]) fuel) with
  | some qs => rw [jI hos h2]; rfl
  | none =>
   rw [qM ps [o] hos, h2]
   cases [o].mapM ob <;> rfl
 | [a, b] =>
  show _ = (ps.mapM (dJ (inn [a, b]) fuel)).bind _
  rw [qM ps [a, b] hos]
  simp only [mapM_cons', mapM_nil', aaL]
  cases ps.mapM (dJ (inn [a, b]) fuel) with
  | none => cases ob a <;> cases ob b <;> rfl
  | some qs =>
   simp only [Option.bind_some]
   cases ob a with
   | none => rfl
   | some c =>
    cases ob b with
    | none => rfl
    | some d =>
     obtain ⟨T, sz, es0⟩ := c
     obtain ⟨T2, sz2, fs0⟩ := d
     simp only [Option.bind_some, Option.map_some, anf, mapM_cons', mapM_nil', aaL]
     cases es0.mapM (dJ (inn [a, b]) fuel) with
     | none => rfl
     | some es =>
      simp only [Option.bind_some, Option.map_some]
      cases fs0.mapM (dJ (inn [a, b]) fuel) <;> rfl
 | _ :: _ :: _ :: _ => rfl
theorem ar7 {ps : List PV} : ioX Φ ob nx ps [] = (ps.mapM (dJ (inn []) fuel)).bind fun qs => ioR [] ob nx (Φ qs []) := rfl
theorem aoV {ps : List PV} {o : Nat} : ioX Φ ob nx ps [o] = (ps.mapM (dJ (inn [o]) fuel)).bind fun qs => oM Φ ob nx o qs (ob o) := rfl
theorem aoM {ps : List PV} {a b : Nat} : ioX Φ ob nx ps [a, b] = (ps.mapM (dJ (inn [a, b]) fuel)).bind fun qs => anf Φ ob nx a b qs (ob a) (ob b) := rfl
theorem afS {a b T T2 sz sz2 : Nat} {es es2 qs : List PV} : anf Φ ob nx a b qs (some (T, sz, es)) (some (T2, sz2, es2)) = (es.mapM (dJ (inn [a, b]) fuel)).bind fun es => (es2.mapM (dJ (inn [a, b]) fuel)).bind fun fs => ioR [a, b] ob nx (Φ qs [(T, sz, es), (T2, sz2, fs)]) := rfl
theorem aC6 {a b : Nat} (h : ¬ a = b) : dedup [a, b] = [a, b] := by
 have h' : ¬ b = a := fun e => h e.symm
 simp [dedup, h']
theorem aDk {a b : Nat} : inn [a, b] a = some 0 := by simp [inn]
theorem azD {a b : Nat} (h : ¬ a = b) : inn [a, b] b = some 1 := by
 have h2 : (a == b) = false := by simpa using h
 simp [inn, List.idxOf_cons, h2]
theorem amb {a b nx : Nat} : jy [a, b] nx 0 = some a := rfl
theorem amw {a b nx : Nat} : jy [a, b] nx 1 = some b := rfl
theorem akX {a b nx : Nat} : jy [a, b] nx 2 = some nx := by simp [jy, kD]
theorem asR {a nx : Nat} : jy [a] nx 1 = some nx := by simp [jy, kD]
theorem asB {a b T T2 sz sz2 : Nat} {es es2 : List PV} {r : PV} : ioR [a, b] ob nx (some (r, [(T, sz, es), (T2, sz2, es2)])) = (dJ (jy [a, b] nx) fuel r).bind fun r' => (es.mapM (dJ (jy [a, b] nx) fuel)).bind fun es' => (es2.mapM (dJ (jy [a, b] nx) fuel)).map fun es2' => (r', upd (upd ob a (some (T, sz, es'))) b (some (T2, sz2, es2')), nx) := by
 unfold ioR
 simp only [mapM_cons', mapM_nil', aaL]
 cases dJ (jy [a, b] nx) fuel r with
 | none => rfl
 | some r' =>
  cases es.mapM (dJ (jy [a, b] nx) fuel) with
  | none => rfl
  | some es' =>
   cases es2.mapM (dJ (jy [a, b] nx) fuel) <;> rfl
theorem atb {a b T T2 T3 sz sz2 sz3 : Nat} {es es2 es3 : List PV} {r : PV} : ioR [a, b] ob nx (some (r, [(T, sz, es), (T2, sz2, es2), (T3, sz3, es3)])) = (dJ (jy [a, b] nx) fuel r).bind fun r' => (es.mapM (dJ (jy [a, b] nx) fuel)).bind fun es' => (es2.mapM (dJ (jy [a, b] nx) fuel)).bind fun es2' => (es3.mapM (dJ (jy [a, b] nx) fuel)).map fun es3' => (r', upd (upd (upd ob a (some (T, sz, es'))) b (some (T2, sz2, es2'))) nx (some (T3, sz3, es3')), nx + 1) := by
 unfold ioR
 simp only [mapM_cons', mapM_nil', aaL]
 cases dJ (jy [a, b] nx) fuel r with
 | none => rfl
 | some r' =>
  cases es.mapM (dJ (jy [a, b] nx) fuel) with
  | none => rfl
  | some es' =>
   cases es2.mapM (dJ (jy [a, b] nx) fuel) with
   | none => rfl
   | some es2' =>
    cases es3.mapM (dJ (jy [a, b] nx) fuel) with
    | none => rfl
    | some es3' =>
     simp only [Option.map_some, Option.bind_some, List.length_cons, List.length_nil, Nat.zero_add, Nat.reduceAdd, Nat.reduceSub, Option.some.injEq, Prod.mk.injEq, true_and, and_true]
     show iH ob [(kD [a, b] nx 0, _), (kD [a, b] nx 1, _), (kD [a, b] nx 2, _)] = _
     simp [iH, kD]
theorem aum : dedup [] = [] := rfl
theorem axo {o : Nat} : dedup [o] = [o] := rfl
theorem awo {o : Nat} : dedup [o, o] = [o] := by simp [dedup]
theorem aw2 : ze [] = [] := rfl
theorem arX {p : PV} {ps : List PV} : ze (p :: ps) = yD p ++ ze ps := rfl
theorem ayM {v : Value} : yD (.val v) = [] := rfl
theorem axZ {k : Bool} {sz : Nat} {es : List PV} : yD (.lst k sz es) = [] := rfl
theorem atZ {k : Bool} {e : PV} {o : Nat} : yD (.ptr k e o) = [] := rfl
theorem avy {o a b c : Nat} : yD (.own o a b c) = [o] := rfl
theorem awG {o a b c : Nat} : yD (.row o a b c) = [o] := rfl
theorem auc {cs : List PV} : yD (.agg cs) = nL cs := rfl
theorem aw6 : nL [] = [] := rfl
theorem axd {v : Value} {l : List PV} : nL (.val v :: l) = nL l := rfl
theorem ax7 {k : Bool} {sz : Nat} {es l : List PV} : nL (.lst k sz es :: l) = nL l := rfl
theorem auR {o a b c : Nat} {l : List PV} : nL (.own o a b c :: l) = o :: nL l := rfl
theorem ayP {o a b c : Nat} {l : List PV} : nL (.row o a b c :: l) = o :: nL l := rfl
end
attribute [push_cast low]
 avL
attribute [push_cast]
 ar7 aoV aoM afS aC6 aDk azD amb amw akX asR asB atb aum axo awo aw2 arX ayM axZ atZ avy awG auc aw6 axd ax7 auR ayP
end Go.Proofs.YtngcedklbinhjaaGreatDoor
namespace Go.Proofs.YtngcedklbinhjaaGreatDoor
open Go.RowKit
set_option linter.all false
theorem zZ {l : List It} {tx : LS} {br : List Int} (h : ∀ k : Nat, (tx[k]?.getD ByteArray.empty).size ≤ 20) (hl : l.length ≤ 60) (hb : ao9 l br) : ∀ k, k ≤ br.length → ∀ s ∈ nk l tx br k, s.size ≤ 2000
 | 0, _ => by simp [nk]
 | k + 1, hk => fun s hs => by
  rw [nk] at hs
  rcases List.mem_append.1 hs with hs | hs
  ·exact zZ h hl hb k (by omega) s hs
  ·rw [List.mem_singleton.1 hs]
   obtain ⟨b1, b2, b3, -⟩ := hb.at_ (k := k) (by omega)
   have := yM (l := l) (tx := tx) (a := frB br k) h ((br[k]?.getD 0).toNat - frB br k)
   unfold lnR
   split
   ·rw [ByteArray.size_append, show (⟨#[45]⟩ : ByteArray).size = 1 from rfl]
    omega
   ·omega
theorem uV (ws pats : LS) (wd most : Int) : (nQ ws pats wd most).length ≤ 60 ∧ ∀ s ∈ nQ ws pats wd most, s.size ≤ 2000 := by
 unfold nQ
 split
 ·rename_i h
  unfold lC at h
  rw [Bool.and_eq_true] at h
  obtain ⟨h1, h2⟩ := h
  have hV : piV ws pats = piR ws pats := if_pos h1
  rw [hV] at h2
  obtain ⟨hB, -, -, hm, -⟩ := gu.1 h2
  have hb := aea (wd := wd) hB hm.2
  have hl := cK hB
  rw [oZ]
  exact ⟨by have := hb.1; omega, zZ acz hl hb _ (Nat.le_refl _)⟩
 ·simp
end Go.Proofs.YtngcedklbinhjaaGreatDoor
namespace Go.Proofs.YtngcedklbinhjaaGreatDoor
open Go.RowKit
set_option linter.all false
def anr (s : ByteArray) : Prop := ∀ b ∈ s.data.toList, ¬ b = 45
theorem adh {a b : ByteArray} (h : anr a) (h2 : anr b) : anr (a ++ b) := fun x hx => by
 rw [ByteArray.data_append, Array.toList_append] at hx
 rcases List.mem_append.1 hx with hx | hx
 ·exact h x hx
 ·exact h2 x hx
theorem aiE {s : ByteArray} (h : eB s = true) : anr s := fun b hb e => by
 obtain ⟨i, hi, rfl⟩ := List.getElem_of_mem hb
 have hi2 : i < s.size := by simpa using hi
 unfold eB at h
 rw [Bool.and_eq_true, List.all_eq_true] at h
 have h1 := aj.1 (h.1 i (List.mem_range.2 hi2))
 have h2 : at8 s i = (s.data.toList[i].toNat : Int) := by
  unfold at8
  rw [getElem?_pos s i hi2]
  rfl
 rw [h2, e] at h1
 exact absurd h1.1 (by decide)
theorem aqQ (ws pats : LS) (k : Nat) : anr ((txR ws pats)[k]?.getD .empty) := by
 by_cases h : k < (txR ws pats).length
 ·exact aiE (ai5 h)
 ·rw [List.getElem?_eq_none (by omega)]
  intro b hb
  simp at hb
theorem ad6 {l : List It} {tx : LS} {a : Nat} (h : ∀ k : Nat, anr (tx[k]?.getD .empty)) : ∀ j, anr (lnT l tx a j)
 | 0 => fun b hb => by simp [lnT] at hb
 | j + 1 => by
  have ih := ad6 (l := l) (a := a) h j
  rw [lnT]
  unfold nu
  split
  ·exact adh ih (h _)
  ·split
   ·refine adh ih fun b hb => ?_
    rw [List.mem_singleton.1 hb]
    decide
   ·exact ih
end Go.Proofs.YtngcedklbinhjaaGreatDoor
namespace Go.Proofs.YtngcedklbinhjaaGreatDoor
open Go.RowKit
set_option linter.all false
noncomputable def aa6 (ws pats : LS) : Bool := bX ws && (bT pats && decide (0 < ws.length))
noncomputable def aj6 : Fun := F2 dSs dSs fun ws pats => if qF ws ∧ qF pats then some (.tup [.lst true 7 ((if aa6 ws pats = true then piR ws pats else []).map gJ), .lst true 1 ((if aa6 ws pats = true then txR ws pats else []).map fun s => .val (.string s)), bv (qC ws pats)]) else none
theorem ak2 {ws pats : LS} (h : qF ws ∧ qF pats) : aj6 [.lst false 1 (ws.map fun s => .val (.string s)), .lst false 1 (pats.map fun s => .val (.string s))] = some (.tup [.lst true 7 ((if aa6 ws pats = true then piR ws pats else []).map gJ), .lst true 1 ((if aa6 ws pats = true then txR ws pats else []).map fun s => .val (.string s)), .val (.bool (qC ws pats))]) := (kX (A := dSs) (B := dSs) ws pats).trans (if_pos h)
theorem vo {w : ByteArray} {pats : LS} (h1 : eB w = true) (h2 : bT pats = true) : 0 < (dD w pats).length := by
 unfold dD
 rw [if_pos (jH.2 ⟨h1, h2⟩)]
 unfold aaW
 rw [agD]
 omega
theorem agK {ws pats : LS} (h1 : bX ws = true) (h2 : bT pats = true) : ∀ k, k ≤ ws.length → 0 < k → 0 < (txK ws pats k).length
 | 0, _, h => by omega
 | k + 1, hk, _ => by
  have := vo (pats := pats) (mX h1 (k := k) (by omega)) h2
  rw [txK, List.length_append]
  omega
theorem aqb {ws pats : LS} (h1 : bX ws = true) (h2 : bT pats = true) {k : Nat} (hk : k ≤ ws.length) (h : 0 < k) : 0 < (piK ws pats k).length := by
 have h3 := agK h1 h2 k hk h
 rw [← alj] at h3
 exact Nat.lt_of_lt_of_le h3 (List.length_filter_le _ _)
end Go.Proofs.YtngcedklbinhjaaGreatDoor
