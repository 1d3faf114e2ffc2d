/- What the proof rests on, part 20: contracts of functions. No condition beyond what each states. -/
import Derived.Test.YtngcedklbinhjaaGreatDoorZBw19
namespace Go.Proofs.YtngcedklbinhjaaGreatDoor
open Go.RowKit
set_option linter.all false
noncomputable def GRb : Ctx := { fn := fun f => none, io := fun f => if f = 38 then some tY else if f = 40 then some aft else if f = 19 then some abH else if f = 20 then some qo else none }
theorem aye : aA Tryz.prog GRb := ⟨(fun f φ h => by
 unfold GRb at h
 dsimp only at h
 cases h), (fun f φ h => by
 unfold GRb at h
 dsimp only at h
 split at h
 ·rename_i hf; cases h; subst hf; exact ⟨⟨_, Tryz.func38, rfl, rfl⟩, uN⟩
 split at h
 ·rename_i hf; cases h; subst hf; exact ⟨⟨_, Tryz.func40, rfl, rfl⟩, aem⟩
 split at h
 ·rename_i hf; cases h; subst hf; exact ⟨⟨_, Tryz.func19, rfl, rfl⟩, alV⟩
 split at h
 ·rename_i hf; cases h; subst hf; exact ⟨⟨_, Tryz.func20, rfl, rfl⟩, ab6⟩
 cases h), rfl⟩
abbrev lsE (L : List LS) : List PV := L.map fun p => .lst true 1 (p.map fun s => .val (.string s))
def pE (L : List LS) : PV := match L with | [] => .val (.slice none 0 0) | _ :: _ => .lst true 1 (lsE L)
theorem avd : pE [] = .val (.slice none 0 0) := rfl
theorem ayD {L : List LS} (h : 0 < L.length) : pE L = .lst true 1 (lsE L) := by
 cases L with
 | nil => simp at h
 | cons a L => rfl
attribute [push_cast]
 yS avd
attribute [push_cast low]
 ayD
theorem aG {L : List LS} {v : LS} (hL : ∀ l ∈ L, okT 13 l) (hv : okT 13 v) : ∀ l ∈ L ++ [v], okT 13 l := fun l hl => by
 rcases List.mem_append.1 hl with hl | hl
 ·exact hL l hl
 ·simp only [List.mem_singleton] at hl
  exact hl ▸ hv
theorem dH : okT 13 [] := ⟨by simp, by simp⟩
theorem iw : okT 13 [(⟨#[65]⟩ : ByteArray)] := ⟨by simp, by intro s hs; simp only [List.mem_singleton] at hs; subst hs; decide⟩
abbrev BD := List LS × LS × Int × Int × Int
abbrev EBk (b : BD) : PV := .agg [pE b.1, .lst true 1 (b.2.1.map fun s => .val (.string s)), iv b.2.2.1, iv b.2.2.2.1, iv b.2.2.2.2]
def alA (b : BD) : Prop := (b.1.length ≤ 5 ∧ ∀ l ∈ b.1, okT 13 l) ∧ okT 22 b.2.1 ∧ okI b.2.2.1 ∧ okI b.2.2.2.1 ∧ okI b.2.2.2.2
theorem qB {out : List Nat} {ob : aF} {l : List LS} {f : Nat} : (l.map fun p => PV.lst true 1 (p.map fun s => PV.val (.string s))).mapM (cZ out ob (f + 3)) = some (l.map fun p => PV.lst true 1 (p.map fun s => PV.val (.string s))) :=
 jg fun p => wJ
theorem uO {out : List Nat} {ob : aF} {f T m : Nat} {es : List PV} (L : List LS) (he : es = lsE L) (hm : m = L.length) : afZ out ob (f + 3) 1 0 m none (some (T, 1, es)) = some (.lst true 1 (lsE L)) := by
 subst he
 rw [mR (by rw [List.length_map]; exact hm), qB]
 rfl
theorem rQ {out : List Nat} {ob : aF} {f T m : Nat} {es : List PV} {last : PV} (L : List LS) (l : LS) (he : es = lsE L ++ [last]) (hm : m = L.length + 1) (hl : cZ out ob (f + 3) last = some (.lst true 1 (l.map fun s => PV.val (.string s)))) :
  afZ out ob (f + 3) 1 0 m none (some (T, 1, es)) = some (.lst true 1 (lsE (L ++ [l]))) := by
 subst he
 rw [mR (by simp; exact hm), List.mapM_append, qB, mapM_cons', mapM_nil', hl]
 simp
attribute [push_cast]
 qB EBk
set_option maxHeartbeats 16000000 in
theorem abw : ∃ Φ : fG, dM Tryz.prog 35 Φ ∧ adL 84 Φ 500000000 2000 EBk (fun n => 0 ≤ n ∧ n ≤ 1000) (fun _ b => alA b) := by
 refine qD mixed aye Tryz.func35 rfl 90 rfl [.cell 4 40] rfl (by kernel_rfl) (by simp) _ _ _ _ _ _ fun code p n hok hp hn => ?_
 have hp0 := hok.pos
 repeat' (first | (first | (with_reducible first | apply bF | apply av | apply aO | apply aJ | apply bC | apply dY | apply bA | apply bH | apply d9 | apply bE | apply bJ | apply dX | apply bI | apply bG | apply bD) | ((with_reducible apply au); (simp only [List.map_cons, List.map_nil] <;> exact rfl)) | ((with_reducible apply aI); (simp only [List.map_cons, List.map_nil] <;> exact rfl); decide +kernel) | ((with_reducible apply bB); rfl) | ((first | ((with_reducible apply i_V); rfl; rfl; rfl) | ((first | ((with_reducible apply i_E); rfl) | ((with_reducible apply i_S); rfl)); first | rfl | (simp only [push_cast, ↓reduceIte])) | ((with_reducible apply dW); rfl; rfl) | ((with_reducible apply dZ); rfl; rfl; rfl) | (with_reducible first | apply dV | apply aL)); (simp (disch := (first | omega | (simp only [push_cast]; first | done | omega))) only [push_cast, ↓reduceIte, Nat.reduceEqDiff, Nat.reduceBEq, Nat.reduceAdd, Nat.reduceSub, Int.reduceToNat, *] <;> with_reducible exact rfl); all_goals try (first | (with_reducible first | refine hyT ?_ | refine hyF ?_ | exact hyA | exact hyB) | (intro hX; first | (cases hX; done) | ((try simp only [decide_eq_true_eq, decide_eq_false_iff_not, Bool.not_eq_true', Bool.not_eq_false'] at hX); (try have hXb := aj.1 hX)))))) | ((with_reducible apply dG fJ (fun _ _ => rfl)); rfl; (simp (disch := (first | omega | (simp only [push_cast]; first | done | omega))) only [push_cast, ↓reduceIte, Nat.reduceEqDiff, Nat.reduceBEq, Nat.reduceAdd, Nat.reduceSub, Int.reduceToNat, *] <;> with_reducible exact rfl); (simp (disch := (first | omega | (simp only [push_cast]; first | done | omega))) only [push_cast, ↓reduceIte, Nat.reduceEqDiff, Nat.reduceBEq, Nat.reduceAdd, Nat.reduceSub, Int.reduceToNat, *] <;> with_reducible exact rfl); (simp (disch := (first | omega | (simp only [push_cast]; first | done | omega))) only [push_cast, ↓reduceIte, Nat.reduceEqDiff, Nat.reduceBEq, Nat.reduceAdd, Nat.reduceSub, Int.reduceToNat, *] <;> with_reducible exact rfl); assumption; omega; (focus (first | trivial | omega)); (focus (first | rfl | (simp only [push_cast, ↓reduceIte]))); intro v pp hv hok hpp1 hpp2) | ((with_reducible apply dG jv (fun _ _ => rfl)); rfl; (simp (disch := (first | omega | (simp only [push_cast]; first | done | omega))) only [push_cast, ↓reduceIte, Nat.reduceEqDiff, Nat.reduceBEq, Nat.reduceAdd, Nat.reduceSub, Int.reduceToNat, *] <;> with_reducible exact rfl); (simp (disch := (first | omega | (simp only [push_cast]; first | done | omega))) only [push_cast, ↓reduceIte, Nat.reduceEqDiff, Nat.reduceBEq, Nat.reduceAdd, Nat.reduceSub, Int.reduceToNat, *] <;> with_reducible exact rfl); (simp (disch := (first | omega | (simp only [push_cast]; first | done | omega))) only [push_cast, ↓reduceIte, Nat.reduceEqDiff, Nat.reduceBEq, Nat.reduceAdd, Nat.reduceSub, Int.reduceToNat, *] <;> with_reducible exact rfl); assumption; omega; (focus (first | trivial | omega)); (focus (first | rfl | (simp only [push_cast, ↓reduceIte]))); intro v pp hv hok hpp1 hpp2) | ((with_reducible apply dG lS (fun _ _ => by simp only [push_cast, ↓reduceIte, Nat.reduceEqDiff, Nat.reduceBEq, Nat.reduceAdd, Nat.reduceSub, Int.reduceToNat])); (focus rfl); (focus (simp (disch := (first | omega | (simp only [push_cast]; first | done | omega))) only [push_cast, ↓reduceIte, Nat.reduceEqDiff, Nat.reduceBEq, Nat.reduceAdd, Nat.reduceSub, Int.reduceToNat, *] <;> with_reducible exact rfl)); (focus (simp (disch := (first | omega | (simp only [push_cast]; first | done | omega))) only [push_cast, ↓reduceIte, Nat.reduceEqDiff, Nat.reduceBEq, Nat.reduceAdd, Nat.reduceSub, Int.reduceToNat, *] <;> with_reducible exact rfl)); (focus (simp (disch := (first | omega | (simp only [push_cast]; first | done | omega))) only [push_cast, ↓reduceIte, Nat.reduceEqDiff, Nat.reduceBEq, Nat.reduceAdd, Nat.reduceSub, Int.reduceToNat, *] <;> with_reducible exact rfl)); (focus assumption); (focus omega); (focus (first | trivial | omega)); (focus (first | rfl | (simp only [push_cast, ↓reduceIte]))); intro v pp hv hok hpp1 hpp2) | ((with_reducible apply abT lG nW nI); (focus rfl); (focus (simp (disch := (first | omega | (simp only [push_cast]; first | done | omega))) only [push_cast, ↓reduceIte, Nat.reduceEqDiff, Nat.reduceBEq, Nat.reduceAdd, Nat.reduceSub, Int.reduceToNat, *] <;> with_reducible exact rfl)); (focus (simp (disch := (first | omega | (simp only [push_cast]; first | done | omega))) only [push_cast, ↓reduceIte, Nat.reduceEqDiff, Nat.reduceBEq, Nat.reduceAdd, Nat.reduceSub, Int.reduceToNat, *] <;> with_reducible exact rfl)); (focus (simp (disch := (first | omega | (simp only [push_cast]; first | done | omega))) only [push_cast, ↓reduceIte, Nat.reduceEqDiff, Nat.reduceBEq, Nat.reduceAdd, Nat.reduceSub, Int.reduceToNat, *] <;> with_reducible exact rfl)); (focus assumption); (focus omega); (focus (first | trivial | omega)); (focus (first | rfl | (simp only [push_cast, ↓reduceIte]))); intro v pp hv hok hpp1 hpp2))
 refine mH 14 (by simp only [List.map_cons, List.map_nil] <;> exact rfl) (by simp only [List.take_succ_cons, List.take_zero] <;> exact rfl) (by simp only [List.drop_succ_cons, List.drop_zero] <;> exact rfl) akM (by decide +kernel) (by decide +kernel) ?_
 repeat' (first | (first | (with_reducible first | apply bF | apply av | apply aO | apply aJ | apply bC | apply dY | apply bA | apply bH | apply d9 | apply bE | apply bJ | apply dX | apply bI | apply bG | apply bD) | ((with_reducible apply au); (simp only [List.map_cons, List.map_nil] <;> exact rfl)) | ((with_reducible apply aI); (simp only [List.map_cons, List.map_nil] <;> exact rfl); decide +kernel) | ((with_reducible apply bB); rfl) | ((first | ((with_reducible apply i_V); rfl; rfl; rfl) | ((first | ((with_reducible apply i_E); rfl) | ((with_reducible apply i_S); rfl)); first | rfl | (simp only [push_cast, ↓reduceIte])) | ((with_reducible apply dW); rfl; rfl) | ((with_reducible apply dZ); rfl; rfl; rfl) | (with_reducible first | apply dV | apply aL)); (simp (disch := (first | omega | (simp only [push_cast]; first | done | omega))) only [push_cast, ↓reduceIte, Nat.reduceEqDiff, Nat.reduceBEq, Nat.reduceAdd, Nat.reduceSub, Int.reduceToNat, *] <;> with_reducible exact rfl); all_goals try (first | (with_reducible first | refine hyT ?_ | refine hyF ?_ | exact hyA | exact hyB) | (intro hX; first | (cases hX; done) | ((try simp only [decide_eq_true_eq, decide_eq_false_iff_not, Bool.not_eq_true', Bool.not_eq_false'] at hX); (try have hXb := aj.1 hX)))))) | ((with_reducible apply dG fJ (fun _ _ => rfl)); rfl; (simp (disch := (first | omega | (simp only [push_cast]; first | done | omega))) only [push_cast, ↓reduceIte, Nat.reduceEqDiff, Nat.reduceBEq, Nat.reduceAdd, Nat.reduceSub, Int.reduceToNat, *] <;> with_reducible exact rfl); (simp (disch := (first | omega | (simp only [push_cast]; first | done | omega))) only [push_cast, ↓reduceIte, Nat.reduceEqDiff, Nat.reduceBEq, Nat.reduceAdd, Nat.reduceSub, Int.reduceToNat, *] <;> with_reducible exact rfl); (simp (disch := (first | omega | (simp only [push_cast]; first | done | omega))) only [push_cast, ↓reduceIte, Nat.reduceEqDiff, Nat.reduceBEq, Nat.reduceAdd, Nat.reduceSub, Int.reduceToNat, *] <;> with_reducible exact rfl); assumption; omega; (focus (first | trivial | omega)); (focus (first | rfl | (simp only [push_cast, ↓reduceIte]))); intro v pp hv hok hpp1 hpp2) | ((with_reducible apply dG jv (fun _ _ => rfl)); rfl; (simp (disch := (first | omega | (simp only [push_cast]; first | done | omega))) only [push_cast, ↓reduceIte, Nat.reduceEqDiff, Nat.reduceBEq, Nat.reduceAdd, Nat.reduceSub, Int.reduceToNat, *] <;> with_reducible exact rfl); (simp (disch := (first | omega | (simp only [push_cast]; first | done | omega))) only [push_cast, ↓reduceIte, Nat.reduceEqDiff, Nat.reduceBEq, Nat.reduceAdd, Nat.reduceSub, Int.reduceToNat, *] <;> with_reducible exact rfl); (simp (disch := (first | omega | (simp only [push_cast]; first | done | omega))) only [push_cast, ↓reduceIte, Nat.reduceEqDiff, Nat.reduceBEq, Nat.reduceAdd, Nat.reduceSub, Int.reduceToNat, *] <;> with_reducible exact rfl); assumption; omega; (focus (first | trivial | omega)); (focus (first | rfl | (simp only [push_cast, ↓reduceIte]))); intro v pp hv hok hpp1 hpp2) | ((with_reducible apply dG lS (fun _ _ => by simp only [push_cast, ↓reduceIte, Nat.reduceEqDiff, Nat.reduceBEq, Nat.reduceAdd, Nat.reduceSub, Int.reduceToNat])); (focus rfl); (focus (simp (disch := (first | omega | (simp only [push_cast]; first | done | omega))) only [push_cast, ↓reduceIte, Nat.reduceEqDiff, Nat.reduceBEq, Nat.reduceAdd, Nat.reduceSub, Int.reduceToNat, *] <;> with_reducible exact rfl)); (focus (simp (disch := (first | omega | (simp only [push_cast]; first | done | omega))) only [push_cast, ↓reduceIte, Nat.reduceEqDiff, Nat.reduceBEq, Nat.reduceAdd, Nat.reduceSub, Int.reduceToNat, *] <;> with_reducible exact rfl)); (focus (simp (disch := (first | omega | (simp only [push_cast]; first | done | omega))) only [push_cast, ↓reduceIte, Nat.reduceEqDiff, Nat.reduceBEq, Nat.reduceAdd, Nat.reduceSub, Int.reduceToNat, *] <;> with_reducible exact rfl)); (focus assumption); (focus omega); (focus (first | trivial | omega)); (focus (first | rfl | (simp only [push_cast, ↓reduceIte]))); intro v pp hv hok hpp1 hpp2) | ((with_reducible apply abT lG nW nI); (focus rfl); (focus (simp (disch := (first | omega | (simp only [push_cast]; first | done | omega))) only [push_cast, ↓reduceIte, Nat.reduceEqDiff, Nat.reduceBEq, Nat.reduceAdd, Nat.reduceSub, Int.reduceToNat, *] <;> with_reducible exact rfl)); (focus (simp (disch := (first | omega | (simp only [push_cast]; first | done | omega))) only [push_cast, ↓reduceIte, Nat.reduceEqDiff, Nat.reduceBEq, Nat.reduceAdd, Nat.reduceSub, Int.reduceToNat, *] <;> with_reducible exact rfl)); (focus (simp (disch := (first | omega | (simp only [push_cast]; first | done | omega))) only [push_cast, ↓reduceIte, Nat.reduceEqDiff, Nat.reduceBEq, Nat.reduceAdd, Nat.reduceSub, Int.reduceToNat, *] <;> with_reducible exact rfl)); (focus assumption); (focus omega); (focus (first | trivial | omega)); (focus (first | rfl | (simp only [push_cast, ↓reduceIte]))); intro v pp hv hok hpp1 hpp2))
 refine atj (by (simp (disch := (first | omega | (simp only [push_cast]; first | done | omega))) only [push_cast, ↓reduceIte, Nat.reduceEqDiff, Nat.reduceBEq, Nat.reduceAdd, Nat.reduceSub, Int.reduceToNat, *] <;> with_reducible exact rfl)) ?_
 repeat' (first | (first | (with_reducible first | apply bF | apply av | apply aO | apply aJ | apply bC | apply dY | apply bA | apply bH | apply d9 | apply bE | apply bJ | apply dX | apply bI | apply bG | apply bD) | ((with_reducible apply au); (simp only [List.map_cons, List.map_nil] <;> exact rfl)) | ((with_reducible apply aI); (simp only [List.map_cons, List.map_nil] <;> exact rfl); decide +kernel) | ((with_reducible apply bB); rfl) | ((first | ((with_reducible apply i_V); rfl; rfl; rfl) | ((first | ((with_reducible apply i_E); rfl) | ((with_reducible apply i_S); rfl)); first | rfl | (simp only [push_cast, ↓reduceIte])) | ((with_reducible apply dW); rfl; rfl) | ((with_reducible apply dZ); rfl; rfl; rfl) | (with_reducible first | apply dV | apply aL)); (simp (disch := (first | omega | (simp only [push_cast]; first | done | omega))) only [push_cast, ↓reduceIte, Nat.reduceEqDiff, Nat.reduceBEq, Nat.reduceAdd, Nat.reduceSub, Int.reduceToNat, *] <;> with_reducible exact rfl); all_goals try (first | (with_reducible first | refine hyT ?_ | refine hyF ?_ | exact hyA | exact hyB) | (intro hX; first | (cases hX; done) | ((try simp only [decide_eq_true_eq, decide_eq_false_iff_not, Bool.not_eq_true', Bool.not_eq_false'] at hX); (try have hXb := aj.1 hX)))))) | ((with_reducible apply dG fJ (fun _ _ => rfl)); rfl; (simp (disch := (first | omega | (simp only [push_cast]; first | done | omega))) only [push_cast, ↓reduceIte, Nat.reduceEqDiff, Nat.reduceBEq, Nat.reduceAdd, Nat.reduceSub, Int.reduceToNat, *] <;> with_reducible exact rfl); (simp (disch := (first | omega | (simp only [push_cast]; first | done | omega))) only [push_cast, ↓reduceIte, Nat.reduceEqDiff, Nat.reduceBEq, Nat.reduceAdd, Nat.reduceSub, Int.reduceToNat, *] <;> with_reducible exact rfl); (simp (disch := (first | omega | (simp only [push_cast]; first | done | omega))) only [push_cast, ↓reduceIte, Nat.reduceEqDiff, Nat.reduceBEq, Nat.reduceAdd, Nat.reduceSub, Int.reduceToNat, *] <;> with_reducible exact rfl); assumption; omega; (focus (first | trivial | omega)); (focus (first | rfl | (simp only [push_cast, ↓reduceIte]))); intro v pp hv hok hpp1 hpp2) | ((with_reducible apply dG jv (fun _ _ => rfl)); rfl; (simp (disch := (first | omega | (simp only [push_cast]; first | done | omega))) only [push_cast, ↓reduceIte, Nat.reduceEqDiff, Nat.reduceBEq, Nat.reduceAdd, Nat.reduceSub, Int.reduceToNat, *] <;> with_reducible exact rfl); (simp (disch := (first | omega | (simp only [push_cast]; first | done | omega))) only [push_cast, ↓reduceIte, Nat.reduceEqDiff, Nat.reduceBEq, Nat.reduceAdd, Nat.reduceSub, Int.reduceToNat, *] <;> with_reducible exact rfl); (simp (disch := (first | omega | (simp only [push_cast]; first | done | omega))) only [push_cast, ↓reduceIte, Nat.reduceEqDiff, Nat.reduceBEq, Nat.reduceAdd, Nat.reduceSub, Int.reduceToNat, *] <;> with_reducible exact rfl); assumption; omega; (focus (first | trivial | omega)); (focus (first | rfl | (simp only [push_cast, ↓reduceIte]))); intro v pp hv hok hpp1 hpp2) | ((with_reducible apply dG lS (fun _ _ => by simp only [push_cast, ↓reduceIte, Nat.reduceEqDiff, Nat.reduceBEq, Nat.reduceAdd, Nat.reduceSub, Int.reduceToNat])); (focus rfl); (focus (simp (disch := (first | omega | (simp only [push_cast]; first | done | omega))) only [push_cast, ↓reduceIte, Nat.reduceEqDiff, Nat.reduceBEq, Nat.reduceAdd, Nat.reduceSub, Int.reduceToNat, *] <;> with_reducible exact rfl)); (focus (simp (disch := (first | omega | (simp only [push_cast]; first | done | omega))) only [push_cast, ↓reduceIte, Nat.reduceEqDiff, Nat.reduceBEq, Nat.reduceAdd, Nat.reduceSub, Int.reduceToNat, *] <;> with_reducible exact rfl)); (focus (simp (disch := (first | omega | (simp only [push_cast]; first | done | omega))) only [push_cast, ↓reduceIte, Nat.reduceEqDiff, Nat.reduceBEq, Nat.reduceAdd, Nat.reduceSub, Int.reduceToNat, *] <;> with_reducible exact rfl)); (focus assumption); (focus omega); (focus (first | trivial | omega)); (focus (first | rfl | (simp only [push_cast, ↓reduceIte]))); intro v pp hv hok hpp1 hpp2) | ((with_reducible apply abT lG nW nI); (focus rfl); (focus (simp (disch := (first | omega | (simp only [push_cast]; first | done | omega))) only [push_cast, ↓reduceIte, Nat.reduceEqDiff, Nat.reduceBEq, Nat.reduceAdd, Nat.reduceSub, Int.reduceToNat, *] <;> with_reducible exact rfl)); (focus (simp (disch := (first | omega | (simp only [push_cast]; first | done | omega))) only [push_cast, ↓reduceIte, Nat.reduceEqDiff, Nat.reduceBEq, Nat.reduceAdd, Nat.reduceSub, Int.reduceToNat, *] <;> with_reducible exact rfl)); (focus (simp (disch := (first | omega | (simp only [push_cast]; first | done | omega))) only [push_cast, ↓reduceIte, Nat.reduceEqDiff, Nat.reduceBEq, Nat.reduceAdd, Nat.reduceSub, Int.reduceToNat, *] <;> with_reducible exact rfl)); (focus assumption); (focus omega); (focus (first | trivial | omega)); (focus (first | rfl | (simp only [push_cast, ↓reduceIte]))); intro v pp hv hok hpp1 hpp2))
 rename_i ps q3 hps _ _ _ w q2 hw _ _ _ m q1 hm _ _ _ e q0 he _ _ _
 refine aT (α := List LS × Int × Int × Nat × Nat) mixed (fun s => [(0, .own 0 2 0 0), (1, iv n), (4, .own 1 5 0 0), (5, .own 2 5 0 0), (6, iv s.2.1)])
  (fun s => (0, rdC 84 code s.2.2.1) :: (1, 40, 5, [PV.agg [.val (.slice none 0 0), .val (.slice none 0 0), iv 0, iv 0, iv 0]]) ::
    (2, 40, 5, [PV.agg [nP 1 (lsE s.1) s.2.2.2.1, .row 3 1 0 ps.length, iv (40 + w), iv (sel 0 [500, 10000, 200] m.toNat), iv (3 + e)]]) :: (3, yS ps) :: nO 23 1 (lsE s.1) s.2.2.2.1) (fun s => s.2.2.2.2)
  (fun s => p8 code s.2.2.1 ∧ (∀ l ∈ s.1, okT 13 l) ∧ p ≤ s.2.2.1 ∧ s.2.2.1 + 210 * s.2.1 ≤ p + 1100 ∧ s.1.length + s.2.1 ≤ 4 ∧ 0 ≤ s.2.1 ∧ 3 < s.2.2.2.2 ∧ (0 < s.1.length → 3 < s.2.2.2.1 ∧ s.2.2.2.1 < s.2.2.2.2)) (fun s => s.2.1.toNat) (by kernel_rfl) ([], v, pp, 0, 4) ⟨hok, by simp, ?_⟩ ?_ ?_ rfl ?_
 ·dsimp only [List.length_nil]; omega
 ·exact agr
 ·exact agr
 rintro ⟨L, k, q, x, y⟩ ⟨okq, hL, i1, i2, i3, i4, i5, i6⟩
 dsimp only at okq hL i1 i2 i3 i4 i5 i6
 clear hok
 have hpl := hps.1
 by_cases h0 : L.length = 0
 ·obtain rfl : L = [] := List.eq_nil_of_length_eq_zero h0
  clear i6 hL h0
  repeat' (first | (first | (with_reducible first | apply bF | apply av | apply aO | apply aJ | apply bC | apply dY | apply bA | apply bH | apply d9 | apply bE | apply bJ | apply dX | apply bI | apply bG | apply bD) | ((with_reducible apply au); (simp only [List.map_cons, List.map_nil] <;> exact rfl)) | ((with_reducible apply aI); (simp only [List.map_cons, List.map_nil] <;> exact rfl); decide +kernel) | ((with_reducible apply bB); rfl) | ((first | ((with_reducible apply i_V); rfl; rfl; rfl) | ((first | ((with_reducible apply i_E); rfl) | ((with_reducible apply i_S); rfl)); first | rfl | (simp only [push_cast, ↓reduceIte])) | ((with_reducible apply dW); rfl; rfl) | ((with_reducible apply dZ); rfl; rfl; rfl) | (with_reducible first | apply dV | apply aL)); (simp (disch := (first | omega | (simp only [push_cast]; first | done | omega))) only [push_cast, ↓reduceIte, Nat.reduceEqDiff, Nat.reduceBEq, Nat.reduceAdd, Nat.reduceSub, Int.reduceToNat, *] <;> with_reducible exact rfl); all_goals try (first | (with_reducible first | refine hyT ?_ | refine hyF ?_ | exact hyA | exact hyB) | (intro hX; first | (cases hX; done) | ((try simp only [decide_eq_true_eq, decide_eq_false_iff_not, Bool.not_eq_true', Bool.not_eq_false'] at hX); (try have hXb := aj.1 hX)))))) | ((with_reducible apply dG fJ (fun _ _ => rfl)); rfl; (simp (disch := (first | omega | (simp only [push_cast]; first | done | omega))) only [push_cast, ↓reduceIte, Nat.reduceEqDiff, Nat.reduceBEq, Nat.reduceAdd, Nat.reduceSub, Int.reduceToNat, *] <;> with_reducible exact rfl); (simp (disch := (first | omega | (simp only [push_cast]; first | done | omega))) only [push_cast, ↓reduceIte, Nat.reduceEqDiff, Nat.reduceBEq, Nat.reduceAdd, Nat.reduceSub, Int.reduceToNat, *] <;> with_reducible exact rfl); (simp (disch := (first | omega | (simp only [push_cast]; first | done | omega))) only [push_cast, ↓reduceIte, Nat.reduceEqDiff, Nat.reduceBEq, Nat.reduceAdd, Nat.reduceSub, Int.reduceToNat, *] <;> with_reducible exact rfl); assumption; omega; (focus (first | trivial | omega)); (focus (first | rfl | (simp only [push_cast, ↓reduceIte]))); intro v pp hv hok hpp1 hpp2) | ((with_reducible apply dG jv (fun _ _ => rfl)); rfl; (simp (disch := (first | omega | (simp only [push_cast]; first | done | omega))) only [push_cast, ↓reduceIte, Nat.reduceEqDiff, Nat.reduceBEq, Nat.reduceAdd, Nat.reduceSub, Int.reduceToNat, *] <;> with_reducible exact rfl); (simp (disch := (first | omega | (simp only [push_cast]; first | done | omega))) only [push_cast, ↓reduceIte, Nat.reduceEqDiff, Nat.reduceBEq, Nat.reduceAdd, Nat.reduceSub, Int.reduceToNat, *] <;> with_reducible exact rfl); (simp (disch := (first | omega | (simp only [push_cast]; first | done | omega))) only [push_cast, ↓reduceIte, Nat.reduceEqDiff, Nat.reduceBEq, Nat.reduceAdd, Nat.reduceSub, Int.reduceToNat, *] <;> with_reducible exact rfl); assumption; omega; (focus (first | trivial | omega)); (focus (first | rfl | (simp only [push_cast, ↓reduceIte]))); intro v pp hv hok hpp1 hpp2) | ((with_reducible apply dG lS (fun _ _ => by simp only [push_cast, ↓reduceIte, Nat.reduceEqDiff, Nat.reduceBEq, Nat.reduceAdd, Nat.reduceSub, Int.reduceToNat])); (focus rfl); (focus (simp (disch := (first | omega | (simp only [push_cast]; first | done | omega))) only [push_cast, ↓reduceIte, Nat.reduceEqDiff, Nat.reduceBEq, Nat.reduceAdd, Nat.reduceSub, Int.reduceToNat, *] <;> with_reducible exact rfl)); (focus (simp (disch := (first | omega | (simp only [push_cast]; first | done | omega))) only [push_cast, ↓reduceIte, Nat.reduceEqDiff, Nat.reduceBEq, Nat.reduceAdd, Nat.reduceSub, Int.reduceToNat, *] <;> with_reducible exact rfl)); (focus (simp (disch := (first | omega | (simp only [push_cast]; first | done | omega))) only [push_cast, ↓reduceIte, Nat.reduceEqDiff, Nat.reduceBEq, Nat.reduceAdd, Nat.reduceSub, Int.reduceToNat, *] <;> with_reducible exact rfl)); (focus assumption); (focus omega); (focus (first | trivial | omega)); (focus (first | rfl | (simp only [push_cast, ↓reduceIte]))); intro v pp hv hok hpp1 hpp2))
  ·refine ⟨([v], k - 1, pp, y + 1, y + 2), ⟨hok, ?_, ?_⟩, ?_, ?_, ?_, rfl⟩
   ·exact aG (L := []) (by simp) hv
   ·dsimp only; simp only [List.length_append, List.length_cons, List.length_nil] at *; omega
   ·dsimp only; omega
   ·exact agr
   ·simp (disch := (first | omega | (simp only [push_cast]; first | done | omega))) only [push_cast, ↓reduceIte, Nat.reduceEqDiff, Nat.reduceBEq, Nat.reduceAdd, Nat.reduceSub, Int.reduceToNat, List.length_append, List.map_append, List.map_cons, List.map_nil, *]
  ·refine ⟨(([] : List LS), k - 1, pp, x, y), ⟨hok, by simp, ?_⟩, ?_, ?_, ?_, rfl⟩
   ·dsimp only; simp only [List.length_nil] at *; omega
   ·dsimp only; omega
   ·exact agr
   ·exact agr
  ·(with_reducible apply gK (a := ([([] : LS)], _, _, _, _)) (by first | exact .inl rfl | exact .inr rfl)); (focus (simp (disch := (first | omega | (simp only [push_cast]; first | done | omega))) only [push_cast, ↓reduceIte, Nat.reduceEqDiff, Nat.reduceBEq, Nat.reduceAdd, Nat.reduceSub, Int.reduceToNat, bg, bf, cO, bq, bn, *]; rw [rQ [] [] (by first | rfl | simp) (by simp) (by simp (disch := (first | omega | (simp only [push_cast]; first | done | omega))) only [push_cast, ↓reduceIte, Nat.reduceEqDiff, Nat.reduceBEq, Nat.reduceAdd, Nat.reduceSub, Int.reduceToNat, mR, mapM_cons', mapM_nil', List.length_cons, List.length_nil, *])]; (try simp (disch := (first | omega | (simp only [push_cast]; first | done | omega))) only [push_cast, ↓reduceIte, Nat.reduceEqDiff, Nat.reduceBEq, Nat.reduceAdd, Nat.reduceSub, Int.reduceToNat, bg, bf, cO, bq, bn, *]); with_reducible rfl)); (focus (simp (disch := (first | omega | (simp only [push_cast]; first | done | omega))) only [push_cast, ↓reduceIte, Nat.reduceEqDiff, Nat.reduceBEq, Nat.reduceAdd, Nat.reduceSub, Int.reduceToNat, bg, bf, cO, bq, bn, *] <;> with_reducible exact rfl))
   all_goals try (first | assumption | omega)
   ·refine ⟨⟨by (try simp only [List.length_append, List.length_cons, List.length_nil] at *); omega, ?_⟩, ?_, ?_, ?_, ?_⟩
    ·first | exact hL | exact aG hL dH | exact aG hL iw | exact aG (L := []) (by simp) dH | exact aG (L := []) (by simp) iw | (simp; done)
    ·first | exact ⟨by dsimp only; omega, hps.2⟩ | exact fD (m := 21) hpl (by omega) hps.2 (by decide)
    all_goals first | (dsimp only; omega) | exact gB (p := okI) (by decide) (by simp only [List.length_cons, List.length_nil]; omega)
  ·(with_reducible apply gK (a := ([[(⟨#[65]⟩ : ByteArray)]], _, _, _, _)) (by first | exact .inl rfl | exact .inr rfl)); (focus (simp (disch := (first | omega | (simp only [push_cast]; first | done | omega))) only [push_cast, ↓reduceIte, Nat.reduceEqDiff, Nat.reduceBEq, Nat.reduceAdd, Nat.reduceSub, Int.reduceToNat, bg, bf, cO, bq, bn, *]; rw [rQ [] [(⟨#[65]⟩ : ByteArray)] (by first | rfl | simp) (by simp) (by simp (disch := (first | omega | (simp only [push_cast]; first | done | omega))) only [push_cast, ↓reduceIte, Nat.reduceEqDiff, Nat.reduceBEq, Nat.reduceAdd, Nat.reduceSub, Int.reduceToNat, mR, mapM_cons', mapM_nil', List.length_cons, List.length_nil, *])]; (try simp (disch := (first | omega | (simp only [push_cast]; first | done | omega))) only [push_cast, ↓reduceIte, Nat.reduceEqDiff, Nat.reduceBEq, Nat.reduceAdd, Nat.reduceSub, Int.reduceToNat, bg, bf, cO, bq, bn, *]); with_reducible rfl)); (focus (simp (disch := (first | omega | (simp only [push_cast]; first | done | omega))) only [push_cast, ↓reduceIte, Nat.reduceEqDiff, Nat.reduceBEq, Nat.reduceAdd, Nat.reduceSub, Int.reduceToNat, bg, bf, cO, bq, bn, *] <;> with_reducible exact rfl))
   all_goals try (first | assumption | omega)
   ·refine ⟨⟨by (try simp only [List.length_append, List.length_cons, List.length_nil] at *); omega, ?_⟩, ?_, ?_, ?_, ?_⟩
    ·first | exact hL | exact aG hL dH | exact aG hL iw | exact aG (L := []) (by simp) dH | exact aG (L := []) (by simp) iw | (simp; done)
    ·first | exact ⟨by dsimp only; omega, hps.2⟩ | exact fD (m := 21) hpl (by omega) hps.2 (by decide)
    all_goals first | (dsimp only; omega) | exact gB (p := okI) (by decide) (by simp only [List.length_cons, List.length_nil]; omega)
  ·(with_reducible apply gK (a := (([] : List LS), _, _, _, _)) (by first | exact .inl rfl | exact .inr rfl)); (focus (simp (disch := (first | omega | (simp only [push_cast]; first | done | omega))) only [push_cast, ↓reduceIte, Nat.reduceEqDiff, Nat.reduceBEq, Nat.reduceAdd, Nat.reduceSub, Int.reduceToNat, bg, bf, cO, bq, bn, *] <;> with_reducible exact rfl)); (focus (simp (disch := (first | omega | (simp only [push_cast]; first | done | omega))) only [push_cast, ↓reduceIte, Nat.reduceEqDiff, Nat.reduceBEq, Nat.reduceAdd, Nat.reduceSub, Int.reduceToNat, bg, bf, cO, bq, bn, *] <;> with_reducible exact rfl))
   all_goals try (first | assumption | omega)
   ·refine ⟨⟨by (try simp only [List.length_append, List.length_cons, List.length_nil] at *); omega, ?_⟩, ?_, ?_, ?_, ?_⟩
    ·first | exact hL | exact aG hL dH | exact aG hL iw | exact aG (L := []) (by simp) dH | exact aG (L := []) (by simp) iw | (simp; done)
    ·first | exact ⟨by dsimp only; omega, hps.2⟩ | exact fD (m := 21) hpl (by omega) hps.2 (by decide)
    all_goals first | (dsimp only; omega) | exact gB (p := okI) (by decide) (by simp only [List.length_cons, List.length_nil]; omega)
  ·(with_reducible apply gK (a := (([] : List LS), _, _, _, _)) (by first | exact .inl rfl | exact .inr rfl)); (focus (simp (disch := (first | omega | (simp only [push_cast]; first | done | omega))) only [push_cast, ↓reduceIte, Nat.reduceEqDiff, Nat.reduceBEq, Nat.reduceAdd, Nat.reduceSub, Int.reduceToNat, bg, bf, cO, bq, bn, *] <;> with_reducible exact rfl)); (focus (simp (disch := (first | omega | (simp only [push_cast]; first | done | omega))) only [push_cast, ↓reduceIte, Nat.reduceEqDiff, Nat.reduceBEq, Nat.reduceAdd, Nat.reduceSub, Int.reduceToNat, bg, bf, cO, bq, bn, *] <;> with_reducible exact rfl))
   all_goals try (first | assumption | omega)
   ·refine ⟨⟨by (try simp only [List.length_append, List.length_cons, List.length_nil] at *); omega, ?_⟩, ?_, ?_, ?_, ?_⟩
    ·first | exact hL | exact aG hL dH | exact aG hL iw | exact aG (L := []) (by simp) dH | exact aG (L := []) (by simp) iw | (simp; done)
    ·first | exact ⟨by dsimp only; omega, hps.2⟩ | exact fD (m := 21) hpl (by omega) hps.2 (by decide)
    all_goals first | (dsimp only; omega) | exact gB (p := okI) (by decide) (by simp only [List.length_cons, List.length_nil]; omega)
  ·(with_reducible apply gK (a := (([] : List LS), _, _, _, _)) (by first | exact .inl rfl | exact .inr rfl)); (focus (simp (disch := (first | omega | (simp only [push_cast]; first | done | omega))) only [push_cast, ↓reduceIte, Nat.reduceEqDiff, Nat.reduceBEq, Nat.reduceAdd, Nat.reduceSub, Int.reduceToNat, bg, bf, cO, bq, bn, *] <;> with_reducible exact rfl)); (focus (simp (disch := (first | omega | (simp only [push_cast]; first | done | omega))) only [push_cast, ↓reduceIte, Nat.reduceEqDiff, Nat.reduceBEq, Nat.reduceAdd, Nat.reduceSub, Int.reduceToNat, bg, bf, cO, bq, bn, *] <;> with_reducible exact rfl))
   all_goals try (first | assumption | omega)
   ·refine ⟨⟨by (try simp only [List.length_append, List.length_cons, List.length_nil] at *); omega, ?_⟩, ?_, ?_, ?_, ?_⟩
    ·first | exact hL | exact aG hL dH | exact aG hL iw | exact aG (L := []) (by simp) dH | exact aG (L := []) (by simp) iw | (simp; done)
    ·first | exact ⟨by dsimp only; omega, hps.2⟩ | exact fD (m := 21) hpl (by omega) hps.2 (by decide)
    all_goals first | (dsimp only; omega) | exact gB (p := okI) (by decide) (by simp only [List.length_cons, List.length_nil]; omega)
  ·(with_reducible apply gK (a := (([] : List LS), _, _, _, _)) (by first | exact .inl rfl | exact .inr rfl)); (focus (simp (disch := (first | omega | (simp only [push_cast]; first | done | omega))) only [push_cast, ↓reduceIte, Nat.reduceEqDiff, Nat.reduceBEq, Nat.reduceAdd, Nat.reduceSub, Int.reduceToNat, bg, bf, cO, bq, bn, *] <;> with_reducible exact rfl)); (focus (simp (disch := (first | omega | (simp only [push_cast]; first | done | omega))) only [push_cast, ↓reduceIte, Nat.reduceEqDiff, Nat.reduceBEq, Nat.reduceAdd, Nat.reduceSub, Int.reduceToNat, bg, bf, cO, bq, bn, *] <;> with_reducible exact rfl))
   all_goals try (first | assumption | omega)
   ·refine ⟨⟨by (try simp only [List.length_append, List.length_cons, List.length_nil] at *); omega, ?_⟩, ?_, ?_, ?_, ?_⟩
    ·first | exact hL | exact aG hL dH | exact aG hL iw | exact aG (L := []) (by simp) dH | exact aG (L := []) (by simp) iw | (simp; done)
    ·first | exact ⟨by dsimp only; omega, hps.2⟩ | exact fD (m := 21) hpl (by omega) hps.2 (by decide)
    all_goals first | (dsimp only; omega) | exact gB (p := okI) (by decide) (by simp only [List.length_cons, List.length_nil]; omega)
  ·(with_reducible apply gK (a := (([] : List LS), _, _, _, _)) (by first | exact .inl rfl | exact .inr rfl)); (focus (simp (disch := (first | omega | (simp only [push_cast]; first | done | omega))) only [push_cast, ↓reduceIte, Nat.reduceEqDiff, Nat.reduceBEq, Nat.reduceAdd, Nat.reduceSub, Int.reduceToNat, bg, bf, cO, bq, bn, *] <;> with_reducible exact rfl)); (focus (simp (disch := (first | omega | (simp only [push_cast]; first | done | omega))) only [push_cast, ↓reduceIte, Nat.reduceEqDiff, Nat.reduceBEq, Nat.reduceAdd, Nat.reduceSub, Int.reduceToNat, bg, bf, cO, bq, bn, *] <;> with_reducible exact rfl))
   all_goals try (first | assumption | omega)
   ·refine ⟨⟨by (try simp only [List.length_append, List.length_cons, List.length_nil] at *); omega, ?_⟩, ?_, ?_, ?_, ?_⟩
    ·first | exact hL | exact aG hL dH | exact aG hL iw | exact aG (L := []) (by simp) dH | exact aG (L := []) (by simp) iw | (simp; done)
    ·first | exact ⟨by dsimp only; omega, hps.2⟩ | exact fD (m := 21) hpl (by omega) hps.2 (by decide)
    all_goals first | (dsimp only; omega) | exact gB (p := okI) (by decide) (by simp only [List.length_cons, List.length_nil]; omega)
 ·obtain ⟨x1, x2⟩ := i6 (by omega)
  clear i6
  repeat' (first | (first | (with_reducible first | apply bF | apply av | apply aO | apply aJ | apply bC | apply dY | apply bA | apply bH | apply d9 | apply bE | apply bJ | apply dX | apply bI | apply bG | apply bD) | ((with_reducible apply au); (simp only [List.map_cons, List.map_nil] <;> exact rfl)) | ((with_reducible apply aI); (simp only [List.map_cons, List.map_nil] <;> exact rfl); decide +kernel) | ((with_reducible apply bB); rfl) | ((first | ((with_reducible apply i_V); rfl; rfl; rfl) | ((first | ((with_reducible apply i_E); rfl) | ((with_reducible apply i_S); rfl)); first | rfl | (simp only [push_cast, ↓reduceIte])) | ((with_reducible apply dW); rfl; rfl) | ((with_reducible apply dZ); rfl; rfl; rfl) | (with_reducible first | apply dV | apply aL)); (simp (disch := (first | omega | (simp only [push_cast]; first | done | omega))) only [push_cast, ↓reduceIte, Nat.reduceEqDiff, Nat.reduceBEq, Nat.reduceAdd, Nat.reduceSub, Int.reduceToNat, *] <;> with_reducible exact rfl); all_goals try (first | (with_reducible first | refine hyT ?_ | refine hyF ?_ | exact hyA | exact hyB) | (intro hX; first | (cases hX; done) | ((try simp only [decide_eq_true_eq, decide_eq_false_iff_not, Bool.not_eq_true', Bool.not_eq_false'] at hX); (try have hXb := aj.1 hX)))))) | ((with_reducible apply dG fJ (fun _ _ => rfl)); rfl; (simp (disch := (first | omega | (simp only [push_cast]; first | done | omega))) only [push_cast, ↓reduceIte, Nat.reduceEqDiff, Nat.reduceBEq, Nat.reduceAdd, Nat.reduceSub, Int.reduceToNat, *] <;> with_reducible exact rfl); (simp (disch := (first | omega | (simp only [push_cast]; first | done | omega))) only [push_cast, ↓reduceIte, Nat.reduceEqDiff, Nat.reduceBEq, Nat.reduceAdd, Nat.reduceSub, Int.reduceToNat, *] <;> with_reducible exact rfl); (simp (disch := (first | omega | (simp only [push_cast]; first | done | omega))) only [push_cast, ↓reduceIte, Nat.reduceEqDiff, Nat.reduceBEq, Nat.reduceAdd, Nat.reduceSub, Int.reduceToNat, *] <;> with_reducible exact rfl); assumption; omega; (focus (first | trivial | omega)); (focus (first | rfl | (simp only [push_cast, ↓reduceIte]))); intro v pp hv hok hpp1 hpp2) | ((with_reducible apply dG jv (fun _ _ => rfl)); rfl; (simp (disch := (first | omega | (simp only [push_cast]; first | done | omega))) only [push_cast, ↓reduceIte, Nat.reduceEqDiff, Nat.reduceBEq, Nat.reduceAdd, Nat.reduceSub, Int.reduceToNat, *] <;> with_reducible exact rfl); (simp (disch := (first | omega | (simp only [push_cast]; first | done | omega))) only [push_cast, ↓reduceIte, Nat.reduceEqDiff, Nat.reduceBEq, Nat.reduceAdd, Nat.reduceSub, Int.reduceToNat, *] <;> with_reducible exact rfl); (simp (disch := (first | omega | (simp only [push_cast]; first | done | omega))) only [push_cast, ↓reduceIte, Nat.reduceEqDiff, Nat.reduceBEq, Nat.reduceAdd, Nat.reduceSub, Int.reduceToNat, *] <;> with_reducible exact rfl); assumption; omega; (focus (first | trivial | omega)); (focus (first | rfl | (simp only [push_cast, ↓reduceIte]))); intro v pp hv hok hpp1 hpp2) | ((with_reducible apply dG lS (fun _ _ => by simp only [push_cast, ↓reduceIte, Nat.reduceEqDiff, Nat.reduceBEq, Nat.reduceAdd, Nat.reduceSub, Int.reduceToNat])); (focus rfl); (focus (simp (disch := (first | omega | (simp only [push_cast]; first | done | omega))) only [push_cast, ↓reduceIte, Nat.reduceEqDiff, Nat.reduceBEq, Nat.reduceAdd, Nat.reduceSub, Int.reduceToNat, *] <;> with_reducible exact rfl)); (focus (simp (disch := (first | omega | (simp only [push_cast]; first | done | omega))) only [push_cast, ↓reduceIte, Nat.reduceEqDiff, Nat.reduceBEq, Nat.reduceAdd, Nat.reduceSub, Int.reduceToNat, *] <;> with_reducible exact rfl)); (focus (simp (disch := (first | omega | (simp only [push_cast]; first | done | omega))) only [push_cast, ↓reduceIte, Nat.reduceEqDiff, Nat.reduceBEq, Nat.reduceAdd, Nat.reduceSub, Int.reduceToNat, *] <;> with_reducible exact rfl)); (focus assumption); (focus omega); (focus (first | trivial | omega)); (focus (first | rfl | (simp only [push_cast, ↓reduceIte]))); intro v pp hv hok hpp1 hpp2))
  ·refine ⟨(L ++ [v], k - 1, pp, y + 1, y + 2), ⟨hok, ?_, ?_⟩, ?_, ?_, ?_, rfl⟩
   ·exact aG hL hv
   ·dsimp only; simp only [List.length_append, List.length_cons, List.length_nil] at *; omega
   ·dsimp only; omega
   ·exact agr
   ·simp (disch := (first | omega | (simp only [push_cast]; first | done | omega))) only [push_cast, ↓reduceIte, Nat.reduceEqDiff, Nat.reduceBEq, Nat.reduceAdd, Nat.reduceSub, Int.reduceToNat, List.length_append, List.map_append, List.map_cons, List.map_nil, *]
  ·refine ⟨(L, k - 1, pp, x, y), ⟨hok, hL, ?_⟩, ?_, ?_, ?_, rfl⟩
   ·dsimp only; omega
   ·dsimp only; omega
   ·exact agr
   ·exact agr
  ·(with_reducible apply gK (a := (L ++ [([] : LS)], _, _, _, _)) (by first | exact .inl rfl | exact .inr rfl)); (focus (simp (disch := (first | omega | (simp only [push_cast]; first | done | omega))) only [push_cast, ↓reduceIte, Nat.reduceEqDiff, Nat.reduceBEq, Nat.reduceAdd, Nat.reduceSub, Int.reduceToNat, bg, bf, cO, bq, bn, *]; rw [rQ L [] (by first | rfl | simp) (by simp) (by simp (disch := (first | omega | (simp only [push_cast]; first | done | omega))) only [push_cast, ↓reduceIte, Nat.reduceEqDiff, Nat.reduceBEq, Nat.reduceAdd, Nat.reduceSub, Int.reduceToNat, mR, mapM_cons', mapM_nil', List.length_cons, List.length_nil, *])]; (try simp (disch := (first | omega | (simp only [push_cast]; first | done | omega))) only [push_cast, ↓reduceIte, Nat.reduceEqDiff, Nat.reduceBEq, Nat.reduceAdd, Nat.reduceSub, Int.reduceToNat, bg, bf, cO, bq, bn, *]); with_reducible rfl)); (focus (simp (disch := (first | omega | (simp only [push_cast]; first | done | omega))) only [push_cast, ↓reduceIte, Nat.reduceEqDiff, Nat.reduceBEq, Nat.reduceAdd, Nat.reduceSub, Int.reduceToNat, bg, bf, cO, bq, bn, *] <;> with_reducible exact rfl))
   all_goals try (first | assumption | omega)
   ·refine ⟨⟨by (try simp only [List.length_append, List.length_cons, List.length_nil] at *); omega, ?_⟩, ?_, ?_, ?_, ?_⟩
    ·first | exact hL | exact aG hL dH | exact aG hL iw | exact aG (L := []) (by simp) dH | exact aG (L := []) (by simp) iw | (simp; done)
    ·first | exact ⟨by dsimp only; omega, hps.2⟩ | exact fD (m := 21) hpl (by omega) hps.2 (by decide)
    all_goals first | (dsimp only; omega) | exact gB (p := okI) (by decide) (by simp only [List.length_cons, List.length_nil]; omega)
  ·(with_reducible apply gK (a := (L ++ [[(⟨#[65]⟩ : ByteArray)]], _, _, _, _)) (by first | exact .inl rfl | exact .inr rfl)); (focus (simp (disch := (first | omega | (simp only [push_cast]; first | done | omega))) only [push_cast, ↓reduceIte, Nat.reduceEqDiff, Nat.reduceBEq, Nat.reduceAdd, Nat.reduceSub, Int.reduceToNat, bg, bf, cO, bq, bn, *]; rw [rQ L [(⟨#[65]⟩ : ByteArray)] (by first | rfl | simp) (by simp) (by simp (disch := (first | omega | (simp only [push_cast]; first | done | omega))) only [push_cast, ↓reduceIte, Nat.reduceEqDiff, Nat.reduceBEq, Nat.reduceAdd, Nat.reduceSub, Int.reduceToNat, mR, mapM_cons', mapM_nil', List.length_cons, List.length_nil, *])]; (try simp (disch := (first | omega | (simp only [push_cast]; first | done | omega))) only [push_cast, ↓reduceIte, Nat.reduceEqDiff, Nat.reduceBEq, Nat.reduceAdd, Nat.reduceSub, Int.reduceToNat, bg, bf, cO, bq, bn, *]); with_reducible rfl)); (focus (simp (disch := (first | omega | (simp only [push_cast]; first | done | omega))) only [push_cast, ↓reduceIte, Nat.reduceEqDiff, Nat.reduceBEq, Nat.reduceAdd, Nat.reduceSub, Int.reduceToNat, bg, bf, cO, bq, bn, *] <;> with_reducible exact rfl))
   all_goals try (first | assumption | omega)
   ·refine ⟨⟨by (try simp only [List.length_append, List.length_cons, List.length_nil] at *); omega, ?_⟩, ?_, ?_, ?_, ?_⟩
    ·first | exact hL | exact aG hL dH | exact aG hL iw | exact aG (L := []) (by simp) dH | exact aG (L := []) (by simp) iw | (simp; done)
    ·first | exact ⟨by dsimp only; omega, hps.2⟩ | exact fD (m := 21) hpl (by omega) hps.2 (by decide)
    all_goals first | (dsimp only; omega) | exact gB (p := okI) (by decide) (by simp only [List.length_cons, List.length_nil]; omega)
  ·(with_reducible apply gK (a := (L, _, _, _, _)) (by first | exact .inl rfl | exact .inr rfl)); (focus (simp (disch := (first | omega | (simp only [push_cast]; first | done | omega))) only [push_cast, ↓reduceIte, Nat.reduceEqDiff, Nat.reduceBEq, Nat.reduceAdd, Nat.reduceSub, Int.reduceToNat, bg, bf, cO, bq, bn, *]; rw [uO (L) (by simp) (by simp)]; (try simp (disch := (first | omega | (simp only [push_cast]; first | done | omega))) only [push_cast, ↓reduceIte, Nat.reduceEqDiff, Nat.reduceBEq, Nat.reduceAdd, Nat.reduceSub, Int.reduceToNat, bg, bf, cO, bq, bn, *]); with_reducible rfl)); (focus (simp (disch := (first | omega | (simp only [push_cast]; first | done | omega))) only [push_cast, ↓reduceIte, Nat.reduceEqDiff, Nat.reduceBEq, Nat.reduceAdd, Nat.reduceSub, Int.reduceToNat, bg, bf, cO, bq, bn, *] <;> with_reducible exact rfl))
   all_goals try (first | assumption | omega)
   ·refine ⟨⟨by (try simp only [List.length_append, List.length_cons, List.length_nil] at *); omega, ?_⟩, ?_, ?_, ?_, ?_⟩
    ·first | exact hL | exact aG hL dH | exact aG hL iw | exact aG (L := []) (by simp) dH | exact aG (L := []) (by simp) iw | (simp; done)
    ·first | exact ⟨by dsimp only; omega, hps.2⟩ | exact fD (m := 21) hpl (by omega) hps.2 (by decide)
    all_goals first | (dsimp only; omega) | exact gB (p := okI) (by decide) (by simp only [List.length_cons, List.length_nil]; omega)
  ·(with_reducible apply gK (a := (L, _, _, _, _)) (by first | exact .inl rfl | exact .inr rfl)); (focus (simp (disch := (first | omega | (simp only [push_cast]; first | done | omega))) only [push_cast, ↓reduceIte, Nat.reduceEqDiff, Nat.reduceBEq, Nat.reduceAdd, Nat.reduceSub, Int.reduceToNat, bg, bf, cO, bq, bn, *]; rw [uO (L) (by simp) (by simp)]; (try simp (disch := (first | omega | (simp only [push_cast]; first | done | omega))) only [push_cast, ↓reduceIte, Nat.reduceEqDiff, Nat.reduceBEq, Nat.reduceAdd, Nat.reduceSub, Int.reduceToNat, bg, bf, cO, bq, bn, *]); with_reducible rfl)); (focus (simp (disch := (first | omega | (simp only [push_cast]; first | done | omega))) only [push_cast, ↓reduceIte, Nat.reduceEqDiff, Nat.reduceBEq, Nat.reduceAdd, Nat.reduceSub, Int.reduceToNat, bg, bf, cO, bq, bn, *] <;> with_reducible exact rfl))
   all_goals try (first | assumption | omega)
   ·refine ⟨⟨by (try simp only [List.length_append, List.length_cons, List.length_nil] at *); omega, ?_⟩, ?_, ?_, ?_, ?_⟩
    ·first | exact hL | exact aG hL dH | exact aG hL iw | exact aG (L := []) (by simp) dH | exact aG (L := []) (by simp) iw | (simp; done)
    ·first | exact ⟨by dsimp only; omega, hps.2⟩ | exact fD (m := 21) hpl (by omega) hps.2 (by decide)
    all_goals first | (dsimp only; omega) | exact gB (p := okI) (by decide) (by simp only [List.length_cons, List.length_nil]; omega)
  ·(with_reducible apply gK (a := (L, _, _, _, _)) (by first | exact .inl rfl | exact .inr rfl)); (focus (simp (disch := (first | omega | (simp only [push_cast]; first | done | omega))) only [push_cast, ↓reduceIte, Nat.reduceEqDiff, Nat.reduceBEq, Nat.reduceAdd, Nat.reduceSub, Int.reduceToNat, bg, bf, cO, bq, bn, *]; rw [uO (L) (by simp) (by simp)]; (try simp (disch := (first | omega | (simp only [push_cast]; first | done | omega))) only [push_cast, ↓reduceIte, Nat.reduceEqDiff, Nat.reduceBEq, Nat.reduceAdd, Nat.reduceSub, Int.reduceToNat, bg, bf, cO, bq, bn, *]); with_reducible rfl)); (focus (simp (disch := (first | omega | (simp only [push_cast]; first | done | omega))) only [push_cast, ↓reduceIte, Nat.reduceEqDiff, Nat.reduceBEq, Nat.reduceAdd, Nat.reduceSub, Int.reduceToNat, bg, bf, cO, bq, bn, *] <;> with_reducible exact rfl))
   all_goals try (first | assumption | omega)
   ·refine ⟨⟨by (try simp only [List.length_append, List.length_cons, List.length_nil] at *); omega, ?_⟩, ?_, ?_, ?_, ?_⟩
    ·first | exact hL | exact aG hL dH | exact aG hL iw | exact aG (L := []) (by simp) dH | exact aG (L := []) (by simp) iw | (simp; done)
    ·first | exact ⟨by dsimp only; omega, hps.2⟩ | exact fD (m := 21) hpl (by omega) hps.2 (by decide)
    all_goals first | (dsimp only; omega) | exact gB (p := okI) (by decide) (by simp only [List.length_cons, List.length_nil]; omega)
  ·(with_reducible apply gK (a := (L, _, _, _, _)) (by first | exact .inl rfl | exact .inr rfl)); (focus (simp (disch := (first | omega | (simp only [push_cast]; first | done | omega))) only [push_cast, ↓reduceIte, Nat.reduceEqDiff, Nat.reduceBEq, Nat.reduceAdd, Nat.reduceSub, Int.reduceToNat, bg, bf, cO, bq, bn, *]; rw [uO (L) (by simp) (by simp)]; (try simp (disch := (first | omega | (simp only [push_cast]; first | done | omega))) only [push_cast, ↓reduceIte, Nat.reduceEqDiff, Nat.reduceBEq, Nat.reduceAdd, Nat.reduceSub, Int.reduceToNat, bg, bf, cO, bq, bn, *]); with_reducible rfl)); (focus (simp (disch := (first | omega | (simp only [push_cast]; first | done | omega))) only [push_cast, ↓reduceIte, Nat.reduceEqDiff, Nat.reduceBEq, Nat.reduceAdd, Nat.reduceSub, Int.reduceToNat, bg, bf, cO, bq, bn, *] <;> with_reducible exact rfl))
   all_goals try (first | assumption | omega)
   ·refine ⟨⟨by (try simp only [List.length_append, List.length_cons, List.length_nil] at *); omega, ?_⟩, ?_, ?_, ?_, ?_⟩
    ·first | exact hL | exact aG hL dH | exact aG hL iw | exact aG (L := []) (by simp) dH | exact aG (L := []) (by simp) iw | (simp; done)
    ·first | exact ⟨by dsimp only; omega, hps.2⟩ | exact fD (m := 21) hpl (by omega) hps.2 (by decide)
    all_goals first | (dsimp only; omega) | exact gB (p := okI) (by decide) (by simp only [List.length_cons, List.length_nil]; omega)
  ·(with_reducible apply gK (a := (L, _, _, _, _)) (by first | exact .inl rfl | exact .inr rfl)); (focus (simp (disch := (first | omega | (simp only [push_cast]; first | done | omega))) only [push_cast, ↓reduceIte, Nat.reduceEqDiff, Nat.reduceBEq, Nat.reduceAdd, Nat.reduceSub, Int.reduceToNat, bg, bf, cO, bq, bn, *]; rw [uO (L) (by simp) (by simp)]; (try simp (disch := (first | omega | (simp only [push_cast]; first | done | omega))) only [push_cast, ↓reduceIte, Nat.reduceEqDiff, Nat.reduceBEq, Nat.reduceAdd, Nat.reduceSub, Int.reduceToNat, bg, bf, cO, bq, bn, *]); with_reducible rfl)); (focus (simp (disch := (first | omega | (simp only [push_cast]; first | done | omega))) only [push_cast, ↓reduceIte, Nat.reduceEqDiff, Nat.reduceBEq, Nat.reduceAdd, Nat.reduceSub, Int.reduceToNat, bg, bf, cO, bq, bn, *] <;> with_reducible exact rfl))
   all_goals try (first | assumption | omega)
   ·refine ⟨⟨by (try simp only [List.length_append, List.length_cons, List.length_nil] at *); omega, ?_⟩, ?_, ?_, ?_, ?_⟩
    ·first | exact hL | exact aG hL dH | exact aG hL iw | exact aG (L := []) (by simp) dH | exact aG (L := []) (by simp) iw | (simp; done)
    ·first | exact ⟨by dsimp only; omega, hps.2⟩ | exact fD (m := 21) hpl (by omega) hps.2 (by decide)
    all_goals first | (dsimp only; omega) | exact gB (p := okI) (by decide) (by simp only [List.length_cons, List.length_nil]; omega)
end Go.Proofs.YtngcedklbinhjaaGreatDoor
namespace Go.Proofs.YtngcedklbinhjaaGreatDoor
open Go.RowKit
set_option linter.all false
theorem ahm {nm : Nat → Option Nat} {f sz : Nat} {k : Bool} {L : List LS} : dJ nm (f + 4) (.lst k sz (lsE L)) = some (.lst k sz (lsE L)) := by
 show ((lsE L).mapM (dJ nm (f + 3))).map (PV.lst k sz) = _
 rw [jg fun p => kr]
 rfl
theorem aoP {nm : Nat → Option Nat} {f : Nat} {L : List LS} : dJ nm (f + 4) (pE L) = some (pE L) := by
 cases L with
 | nil => rfl
 | cons a L => exact ahm
attribute [push_cast]
 ahm aoP
noncomputable def adD : fG := Classical.choose abw
theorem an8 : dM Tryz.prog 35 adD := (Classical.choose_spec abw).1
theorem xA : adL 84 adD 500000000 2000 EBk (fun n => 0 ≤ n ∧ n ≤ 1000) (fun _ b => alA b) := (Classical.choose_spec abw).2
theorem agz {n : Nat} {l : LS} (h : okT n l) (hn : n ≤ 1000) : qF l := by
 refine ⟨by have := h.1; omega, fun i => ?_⟩
 by_cases hi : i < l.length
 ·have := h.2 l[i] (List.getElem_mem hi)
  simp only [List.getElem?_eq_getElem hi, Option.getD_some]
  omega
 ·rw [List.getElem?_eq_none (by omega)]
  simp
theorem asw {L : List LS} {ps : LS} (h1 : L.length ≤ 6) (h2 : ∀ l ∈ L, okT 13 l) (h3 : okT 22 ps) : amU L ps := by
 refine ⟨by omega, fun i => ?_, agz h3 (by omega)⟩
 by_cases hi : i < L.length
 ·simp only [List.getElem?_eq_getElem hi, Option.getD_some]
  exact agz (h2 L[i] (List.getElem_mem hi)) (by omega)
 ·rw [List.getElem?_eq_none (by omega)]
  exact ⟨by simp, by simp⟩
abbrev lsF (L : List LS) : List PV := L.map fun p => .lst false 1 (p.map fun s => .val (.string s))
theorem arj {ob : aF} {f m : Nat} {L : List LS} {x : PV} : (lsE L ++ [x]).mapM (reify false m ob (f + 2)) = (reify false m ob (f + 2) x).map fun y => lsF L ++ [y] := by
 rw [List.mapM_append, jg fun p => wo, mapM_cons', mapM_nil']
 cases reify false m ob (f + 2) x <;> rfl
attribute [push_cast]
 arj
end Go.Proofs.YtngcedklbinhjaaGreatDoor
namespace Go.Proofs.YtngcedklbinhjaaGreatDoor
open Go.RowKit
set_option linter.all false
def aod : Fun := F2 dSs dSs fun a b => if a.length ≤ 1048576 ∧ b.length ≤ 1048576 then some (bv (decide (a = b))) else none
theorem xW {a b : LS} (h : a.length ≤ 1048576) (h2 : b.length ≤ 1048576) : aod [.lst false 1 (a.map fun s => .val (.string s)), .lst false 1 (b.map fun s => .val (.string s))] = some (.val (.bool (decide (a = b)))) :=
 (kX (A := dSs) (B := dSs) a b).trans (if_pos ⟨h, h2⟩)
set_option maxHeartbeats 4000000 in
theorem ayr : Sound Tryz.prog 8 aod := by
 refine ay mixed jQ Tryz.func8 rfl 26 rfl [.tmp 4] rfl (by kernel_rfl) fun ps r hr => ?_
 obtain ⟨xs, ys, rfl, hq⟩ := dA hr
 clear hr
 split at hq
 case isFalse => cases hq
 case isTrue hpre =>
 cases hq
 refine ⟨by simp, ?_⟩
 simp only [dIs, dUs, dSs, eX, fq, eT, fE, bS, fA, bO, bP, bR, bQ]
 obtain ⟨hl1, hl2⟩ := hpre
 repeat' (first | (with_reducible first | apply bF | apply av | apply aO | apply aJ | apply bC | apply dY | apply bA | apply bH | apply d9 | apply bE | apply bJ | apply dX | apply bI | apply bG | apply bD) | ((with_reducible apply au); (simp only [List.map_cons, List.map_nil] <;> exact rfl)) | ((with_reducible apply aI); (simp only [List.map_cons, List.map_nil] <;> exact rfl); decide +kernel) | ((with_reducible apply bB); rfl) | ((first | ((with_reducible apply i_V); rfl; rfl; rfl) | ((first | ((with_reducible apply i_E); rfl) | ((with_reducible apply i_S); rfl)); first | rfl | (simp only [push_cast, ↓reduceIte])) | ((with_reducible apply dW); rfl; rfl) | ((with_reducible apply dZ); rfl; rfl; rfl) | (with_reducible first | apply dV | apply aL)); (simp (disch := (first | omega | (simp only [push_cast]; first | done | omega))) only [push_cast, ↓reduceIte, Nat.reduceEqDiff, Nat.reduceBEq, Nat.reduceAdd, Nat.reduceSub, Int.reduceToNat, *] <;> with_reducible exact rfl); all_goals try (first | (with_reducible first | refine hyT ?_ | refine hyF ?_ | exact hyA | exact hyB) | (intro hX; first | (cases hX; done) | ((try simp only [decide_eq_true_eq, decide_eq_false_iff_not, Bool.not_eq_true', Bool.not_eq_false'] at hX); (try have hXb := aj.1 hX))))))
 ·((first | apply dw | apply bK); simp (disch := (first | omega | (simp only [push_cast]; first | done | omega))) only [push_cast, ↓reduceIte, Nat.reduceEqDiff, Nat.reduceBEq, Nat.reduceAdd, Nat.reduceSub, Int.reduceToNat, *])
  have : ¬ xs = ys := fun h => by subst h; simp_all
  simp [this]
 refine aT (α := Nat) mixed (fun k => [(0, .lst false 1 (xs.map fun s => .val (.string s))), (1, .lst false 1 (ys.map fun s => .val (.string s))), (5, iv k)]) (fun k => []) (fun _ => 0)
  (fun k => k ≤ xs.length ∧ ∀ j, j < k → xs[j]?.getD .empty = ys[j]?.getD .empty) (fun k => xs.length - k) (by kernel_rfl) 0 ⟨Nat.zero_le _, fun j hj => by omega⟩ ?_ trivial rfl ?_
 ·simp only [push_cast, ↓reduceIte, Nat.reduceEqDiff, Nat.reduceBEq, Nat.reduceAdd, Nat.reduceSub, Int.reduceToNat]
 ·intro k ⟨hk, hok⟩
  repeat' (first | (with_reducible first | apply bF | apply av | apply aO | apply aJ | apply bC | apply dY | apply bA | apply bH | apply d9 | apply bE | apply bJ | apply dX | apply bI | apply bG | apply bD) | ((with_reducible apply au); (simp only [List.map_cons, List.map_nil] <;> exact rfl)) | ((with_reducible apply aI); (simp only [List.map_cons, List.map_nil] <;> exact rfl); decide +kernel) | ((with_reducible apply bB); rfl) | ((first | ((with_reducible apply i_V); rfl; rfl; rfl) | ((first | ((with_reducible apply i_E); rfl) | ((with_reducible apply i_S); rfl)); first | rfl | (simp only [push_cast, ↓reduceIte])) | ((with_reducible apply dW); rfl; rfl) | ((with_reducible apply dZ); rfl; rfl; rfl) | (with_reducible first | apply dV | apply aL)); (simp (disch := (first | omega | (simp only [push_cast]; first | done | omega))) only [push_cast, ↓reduceIte, Nat.reduceEqDiff, Nat.reduceBEq, Nat.reduceAdd, Nat.reduceSub, Int.reduceToNat, *] <;> with_reducible exact rfl); all_goals try (first | (with_reducible first | refine hyT ?_ | refine hyF ?_ | exact hyA | exact hyB) | (intro hX; first | (cases hX; done) | ((try simp only [decide_eq_true_eq, decide_eq_false_iff_not, Bool.not_eq_true', Bool.not_eq_false'] at hX); (try have hXb := aj.1 hX))))))
  all_goals try ((first | apply dw | apply bK); simp (disch := (first | omega | (simp only [push_cast]; first | done | omega))) only [push_cast, ↓reduceIte, Nat.reduceEqDiff, Nat.reduceBEq, Nat.reduceAdd, Nat.reduceSub, Int.reduceToNat, *])
  ·have : ¬ xs = ys := fun h => by subst h; simp_all
   simp [this]
  ·refine ⟨k + 1, ⟨by omega, fun j hj => ?_⟩, by dsimp only; omega, by simp only [push_cast, ↓reduceIte, Nat.reduceEqDiff, Nat.reduceBEq, Nat.reduceAdd, Nat.reduceSub, Int.reduceToNat], trivial, rfl⟩
   by_cases h1 : j < k
   ·exact hok j h1
   ·have : j = k := by omega
    subst this
    assumption
  ·have : xs = ys := uY (d := .empty) (by omega) fun j hj => hok j (by omega)
   simp [this]
end Go.Proofs.YtngcedklbinhjaaGreatDoor
namespace Go.Proofs.YtngcedklbinhjaaGreatDoor
open Go.RowKit
set_option linter.all false
noncomputable def asF : Ctx := { fn := fun f => none, io := fun f => if f = 18 then some wh else if f = 35 then some adD else none }
theorem asT : aA Tryz.prog asF := ⟨(fun f φ h => by
 unfold asF at h
 dsimp only at h
 cases h), (fun f φ h => by
 unfold asF at h
 dsimp only at h
 split at h
 ·rename_i hf; cases h; subst hf; exact ⟨⟨_, Tryz.func18, rfl, rfl⟩, apY⟩
 split at h
 ·rename_i hf; cases h; subst hf; exact ⟨⟨_, Tryz.func35, rfl, rfl⟩, an8⟩
 cases h), rfl⟩
theorem aqx : asF.io 18 = some wh := by simp [asF]
theorem apN : asF.io 35 = some adD := by simp [asF]
theorem uQ : ∃ φ : Fun, Sound Tryz.prog 13 φ ∧ aBO φ EBk alA := by
 refine aqH mixed asT Tryz.func13 rfl 6 rfl [.cell 2 40] rfl (by kernel_rfl) (by simp) _ _ fun code hbyte hlen => ?_
 have hok := aiN hbyte
 have apo := @ajg
 have gdbl_c18 := aqx; have gdbl_c35 := apN
 repeat' (first | (first | (with_reducible first | apply bF | apply av | apply aO | apply aJ | apply bC | apply dY | apply bA | apply bH | apply d9 | apply bE | apply bJ | apply dX | apply bI | apply bG | apply bD) | ((with_reducible apply au); (simp only [List.map_cons, List.map_nil] <;> exact rfl)) | ((with_reducible apply aI); (simp only [List.map_cons, List.map_nil] <;> exact rfl); decide +kernel) | ((with_reducible apply bB); rfl) | ((first | ((with_reducible apply i_V); rfl; rfl; rfl) | ((first | ((with_reducible apply i_E); rfl) | ((with_reducible apply i_S); rfl)); first | rfl | (simp only [push_cast, ↓reduceIte])) | ((with_reducible apply dW); rfl; rfl) | ((with_reducible apply dZ); rfl; rfl; rfl) | (with_reducible first | apply dV | apply aL)); (simp (disch := (first | omega | (simp only [push_cast]; first | done | omega))) only [push_cast, ↓reduceIte, Nat.reduceEqDiff, Nat.reduceBEq, Nat.reduceAdd, Nat.reduceSub, Int.reduceToNat, *] <;> with_reducible exact rfl); all_goals try (first | (with_reducible first | refine hyT ?_ | refine hyF ?_ | exact hyA | exact hyB) | (intro hX; first | (cases hX; done) | ((try simp only [decide_eq_true_eq, decide_eq_false_iff_not, Bool.not_eq_true', Bool.not_eq_false'] at hX); (try have hXb := aj.1 hX)))))) | ((with_reducible apply dG xA (fun _ _ => by simp only [push_cast, ↓reduceIte, Nat.reduceEqDiff, Nat.reduceBEq, Nat.reduceAdd, Nat.reduceSub, Int.reduceToNat])); (focus rfl); (focus (simp (disch := (first | omega | (simp only [push_cast]; first | done | omega))) only [push_cast, ↓reduceIte, Nat.reduceEqDiff, Nat.reduceBEq, Nat.reduceAdd, Nat.reduceSub, Int.reduceToNat, *] <;> with_reducible exact rfl)); (focus (simp (disch := (first | omega | (simp only [push_cast]; first | done | omega))) only [push_cast, ↓reduceIte, Nat.reduceEqDiff, Nat.reduceBEq, Nat.reduceAdd, Nat.reduceSub, Int.reduceToNat, *] <;> with_reducible exact rfl)); (focus (simp (disch := (first | omega | (simp only [push_cast]; first | done | omega))) only [push_cast, ↓reduceIte, Nat.reduceEqDiff, Nat.reduceBEq, Nat.reduceAdd, Nat.reduceSub, Int.reduceToNat, *] <;> with_reducible exact rfl)); (focus assumption); (focus omega); (focus (first | trivial | omega)); (focus (first | rfl | (simp only [push_cast, ↓reduceIte]))); intro v pp hv hok hpp1 hpp2))
 obtain ⟨L, ps, wd, mo, li⟩ := v
 by_cases h0 : L.length = 0
 ·obtain rfl : L = [] := List.eq_nil_of_length_eq_zero h0
  clear h0
  repeat' (first | (first | (with_reducible first | apply bF | apply av | apply aO | apply aJ | apply bC | apply dY | apply bA | apply bH | apply d9 | apply bE | apply bJ | apply dX | apply bI | apply bG | apply bD) | ((with_reducible apply au); (simp only [List.map_cons, List.map_nil] <;> exact rfl)) | ((with_reducible apply aI); (simp only [List.map_cons, List.map_nil] <;> exact rfl); decide +kernel) | ((with_reducible apply bB); rfl) | ((first | ((with_reducible apply i_V); rfl; rfl; rfl) | ((first | ((with_reducible apply i_E); rfl) | ((with_reducible apply i_S); rfl)); first | rfl | (simp only [push_cast, ↓reduceIte])) | ((with_reducible apply dW); rfl; rfl) | ((with_reducible apply dZ); rfl; rfl; rfl) | (with_reducible first | apply dV | apply aL)); (simp (disch := (first | omega | (simp only [push_cast]; first | done | omega))) only [push_cast, ↓reduceIte, Nat.reduceEqDiff, Nat.reduceBEq, Nat.reduceAdd, Nat.reduceSub, Int.reduceToNat, *] <;> with_reducible exact rfl); all_goals try (first | (with_reducible first | refine hyT ?_ | refine hyF ?_ | exact hyA | exact hyB) | (intro hX; first | (cases hX; done) | ((try simp only [decide_eq_true_eq, decide_eq_false_iff_not, Bool.not_eq_true', Bool.not_eq_false'] at hX); (try have hXb := aj.1 hX)))))) | ((with_reducible apply dG xA (fun _ _ => by simp only [push_cast, ↓reduceIte, Nat.reduceEqDiff, Nat.reduceBEq, Nat.reduceAdd, Nat.reduceSub, Int.reduceToNat])); (focus rfl); (focus (simp (disch := (first | omega | (simp only [push_cast]; first | done | omega))) only [push_cast, ↓reduceIte, Nat.reduceEqDiff, Nat.reduceBEq, Nat.reduceAdd, Nat.reduceSub, Int.reduceToNat, *] <;> with_reducible exact rfl)); (focus (simp (disch := (first | omega | (simp only [push_cast]; first | done | omega))) only [push_cast, ↓reduceIte, Nat.reduceEqDiff, Nat.reduceBEq, Nat.reduceAdd, Nat.reduceSub, Int.reduceToNat, *] <;> with_reducible exact rfl)); (focus (simp (disch := (first | omega | (simp only [push_cast]; first | done | omega))) only [push_cast, ↓reduceIte, Nat.reduceEqDiff, Nat.reduceBEq, Nat.reduceAdd, Nat.reduceSub, Int.reduceToNat, *] <;> with_reducible exact rfl)); (focus assumption); (focus omega); (focus (first | trivial | omega)); (focus (first | rfl | (simp only [push_cast, ↓reduceIte]))); intro v pp hv hok hpp1 hpp2))
  (with_reducible apply anN (a := (([] : List LS), _, _, _, _)) (by first | exact .inl rfl | exact .inr rfl)); (focus (simp (disch := (first | omega | (simp only [push_cast]; first | done | omega))) only [push_cast, ↓reduceIte, Nat.reduceEqDiff, Nat.reduceBEq, Nat.reduceAdd, Nat.reduceSub, Int.reduceToNat, bg, bf, cO, bq, bn, *] <;> with_reducible exact rfl))
  exact hv
 ·repeat' (first | (first | (with_reducible first | apply bF | apply av | apply aO | apply aJ | apply bC | apply dY | apply bA | apply bH | apply d9 | apply bE | apply bJ | apply dX | apply bI | apply bG | apply bD) | ((with_reducible apply au); (simp only [List.map_cons, List.map_nil] <;> exact rfl)) | ((with_reducible apply aI); (simp only [List.map_cons, List.map_nil] <;> exact rfl); decide +kernel) | ((with_reducible apply bB); rfl) | ((first | ((with_reducible apply i_V); rfl; rfl; rfl) | ((first | ((with_reducible apply i_E); rfl) | ((with_reducible apply i_S); rfl)); first | rfl | (simp only [push_cast, ↓reduceIte])) | ((with_reducible apply dW); rfl; rfl) | ((with_reducible apply dZ); rfl; rfl; rfl) | (with_reducible first | apply dV | apply aL)); (simp (disch := (first | omega | (simp only [push_cast]; first | done | omega))) only [push_cast, ↓reduceIte, Nat.reduceEqDiff, Nat.reduceBEq, Nat.reduceAdd, Nat.reduceSub, Int.reduceToNat, *] <;> with_reducible exact rfl); all_goals try (first | (with_reducible first | refine hyT ?_ | refine hyF ?_ | exact hyA | exact hyB) | (intro hX; first | (cases hX; done) | ((try simp only [decide_eq_true_eq, decide_eq_false_iff_not, Bool.not_eq_true', Bool.not_eq_false'] at hX); (try have hXb := aj.1 hX)))))) | ((with_reducible apply dG xA (fun _ _ => by simp only [push_cast, ↓reduceIte, Nat.reduceEqDiff, Nat.reduceBEq, Nat.reduceAdd, Nat.reduceSub, Int.reduceToNat])); (focus rfl); (focus (simp (disch := (first | omega | (simp only [push_cast]; first | done | omega))) only [push_cast, ↓reduceIte, Nat.reduceEqDiff, Nat.reduceBEq, Nat.reduceAdd, Nat.reduceSub, Int.reduceToNat, *] <;> with_reducible exact rfl)); (focus (simp (disch := (first | omega | (simp only [push_cast]; first | done | omega))) only [push_cast, ↓reduceIte, Nat.reduceEqDiff, Nat.reduceBEq, Nat.reduceAdd, Nat.reduceSub, Int.reduceToNat, *] <;> with_reducible exact rfl)); (focus (simp (disch := (first | omega | (simp only [push_cast]; first | done | omega))) only [push_cast, ↓reduceIte, Nat.reduceEqDiff, Nat.reduceBEq, Nat.reduceAdd, Nat.reduceSub, Int.reduceToNat, *] <;> with_reducible exact rfl)); (focus assumption); (focus omega); (focus (first | trivial | omega)); (focus (first | rfl | (simp only [push_cast, ↓reduceIte]))); intro v pp hv hok hpp1 hpp2))
  (with_reducible apply anN (a := (L, _, _, _, _)) (by first | exact .inl rfl | exact .inr rfl)); (focus (simp (disch := (first | omega | (simp only [push_cast]; first | done | omega))) only [push_cast, ↓reduceIte, Nat.reduceEqDiff, Nat.reduceBEq, Nat.reduceAdd, Nat.reduceSub, Int.reduceToNat, bg, bf, cO, bq, bn, *] <;> with_reducible exact rfl))
  exact hv
noncomputable def oP : Fun := Classical.choose uQ
theorem ah5 : Sound Tryz.prog 13 oP := (Classical.choose_spec uQ).1
theorem afq : aBO oP EBk alA := (Classical.choose_spec uQ).2
theorem aki {p : List LS} {q : LS} {x y z : Int} (h : (blL p q x y z).length = 0) : blC p q x y z = [] ∧ (blB p q x y z = true → p = []) := by
 unfold blL at h
 unfold blC
 split at h
 ·rename_i hB
  have hp : p.length = 0 := by
   rcases Nat.eq_zero_or_pos p.length with h0 | h0
   ·exact h0
   ·have hall : (p.all fun w => lC w q x y) = true := by unfold blB at hB; rw [Bool.and_eq_true] at hB; exact hB.2
    have := ajS (q := q) (x := x) (y := y) (p := p) (k := p.length) (fun j hj => by
     rw [List.getElem?_eq_getElem hj, Option.getD_some]
     exact List.all_eq_true.1 hall _ (List.getElem_mem hj)) h0
    omega
  rw [if_pos hB, List.eq_nil_of_length_eq_zero hp]
  exact ⟨rfl, fun _ => rfl⟩
 ·rename_i hB
  rw [if_neg hB]
  exact ⟨rfl, fun h => absurd h hB⟩
theorem anY {p : List LS} {q : LS} {x y z : Int} (h : blB p q x y z = true) {k : Nat} (hk : k < p.length) : lC (p[k]?.getD []) q x y = true := by
 unfold blB at h
 rw [Bool.and_eq_true] at h
 rw [List.getElem?_eq_getElem hk, Option.getD_some]
 exact List.all_eq_true.1 h.2 _ (List.getElem_mem hk)
theorem avz (c d : aV) : (fun o => [c, d][o]?) = lo [(0, c), (1, d)] := by
 funext o
 match o with
 | 0 => rfl
 | 1 => rfl
 | o + 2 => simp [lo, List.lookup]
noncomputable def amQ : Fun := aaP ΨBl
theorem aiU {p : List LS} {q : LS} {x y z : Int} (h : amU p q) (h0 : 0 < (blL p q x y z).length) : amQ [.agg [.lst false 1 (p.map fun p => .lst false 1 (p.map fun s => .val (.string s))), .lst false 1 (q.map fun s => .val (.string s)), .val (.int .i64 x), .val (.int .i64 y), .val (.int .i64 z)]] = some (.tup [.lst true 1 ((blL p q x y z).map fun s => .val (.string s)), .lst true 1 ((blC p q x y z).map fun n => .val (.int .i64 n)), .val (.bool (blB p q x y z))]) := by
 refine ku (r := .tup [.row 0 1 0 (blL p q x y z).length, .row 1 1 0 (blC p q x y z).length, .val (.bool (blB p q x y z))]) (cs0 := [(9, 1, (blL p q x y z).map fun s => .val (.string s)), (3, 1, (blC p q x y z).map fun n => .val (.int .i64 n))]) ((ak6 (A := acJ) (p, q, x, y, z)).trans ((if_pos h).trans (by dsimp only; rw [if_pos h0]))) ?_
 generalize blL p q x y z = A
 generalize blC p q x y z = B
 rw [avz]
 (simp (disch := (first | omega | (simp only [push_cast]; first | done | omega))) only [push_cast, ↓reduceIte, Nat.reduceEqDiff, Nat.reduceBEq, Nat.reduceAdd, Nat.reduceSub, Int.reduceToNat, *] <;> with_reducible exact rfl)
theorem amz {p : List LS} {q : LS} {x y z : Int} (h : amU p q) (h0 : (blL p q x y z).length = 0) : amQ [.agg [.lst false 1 (p.map fun p => .lst false 1 (p.map fun s => .val (.string s))), .lst false 1 (q.map fun s => .val (.string s)), .val (.int .i64 x), .val (.int .i64 y), .val (.int .i64 z)]] = some (.tup [.val (.slice none 0 0), .val (.slice none 0 0), .val (.bool (blB p q x y z))]) :=
 ku (r := .tup [.val (.slice none 0 0), .val (.slice none 0 0), .val (.bool (blB p q x y z))]) (cs0 := []) ((ak6 (A := acJ) (p, q, x, y, z)).trans ((if_pos h).trans (by dsimp only; rw [if_neg (by omega)]))) rfl
theorem agZ : Sound Tryz.prog 14 amQ := asY.pure
noncomputable def vI : Fun := atn 1 amQ
noncomputable def wR : Fun := atn 1 φBl
noncomputable def wQ : Fun := atp 1 aod
noncomputable def aaj : Fun := atp 1 abX
theorem zV {a b : LS} (h : a.length ≤ 1048576) (h2 : b.length ≤ 1048576) : wQ [.lst false 1 (a.map fun s => .val (.string s)), .lst false 1 (b.map fun s => .val (.string s))] = some (.val (.bool (decide (a = b)))) := xW h h2
theorem aez : wQ [.val (.slice none 0 0), .lst false 1 []] = some (.val (.bool true)) := xW (a := []) (b := []) (by simp) (by simp)
theorem acn : wQ [.lst false 1 [], .val (.slice none 0 0)] = some (.val (.bool true)) := xW (a := []) (b := []) (by simp) (by simp)
theorem agx {a b : List Int} (h : a.length ≤ 1048576) (h2 : b.length ≤ 1048576) : aaj [.lst false 1 (a.map fun n => .val (.int .i64 n)), .lst false 1 (b.map fun n => .val (.int .i64 n))] = some (.val (.bool (decide (a = b)))) := wH h h2
theorem ae4 : aaj [.val (.slice none 0 0), .lst false 1 []] = some (.val (.bool true)) := wH (a := []) (b := []) (by simp) (by simp)
theorem ase {p : List LS} {q : LS} {x y z : Int} (h : p.length ≤ 6) : (blL p q x y z).length ≤ 360 ∧ (blC p q x y z).length ≤ 6 := by
 unfold blL blC
 split
 ·have := xD p q x y p.length
  rw [og]
  omega
 ·simp
end Go.Proofs.YtngcedklbinhjaaGreatDoor
