/- LabelPages, SettleLabels, LabelsRight, of the program and of the reference. -/
import Derived.Test.YtghhlakfbgcmkaaDoorPxLabI
import Derived.Test.YtghhlakfbgcmkaaDoorPxIoX
namespace Go.Proofs.YtghhlakfbgcmkaaDoor
open Go.RowKit
set_option linter.all false
theorem labSet_rng {out : List Int} {i : Nat} {v c : Int} (h : ∀ n ∈ out, 0 ≤ n ∧ n ≤ c) (hv : 0 ≤ v ∧ v ≤ c) : ∀ n ∈ out.set i v, 0 ≤ n ∧ n ≤ c := fun n hn => by
  rcases List.mem_or_eq_of_mem_set hn with hn | rfl
  · exact h n hn
  · exact hv
theorem labRun_rng {l : List I3} {many : Int} {kn : List Int} (h : piecesB l = true) (hm : 1 ≤ many) : ∀ k, k ≤ l.length → ∀ n ∈ (labRun (l.take k) many kn).1, 0 ≤ n ∧ n ≤ 1 + 34 * k
  | 0, _ => by
    rw [labRun_zero]
    intro n hn
    have := (List.mem_replicate.1 hn).2
    omega
  | k + 1, hk => by
    have ih := labRun_rng (kn := kn) h hm k (by omega)
    obtain ⟨f1, f2, f3⟩ := labRun_facts (many := many) (kn := kn) h k (by omega)
    rw [labRun_succ (by omega)]
    have hd1 : 0 ≤ (labRun (l.take k) many kn).2 / many := Int.ediv_nonneg f2 (by omega)
    have hd2 : (labRun (l.take k) many kn).2 / many ≤ (labRun (l.take k) many kn).2 := Int.ediv_le_self _ f2
    unfold labStep
    dsimp only
    split
    · exact labSet_rng (fun n hn => by have := ih n hn; omega) (by omega)
    · intro n hn
      have := ih n hn
      omega
theorem labOk_iff {l : List I3} {many : Int} {kn : List Int} : labOk l many kn = true ↔ piecesB l = true ∧ (1 ≤ many ∧ many ≤ 30) ∧ kn.length = 10 ∧ ∀ n ∈ kn, 0 ≤ n ∧ n ≤ 1000 := by
  unfold labOk
  simp only [Bool.and_eq_true, decide_eq_true_eq, List.all_eq_true]
  constructor
  · rintro ⟨h1, h2, h3, h4⟩
    exact ⟨h2, inB_iff.1 h3, h4, fun n hn => inB_iff.1 (h1 n hn)⟩
  · rintro ⟨h2, h3, h4, h1⟩
    exact ⟨fun n hn => inB_iff.2 (h1 n hn), h2, inB_iff.2 h3, h4⟩
theorem labOk_next {l : List I3} {many : Int} {kn : List Int} (h : labOk l many kn = true) : labOk l many (labRun l many kn).1 = true := by
  obtain ⟨h1, h2, h3, h4⟩ := labOk_iff.1 h
  have hl := piecesB_len h1
  have hf := labRun_facts (many := many) (kn := kn) h1 l.length (Nat.le_refl _)
  have hr := labRun_rng (kn := kn) h1 h2.1 l.length (Nat.le_refl _)
  rw [List.take_length] at hf hr
  exact labOk_iff.2 ⟨h1, h2, hf.1, fun n hn => by have := hr n hn; omega⟩
/-- The passes: how many are left, the number of the next one, what is known. -/
noncomputable def setlR (l : List I3) (many : Int) : Nat → Int → List Int → List Int × Int × Bool
  | 0, p, kn => (kn, p - 1, false)
  | n + 1, p, kn => if (labRun l many kn).1 = kn then ((labRun l many kn).1, p, true) else setlR l many n (p + 1) (labRun l many kn).1
def zeros10 : List Int := List.replicate 10 0
noncomputable def setl (l : List I3) (many : Int) : List Int × Int × Bool := if labOk l many zeros10 = true then setlR l many 50 1 zeros10 else ([], 0, false)
noncomputable def labR (l : List I3) (many : Int) (kn : List Int) : Bool := labOk l many kn && decide ((labRun l many kn).1 = kn)
abbrev pvPcs (l : List I3) : PV := .lst false 3 (l.map fun x => .agg [.val (.int .i64 x.1), .val (.int .i64 x.2.1), .val (.int .i64 x.2.2)])
abbrev pvIs (l : List Int) : PV := .lst false 1 (l.map fun n => .val (.int .i64 n))
theorem labP_lift {l : List I3} {many : Int} {kn : List Int} (h : okPcs l) (hO : labOk l many kn = true) : liftN ΨLabP [.lst false 3 (l.map fun x => .agg [.val (.int .i64 x.1), .val (.int .i64 x.2.1), .val (.int .i64 x.2.2)]), .val (.int .i64 many), .lst false 1 (kn.map fun n => .val (.int .i64 n))] [] = some (.row 0 1 0 10, [(3, 1, (labRun l many kn).1.map fun n => .val (.int .i64 n))]) := by
  refine (liftN_of (cs := []) (by rw [mapM_cons', mapM_cons', mapM_cons', mapM_nil', reify_fuel, reify_fuel, reify_fuel]; simp only [push_cast]; rfl) ((G3_ap (A := dPcs) (B := dI) (C := dIs) l many kn).trans (if_pos ⟨h, hO⟩)) rfl (by rw [mapM_cons', mapM_nil', renCT_vals]; rfl)).trans ?_
  rfl
theorem labP_liftO {l : List I3} {many : Int} {kn : List Int} (h : okPcs l) (hO : labOk l many kn = true) : liftN ΨLabP [.lst false 3 (l.map fun x => .agg [.val (.int .i64 x.1), .val (.int .i64 x.2.1), .val (.int .i64 x.2.2)]), .val (.int .i64 many), .row 0 1 0 10] [(3, 1, kn.map fun n => .val (.int .i64 n))] = some (.row 1 1 0 10, [(3, 1, kn.map fun n => .val (.int .i64 n)), (3, 1, (labRun l many kn).1.map fun n => .val (.int .i64 n))]) := by
  have h10 : kn.length = 10 := (labOk_iff.1 hO).2.2.1
  rw [show PV.row 0 1 0 10 = PV.row 0 1 0 kn.length by rw [h10]]
  refine (liftN_of (cs := [(3, 1, kn.map fun n => .val (.int .i64 n))]) (qs := [.lst false 3 (l.map fun x => .agg [.val (.int .i64 x.1), .val (.int .i64 x.2.1), .val (.int .i64 x.2.2)]), .val (.int .i64 many), .lst false 1 (kn.map fun n => .val (.int .i64 n))]) (by
    rw [mapM_cons', mapM_cons', mapM_cons', mapM_nil', reify_row rfl, reify_fuel, reify_fuel]; simp only [push_cast]) ((G3_ap (A := dPcs) (B := dI) (C := dIs) l many kn).trans (if_pos ⟨h, hO⟩)) rfl (by rw [mapM_cons', mapM_nil', renCT_vals]; rfl)).trans ?_
  rfl
noncomputable def ΨLab : FunN := G3 dPcs dI dIs fun l many kn => if okPcs l ∧ kn.length ≤ 1048576 then some (if labOk l many kn = true then (.row 0 1 0 10, [(3, 1, (labRun l many kn).1.map fun n => .val (.int .i64 n))]) else (.val (.slice none 0 0), [])) else none
noncomputable def GLa6 : Ctx := ⟨fun f => if f = 33 then some φLabA else none, fun f => if f = 34 then some (liftN ΨLabP) else none⟩
theorem GLa6_ok : SoundΓ Tryd.prog GLa6 := ⟨(fun f φ h => by
  unfold GLa6 at h
  dsimp only at h
  split at h
  · rename_i hf; cases h; subst hf; exact ⟨⟨_, Tryd.func33, rfl, rfl⟩, labArgs_ok⟩
  cases h), (fun f φ h => by
  unfold GLa6 at h
  dsimp only at h
  split at h
  · rename_i hf; cases h; subst hf; exact ⟨⟨_, Tryd.func34, rfl, rfl⟩, labPagesN.lift⟩
  cases h)⟩
theorem GLa6_33 (ob : Objs) (ps : List PV) : evCall GLa6 ob 33 ps = (ps.mapM (reify false 0 ob fuel)).bind φLabA := by
  have h : GLa6.fn 33 = some φLabA := by simp [GLa6]
  unfold evCall
  rw [h]
  cases ps.mapM (reify false 0 ob fuel) <;> rfl
theorem GLa6_34 : GLa6.io 34 = some (liftN ΨLabP) := by simp [GLa6]
set_option maxHeartbeats 8000000 in
theorem implLabN : SoundN Tryd.prog 14 ΨLab := by
  refine sound_pqN mixed GLa6_ok Tryd.func14 rfl 16 rfl [.tmp 6] rfl (by kernel_rfl) fun ps r cs' hr => ?_
  obtain ⟨l, many, kn, rfl, hq⟩ := G3_some hr
  clear hr
  split at hq
  case isFalse => cases hq
  case isTrue hpre =>
  simp only [Option.some.injEq] at hq
  refine ⟨by simp, ?_⟩
  simp only [dIs, dUs, dSs, dI_e, dU_e, dB_e, dS_e, dFn_e, dL_e, dA2_e, dA3_e, dA4_e, dA5_e]
  obtain ⟨hpc, hkn⟩ := hpre
  have ap1 := φLabA_ap (many := many) hpc hkn
  have ap2 := labP_lift (many := many) (kn := kn) hpc
  clear hpc
  cases hO : labOk l many kn with
  | false =>
    rw [hO, if_neg (by simp)] at hq
    cases hq
    rw [hO] at ap1
    clear ap2 hO
    have gla6_c33 := GLa6_33; have gla6_c34 := GLa6_34
    (repeat' (first | (with_reducible first | apply i_seq | apply i_block | apply i_skip | apply i_exit | apply i_ret | apply i_kS | apply i_kSx | apply i_kSr | apply i_kL | apply i_kLx | apply i_kLr | apply i_kB | apply i_kBr | apply i_kBs | apply i_nil) | ((with_reducible apply i_region); (focus (simp only [List.map_cons, List.map_nil] <;> exact rfl))) | ((with_reducible apply i_draw); (focus (simp only [List.map_cons, List.map_nil] <;> exact rfl)); (focus (decide +kernel))) | ((with_reducible apply i_kBo); (focus rfl)) | ((first | ((with_reducible apply i_V); (focus rfl); (focus rfl); (focus rfl)) | ((with_reducible apply i_E); (focus rfl); (focus (first | rfl | (simp only [push_cast, ↓reduceIte, effOk, touch, refsOf, List.flatMap_cons, List.flatMap_nil])))) | ((with_reducible apply i_S); (focus rfl); (focus (first | rfl | (simp only [push_cast, ↓reduceIte, effOk, touch, refsOf, List.flatMap_cons, List.flatMap_nil])))) | ((with_reducible apply i_Vq); (focus rfl); (focus rfl)) | ((with_reducible apply i_Vp); (focus rfl); (focus rfl); (focus rfl))); (focus (simp (disch := (first | omega | (simp only [push_cast]; done) | (simp only [push_cast]; omega) | ((try simp only [push_cast]); (with_reducible first | apply sel_lt | apply sel_ge); (focus decide); (focus (simp only [push_cast]; omega))))) only [push_cast, ↓reduceIte, Nat.reduceEqDiff, Nat.reduceBEq, Nat.reduceAdd, Nat.reduceSub, Int.reduceToNat, *] <;> with_reducible exact rfl))) | ((with_reducible first | apply i_Gb | apply i_cond); (focus (simp (disch := (first | omega | (simp only [push_cast]; done) | (simp only [push_cast]; omega) | ((try simp only [push_cast]); (with_reducible first | apply sel_lt | apply sel_ge); (focus decide); (focus (simp only [push_cast]; omega))))) only [push_cast, ↓reduceIte, Nat.reduceEqDiff, Nat.reduceBEq, Nat.reduceAdd, Nat.reduceSub, Int.reduceToNat, *] <;> with_reducible exact rfl)); all_goals (intro hX; first | (cases hX; done) | ((with_reducible first | have hX0 : true = true := hX | have hX0 : false = false := hX); clear hX0 hX) | ((try simp only [decide_eq_true_eq, decide_eq_false_iff_not, Bool.not_eq_true', Bool.not_eq_false'] at hX); (try have hXb := inB_iff.1 hX)))))); all_goals try (exfalso; omega)
    all_goals ((with_reducible apply i_endN0 (by first | exact .inl rfl | exact .inr rfl)); (focus (simp (disch := (first | omega | (simp only [push_cast]; done) | (simp only [push_cast]; omega) | ((try simp only [push_cast]); (with_reducible first | apply sel_lt | apply sel_ge); (focus decide); (focus (simp only [push_cast]; omega))))) only [push_cast, ↓reduceIte, Nat.reduceEqDiff, Nat.reduceBEq, Nat.reduceAdd, Nat.reduceSub, Int.reduceToNat, *] <;> with_reducible exact rfl)))
  | true =>
    rw [hO, if_pos rfl] at hq
    cases hq
    rw [hO] at ap1
    replace ap2 := ap2 hO
    clear hO
    have gla6_c33 := GLa6_33; have gla6_c34 := GLa6_34
    (repeat' (first | (with_reducible first | apply i_seq | apply i_block | apply i_skip | apply i_exit | apply i_ret | apply i_kS | apply i_kSx | apply i_kSr | apply i_kL | apply i_kLx | apply i_kLr | apply i_kB | apply i_kBr | apply i_kBs | apply i_nil) | ((with_reducible apply i_region); (focus (simp only [List.map_cons, List.map_nil] <;> exact rfl))) | ((with_reducible apply i_draw); (focus (simp only [List.map_cons, List.map_nil] <;> exact rfl)); (focus (decide +kernel))) | ((with_reducible apply i_kBo); (focus rfl)) | ((first | ((with_reducible apply i_V); (focus rfl); (focus rfl); (focus rfl)) | ((with_reducible apply i_E); (focus rfl); (focus (first | rfl | (simp only [push_cast, ↓reduceIte, effOk, touch, refsOf, List.flatMap_cons, List.flatMap_nil])))) | ((with_reducible apply i_S); (focus rfl); (focus (first | rfl | (simp only [push_cast, ↓reduceIte, effOk, touch, refsOf, List.flatMap_cons, List.flatMap_nil])))) | ((with_reducible apply i_Vq); (focus rfl); (focus rfl)) | ((with_reducible apply i_Vp); (focus rfl); (focus rfl); (focus rfl))); (focus (simp (disch := (first | omega | (simp only [push_cast]; done) | (simp only [push_cast]; omega) | ((try simp only [push_cast]); (with_reducible first | apply sel_lt | apply sel_ge); (focus decide); (focus (simp only [push_cast]; omega))))) only [push_cast, ↓reduceIte, Nat.reduceEqDiff, Nat.reduceBEq, Nat.reduceAdd, Nat.reduceSub, Int.reduceToNat, *] <;> with_reducible exact rfl))) | ((with_reducible first | apply i_Gb | apply i_cond); (focus (simp (disch := (first | omega | (simp only [push_cast]; done) | (simp only [push_cast]; omega) | ((try simp only [push_cast]); (with_reducible first | apply sel_lt | apply sel_ge); (focus decide); (focus (simp only [push_cast]; omega))))) only [push_cast, ↓reduceIte, Nat.reduceEqDiff, Nat.reduceBEq, Nat.reduceAdd, Nat.reduceSub, Int.reduceToNat, *] <;> with_reducible exact rfl)); all_goals (intro hX; first | (cases hX; done) | ((with_reducible first | have hX0 : true = true := hX | have hX0 : false = false := hX); clear hX0 hX) | ((try simp only [decide_eq_true_eq, decide_eq_false_iff_not, Bool.not_eq_true', Bool.not_eq_false'] at hX); (try have hXb := inB_iff.1 hX)))))); all_goals try (exfalso; omega)
    all_goals ((with_reducible apply i_endN1 (0) (by first | exact .inl rfl | exact .inr rfl)); (focus (simp (disch := (first | omega | (simp only [push_cast]; done) | (simp only [push_cast]; omega) | ((try simp only [push_cast]); (with_reducible first | apply sel_lt | apply sel_ge); (focus decide); (focus (simp only [push_cast]; omega))))) only [push_cast, ↓reduceIte, Nat.reduceEqDiff, Nat.reduceBEq, Nat.reduceAdd, Nat.reduceSub, Int.reduceToNat, *] <;> with_reducible exact rfl)); (focus (simp (disch := (first | omega | (simp only [push_cast]; done) | (simp only [push_cast]; omega) | ((try simp only [push_cast]); (with_reducible first | apply sel_lt | apply sel_ge); (focus decide); (focus (simp only [push_cast]; omega))))) only [push_cast, ↓reduceIte, Nat.reduceEqDiff, Nat.reduceBEq, Nat.reduceAdd, Nat.reduceSub, Int.reduceToNat, *] <;> with_reducible exact rfl)))
noncomputable def ΨSetl : FunN := G2 dPcs dI fun l many => if okPcs l then some (if labOk l many zeros10 = true then (.tup [.row 0 1 0 10, .val (.int .i64 (setl l many).2.1), .val (.bool (setl l many).2.2)], [(3, 1, (setl l many).1.map fun n => .val (.int .i64 n))]) else (.tup [.val (.slice none 0 0), .val (.int .i64 0), .val (.bool false)], [])) else none
noncomputable def GLa7 : Ctx := ⟨fun f => if f = 33 then some φLabA else if f = 41 then some φEqual else none, fun f => if f = 34 then some (liftN ΨLabP) else none⟩
theorem GLa7_ok : SoundΓ Tryd.prog GLa7 := ⟨(fun f φ h => by
  unfold GLa7 at h
  dsimp only at h
  split at h
  · rename_i hf; cases h; subst hf; exact ⟨⟨_, Tryd.func33, rfl, rfl⟩, labArgs_ok⟩
  split at h
  · rename_i hf; cases h; subst hf; exact ⟨⟨_, Tryd.func41, rfl, rfl⟩, equalI_ok⟩
  cases h), (fun f φ h => by
  unfold GLa7 at h
  dsimp only at h
  split at h
  · rename_i hf; cases h; subst hf; exact ⟨⟨_, Tryd.func34, rfl, rfl⟩, labPagesN.lift⟩
  cases h)⟩
theorem GLa7_33 (ob : Objs) (ps : List PV) : evCall GLa7 ob 33 ps = (ps.mapM (reify false 0 ob fuel)).bind φLabA := by
  have h : GLa7.fn 33 = some φLabA := by simp [GLa7]
  unfold evCall
  rw [h]
  cases ps.mapM (reify false 0 ob fuel) <;> rfl
theorem GLa7_41 (ob : Objs) (ps : List PV) : evCall GLa7 ob 41 ps = (ps.mapM (reify false 0 ob fuel)).bind φEqual := by
  have h : GLa7.fn 41 = some φEqual := by simp [GLa7]
  unfold evCall
  rw [h]
  cases ps.mapM (reify false 0 ob fuel) <;> rfl
theorem GLa7_34 : GLa7.io 34 = some (liftN ΨLabP) := by simp [GLa7]
set_option maxHeartbeats 8000000 in
theorem implSetlN : SoundN Tryd.prog 24 ΨSetl := by
  refine sound_pqN mixed GLa7_ok Tryd.func24 rfl 31 rfl [.tmp 4, .tmp 5, .tmp 6] rfl (by kernel_rfl) fun ps r cs' hr => ?_
  obtain ⟨l, many, rfl, hq⟩ := G2_some hr
  clear hr
  split at hq
  case isFalse => cases hq
  case isTrue hpc =>
  simp only [Option.some.injEq] at hq
  refine ⟨by simp, ?_⟩
  simp only [dIs, dUs, dSs, dI_e, dU_e, dB_e, dS_e, dFn_e, dL_e, dA2_e, dA3_e, dA4_e, dA5_e]
  have ap1 := φLabA_ap (many := many) (kn := zeros10) hpc (by decide)
  cases hO : labOk l many zeros10 with
  | false =>
    rw [hO, if_neg (by simp)] at hq
    cases hq
    rw [hO] at ap1
    clear hO
    have e10 : List.replicate 10 (PV.val (.int .i64 0)) = zeros10.map fun n => PV.val (.int .i64 n) := rfl
    have e11 : zeros10.length = 10 := rfl
    have gla7_c33 := GLa7_33; have gla7_c34 := GLa7_34; have gla7_c41 := GLa7_41
    (repeat' (first | (with_reducible first | apply i_seq | apply i_block | apply i_skip | apply i_exit | apply i_ret | apply i_kS | apply i_kSx | apply i_kSr | apply i_kL | apply i_kLx | apply i_kLr | apply i_kB | apply i_kBr | apply i_kBs | apply i_nil) | ((with_reducible apply i_region); (focus (simp only [List.map_cons, List.map_nil] <;> exact rfl))) | ((with_reducible apply i_draw); (focus (simp only [List.map_cons, List.map_nil] <;> exact rfl)); (focus (decide +kernel))) | ((with_reducible apply i_kBo); (focus rfl)) | ((first | ((with_reducible apply i_V); (focus rfl); (focus rfl); (focus rfl)) | ((with_reducible apply i_E); (focus rfl); (focus (first | rfl | (simp only [push_cast, ↓reduceIte, effOk, touch, refsOf, List.flatMap_cons, List.flatMap_nil])))) | ((with_reducible apply i_S); (focus rfl); (focus (first | rfl | (simp only [push_cast, ↓reduceIte, effOk, touch, refsOf, List.flatMap_cons, List.flatMap_nil])))) | ((with_reducible apply i_Vq); (focus rfl); (focus rfl)) | ((with_reducible apply i_Vp); (focus rfl); (focus rfl); (focus rfl))); (focus (simp (disch := (first | omega | (simp only [push_cast]; done) | (simp only [push_cast]; omega) | ((try simp only [push_cast]); (with_reducible first | apply sel_lt | apply sel_ge); (focus decide); (focus (simp only [push_cast]; omega))))) only [push_cast, ↓reduceIte, Nat.reduceEqDiff, Nat.reduceBEq, Nat.reduceAdd, Nat.reduceSub, Int.reduceToNat, *] <;> with_reducible exact rfl))) | ((with_reducible first | apply i_Gb | apply i_cond); (focus (simp (disch := (first | omega | (simp only [push_cast]; done) | (simp only [push_cast]; omega) | ((try simp only [push_cast]); (with_reducible first | apply sel_lt | apply sel_ge); (focus decide); (focus (simp only [push_cast]; omega))))) only [push_cast, ↓reduceIte, Nat.reduceEqDiff, Nat.reduceBEq, Nat.reduceAdd, Nat.reduceSub, Int.reduceToNat, *] <;> with_reducible exact rfl)); all_goals (intro hX; first | (cases hX; done) | ((with_reducible first | have hX0 : true = true := hX | have hX0 : false = false := hX); clear hX0 hX) | ((try simp only [decide_eq_true_eq, decide_eq_false_iff_not, Bool.not_eq_true', Bool.not_eq_false'] at hX); (try have hXb := inB_iff.1 hX)))))); all_goals try (exfalso; omega)
    all_goals ((with_reducible apply i_endN0 (by first | exact .inl rfl | exact .inr rfl)); (focus (simp (disch := (first | omega | (simp only [push_cast]; done) | (simp only [push_cast]; omega) | ((try simp only [push_cast]); (with_reducible first | apply sel_lt | apply sel_ge); (focus decide); (focus (simp only [push_cast]; omega))))) only [push_cast, ↓reduceIte, Nat.reduceEqDiff, Nat.reduceBEq, Nat.reduceAdd, Nat.reduceSub, Int.reduceToNat, *] <;> with_reducible exact rfl)))
  | true =>
    rw [hO, if_pos rfl] at hq
    cases hq
    rw [hO] at ap1
    have e10 : List.replicate 10 (PV.val (.int .i64 0)) = zeros10.map fun n => PV.val (.int .i64 n) := rfl
    have e11 : zeros10.length = 10 := rfl
    have hset : setl l many = setlR l many 50 1 zeros10 := by unfold setl; rw [if_pos hO]
    replace hset := Lib.hid hset
    have ap2 := fun kn (h : labOk l many kn = true) => labP_liftO hpc h
    replace ap2 := Lib.hid ap2
    replace hO := Lib.hid hO
    clear hpc
    have gla7_c33 := GLa7_33; have gla7_c34 := GLa7_34; have gla7_c41 := GLa7_41
    (repeat' (first | (with_reducible first | apply i_seq | apply i_block | apply i_skip | apply i_exit | apply i_ret | apply i_kS | apply i_kSx | apply i_kSr | apply i_kL | apply i_kLx | apply i_kLr | apply i_kB | apply i_kBr | apply i_kBs | apply i_nil) | ((with_reducible apply i_region); (focus (simp only [List.map_cons, List.map_nil] <;> exact rfl))) | ((with_reducible apply i_draw); (focus (simp only [List.map_cons, List.map_nil] <;> exact rfl)); (focus (decide +kernel))) | ((with_reducible apply i_kBo); (focus rfl)) | ((first | ((with_reducible apply i_V); (focus rfl); (focus rfl); (focus rfl)) | ((with_reducible apply i_E); (focus rfl); (focus (first | rfl | (simp only [push_cast, ↓reduceIte, effOk, touch, refsOf, List.flatMap_cons, List.flatMap_nil])))) | ((with_reducible apply i_S); (focus rfl); (focus (first | rfl | (simp only [push_cast, ↓reduceIte, effOk, touch, refsOf, List.flatMap_cons, List.flatMap_nil])))) | ((with_reducible apply i_Vq); (focus rfl); (focus rfl)) | ((with_reducible apply i_Vp); (focus rfl); (focus rfl); (focus rfl))); (focus (simp (disch := (first | omega | (simp only [push_cast]; done) | (simp only [push_cast]; omega) | ((try simp only [push_cast]); (with_reducible first | apply sel_lt | apply sel_ge); (focus decide); (focus (simp only [push_cast]; omega))))) only [push_cast, ↓reduceIte, Nat.reduceEqDiff, Nat.reduceBEq, Nat.reduceAdd, Nat.reduceSub, Int.reduceToNat, *] <;> with_reducible exact rfl))) | ((with_reducible first | apply i_Gb | apply i_cond); (focus (simp (disch := (first | omega | (simp only [push_cast]; done) | (simp only [push_cast]; omega) | ((try simp only [push_cast]); (with_reducible first | apply sel_lt | apply sel_ge); (focus decide); (focus (simp only [push_cast]; omega))))) only [push_cast, ↓reduceIte, Nat.reduceEqDiff, Nat.reduceBEq, Nat.reduceAdd, Nat.reduceSub, Int.reduceToNat, *] <;> with_reducible exact rfl)); all_goals (intro hX; first | (cases hX; done) | ((with_reducible first | have hX0 : true = true := hX | have hX0 : false = false := hX); clear hX0 hX) | ((try simp only [decide_eq_true_eq, decide_eq_false_iff_not, Bool.not_eq_true', Bool.not_eq_false'] at hX); (try have hXb := inB_iff.1 hX)))))); all_goals try (exfalso; omega)
    refine i_loop (α := Int × List Int × Nat × Nat) mixed (fun s => [(0, .lst false 3 (l.map fun x => .agg [.val (.int .i64 x.1), .val (.int .i64 x.2.1), .val (.int .i64 x.2.2)])), (1, iv many), (7, .row s.2.2.1 1 0 10), (8, iv s.1)]) (fun s => [(s.2.2.1, 3, 1, s.2.1.map fun n => .val (.int .i64 n))]) (fun s => s.2.2.2)
      (fun s => (1 ≤ s.1 ∧ s.1 ≤ 51) ∧ setl l many = setlR l many (51 - s.1).toNat s.1 s.2.1 ∧ labOk l many s.2.1 = true ∧ s.2.2.1 < s.2.2.2) (fun s => (51 - s.1).toNat) (by kernel_rfl) (1, zeros10, 0, 1) ⟨⟨by decide, by decide⟩, hset.out, hO.out, by dsimp only; omega⟩ ?_ ?_ rfl ?_
    · simp (disch := (first | omega | (simp only [push_cast]; done) | (simp only [push_cast]; omega) | ((try simp only [push_cast]); (with_reducible first | apply sel_lt | apply sel_ge); (focus decide); (focus (simp only [push_cast]; omega))))) only [push_cast, ↓reduceIte, Nat.reduceEqDiff, Nat.reduceBEq, Nat.reduceAdd, Nat.reduceSub, Int.reduceToNat, List.length_append, *]
    · simp (disch := (first | omega | (simp only [push_cast]; done) | (simp only [push_cast]; omega) | ((try simp only [push_cast]); (with_reducible first | apply sel_lt | apply sel_ge); (focus decide); (focus (simp only [push_cast]; omega))))) only [push_cast, ↓reduceIte, Nat.reduceEqDiff, Nat.reduceBEq, Nat.reduceAdd, Nat.reduceSub, Int.reduceToNat, e10, *]
    rintro ⟨q, kn, x, y⟩ ⟨hn, hs, hk, hxy⟩
    dsimp only at hn hs hk hxy
    have ap3 := ap2.out kn hk
    have h10 : kn.length = 10 := (labOk_iff.1 hk).2.2.1
    have hnx := labOk_next hk
    have h10' : (labRun l many kn).1.length = 10 := (labOk_iff.1 hnx).2.2.1
    have ap4 := φEqual_ap (a := (labRun l many kn).1) (b := kn) (by omega)
    replace hk := Lib.hid hk
    replace hnx := Lib.hid hnx
    clear ap2 hset
    by_cases hq : q = 51
    · subst hq
      have hs : setl l many = (kn, 50, false) := hs
      rw [hs]
      clear ap3 ap4
      (repeat' (first | (with_reducible first | apply i_seq | apply i_block | apply i_skip | apply i_exit | apply i_ret | apply i_kS | apply i_kSx | apply i_kSr | apply i_kL | apply i_kLx | apply i_kLr | apply i_kB | apply i_kBr | apply i_kBs | apply i_nil) | ((with_reducible apply i_region); (focus (simp only [List.map_cons, List.map_nil] <;> exact rfl))) | ((with_reducible apply i_draw); (focus (simp only [List.map_cons, List.map_nil] <;> exact rfl)); (focus (decide +kernel))) | ((with_reducible apply i_kBo); (focus rfl)) | ((first | ((with_reducible apply i_V); (focus rfl); (focus rfl); (focus rfl)) | ((with_reducible apply i_E); (focus rfl); (focus (first | rfl | (simp only [push_cast, ↓reduceIte, effOk, touch, refsOf, List.flatMap_cons, List.flatMap_nil])))) | ((with_reducible apply i_S); (focus rfl); (focus (first | rfl | (simp only [push_cast, ↓reduceIte, effOk, touch, refsOf, List.flatMap_cons, List.flatMap_nil])))) | ((with_reducible apply i_Vq); (focus rfl); (focus rfl)) | ((with_reducible apply i_Vp); (focus rfl); (focus rfl); (focus rfl))); (focus (simp (disch := (first | omega | (simp only [push_cast]; done) | (simp only [push_cast]; omega) | ((try simp only [push_cast]); (with_reducible first | apply sel_lt | apply sel_ge); (focus decide); (focus (simp only [push_cast]; omega))))) only [push_cast, ↓reduceIte, Nat.reduceEqDiff, Nat.reduceBEq, Nat.reduceAdd, Nat.reduceSub, Int.reduceToNat, *] <;> with_reducible exact rfl))) | ((with_reducible first | apply i_Gb | apply i_cond); (focus (simp (disch := (first | omega | (simp only [push_cast]; done) | (simp only [push_cast]; omega) | ((try simp only [push_cast]); (with_reducible first | apply sel_lt | apply sel_ge); (focus decide); (focus (simp only [push_cast]; omega))))) only [push_cast, ↓reduceIte, Nat.reduceEqDiff, Nat.reduceBEq, Nat.reduceAdd, Nat.reduceSub, Int.reduceToNat, *] <;> with_reducible exact rfl)); all_goals (intro hX; first | (cases hX; done) | ((with_reducible first | have hX0 : true = true := hX | have hX0 : false = false := hX); clear hX0 hX) | ((try simp only [decide_eq_true_eq, decide_eq_false_iff_not, Bool.not_eq_true', Bool.not_eq_false'] at hX); (try have hXb := inB_iff.1 hX)))))); all_goals try (exfalso; omega)
      all_goals (show PostIO _ _ 0 (.tup [.row 0 1 0 10, .val (.int .i64 50), .val (.bool false)]) [(3, 1, kn.map fun n => .val (.int .i64 n))] _ _)
      all_goals ((with_reducible apply i_endN1 (x) (by first | exact .inl rfl | exact .inr rfl)); (focus (simp (disch := (first | omega | (simp only [push_cast]; done) | (simp only [push_cast]; omega) | ((try simp only [push_cast]); (with_reducible first | apply sel_lt | apply sel_ge); (focus decide); (focus (simp only [push_cast]; omega))))) only [push_cast, ↓reduceIte, Nat.reduceEqDiff, Nat.reduceBEq, Nat.reduceAdd, Nat.reduceSub, Int.reduceToNat, *] <;> with_reducible exact rfl)); (focus (simp (disch := (first | omega | (simp only [push_cast]; done) | (simp only [push_cast]; omega) | ((try simp only [push_cast]); (with_reducible first | apply sel_lt | apply sel_ge); (focus decide); (focus (simp only [push_cast]; omega))))) only [push_cast, ↓reduceIte, Nat.reduceEqDiff, Nat.reduceBEq, Nat.reduceAdd, Nat.reduceSub, Int.reduceToNat, *] <;> with_reducible exact rfl)))
    · obtain ⟨n, hn2⟩ : ∃ n, (51 - q).toNat = n + 1 := ⟨(51 - q).toNat - 1, by omega⟩
      have hn3 : (51 - (q + 1)).toNat = n := by omega
      rw [hn2] at hs
      by_cases he : (labRun l many kn).1 = kn
      · rw [decide_eq_true he] at ap4
        unfold setlR at hs
        rw [if_pos he] at hs
        rw [hs]
        replace he := Lib.hid he
        clear hs hn2 hn3
        (repeat' (first | (with_reducible first | apply i_seq | apply i_block | apply i_skip | apply i_exit | apply i_ret | apply i_kS | apply i_kSx | apply i_kSr | apply i_kL | apply i_kLx | apply i_kLr | apply i_kB | apply i_kBr | apply i_kBs | apply i_nil) | ((with_reducible apply i_region); (focus (simp only [List.map_cons, List.map_nil] <;> exact rfl))) | ((with_reducible apply i_draw); (focus (simp only [List.map_cons, List.map_nil] <;> exact rfl)); (focus (decide +kernel))) | ((with_reducible apply i_kBo); (focus rfl)) | ((first | ((with_reducible apply i_V); (focus rfl); (focus rfl); (focus rfl)) | ((with_reducible apply i_E); (focus rfl); (focus (first | rfl | (simp only [push_cast, ↓reduceIte, effOk, touch, refsOf, List.flatMap_cons, List.flatMap_nil])))) | ((with_reducible apply i_S); (focus rfl); (focus (first | rfl | (simp only [push_cast, ↓reduceIte, effOk, touch, refsOf, List.flatMap_cons, List.flatMap_nil])))) | ((with_reducible apply i_Vq); (focus rfl); (focus rfl)) | ((with_reducible apply i_Vp); (focus rfl); (focus rfl); (focus rfl))); (focus (simp (disch := (first | omega | (simp only [push_cast]; done) | (simp only [push_cast]; omega) | ((try simp only [push_cast]); (with_reducible first | apply sel_lt | apply sel_ge); (focus decide); (focus (simp only [push_cast]; omega))))) only [push_cast, ↓reduceIte, Nat.reduceEqDiff, Nat.reduceBEq, Nat.reduceAdd, Nat.reduceSub, Int.reduceToNat, *] <;> with_reducible exact rfl))) | ((with_reducible first | apply i_Gb | apply i_cond); (focus (simp (disch := (first | omega | (simp only [push_cast]; done) | (simp only [push_cast]; omega) | ((try simp only [push_cast]); (with_reducible first | apply sel_lt | apply sel_ge); (focus decide); (focus (simp only [push_cast]; omega))))) only [push_cast, ↓reduceIte, Nat.reduceEqDiff, Nat.reduceBEq, Nat.reduceAdd, Nat.reduceSub, Int.reduceToNat, *] <;> with_reducible exact rfl)); all_goals (intro hX; first | (cases hX; done) | ((with_reducible first | have hX0 : true = true := hX | have hX0 : false = false := hX); clear hX0 hX) | ((try simp only [decide_eq_true_eq, decide_eq_false_iff_not, Bool.not_eq_true', Bool.not_eq_false'] at hX); (try have hXb := inB_iff.1 hX)))))); all_goals try (exfalso; omega)
        all_goals ((with_reducible apply i_endN1 (y) (by first | exact .inl rfl | exact .inr rfl)); (focus (simp (disch := (first | omega | (simp only [push_cast]; done) | (simp only [push_cast]; omega) | ((try simp only [push_cast]); (with_reducible first | apply sel_lt | apply sel_ge); (focus decide); (focus (simp only [push_cast]; omega))))) only [push_cast, ↓reduceIte, Nat.reduceEqDiff, Nat.reduceBEq, Nat.reduceAdd, Nat.reduceSub, Int.reduceToNat, *] <;> with_reducible exact rfl)); (focus (simp (disch := (first | omega | (simp only [push_cast]; done) | (simp only [push_cast]; omega) | ((try simp only [push_cast]); (with_reducible first | apply sel_lt | apply sel_ge); (focus decide); (focus (simp only [push_cast]; omega))))) only [push_cast, ↓reduceIte, Nat.reduceEqDiff, Nat.reduceBEq, Nat.reduceAdd, Nat.reduceSub, Int.reduceToNat, *] <;> with_reducible exact rfl)))
      · have hs2 : setl l many = setlR l many (51 - (q + 1)).toNat (q + 1) (labRun l many kn).1 := by
          rw [hs, hn3]
          show (if _ then _ else _) = _
          rw [if_neg he]
        rw [decide_eq_false he] at ap4
        replace hs2 := Lib.hid hs2
        clear hs he hn2 hn3
        (repeat' (first | (with_reducible first | apply i_seq | apply i_block | apply i_skip | apply i_exit | apply i_ret | apply i_kS | apply i_kSx | apply i_kSr | apply i_kL | apply i_kLx | apply i_kLr | apply i_kB | apply i_kBr | apply i_kBs | apply i_nil) | ((with_reducible apply i_region); (focus (simp only [List.map_cons, List.map_nil] <;> exact rfl))) | ((with_reducible apply i_draw); (focus (simp only [List.map_cons, List.map_nil] <;> exact rfl)); (focus (decide +kernel))) | ((with_reducible apply i_kBo); (focus rfl)) | ((first | ((with_reducible apply i_V); (focus rfl); (focus rfl); (focus rfl)) | ((with_reducible apply i_E); (focus rfl); (focus (first | rfl | (simp only [push_cast, ↓reduceIte, effOk, touch, refsOf, List.flatMap_cons, List.flatMap_nil])))) | ((with_reducible apply i_S); (focus rfl); (focus (first | rfl | (simp only [push_cast, ↓reduceIte, effOk, touch, refsOf, List.flatMap_cons, List.flatMap_nil])))) | ((with_reducible apply i_Vq); (focus rfl); (focus rfl)) | ((with_reducible apply i_Vp); (focus rfl); (focus rfl); (focus rfl))); (focus (simp (disch := (first | omega | (simp only [push_cast]; done) | (simp only [push_cast]; omega) | ((try simp only [push_cast]); (with_reducible first | apply sel_lt | apply sel_ge); (focus decide); (focus (simp only [push_cast]; omega))))) only [push_cast, ↓reduceIte, Nat.reduceEqDiff, Nat.reduceBEq, Nat.reduceAdd, Nat.reduceSub, Int.reduceToNat, *] <;> with_reducible exact rfl))) | ((with_reducible first | apply i_Gb | apply i_cond); (focus (simp (disch := (first | omega | (simp only [push_cast]; done) | (simp only [push_cast]; omega) | ((try simp only [push_cast]); (with_reducible first | apply sel_lt | apply sel_ge); (focus decide); (focus (simp only [push_cast]; omega))))) only [push_cast, ↓reduceIte, Nat.reduceEqDiff, Nat.reduceBEq, Nat.reduceAdd, Nat.reduceSub, Int.reduceToNat, *] <;> with_reducible exact rfl)); all_goals (intro hX; first | (cases hX; done) | ((with_reducible first | have hX0 : true = true := hX | have hX0 : false = false := hX); clear hX0 hX) | ((try simp only [decide_eq_true_eq, decide_eq_false_iff_not, Bool.not_eq_true', Bool.not_eq_false'] at hX); (try have hXb := inB_iff.1 hX)))))); all_goals try (exfalso; omega)
        refine ⟨(q + 1, (labRun l many kn).1, y, y + 1), ⟨⟨by dsimp only; omega, by dsimp only; omega⟩, hs2.out, hnx.out, by dsimp only; omega⟩, by dsimp only; omega, ?_, ?_, rfl⟩
        · simp (disch := (first | omega | (simp only [push_cast]; done) | (simp only [push_cast]; omega) | ((try simp only [push_cast]); (with_reducible first | apply sel_lt | apply sel_ge); (focus decide); (focus (simp only [push_cast]; omega))))) only [push_cast, ↓reduceIte, Nat.reduceEqDiff, Nat.reduceBEq, Nat.reduceAdd, Nat.reduceSub, Int.reduceToNat, List.length_append, *]
        · simp (disch := (first | omega | (simp only [push_cast]; done) | (simp only [push_cast]; omega) | ((try simp only [push_cast]); (with_reducible first | apply sel_lt | apply sel_ge); (focus decide); (focus (simp only [push_cast]; omega))))) only [push_cast, ↓reduceIte, Nat.reduceEqDiff, Nat.reduceBEq, Nat.reduceAdd, Nat.reduceSub, Int.reduceToNat, List.length_append, *]
end Go.Proofs.YtghhlakfbgcmkaaDoor
