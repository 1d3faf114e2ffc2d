/- Pages of labels: the program's. -/
import Derived.Test.YtghhlakfbgcmkaaDoorPxLab
import Derived.Test.YtghhlakfbgcmkaaDoorPxMark
import Derived.Test.YtghhlakfbgcmkaaDoorPxItoa
namespace Go.Proofs.YtghhlakfbgcmkaaDoor
open Go.RowKit
set_option linter.all false
def φLabFn : Fun := F1 dI fun n => some (bv (!inB n 0 1000))
theorem φLabFn_ap (n : Int) : φLabFn [.val (.int .i64 n)] = some (.val (.bool (!inB n 0 1000))) := rfl
noncomputable def GLa1 : Ctx := ⟨fun f => if f = 43 then some φIn else none, fun f => none⟩
theorem GLa1_ok : SoundΓ Tryd.prog GLa1 := ⟨(fun f φ h => by
  unfold GLa1 at h
  dsimp only at h
  split at h
  · rename_i hf; cases h; subst hf; exact ⟨⟨_, Tryd.func43, rfl, rfl⟩, in_ok⟩
  cases h), (fun f φ h => by
  unfold GLa1 at h
  dsimp only at h
  cases h)⟩
theorem GLa1_43 (ob : Objs) (ps : List PV) : evCall GLa1 ob 43 ps = (ps.mapM (reify false 0 ob fuel)).bind φIn := by
  have h : GLa1.fn 43 = some φIn := by simp [GLa1]
  unfold evCall
  rw [h]
  cases ps.mapM (reify false 0 ob fuel) <;> rfl
theorem labFn_ok : Sound Tryd.prog 45 φLabFn := by
  refine sound_pq mixed GLa1_ok Tryd.func45 rfl 6 rfl [.tmp 2] rfl (by kernel_rfl) fun ps r hr => ?_
  obtain ⟨n, rfl, hr⟩ := F1_some hr
  cases hr
  refine ⟨by simp, ?_⟩
  simp only [dIs, dUs, dSs, dI_e, dU_e, dB_e, dS_e, dFn_e, dL_e, dA2_e, dA3_e, dA4_e, dA5_e]
  have gla1_c43 := GLa1_43; have ap := φIn_ap
  repeat' (first | (with_reducible first | apply i_seq | apply i_block | apply i_skip | apply i_exit | apply i_ret | apply i_kS | apply i_kSx | apply i_kSr | apply i_kL | apply i_kLx | apply i_kLr | apply i_kB | apply i_kBr | apply i_kBs | apply i_nil) | ((with_reducible apply i_region); (focus (simp only [List.map_cons, List.map_nil] <;> exact rfl))) | ((with_reducible apply i_draw); (focus (simp only [List.map_cons, List.map_nil] <;> exact rfl)); (focus (decide +kernel))) | ((with_reducible apply i_kBo); (focus rfl)) | ((first | ((with_reducible apply i_V); (focus rfl); (focus rfl); (focus rfl)) | ((with_reducible apply i_E); (focus rfl); (focus (first | rfl | (simp only [push_cast, ↓reduceIte, effOk, touch, refsOf, List.flatMap_cons, List.flatMap_nil])))) | ((with_reducible apply i_S); (focus rfl); (focus (first | rfl | (simp only [push_cast, ↓reduceIte, effOk, touch, refsOf, List.flatMap_cons, List.flatMap_nil])))) | ((with_reducible apply i_Vq); (focus rfl); (focus rfl)) | ((with_reducible apply i_Vp); (focus rfl); (focus rfl); (focus rfl))); (focus (simp (disch := (first | omega | (simp only [push_cast]; done) | (simp only [push_cast]; omega) | ((try simp only [push_cast]); (with_reducible first | apply sel_lt | apply sel_ge); (focus decide); (focus (simp only [push_cast]; omega))))) only [push_cast, ↓reduceIte, Nat.reduceEqDiff, Nat.reduceBEq, Nat.reduceAdd, Nat.reduceSub, Int.reduceToNat, *] <;> with_reducible exact rfl))) | ((with_reducible first | apply i_Gb | apply i_cond); (focus (simp (disch := (first | omega | (simp only [push_cast]; done) | (simp only [push_cast]; omega) | ((try simp only [push_cast]); (with_reducible first | apply sel_lt | apply sel_ge); (focus decide); (focus (simp only [push_cast]; omega))))) only [push_cast, ↓reduceIte, Nat.reduceEqDiff, Nat.reduceBEq, Nat.reduceAdd, Nat.reduceSub, Int.reduceToNat, *] <;> with_reducible exact rfl)); all_goals (intro hX; first | (cases hX; done) | ((with_reducible first | have hX0 : true = true := hX | have hX0 : false = false := hX); clear hX0 hX) | ((try simp only [decide_eq_true_eq, decide_eq_false_iff_not, Bool.not_eq_true', Bool.not_eq_false'] at hX); (try have hXb := inB_iff.1 hX)))))
  all_goals ((first | apply i_end | apply i_endN); simp (disch := (first | omega | (simp only [push_cast]; done) | (simp only [push_cast]; omega) | ((try simp only [push_cast]); (with_reducible first | apply sel_lt | apply sel_ge); (focus decide); (focus (simp only [push_cast]; omega))))) only [push_cast, ↓reduceIte, Nat.reduceEqDiff, Nat.reduceBEq, Nat.reduceAdd, Nat.reduceSub, Int.reduceToNat, *])
def φIdxLab : Fun := F2 dIs (dFn 45) fun zs _ => if zs.length ≤ 1099511627776 then some (iv (firstAt (fun n => !inB n 0 1000) zs)) else none
theorem φIdxLab_ap {zs : List Int} (h : zs.length ≤ 1099511627776) : φIdxLab [.lst false 1 (zs.map fun n => .val (.int .i64 n)), .val (.func (.func 45) #[] #[])] = some (.val (.int .i64 (firstAt (fun n => !inB n 0 1000) zs))) :=
  (F2_ap (A := dIs) (B := dFn 45) zs ()).trans (if_pos h)
noncomputable def GLa2 : Ctx := ⟨fun f => if f = 45 then some φLabFn else none, fun f => none⟩
theorem GLa2_ok : SoundΓ Tryd.prog GLa2 := ⟨(fun f φ h => by
  unfold GLa2 at h
  dsimp only at h
  split at h
  · rename_i hf; cases h; subst hf; exact ⟨⟨_, Tryd.func45, rfl, rfl⟩, labFn_ok⟩
  cases h), (fun f φ h => by
  unfold GLa2 at h
  dsimp only at h
  cases h)⟩
theorem GLa2_45 (ob : Objs) (ps : List PV) : evCall GLa2 ob 45 ps = (ps.mapM (reify false 0 ob fuel)).bind φLabFn := by
  have h : GLa2.fn 45 = some φLabFn := by simp [GLa2]
  unfold evCall
  rw [h]
  cases ps.mapM (reify false 0 ob fuel) <;> rfl
set_option maxHeartbeats 4000000 in
theorem idxLab_ok : Sound Tryd.prog 49 φIdxLab := by
  refine sound_pq mixed GLa2_ok Tryd.func49 rfl 19 rfl [.tmp 4] rfl (by kernel_rfl) fun ps r hr => ?_
  obtain ⟨zs, u, rfl, hq⟩ := F2_some hr
  clear hr
  split at hq
  case isFalse => cases hq
  case isTrue hpre =>
  cases hq
  refine ⟨by simp, ?_⟩
  simp only [dIs, dUs, dSs, dI_e, dU_e, dB_e, dS_e, dFn_e, dL_e, dA2_e, dA3_e, dA4_e, dA5_e]
  have hlen := hpre
  clear hpre
  have gla2_c45 := GLa2_45; have ap := φLabFn_ap
  repeat' (first | (with_reducible first | apply i_seq | apply i_block | apply i_skip | apply i_exit | apply i_ret | apply i_kS | apply i_kSx | apply i_kSr | apply i_kL | apply i_kLx | apply i_kLr | apply i_kB | apply i_kBr | apply i_kBs | apply i_nil) | ((with_reducible apply i_region); (focus (simp only [List.map_cons, List.map_nil] <;> exact rfl))) | ((with_reducible apply i_draw); (focus (simp only [List.map_cons, List.map_nil] <;> exact rfl)); (focus (decide +kernel))) | ((with_reducible apply i_kBo); (focus rfl)) | ((first | ((with_reducible apply i_V); (focus rfl); (focus rfl); (focus rfl)) | ((with_reducible apply i_E); (focus rfl); (focus (first | rfl | (simp only [push_cast, ↓reduceIte, effOk, touch, refsOf, List.flatMap_cons, List.flatMap_nil])))) | ((with_reducible apply i_S); (focus rfl); (focus (first | rfl | (simp only [push_cast, ↓reduceIte, effOk, touch, refsOf, List.flatMap_cons, List.flatMap_nil])))) | ((with_reducible apply i_Vq); (focus rfl); (focus rfl)) | ((with_reducible apply i_Vp); (focus rfl); (focus rfl); (focus rfl))); (focus (simp (disch := (first | omega | (simp only [push_cast]; done) | (simp only [push_cast]; omega) | ((try simp only [push_cast]); (with_reducible first | apply sel_lt | apply sel_ge); (focus decide); (focus (simp only [push_cast]; omega))))) only [push_cast, ↓reduceIte, Nat.reduceEqDiff, Nat.reduceBEq, Nat.reduceAdd, Nat.reduceSub, Int.reduceToNat, *] <;> with_reducible exact rfl))) | ((with_reducible first | apply i_Gb | apply i_cond); (focus (simp (disch := (first | omega | (simp only [push_cast]; done) | (simp only [push_cast]; omega) | ((try simp only [push_cast]); (with_reducible first | apply sel_lt | apply sel_ge); (focus decide); (focus (simp only [push_cast]; omega))))) only [push_cast, ↓reduceIte, Nat.reduceEqDiff, Nat.reduceBEq, Nat.reduceAdd, Nat.reduceSub, Int.reduceToNat, *] <;> with_reducible exact rfl)); all_goals (intro hX; first | (cases hX; done) | ((with_reducible first | have hX0 : true = true := hX | have hX0 : false = false := hX); clear hX0 hX) | ((try simp only [decide_eq_true_eq, decide_eq_false_iff_not, Bool.not_eq_true', Bool.not_eq_false'] at hX); (try have hXb := inB_iff.1 hX)))))
  refine i_loop (α := Nat) mixed (fun k => [(0, .lst false 1 (zs.map fun n => .val (.int .i64 n))), (1, .val (.func (.func 45) #[] #[])), (7, iv zs.length), (8, iv k)]) (fun _ => []) (fun _ => 0)
    (fun k => k ≤ zs.length ∧ ∀ j, j < k → (fun n => !inB n 0 1000) (zs[j]?.getD 0) = false) (fun k => zs.length - k) (by kernel_rfl) 0 ⟨Nat.zero_le _, fun j hj => by omega⟩ ?_ trivial rfl ?_
  · simp only [push_cast, ↓reduceIte, Nat.reduceEqDiff, Nat.reduceBEq, Nat.reduceAdd, Nat.reduceSub, Int.reduceToNat]
  · intro k ⟨hk, hok⟩
    repeat' (first | (with_reducible first | apply i_seq | apply i_block | apply i_skip | apply i_exit | apply i_ret | apply i_kS | apply i_kSx | apply i_kSr | apply i_kL | apply i_kLx | apply i_kLr | apply i_kB | apply i_kBr | apply i_kBs | apply i_nil) | ((with_reducible apply i_region); (focus (simp only [List.map_cons, List.map_nil] <;> exact rfl))) | ((with_reducible apply i_draw); (focus (simp only [List.map_cons, List.map_nil] <;> exact rfl)); (focus (decide +kernel))) | ((with_reducible apply i_kBo); (focus rfl)) | ((first | ((with_reducible apply i_V); (focus rfl); (focus rfl); (focus rfl)) | ((with_reducible apply i_E); (focus rfl); (focus (first | rfl | (simp only [push_cast, ↓reduceIte, effOk, touch, refsOf, List.flatMap_cons, List.flatMap_nil])))) | ((with_reducible apply i_S); (focus rfl); (focus (first | rfl | (simp only [push_cast, ↓reduceIte, effOk, touch, refsOf, List.flatMap_cons, List.flatMap_nil])))) | ((with_reducible apply i_Vq); (focus rfl); (focus rfl)) | ((with_reducible apply i_Vp); (focus rfl); (focus rfl); (focus rfl))); (focus (simp (disch := (first | omega | (simp only [push_cast]; done) | (simp only [push_cast]; omega) | ((try simp only [push_cast]); (with_reducible first | apply sel_lt | apply sel_ge); (focus decide); (focus (simp only [push_cast]; omega))))) only [push_cast, ↓reduceIte, Nat.reduceEqDiff, Nat.reduceBEq, Nat.reduceAdd, Nat.reduceSub, Int.reduceToNat, *] <;> with_reducible exact rfl))) | ((with_reducible first | apply i_Gb | apply i_cond); (focus (simp (disch := (first | omega | (simp only [push_cast]; done) | (simp only [push_cast]; omega) | ((try simp only [push_cast]); (with_reducible first | apply sel_lt | apply sel_ge); (focus decide); (focus (simp only [push_cast]; omega))))) only [push_cast, ↓reduceIte, Nat.reduceEqDiff, Nat.reduceBEq, Nat.reduceAdd, Nat.reduceSub, Int.reduceToNat, *] <;> with_reducible exact rfl)); all_goals (intro hX; first | (cases hX; done) | ((with_reducible first | have hX0 : true = true := hX | have hX0 : false = false := hX); clear hX0 hX) | ((try simp only [decide_eq_true_eq, decide_eq_false_iff_not, Bool.not_eq_true', Bool.not_eq_false'] at hX); (try have hXb := inB_iff.1 hX)))))
    all_goals try ((first | apply i_end | apply i_endN); simp (disch := (first | omega | (simp only [push_cast]; done) | (simp only [push_cast]; omega) | ((try simp only [push_cast]); (with_reducible first | apply sel_lt | apply sel_ge); (focus decide); (focus (simp only [push_cast]; omega))))) only [push_cast, ↓reduceIte, Nat.reduceEqDiff, Nat.reduceBEq, Nat.reduceAdd, Nat.reduceSub, Int.reduceToNat, *])
    · rw [firstAt_found hok (by omega) (by simp [*])]
    · refine ⟨k + 1, ⟨by omega, fun j hj => ?_⟩, by dsimp only; omega, by simp only [push_cast, ↓reduceIte, Nat.reduceEqDiff, Nat.reduceBEq, Nat.reduceAdd, Nat.reduceSub, Int.reduceToNat], trivial, rfl⟩
      by_cases h1 : j < k
      · exact hok j h1
      · have : j = k := by omega
        subst this
        simp [*]
    · rw [firstAt_none fun j hj => hok j (by omega)]
def φConLab : Fun := F2 dIs (dFn 45) fun zs _ => if zs.length ≤ 1099511627776 then some (bv (zs.any fun n => !inB n 0 1000)) else none
theorem φConLab_ap {zs : List Int} (h : zs.length ≤ 1099511627776) : φConLab [.lst false 1 (zs.map fun n => .val (.int .i64 n)), .val (.func (.func 45) #[] #[])] = some (.val (.bool (zs.any fun n => !inB n 0 1000))) :=
  (F2_ap (A := dIs) (B := dFn 45) zs ()).trans (if_pos h)
noncomputable def GLa3 : Ctx := ⟨fun f => if f = 49 then some φIdxLab else none, fun f => none⟩
theorem GLa3_ok : SoundΓ Tryd.prog GLa3 := ⟨(fun f φ h => by
  unfold GLa3 at h
  dsimp only at h
  split at h
  · rename_i hf; cases h; subst hf; exact ⟨⟨_, Tryd.func49, rfl, rfl⟩, idxLab_ok⟩
  cases h), (fun f φ h => by
  unfold GLa3 at h
  dsimp only at h
  cases h)⟩
theorem GLa3_49 (ob : Objs) (ps : List PV) : evCall GLa3 ob 49 ps = (ps.mapM (reify false 0 ob fuel)).bind φIdxLab := by
  have h : GLa3.fn 49 = some φIdxLab := by simp [GLa3]
  unfold evCall
  rw [h]
  cases ps.mapM (reify false 0 ob fuel) <;> rfl
theorem conLab_ok : Sound Tryd.prog 44 φConLab := by
  refine sound_pq mixed GLa3_ok Tryd.func44 rfl 9 rfl [.tmp 4] rfl (by kernel_rfl) fun ps r hr => ?_
  obtain ⟨zs, u, rfl, hq⟩ := F2_some hr
  clear hr
  split at hq
  case isFalse => cases hq
  case isTrue hpre =>
  cases hq
  refine ⟨by simp, ?_⟩
  simp only [dIs, dUs, dSs, dI_e, dU_e, dB_e, dS_e, dFn_e, dL_e, dA2_e, dA3_e, dA4_e, dA5_e]
  have gla3_c49 := GLa3_49; have ap := @φIdxLab_ap
  repeat' (first | (with_reducible first | apply i_seq | apply i_block | apply i_skip | apply i_exit | apply i_ret | apply i_kS | apply i_kSx | apply i_kSr | apply i_kL | apply i_kLx | apply i_kLr | apply i_kB | apply i_kBr | apply i_kBs | apply i_nil) | ((with_reducible apply i_region); (focus (simp only [List.map_cons, List.map_nil] <;> exact rfl))) | ((with_reducible apply i_draw); (focus (simp only [List.map_cons, List.map_nil] <;> exact rfl)); (focus (decide +kernel))) | ((with_reducible apply i_kBo); (focus rfl)) | ((first | ((with_reducible apply i_V); (focus rfl); (focus rfl); (focus rfl)) | ((with_reducible apply i_E); (focus rfl); (focus (first | rfl | (simp only [push_cast, ↓reduceIte, effOk, touch, refsOf, List.flatMap_cons, List.flatMap_nil])))) | ((with_reducible apply i_S); (focus rfl); (focus (first | rfl | (simp only [push_cast, ↓reduceIte, effOk, touch, refsOf, List.flatMap_cons, List.flatMap_nil])))) | ((with_reducible apply i_Vq); (focus rfl); (focus rfl)) | ((with_reducible apply i_Vp); (focus rfl); (focus rfl); (focus rfl))); (focus (simp (disch := (first | omega | (simp only [push_cast]; done) | (simp only [push_cast]; omega) | ((try simp only [push_cast]); (with_reducible first | apply sel_lt | apply sel_ge); (focus decide); (focus (simp only [push_cast]; omega))))) only [push_cast, ↓reduceIte, Nat.reduceEqDiff, Nat.reduceBEq, Nat.reduceAdd, Nat.reduceSub, Int.reduceToNat, *] <;> with_reducible exact rfl))) | ((with_reducible first | apply i_Gb | apply i_cond); (focus (simp (disch := (first | omega | (simp only [push_cast]; done) | (simp only [push_cast]; omega) | ((try simp only [push_cast]); (with_reducible first | apply sel_lt | apply sel_ge); (focus decide); (focus (simp only [push_cast]; omega))))) only [push_cast, ↓reduceIte, Nat.reduceEqDiff, Nat.reduceBEq, Nat.reduceAdd, Nat.reduceSub, Int.reduceToNat, *] <;> with_reducible exact rfl)); all_goals (intro hX; first | (cases hX; done) | ((with_reducible first | have hX0 : true = true := hX | have hX0 : false = false := hX); clear hX0 hX) | ((try simp only [decide_eq_true_eq, decide_eq_false_iff_not, Bool.not_eq_true', Bool.not_eq_false'] at hX); (try have hXb := inB_iff.1 hX)))))
  all_goals ((first | apply i_end | apply i_endN); simp (disch := (first | omega | (simp only [push_cast]; done) | (simp only [push_cast]; omega) | ((try simp only [push_cast]); (with_reducible first | apply sel_lt | apply sel_ge); (focus decide); (focus (simp only [push_cast]; omega))))) only [push_cast, ↓reduceIte, Nat.reduceEqDiff, Nat.reduceBEq, Nat.reduceAdd, Nat.reduceSub, Int.reduceToNat, *])
  rw [firstAt_any]
def φEqual : Fun := F2 dIs dIs fun a b => if a.length ≤ 1099511627776 then some (bv (decide (a = b))) else none
theorem φEqual_ap {a b : List Int} (h : a.length ≤ 1099511627776) : φEqual [.lst false 1 (a.map fun n => .val (.int .i64 n)), .lst false 1 (b.map fun n => .val (.int .i64 n))] = some (.val (.bool (decide (a = b)))) :=
  (F2_ap (A := dIs) (B := dIs) a b).trans (if_pos h)
set_option maxHeartbeats 4000000 in
theorem equalI_ok : Sound Tryd.prog 41 φEqual := by
  refine sound_pq mixed GE_ok Tryd.func41 rfl 26 rfl [.tmp 4] rfl (by kernel_rfl) fun ps r hr => ?_
  obtain ⟨xs, ys, rfl, hq⟩ := F2_some hr
  clear hr
  split at hq
  case isFalse => cases hq
  case isTrue hpre =>
  cases hq
  refine ⟨by simp, ?_⟩
  simp only [dIs, dUs, dSs, dI_e, dU_e, dB_e, dS_e, dFn_e, dL_e, dA2_e, dA3_e, dA4_e, dA5_e]
  have hl1 := hpre
  clear hpre
  repeat' (first | (with_reducible first | apply i_seq | apply i_block | apply i_skip | apply i_exit | apply i_ret | apply i_kS | apply i_kSx | apply i_kSr | apply i_kL | apply i_kLx | apply i_kLr | apply i_kB | apply i_kBr | apply i_kBs | apply i_nil) | ((with_reducible apply i_region); (focus (simp only [List.map_cons, List.map_nil] <;> exact rfl))) | ((with_reducible apply i_draw); (focus (simp only [List.map_cons, List.map_nil] <;> exact rfl)); (focus (decide +kernel))) | ((with_reducible apply i_kBo); (focus rfl)) | ((first | ((with_reducible apply i_V); (focus rfl); (focus rfl); (focus rfl)) | ((with_reducible apply i_E); (focus rfl); (focus (first | rfl | (simp only [push_cast, ↓reduceIte, effOk, touch, refsOf, List.flatMap_cons, List.flatMap_nil])))) | ((with_reducible apply i_S); (focus rfl); (focus (first | rfl | (simp only [push_cast, ↓reduceIte, effOk, touch, refsOf, List.flatMap_cons, List.flatMap_nil])))) | ((with_reducible apply i_Vq); (focus rfl); (focus rfl)) | ((with_reducible apply i_Vp); (focus rfl); (focus rfl); (focus rfl))); (focus (simp (disch := (first | omega | (simp only [push_cast]; done) | (simp only [push_cast]; omega) | ((try simp only [push_cast]); (with_reducible first | apply sel_lt | apply sel_ge); (focus decide); (focus (simp only [push_cast]; omega))))) only [push_cast, ↓reduceIte, Nat.reduceEqDiff, Nat.reduceBEq, Nat.reduceAdd, Nat.reduceSub, Int.reduceToNat, *] <;> with_reducible exact rfl))) | ((with_reducible first | apply i_Gb | apply i_cond); (focus (simp (disch := (first | omega | (simp only [push_cast]; done) | (simp only [push_cast]; omega) | ((try simp only [push_cast]); (with_reducible first | apply sel_lt | apply sel_ge); (focus decide); (focus (simp only [push_cast]; omega))))) only [push_cast, ↓reduceIte, Nat.reduceEqDiff, Nat.reduceBEq, Nat.reduceAdd, Nat.reduceSub, Int.reduceToNat, *] <;> with_reducible exact rfl)); all_goals (intro hX; first | (cases hX; done) | ((with_reducible first | have hX0 : true = true := hX | have hX0 : false = false := hX); clear hX0 hX) | ((try simp only [decide_eq_true_eq, decide_eq_false_iff_not, Bool.not_eq_true', Bool.not_eq_false'] at hX); (try have hXb := inB_iff.1 hX)))))
  · ((first | apply i_end | apply i_endN); simp (disch := (first | omega | (simp only [push_cast]; done) | (simp only [push_cast]; omega) | ((try simp only [push_cast]); (with_reducible first | apply sel_lt | apply sel_ge); (focus decide); (focus (simp only [push_cast]; omega))))) only [push_cast, ↓reduceIte, Nat.reduceEqDiff, Nat.reduceBEq, Nat.reduceAdd, Nat.reduceSub, Int.reduceToNat, *])
    have : ¬ xs = ys := fun h => by subst h; simp_all
    simp [this]
  refine i_loop (α := Nat) mixed (fun k => [(0, .lst false 1 (xs.map fun n => .val (.int .i64 n))), (1, .lst false 1 (ys.map fun n => .val (.int .i64 n))), (12, iv xs.length), (13, iv k)]) (fun k => []) (fun _ => 0)
    (fun k => k ≤ xs.length ∧ ∀ j, j < k → xs[j]?.getD 0 = ys[j]?.getD 0) (fun k => xs.length - k) (by kernel_rfl) 0 ⟨Nat.zero_le _, fun j hj => by omega⟩ ?_ trivial rfl ?_
  · simp only [push_cast, ↓reduceIte, Nat.reduceEqDiff, Nat.reduceBEq, Nat.reduceAdd, Nat.reduceSub, Int.reduceToNat, *]
  · intro k ⟨hk, hok⟩
    repeat' (first | (with_reducible first | apply i_seq | apply i_block | apply i_skip | apply i_exit | apply i_ret | apply i_kS | apply i_kSx | apply i_kSr | apply i_kL | apply i_kLx | apply i_kLr | apply i_kB | apply i_kBr | apply i_kBs | apply i_nil) | ((with_reducible apply i_region); (focus (simp only [List.map_cons, List.map_nil] <;> exact rfl))) | ((with_reducible apply i_draw); (focus (simp only [List.map_cons, List.map_nil] <;> exact rfl)); (focus (decide +kernel))) | ((with_reducible apply i_kBo); (focus rfl)) | ((first | ((with_reducible apply i_V); (focus rfl); (focus rfl); (focus rfl)) | ((with_reducible apply i_E); (focus rfl); (focus (first | rfl | (simp only [push_cast, ↓reduceIte, effOk, touch, refsOf, List.flatMap_cons, List.flatMap_nil])))) | ((with_reducible apply i_S); (focus rfl); (focus (first | rfl | (simp only [push_cast, ↓reduceIte, effOk, touch, refsOf, List.flatMap_cons, List.flatMap_nil])))) | ((with_reducible apply i_Vq); (focus rfl); (focus rfl)) | ((with_reducible apply i_Vp); (focus rfl); (focus rfl); (focus rfl))); (focus (simp (disch := (first | omega | (simp only [push_cast]; done) | (simp only [push_cast]; omega) | ((try simp only [push_cast]); (with_reducible first | apply sel_lt | apply sel_ge); (focus decide); (focus (simp only [push_cast]; omega))))) only [push_cast, ↓reduceIte, Nat.reduceEqDiff, Nat.reduceBEq, Nat.reduceAdd, Nat.reduceSub, Int.reduceToNat, *] <;> with_reducible exact rfl))) | ((with_reducible first | apply i_Gb | apply i_cond); (focus (simp (disch := (first | omega | (simp only [push_cast]; done) | (simp only [push_cast]; omega) | ((try simp only [push_cast]); (with_reducible first | apply sel_lt | apply sel_ge); (focus decide); (focus (simp only [push_cast]; omega))))) only [push_cast, ↓reduceIte, Nat.reduceEqDiff, Nat.reduceBEq, Nat.reduceAdd, Nat.reduceSub, Int.reduceToNat, *] <;> with_reducible exact rfl)); all_goals (intro hX; first | (cases hX; done) | ((with_reducible first | have hX0 : true = true := hX | have hX0 : false = false := hX); clear hX0 hX) | ((try simp only [decide_eq_true_eq, decide_eq_false_iff_not, Bool.not_eq_true', Bool.not_eq_false'] at hX); (try have hXb := inB_iff.1 hX)))))
    all_goals try ((first | apply i_end | apply i_endN); simp (disch := (first | omega | (simp only [push_cast]; done) | (simp only [push_cast]; omega) | ((try simp only [push_cast]); (with_reducible first | apply sel_lt | apply sel_ge); (focus decide); (focus (simp only [push_cast]; omega))))) only [push_cast, ↓reduceIte, Nat.reduceEqDiff, Nat.reduceBEq, Nat.reduceAdd, Nat.reduceSub, Int.reduceToNat, *])
    · have : ¬ xs = ys := fun h => by subst h; simp_all
      simp [this]
    · refine ⟨k + 1, ⟨by omega, fun j hj => ?_⟩, by dsimp only; omega, by simp only [push_cast, ↓reduceIte, Nat.reduceEqDiff, Nat.reduceBEq, Nat.reduceAdd, Nat.reduceSub, Int.reduceToNat], trivial, rfl⟩
      by_cases h1 : j < k
      · exact hok j h1
      · have : j = k := by omega
        subst this
        assumption
    · have : xs = ys := eq_of_getDK (d := 0) (by omega) fun j hj => hok j (by omega)
      simp [this]
theorem labA_eq (l : List I3) (many : Int) (kn : List Int) : (piecesB l && (inB many 1 30 && (decide ((kn.length : Int) = 10) && !(kn.any fun n => !inB n 0 1000)))) = labOk l many kn := by
  have h1 : (!(kn.any fun n => !inB n 0 1000)) = kn.all fun n => inB n 0 1000 := by rw [List.not_any_eq_all_not]; simp
  have h2 : decide ((kn.length : Int) = 10) = decide (kn.length = 10) := by rw [decide_eq_decide]; omega
  unfold labOk
  rw [h1, h2]
  cases kn.all fun n => inB n 0 1000 <;> simp
noncomputable def φLabA : Fun := F3 dPcs dI dIs fun l many kn => if okPcs l ∧ kn.length ≤ 1048576 then some (bv (labOk l many kn)) else none
theorem φLabA_ap {l : List I3} {many : Int} {kn : List Int} (h : okPcs l) (h2 : kn.length ≤ 1048576) : φLabA [.lst false 3 (l.map fun x => .agg [.val (.int .i64 x.1), .val (.int .i64 x.2.1), .val (.int .i64 x.2.2)]), .val (.int .i64 many), .lst false 1 (kn.map fun n => .val (.int .i64 n))] = some (.val (.bool (labOk l many kn))) :=
  (F3_ap (A := dPcs) (B := dI) (C := dIs) l many kn).trans (if_pos ⟨h, h2⟩)
noncomputable def GLa4 : Ctx := ⟨fun f => if f = 42 then some φPieces else if f = 43 then some φIn else if f = 44 then some φConLab else none, fun f => none⟩
theorem GLa4_ok : SoundΓ Tryd.prog GLa4 := ⟨(fun f φ h => by
  unfold GLa4 at h
  dsimp only at h
  split at h
  · rename_i hf; cases h; subst hf; exact ⟨⟨_, Tryd.func42, rfl, rfl⟩, implPieces_ok⟩
  split at h
  · rename_i hf; cases h; subst hf; exact ⟨⟨_, Tryd.func43, rfl, rfl⟩, in_ok⟩
  split at h
  · rename_i hf; cases h; subst hf; exact ⟨⟨_, Tryd.func44, rfl, rfl⟩, conLab_ok⟩
  cases h), (fun f φ h => by
  unfold GLa4 at h
  dsimp only at h
  cases h)⟩
theorem GLa4_42 (ob : Objs) (ps : List PV) : evCall GLa4 ob 42 ps = (ps.mapM (reify false 0 ob fuel)).bind φPieces := by
  have h : GLa4.fn 42 = some φPieces := by simp [GLa4]
  unfold evCall
  rw [h]
  cases ps.mapM (reify false 0 ob fuel) <;> rfl
theorem GLa4_43 (ob : Objs) (ps : List PV) : evCall GLa4 ob 43 ps = (ps.mapM (reify false 0 ob fuel)).bind φIn := by
  have h : GLa4.fn 43 = some φIn := by simp [GLa4]
  unfold evCall
  rw [h]
  cases ps.mapM (reify false 0 ob fuel) <;> rfl
theorem GLa4_44 (ob : Objs) (ps : List PV) : evCall GLa4 ob 44 ps = (ps.mapM (reify false 0 ob fuel)).bind φConLab := by
  have h : GLa4.fn 44 = some φConLab := by simp [GLa4]
  unfold evCall
  rw [h]
  cases ps.mapM (reify false 0 ob fuel) <;> rfl
set_option maxHeartbeats 8000000 in
theorem labArgs_ok : Sound Tryd.prog 33 φLabA := by
  refine sound_pq mixed GLa4_ok Tryd.func33 rfl 23 rfl [.tmp 6] rfl (by kernel_rfl) fun ps r hr => ?_
  obtain ⟨l, many, kn, rfl, hq⟩ := F3_some hr
  clear hr
  split at hq
  case isFalse => cases hq
  case isTrue hpre =>
  cases hq
  refine ⟨by simp, ?_⟩
  simp only [dIs, dUs, dSs, dI_e, dU_e, dB_e, dS_e, dFn_e, dL_e, dA2_e, dA3_e, dA4_e, dA5_e]
  obtain ⟨hpc, hkn⟩ := hpre
  have ap1 := φPieces_ap hpc
  have ap2 := φIn_ap
  have ap3 := φConLab_ap (zs := kn) (by omega)
  have hr := labA_eq l many kn
  replace hr := Lib.hid hr
  clear hpc
  have gla4_c42 := GLa4_42; have gla4_c43 := GLa4_43; have gla4_c44 := GLa4_44
  repeat' (first | (with_reducible first | apply i_seq | apply i_block | apply i_skip | apply i_exit | apply i_ret | apply i_kS | apply i_kSx | apply i_kSr | apply i_kL | apply i_kLx | apply i_kLr | apply i_kB | apply i_kBr | apply i_kBs | apply i_nil) | ((with_reducible apply i_region); (focus (simp only [List.map_cons, List.map_nil] <;> exact rfl))) | ((with_reducible apply i_draw); (focus (simp only [List.map_cons, List.map_nil] <;> exact rfl)); (focus (decide +kernel))) | ((with_reducible apply i_kBo); (focus rfl)) | ((first | ((with_reducible apply i_V); (focus rfl); (focus rfl); (focus rfl)) | ((with_reducible apply i_E); (focus rfl); (focus (first | rfl | (simp only [push_cast, ↓reduceIte, effOk, touch, refsOf, List.flatMap_cons, List.flatMap_nil])))) | ((with_reducible apply i_S); (focus rfl); (focus (first | rfl | (simp only [push_cast, ↓reduceIte, effOk, touch, refsOf, List.flatMap_cons, List.flatMap_nil])))) | ((with_reducible apply i_Vq); (focus rfl); (focus rfl)) | ((with_reducible apply i_Vp); (focus rfl); (focus rfl); (focus rfl))); (focus (simp (disch := (first | omega | (simp only [push_cast]; done) | (simp only [push_cast]; omega) | ((try simp only [push_cast]); (with_reducible first | apply sel_lt | apply sel_ge); (focus decide); (focus (simp only [push_cast]; omega))))) only [push_cast, ↓reduceIte, Nat.reduceEqDiff, Nat.reduceBEq, Nat.reduceAdd, Nat.reduceSub, Int.reduceToNat, *] <;> with_reducible exact rfl))) | ((with_reducible first | apply i_Gb | apply i_cond); (focus (simp (disch := (first | omega | (simp only [push_cast]; done) | (simp only [push_cast]; omega) | ((try simp only [push_cast]); (with_reducible first | apply sel_lt | apply sel_ge); (focus decide); (focus (simp only [push_cast]; omega))))) only [push_cast, ↓reduceIte, Nat.reduceEqDiff, Nat.reduceBEq, Nat.reduceAdd, Nat.reduceSub, Int.reduceToNat, *] <;> with_reducible exact rfl)); all_goals (intro hX; first | (cases hX; done) | ((with_reducible first | have hX0 : true = true := hX | have hX0 : false = false := hX); clear hX0 hX) | ((try simp only [decide_eq_true_eq, decide_eq_false_iff_not, Bool.not_eq_true', Bool.not_eq_false'] at hX); (try have hXb := inB_iff.1 hX)))))
  all_goals ((first | apply i_end | apply i_endN); simp (disch := (first | omega | (simp only [push_cast]; done) | (simp only [push_cast]; omega) | ((try simp only [push_cast]); (with_reducible first | apply sel_lt | apply sel_ge); (focus decide); (focus (simp only [push_cast]; omega))))) only [push_cast, ↓reduceIte, Nat.reduceEqDiff, Nat.reduceBEq, Nat.reduceAdd, Nat.reduceSub, Int.reduceToNat, *])
  all_goals (rw [← hr.out]; simp [*])
theorem itoaS_size {n : Int} (h : 0 ≤ n) (h2 : n ≤ 1000) : ((itoaS n).size : Int) = digN n := by
  have key : ∀ k : Fin 1001, ((itoaS (k.val : Int)).size : Int) = digN (k.val : Int) := by decide +kernel
  have := key ⟨n.toNat, by omega⟩
  simpa [Int.toNat_of_nonneg h] using this
/-- What LabelPages answers. -/
noncomputable def labL (l : List I3) (many : Int) (kn : List Int) : List Int := if labOk l many kn = true then (labRun l many kn).1 else []
noncomputable def ΨLabP : FunN := G3 dPcs dI dIs fun l many kn => if okPcs l ∧ labOk l many kn = true then some (.row 0 1 0 10, [(3, 1, (labRun l many kn).1.map fun n => .val (.int .i64 n))]) else none
theorem labOk_facts {l : List I3} {many : Int} {kn : List Int} (h : labOk l many kn = true) : piecesB l = true ∧ (1 ≤ many ∧ many ≤ 30) ∧ kn.length = 10 ∧ ∀ j, j < 10 → 0 ≤ kn[j]?.getD 0 ∧ kn[j]?.getD 0 ≤ 1000 := by
  unfold labOk at h
  simp only [Bool.and_eq_true, decide_eq_true_eq] at h
  obtain ⟨h1, h2, h3, h4⟩ := h
  refine ⟨h2, inB_iff.1 h3, h4, fun j hj => ?_⟩
  have hj' : j < kn.length := by omega
  have := inB_iff.1 (List.all_eq_true.1 h1 kn[j] (List.getElem_mem hj'))
  simpa [hj'] using this
noncomputable def GLa5 : Ctx := ⟨fun f => if f = 46 then some φItoa else none, fun f => none⟩
theorem GLa5_ok : SoundΓ Tryd.prog GLa5 := ⟨(fun f φ h => by
  unfold GLa5 at h
  dsimp only at h
  split at h
  · rename_i hf; cases h; subst hf; exact ⟨⟨_, Tryd.func46, rfl, rfl⟩, itoa_ok⟩
  cases h), (fun f φ h => by
  unfold GLa5 at h
  dsimp only at h
  cases h)⟩
theorem GLa5_46 (ob : Objs) (ps : List PV) : evCall GLa5 ob 46 ps = (ps.mapM (reify false 0 ob fuel)).bind φItoa := by
  have h : GLa5.fn 46 = some φItoa := by simp [GLa5]
  unfold evCall
  rw [h]
  cases ps.mapM (reify false 0 ob fuel) <;> rfl
set_option maxHeartbeats 16000000 in
theorem labPagesN : SoundN Tryd.prog 34 ΨLabP := by
  refine sound_pqN mixed GLa5_ok Tryd.func34 rfl 49 rfl [.tmp 6] rfl (by kernel_rfl) fun ps r cs' hr => ?_
  obtain ⟨l, many, kn, rfl, hq⟩ := G3_some hr
  clear hr
  split at hq
  case isFalse => cases hq
  case isTrue hpre =>
  cases hq
  refine ⟨by simp, ?_⟩
  simp only [dIs, dUs, dSs, dI_e, dU_e, dB_e, dS_e, dFn_e, dL_e, dA2_e, dA3_e, dA4_e, dA5_e]
  obtain ⟨hpc, hO⟩ := hpre
  obtain ⟨hB, hmb, h10, hkr⟩ := labOk_facts hO
  have hlen := hpc.1
  have hfa := labRun_facts (many := many) (kn := kn) hB
  have hqa := fun k => piecesB_at hB (k := k)
  have hl20 := piecesB_len hB
  clear hpc hO
  replace hfa := Lib.hid hfa
  replace hqa := Lib.hid hqa
  replace hkr := Lib.hid hkr
  have gla5_c46 := GLa5_46
  (repeat' (first | (with_reducible first | apply i_seq | apply i_block | apply i_skip | apply i_exit | apply i_ret | apply i_kS | apply i_kSx | apply i_kSr | apply i_kL | apply i_kLx | apply i_kLr | apply i_kB | apply i_kBr | apply i_kBs | apply i_nil) | ((with_reducible apply i_region); (focus (simp only [List.map_cons, List.map_nil] <;> exact rfl))) | ((with_reducible apply i_draw); (focus (simp only [List.map_cons, List.map_nil] <;> exact rfl)); (focus (decide +kernel))) | ((with_reducible apply i_kBo); (focus rfl)) | ((first | ((with_reducible apply i_V); (focus rfl); (focus rfl); (focus rfl)) | ((with_reducible apply i_E); (focus rfl); (focus (first | rfl | (simp only [push_cast, ↓reduceIte, effOk, touch, refsOf, List.flatMap_cons, List.flatMap_nil])))) | ((with_reducible apply i_S); (focus rfl); (focus (first | rfl | (simp only [push_cast, ↓reduceIte, effOk, touch, refsOf, List.flatMap_cons, List.flatMap_nil])))) | ((with_reducible apply i_Vq); (focus rfl); (focus rfl)) | ((with_reducible apply i_Vp); (focus rfl); (focus rfl); (focus rfl))); (focus (simp (disch := (first | omega | (simp only [push_cast]; done) | (simp only [push_cast]; omega) | ((try simp only [push_cast]); (with_reducible first | apply sel_lt | apply sel_ge); (focus decide); (focus (simp only [push_cast]; omega))))) only [push_cast, ↓reduceIte, Nat.reduceEqDiff, Nat.reduceBEq, Nat.reduceAdd, Nat.reduceSub, Int.reduceToNat, *] <;> with_reducible exact rfl))) | ((with_reducible first | apply i_Gb | apply i_cond); (focus (simp (disch := (first | omega | (simp only [push_cast]; done) | (simp only [push_cast]; omega) | ((try simp only [push_cast]); (with_reducible first | apply sel_lt | apply sel_ge); (focus decide); (focus (simp only [push_cast]; omega))))) only [push_cast, ↓reduceIte, Nat.reduceEqDiff, Nat.reduceBEq, Nat.reduceAdd, Nat.reduceSub, Int.reduceToNat, *] <;> with_reducible exact rfl)); all_goals (intro hX; first | (cases hX; done) | ((with_reducible first | have hX0 : true = true := hX | have hX0 : false = false := hX); clear hX0 hX) | ((try simp only [decide_eq_true_eq, decide_eq_false_iff_not, Bool.not_eq_true', Bool.not_eq_false'] at hX); (try have hXb := inB_iff.1 hX)))))); all_goals try (exfalso; omega)
  refine i_loop (α := Nat) mixed (fun k => [(0, .lst false 3 (l.map fun x => .agg [.val (.int .i64 x.1), .val (.int .i64 x.2.1), .val (.int .i64 x.2.2)])), (1, iv many), (2, .lst false 1 (kn.map fun n => .val (.int .i64 n))), (7, .row 0 1 0 10), (8, iv (labRun (l.take k) many kn).2), (12, .lst false 3 (l.map fun x => .agg [.val (.int .i64 x.1), .val (.int .i64 x.2.1), .val (.int .i64 x.2.2)])), (13, iv l.length), (14, iv k)]) (fun k => [(0, 3, 1, (labRun (l.take k) many kn).1.map fun n => .val (.int .i64 n))]) (fun k => 1 + k)
    (fun k => k ≤ l.length) (fun k => l.length - k) (by kernel_rfl) 0 (Nat.zero_le _) ?_ ?_ rfl ?_
  · simp (disch := (first | omega | (simp only [push_cast]; done) | (simp only [push_cast]; omega) | ((try simp only [push_cast]); (with_reducible first | apply sel_lt | apply sel_ge); (focus decide); (focus (simp only [push_cast]; omega))))) only [push_cast, ↓reduceIte, Nat.reduceEqDiff, Nat.reduceBEq, Nat.reduceAdd, Nat.reduceSub, Int.reduceToNat, labRun_zero, labRun_nil, List.map_replicate, *]
  · simp (disch := (first | omega | (simp only [push_cast]; done) | (simp only [push_cast]; omega) | ((try simp only [push_cast]); (with_reducible first | apply sel_lt | apply sel_ge); (focus decide); (focus (simp only [push_cast]; omega))))) only [push_cast, ↓reduceIte, Nat.reduceEqDiff, Nat.reduceBEq, Nat.reduceAdd, Nat.reduceSub, Int.reduceToNat, labRun_zero, labRun_nil, List.map_replicate, *]
  intro k hk
  obtain ⟨f1, f2, f3⟩ := hfa.out k hk
  by_cases hkl : k < l.length
  · obtain ⟨q1, q2, q3⟩ := hqa.out k hkl
    have hs := labRun_succ (many := many) (kn := kn) hkl
    generalize labRun (l.take k) many kn = R at *
    obtain ⟨out, row⟩ := R
    generalize hy : l[k]?.getD i30 = y at *
    obtain ⟨y0, y1, y2⟩ := y
    dsimp only at f1 f2 f3 q1 q2 q3
    clear hfa hqa
    have hd1 : 0 ≤ row / many := Int.ediv_nonneg f2 (by omega)
    have hd2 : row / many ≤ row := Int.ediv_le_self _ f2
    by_cases hy1 : 0 < y1
    · by_cases hy2 : 0 < y2
      · skip
        have hs2 : labRun (l.take (k + 1)) many kn = (out.set (y1 - 1).toNat (row / many + 1), row + y0 + digN (kn[(y2 - 1).toNat]?.getD 0)) := by rw [hs]; unfold labStep; dsimp only; rw [if_pos hy1, if_pos hy2]
        have hk1 := hkr.out (y2 - 1).toNat (by omega)
        have ap3 := φItoa_ap (n := kn[(y2 - 1).toNat]?.getD 0) ⟨by omega, by omega⟩
        have hsz := itoaS_size hk1.1 hk1.2
        have hdr := digN_rng (kn[(y2 - 1).toNat]?.getD 0)
        replace hs2 := Lib.hid hs2
        clear hs
        (repeat' (first | (with_reducible first | apply i_seq | apply i_block | apply i_skip | apply i_exit | apply i_ret | apply i_kS | apply i_kSx | apply i_kSr | apply i_kL | apply i_kLx | apply i_kLr | apply i_kB | apply i_kBr | apply i_kBs | apply i_nil) | ((with_reducible apply i_region); (focus (simp only [List.map_cons, List.map_nil] <;> exact rfl))) | ((with_reducible apply i_draw); (focus (simp only [List.map_cons, List.map_nil] <;> exact rfl)); (focus (decide +kernel))) | ((with_reducible apply i_kBo); (focus rfl)) | ((first | ((with_reducible apply i_V); (focus rfl); (focus rfl); (focus rfl)) | ((with_reducible apply i_E); (focus rfl); (focus (first | rfl | (simp only [push_cast, ↓reduceIte, effOk, touch, refsOf, List.flatMap_cons, List.flatMap_nil])))) | ((with_reducible apply i_S); (focus rfl); (focus (first | rfl | (simp only [push_cast, ↓reduceIte, effOk, touch, refsOf, List.flatMap_cons, List.flatMap_nil])))) | ((with_reducible apply i_Vq); (focus rfl); (focus rfl)) | ((with_reducible apply i_Vp); (focus rfl); (focus rfl); (focus rfl))); (focus (simp (disch := (first | omega | (simp only [push_cast]; done) | (simp only [push_cast]; omega) | ((try simp only [push_cast]); (with_reducible first | apply sel_lt | apply sel_ge); (focus decide); (focus (simp only [push_cast]; omega))))) only [push_cast, ↓reduceIte, Nat.reduceEqDiff, Nat.reduceBEq, Nat.reduceAdd, Nat.reduceSub, Int.reduceToNat, *] <;> with_reducible exact rfl))) | ((with_reducible first | apply i_Gb | apply i_cond); (focus (simp (disch := (first | omega | (simp only [push_cast]; done) | (simp only [push_cast]; omega) | ((try simp only [push_cast]); (with_reducible first | apply sel_lt | apply sel_ge); (focus decide); (focus (simp only [push_cast]; omega))))) only [push_cast, ↓reduceIte, Nat.reduceEqDiff, Nat.reduceBEq, Nat.reduceAdd, Nat.reduceSub, Int.reduceToNat, *] <;> with_reducible exact rfl)); all_goals (intro hX; first | (cases hX; done) | ((with_reducible first | have hX0 : true = true := hX | have hX0 : false = false := hX); clear hX0 hX) | ((try simp only [decide_eq_true_eq, decide_eq_false_iff_not, Bool.not_eq_true', Bool.not_eq_false'] at hX); (try have hXb := inB_iff.1 hX)))))); all_goals try (exfalso; omega)
        have hs3 := hs2.out
        all_goals (refine ⟨k + 1, by omega, by dsimp only; omega, ?_, ?_, by dsimp only; omega⟩ <;> simp (disch := (first | omega | (simp only [push_cast]; done) | (simp only [push_cast]; omega) | ((try simp only [push_cast]); (with_reducible first | apply sel_lt | apply sel_ge); (focus decide); (focus (simp only [push_cast]; omega))))) only [push_cast, ↓reduceIte, Nat.reduceEqDiff, Nat.reduceBEq, Nat.reduceAdd, Nat.reduceSub, Int.reduceToNat, Int.add_zero, *])
      · skip
        have hs2 : labRun (l.take (k + 1)) many kn = (out.set (y1 - 1).toNat (row / many + 1), row + y0 + 0) := by rw [hs]; unfold labStep; dsimp only; rw [if_pos hy1, if_neg hy2]
        replace hs2 := Lib.hid hs2
        clear hs
        (repeat' (first | (with_reducible first | apply i_seq | apply i_block | apply i_skip | apply i_exit | apply i_ret | apply i_kS | apply i_kSx | apply i_kSr | apply i_kL | apply i_kLx | apply i_kLr | apply i_kB | apply i_kBr | apply i_kBs | apply i_nil) | ((with_reducible apply i_region); (focus (simp only [List.map_cons, List.map_nil] <;> exact rfl))) | ((with_reducible apply i_draw); (focus (simp only [List.map_cons, List.map_nil] <;> exact rfl)); (focus (decide +kernel))) | ((with_reducible apply i_kBo); (focus rfl)) | ((first | ((with_reducible apply i_V); (focus rfl); (focus rfl); (focus rfl)) | ((with_reducible apply i_E); (focus rfl); (focus (first | rfl | (simp only [push_cast, ↓reduceIte, effOk, touch, refsOf, List.flatMap_cons, List.flatMap_nil])))) | ((with_reducible apply i_S); (focus rfl); (focus (first | rfl | (simp only [push_cast, ↓reduceIte, effOk, touch, refsOf, List.flatMap_cons, List.flatMap_nil])))) | ((with_reducible apply i_Vq); (focus rfl); (focus rfl)) | ((with_reducible apply i_Vp); (focus rfl); (focus rfl); (focus rfl))); (focus (simp (disch := (first | omega | (simp only [push_cast]; done) | (simp only [push_cast]; omega) | ((try simp only [push_cast]); (with_reducible first | apply sel_lt | apply sel_ge); (focus decide); (focus (simp only [push_cast]; omega))))) only [push_cast, ↓reduceIte, Nat.reduceEqDiff, Nat.reduceBEq, Nat.reduceAdd, Nat.reduceSub, Int.reduceToNat, *] <;> with_reducible exact rfl))) | ((with_reducible first | apply i_Gb | apply i_cond); (focus (simp (disch := (first | omega | (simp only [push_cast]; done) | (simp only [push_cast]; omega) | ((try simp only [push_cast]); (with_reducible first | apply sel_lt | apply sel_ge); (focus decide); (focus (simp only [push_cast]; omega))))) only [push_cast, ↓reduceIte, Nat.reduceEqDiff, Nat.reduceBEq, Nat.reduceAdd, Nat.reduceSub, Int.reduceToNat, *] <;> with_reducible exact rfl)); all_goals (intro hX; first | (cases hX; done) | ((with_reducible first | have hX0 : true = true := hX | have hX0 : false = false := hX); clear hX0 hX) | ((try simp only [decide_eq_true_eq, decide_eq_false_iff_not, Bool.not_eq_true', Bool.not_eq_false'] at hX); (try have hXb := inB_iff.1 hX)))))); all_goals try (exfalso; omega)
        have hs3 := hs2.out
        all_goals (refine ⟨k + 1, by omega, by dsimp only; omega, ?_, ?_, by dsimp only; omega⟩ <;> simp (disch := (first | omega | (simp only [push_cast]; done) | (simp only [push_cast]; omega) | ((try simp only [push_cast]); (with_reducible first | apply sel_lt | apply sel_ge); (focus decide); (focus (simp only [push_cast]; omega))))) only [push_cast, ↓reduceIte, Nat.reduceEqDiff, Nat.reduceBEq, Nat.reduceAdd, Nat.reduceSub, Int.reduceToNat, Int.add_zero, *])
    · by_cases hy2 : 0 < y2
      · skip
        have hs2 : labRun (l.take (k + 1)) many kn = (out, row + y0 + digN (kn[(y2 - 1).toNat]?.getD 0)) := by rw [hs]; unfold labStep; dsimp only; rw [if_neg hy1, if_pos hy2]
        have hk1 := hkr.out (y2 - 1).toNat (by omega)
        have ap3 := φItoa_ap (n := kn[(y2 - 1).toNat]?.getD 0) ⟨by omega, by omega⟩
        have hsz := itoaS_size hk1.1 hk1.2
        have hdr := digN_rng (kn[(y2 - 1).toNat]?.getD 0)
        replace hs2 := Lib.hid hs2
        clear hs
        (repeat' (first | (with_reducible first | apply i_seq | apply i_block | apply i_skip | apply i_exit | apply i_ret | apply i_kS | apply i_kSx | apply i_kSr | apply i_kL | apply i_kLx | apply i_kLr | apply i_kB | apply i_kBr | apply i_kBs | apply i_nil) | ((with_reducible apply i_region); (focus (simp only [List.map_cons, List.map_nil] <;> exact rfl))) | ((with_reducible apply i_draw); (focus (simp only [List.map_cons, List.map_nil] <;> exact rfl)); (focus (decide +kernel))) | ((with_reducible apply i_kBo); (focus rfl)) | ((first | ((with_reducible apply i_V); (focus rfl); (focus rfl); (focus rfl)) | ((with_reducible apply i_E); (focus rfl); (focus (first | rfl | (simp only [push_cast, ↓reduceIte, effOk, touch, refsOf, List.flatMap_cons, List.flatMap_nil])))) | ((with_reducible apply i_S); (focus rfl); (focus (first | rfl | (simp only [push_cast, ↓reduceIte, effOk, touch, refsOf, List.flatMap_cons, List.flatMap_nil])))) | ((with_reducible apply i_Vq); (focus rfl); (focus rfl)) | ((with_reducible apply i_Vp); (focus rfl); (focus rfl); (focus rfl))); (focus (simp (disch := (first | omega | (simp only [push_cast]; done) | (simp only [push_cast]; omega) | ((try simp only [push_cast]); (with_reducible first | apply sel_lt | apply sel_ge); (focus decide); (focus (simp only [push_cast]; omega))))) only [push_cast, ↓reduceIte, Nat.reduceEqDiff, Nat.reduceBEq, Nat.reduceAdd, Nat.reduceSub, Int.reduceToNat, *] <;> with_reducible exact rfl))) | ((with_reducible first | apply i_Gb | apply i_cond); (focus (simp (disch := (first | omega | (simp only [push_cast]; done) | (simp only [push_cast]; omega) | ((try simp only [push_cast]); (with_reducible first | apply sel_lt | apply sel_ge); (focus decide); (focus (simp only [push_cast]; omega))))) only [push_cast, ↓reduceIte, Nat.reduceEqDiff, Nat.reduceBEq, Nat.reduceAdd, Nat.reduceSub, Int.reduceToNat, *] <;> with_reducible exact rfl)); all_goals (intro hX; first | (cases hX; done) | ((with_reducible first | have hX0 : true = true := hX | have hX0 : false = false := hX); clear hX0 hX) | ((try simp only [decide_eq_true_eq, decide_eq_false_iff_not, Bool.not_eq_true', Bool.not_eq_false'] at hX); (try have hXb := inB_iff.1 hX)))))); all_goals try (exfalso; omega)
        have hs3 := hs2.out
        all_goals (refine ⟨k + 1, by omega, by dsimp only; omega, ?_, ?_, by dsimp only; omega⟩ <;> simp (disch := (first | omega | (simp only [push_cast]; done) | (simp only [push_cast]; omega) | ((try simp only [push_cast]); (with_reducible first | apply sel_lt | apply sel_ge); (focus decide); (focus (simp only [push_cast]; omega))))) only [push_cast, ↓reduceIte, Nat.reduceEqDiff, Nat.reduceBEq, Nat.reduceAdd, Nat.reduceSub, Int.reduceToNat, Int.add_zero, *])
      · skip
        have hs2 : labRun (l.take (k + 1)) many kn = (out, row + y0 + 0) := by rw [hs]; unfold labStep; dsimp only; rw [if_neg hy1, if_neg hy2]
        replace hs2 := Lib.hid hs2
        clear hs
        (repeat' (first | (with_reducible first | apply i_seq | apply i_block | apply i_skip | apply i_exit | apply i_ret | apply i_kS | apply i_kSx | apply i_kSr | apply i_kL | apply i_kLx | apply i_kLr | apply i_kB | apply i_kBr | apply i_kBs | apply i_nil) | ((with_reducible apply i_region); (focus (simp only [List.map_cons, List.map_nil] <;> exact rfl))) | ((with_reducible apply i_draw); (focus (simp only [List.map_cons, List.map_nil] <;> exact rfl)); (focus (decide +kernel))) | ((with_reducible apply i_kBo); (focus rfl)) | ((first | ((with_reducible apply i_V); (focus rfl); (focus rfl); (focus rfl)) | ((with_reducible apply i_E); (focus rfl); (focus (first | rfl | (simp only [push_cast, ↓reduceIte, effOk, touch, refsOf, List.flatMap_cons, List.flatMap_nil])))) | ((with_reducible apply i_S); (focus rfl); (focus (first | rfl | (simp only [push_cast, ↓reduceIte, effOk, touch, refsOf, List.flatMap_cons, List.flatMap_nil])))) | ((with_reducible apply i_Vq); (focus rfl); (focus rfl)) | ((with_reducible apply i_Vp); (focus rfl); (focus rfl); (focus rfl))); (focus (simp (disch := (first | omega | (simp only [push_cast]; done) | (simp only [push_cast]; omega) | ((try simp only [push_cast]); (with_reducible first | apply sel_lt | apply sel_ge); (focus decide); (focus (simp only [push_cast]; omega))))) only [push_cast, ↓reduceIte, Nat.reduceEqDiff, Nat.reduceBEq, Nat.reduceAdd, Nat.reduceSub, Int.reduceToNat, *] <;> with_reducible exact rfl))) | ((with_reducible first | apply i_Gb | apply i_cond); (focus (simp (disch := (first | omega | (simp only [push_cast]; done) | (simp only [push_cast]; omega) | ((try simp only [push_cast]); (with_reducible first | apply sel_lt | apply sel_ge); (focus decide); (focus (simp only [push_cast]; omega))))) only [push_cast, ↓reduceIte, Nat.reduceEqDiff, Nat.reduceBEq, Nat.reduceAdd, Nat.reduceSub, Int.reduceToNat, *] <;> with_reducible exact rfl)); all_goals (intro hX; first | (cases hX; done) | ((with_reducible first | have hX0 : true = true := hX | have hX0 : false = false := hX); clear hX0 hX) | ((try simp only [decide_eq_true_eq, decide_eq_false_iff_not, Bool.not_eq_true', Bool.not_eq_false'] at hX); (try have hXb := inB_iff.1 hX)))))); all_goals try (exfalso; omega)
        have hs3 := hs2.out
        all_goals (refine ⟨k + 1, by omega, by dsimp only; omega, ?_, ?_, by dsimp only; omega⟩ <;> simp (disch := (first | omega | (simp only [push_cast]; done) | (simp only [push_cast]; omega) | ((try simp only [push_cast]); (with_reducible first | apply sel_lt | apply sel_ge); (focus decide); (focus (simp only [push_cast]; omega))))) only [push_cast, ↓reduceIte, Nat.reduceEqDiff, Nat.reduceBEq, Nat.reduceAdd, Nat.reduceSub, Int.reduceToNat, Int.add_zero, *])
  · obtain rfl : k = l.length := by omega
    have hrl : l.take l.length = l := List.take_length
    rw [hrl] at f1 f2 f3
    clear hfa hqa hkr
    have h10' : ((labRun l many kn).1.map fun n => PV.val (.int .i64 n)).length = 10 := by rw [List.length_map]; exact f1
    (repeat' (first | (with_reducible first | apply i_seq | apply i_block | apply i_skip | apply i_exit | apply i_ret | apply i_kS | apply i_kSx | apply i_kSr | apply i_kL | apply i_kLx | apply i_kLr | apply i_kB | apply i_kBr | apply i_kBs | apply i_nil) | ((with_reducible apply i_region); (focus (simp only [List.map_cons, List.map_nil] <;> exact rfl))) | ((with_reducible apply i_draw); (focus (simp only [List.map_cons, List.map_nil] <;> exact rfl)); (focus (decide +kernel))) | ((with_reducible apply i_kBo); (focus rfl)) | ((first | ((with_reducible apply i_V); (focus rfl); (focus rfl); (focus rfl)) | ((with_reducible apply i_E); (focus rfl); (focus (first | rfl | (simp only [push_cast, ↓reduceIte, effOk, touch, refsOf, List.flatMap_cons, List.flatMap_nil])))) | ((with_reducible apply i_S); (focus rfl); (focus (first | rfl | (simp only [push_cast, ↓reduceIte, effOk, touch, refsOf, List.flatMap_cons, List.flatMap_nil])))) | ((with_reducible apply i_Vq); (focus rfl); (focus rfl)) | ((with_reducible apply i_Vp); (focus rfl); (focus rfl); (focus rfl))); (focus (simp (disch := (first | omega | (simp only [push_cast]; done) | (simp only [push_cast]; omega) | ((try simp only [push_cast]); (with_reducible first | apply sel_lt | apply sel_ge); (focus decide); (focus (simp only [push_cast]; omega))))) only [push_cast, ↓reduceIte, Nat.reduceEqDiff, Nat.reduceBEq, Nat.reduceAdd, Nat.reduceSub, Int.reduceToNat, *] <;> with_reducible exact rfl))) | ((with_reducible first | apply i_Gb | apply i_cond); (focus (simp (disch := (first | omega | (simp only [push_cast]; done) | (simp only [push_cast]; omega) | ((try simp only [push_cast]); (with_reducible first | apply sel_lt | apply sel_ge); (focus decide); (focus (simp only [push_cast]; omega))))) only [push_cast, ↓reduceIte, Nat.reduceEqDiff, Nat.reduceBEq, Nat.reduceAdd, Nat.reduceSub, Int.reduceToNat, *] <;> with_reducible exact rfl)); all_goals (intro hX; first | (cases hX; done) | ((with_reducible first | have hX0 : true = true := hX | have hX0 : false = false := hX); clear hX0 hX) | ((try simp only [decide_eq_true_eq, decide_eq_false_iff_not, Bool.not_eq_true', Bool.not_eq_false'] at hX); (try have hXb := inB_iff.1 hX)))))); all_goals try (exfalso; omega)
    all_goals (rw [hrl]; ((with_reducible apply i_endN1 (0) (by first | exact .inl rfl | exact .inr rfl)); (focus (simp (disch := (first | omega | (simp only [push_cast]; done) | (simp only [push_cast]; omega) | ((try simp only [push_cast]); (with_reducible first | apply sel_lt | apply sel_ge); (focus decide); (focus (simp only [push_cast]; omega))))) only [push_cast, ↓reduceIte, Nat.reduceEqDiff, Nat.reduceBEq, Nat.reduceAdd, Nat.reduceSub, Int.reduceToNat, *] <;> with_reducible exact rfl)); (focus (simp (disch := (first | omega | (simp only [push_cast]; done) | (simp only [push_cast]; omega) | ((try simp only [push_cast]); (with_reducible first | apply sel_lt | apply sel_ge); (focus decide); (focus (simp only [push_cast]; omega))))) only [push_cast, ↓reduceIte, Nat.reduceEqDiff, Nat.reduceBEq, Nat.reduceAdd, Nat.reduceSub, Int.reduceToNat, *] <;> with_reducible exact rfl))))
end Go.Proofs.YtghhlakfbgcmkaaDoor
