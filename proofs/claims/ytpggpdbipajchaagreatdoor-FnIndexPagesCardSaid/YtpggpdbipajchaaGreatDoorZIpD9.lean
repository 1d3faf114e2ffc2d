/- What the proof rests on, part 9: contracts of functions. No condition beyond what each states. -/
import Derived.Test.YtpggpdbipajchaaGreatDoorZIpD8
namespace Go.Proofs.YtpggpdbipajchaaGreatDoor
open Go.RowKit
set_option linter.all false
def wordB (s : ByteArray) : Bool := (List.range s.size).all (fun k => inB (at8 s k) 97 122) && inB s.size 1 20
theorem wordB_no {s : ByteArray} {k : Nat} (h : k < s.size) (hb : ¬ (97 ≤ at8 s k ∧ at8 s k ≤ 122)) : wordB s = false := by
  unfold wordB
  have : (List.range s.size).all (fun k => inB (at8 s k) 97 122) = false := by
    rw [List.all_eq_false]
    exact ⟨k, List.mem_range.2 h, by rw [inB_iff]; exact hb⟩
  rw [this]
  rfl
theorem wordB_yes {s : ByteArray} (h : ∀ j, j < s.size → 97 ≤ at8 s j ∧ at8 s j ≤ 122) : wordB s = inB s.size 1 20 := by
  unfold wordB
  have : (List.range s.size).all (fun k => inB (at8 s k) 97 122) = true := by
    rw [List.all_eq_true]
    intro k hk
    exact inB_iff.2 (h k (List.mem_range.1 hk))
  rw [this]
  rfl
def φWord : Fun := F1 dS fun s => if s.size ≤ 1099511627776 then some (bv (wordB s)) else none
theorem φWord_ap {s : ByteArray} (h : s.size ≤ 1099511627776) : φWord [.val (.string s)] = some (.val (.bool (wordB s))) :=
  (F1_ap (A := dS) s).trans (if_pos h)
def φSmall : Fun := F1 dU fun n => some (bv (inB n 97 122))
theorem φSmall_ap (n : Int) : φSmall [.val (.int .u8 n)] = some (.val (.bool (inB n 97 122))) := rfl
theorem isSmall_ok : Sound Tryz.prog 44 φSmall := by
  refine sound_pq mixed GE_ok Tryz.func44 rfl 9 rfl [.tmp 2] rfl (by kernel_rfl) fun ps r hr => ?_
  obtain ⟨n, rfl, hr⟩ := F1_some hr
  cases hr
  refine ⟨by simp, ?_⟩
  simp only [dIs, dUs, dSs, dI_e, dU_e, dB_e, dS_e, dFn_e, dL_e, dA2_e, dA3_e, dA4_e, dA5_e]
  repeat' (first | (with_reducible first | apply i_seq | apply i_block | apply i_skip | apply i_exit | apply i_ret | apply i_kS | apply i_kSx | apply i_kSr | apply i_kL | apply i_kLx | apply i_kLr | apply i_kB | apply i_kBr | apply i_kBs | apply i_nil) | ((with_reducible apply i_region); (simp only [List.map_cons, List.map_nil] <;> exact rfl)) | ((with_reducible apply i_draw); (simp only [List.map_cons, List.map_nil] <;> exact rfl); decide +kernel) | ((with_reducible apply i_kBo); rfl) | ((first | ((with_reducible apply i_V); rfl; rfl; rfl) | ((first | ((with_reducible apply i_E); rfl) | ((with_reducible apply i_S); rfl)); first | rfl | (simp only [push_cast, ↓reduceIte])) | ((with_reducible apply i_Vq); rfl; rfl) | ((with_reducible apply i_Vp); rfl; rfl; rfl) | (with_reducible first | apply i_Gb | apply i_cond)); (simp (disch := (first | omega | (simp only [push_cast]; first | done | omega))) only [push_cast, ↓reduceIte, Nat.reduceEqDiff, Nat.reduceBEq, Nat.reduceAdd, Nat.reduceSub, Int.reduceToNat, *] <;> with_reducible exact rfl); all_goals try (first | (with_reducible first | refine hyT ?_ | refine hyF ?_ | exact hyA | exact hyB) | (intro hX; first | (cases hX; done) | ((try simp only [decide_eq_true_eq, decide_eq_false_iff_not, Bool.not_eq_true', Bool.not_eq_false'] at hX); (try have hXb := inB_iff.1 hX))))))
  all_goals ((first | apply i_end | apply i_endN); simp (disch := (first | omega | (simp only [push_cast]; first | done | omega))) only [push_cast, ↓reduceIte, Nat.reduceEqDiff, Nat.reduceBEq, Nat.reduceAdd, Nat.reduceSub, Int.reduceToNat, *])
  all_goals (first | (simp_all [inB]; done) | (simp_all [inB]; omega))
noncomputable def GWv : Ctx := { fn := fun f => if f = 44 then some φSmall else if f = 42 then some φIn else none, io := fun f => none }
theorem GWv_ok : SoundΓ Tryz.prog GWv := ⟨(fun f φ h => by
  unfold GWv at h
  dsimp only at h
  split at h
  · rename_i hf; cases h; subst hf; exact ⟨⟨_, Tryz.func44, rfl, rfl⟩, isSmall_ok⟩
  split at h
  · rename_i hf; cases h; subst hf; exact ⟨⟨_, Tryz.func42, rfl, rfl⟩, in_ok⟩
  cases h), (fun f φ h => by
  unfold GWv at h
  dsimp only at h
  cases h), rfl⟩
theorem GWv_44 (ob : Objs) (ps : List PV) : evCall GWv ob 44 ps = (ps.mapM (reify false 0 ob fuel)).bind φSmall := by
  have h : GWv.fn 44 = some φSmall := by simp [GWv]
  unfold evCall
  rw [h]
  cases ps.mapM (reify false 0 ob fuel) <;> rfl
theorem GWv_42 (ob : Objs) (ps : List PV) : evCall GWv ob 42 ps = (ps.mapM (reify false 0 ob fuel)).bind φIn := by
  have h : GWv.fn 42 = some φIn := by simp [GWv]
  unfold evCall
  rw [h]
  cases ps.mapM (reify false 0 ob fuel) <;> rfl
set_option maxHeartbeats 4000000 in
theorem implWordValid_ok : Sound Tryz.prog 27 φWord := by
  refine sound_pq mixed GWv_ok Tryz.func27 rfl 18 rfl [.tmp 2] rfl (by kernel_rfl) fun ps r hr => ?_
  obtain ⟨s, rfl, hq⟩ := F1_some hr
  clear hr
  split at hq
  case isFalse => cases hq
  case isTrue hlen =>
  cases hq
  refine ⟨by simp, ?_⟩
  simp only [dIs, dUs, dSs, dI_e, dU_e, dB_e, dS_e, dFn_e, dL_e, dA2_e, dA3_e, dA4_e, dA5_e]
  have gwv_c44 := GWv_44; have gwv_c42 := GWv_42; have ap := φSmall_ap; have ap2 := φIn_ap
  repeat' (first | (with_reducible first | apply i_seq | apply i_block | apply i_skip | apply i_exit | apply i_ret | apply i_kS | apply i_kSx | apply i_kSr | apply i_kL | apply i_kLx | apply i_kLr | apply i_kB | apply i_kBr | apply i_kBs | apply i_nil) | ((with_reducible apply i_region); (simp only [List.map_cons, List.map_nil] <;> exact rfl)) | ((with_reducible apply i_draw); (simp only [List.map_cons, List.map_nil] <;> exact rfl); decide +kernel) | ((with_reducible apply i_kBo); rfl) | ((first | ((with_reducible apply i_V); rfl; rfl; rfl) | ((first | ((with_reducible apply i_E); rfl) | ((with_reducible apply i_S); rfl)); first | rfl | (simp only [push_cast, ↓reduceIte])) | ((with_reducible apply i_Vq); rfl; rfl) | ((with_reducible apply i_Vp); rfl; rfl; rfl) | (with_reducible first | apply i_Gb | apply i_cond)); (simp (disch := (first | omega | (simp only [push_cast]; first | done | omega))) only [push_cast, ↓reduceIte, Nat.reduceEqDiff, Nat.reduceBEq, Nat.reduceAdd, Nat.reduceSub, Int.reduceToNat, *] <;> with_reducible exact rfl); all_goals try (first | (with_reducible first | refine hyT ?_ | refine hyF ?_ | exact hyA | exact hyB) | (intro hX; first | (cases hX; done) | ((try simp only [decide_eq_true_eq, decide_eq_false_iff_not, Bool.not_eq_true', Bool.not_eq_false'] at hX); (try have hXb := inB_iff.1 hX))))))
  refine i_loop (α := Nat) mixed (fun k => [(0, sv s), (5, iv s.size), (6, iv k)]) (fun _ => []) (fun _ => 0)
    (fun k => k ≤ s.size ∧ ∀ j, j < k → 97 ≤ at8 s j ∧ at8 s j ≤ 122) (fun k => s.size - k) (by kernel_rfl) 0 ⟨Nat.zero_le _, fun j hj => by omega⟩ ?_ trivial rfl ?_
  · simp only [push_cast, ↓reduceIte, Nat.reduceEqDiff, Nat.reduceBEq, Nat.reduceAdd, Nat.reduceSub, Int.reduceToNat]
  · intro k ⟨hk, hok⟩
    have hrk := at8_rng s k
    repeat' (first | (with_reducible first | apply i_seq | apply i_block | apply i_skip | apply i_exit | apply i_ret | apply i_kS | apply i_kSx | apply i_kSr | apply i_kL | apply i_kLx | apply i_kLr | apply i_kB | apply i_kBr | apply i_kBs | apply i_nil) | ((with_reducible apply i_region); (simp only [List.map_cons, List.map_nil] <;> exact rfl)) | ((with_reducible apply i_draw); (simp only [List.map_cons, List.map_nil] <;> exact rfl); decide +kernel) | ((with_reducible apply i_kBo); rfl) | ((first | ((with_reducible apply i_V); rfl; rfl; rfl) | ((first | ((with_reducible apply i_E); rfl) | ((with_reducible apply i_S); rfl)); first | rfl | (simp only [push_cast, ↓reduceIte])) | ((with_reducible apply i_Vq); rfl; rfl) | ((with_reducible apply i_Vp); rfl; rfl; rfl) | (with_reducible first | apply i_Gb | apply i_cond)); (simp (disch := (first | omega | (simp only [push_cast]; first | done | omega))) only [push_cast, ↓reduceIte, Nat.reduceEqDiff, Nat.reduceBEq, Nat.reduceAdd, Nat.reduceSub, Int.reduceToNat, *] <;> with_reducible exact rfl); all_goals try (first | (with_reducible first | refine hyT ?_ | refine hyF ?_ | exact hyA | exact hyB) | (intro hX; first | (cases hX; done) | ((try simp only [decide_eq_true_eq, decide_eq_false_iff_not, Bool.not_eq_true', Bool.not_eq_false'] at hX); (try have hXb := inB_iff.1 hX))))))
    all_goals try ((first | apply i_end | apply i_endN); simp (disch := (first | omega | (simp only [push_cast]; first | done | omega))) only [push_cast, ↓reduceIte, Nat.reduceEqDiff, Nat.reduceBEq, Nat.reduceAdd, Nat.reduceSub, Int.reduceToNat, *])
    · rw [wordB_no (s := s) (k := k) (by omega) (by (simp_all [inB]; try omega))]
    · refine ⟨k + 1, ⟨by omega, fun j hj => ?_⟩, by dsimp only; omega, by simp only [push_cast, ↓reduceIte, Nat.reduceEqDiff, Nat.reduceBEq, Nat.reduceAdd, Nat.reduceSub, Int.reduceToNat], trivial, rfl⟩
      by_cases h1 : j < k
      · exact hok j h1
      · have : j = k := by omega
        subst this
        simp_all [inB]
    · rw [wordB_yes fun j hj => hok j (by omega)]
noncomputable def GWs : Ctx := { fn := fun f => if f = 36 then some φIn else none, io := fun f => none }
theorem GWs_ok : SoundΓ Tryz.prog GWs := ⟨(fun f φ h => by
  unfold GWs at h
  dsimp only at h
  split at h
  · rename_i hf; cases h; subst hf; exact ⟨⟨_, Tryz.func36, rfl, rfl⟩, l1In_ok⟩
  cases h), (fun f φ h => by
  unfold GWs at h
  dsimp only at h
  cases h), rfl⟩
theorem GWs_36 (ob : Objs) (ps : List PV) : evCall GWs ob 36 ps = (ps.mapM (reify false 0 ob fuel)).bind φIn := by
  have h : GWs.fn 36 = some φIn := by simp [GWs]
  unfold evCall
  rw [h]
  cases ps.mapM (reify false 0 ob fuel) <;> rfl
set_option maxHeartbeats 4000000 in
theorem specWordValid_ok : Sound Tryz.prog 35 φWord := by
  refine sound_pq mixed GWs_ok Tryz.func35 rfl 23 rfl [.tmp 2] rfl (by kernel_rfl) fun ps r hr => ?_
  obtain ⟨s, rfl, hq⟩ := F1_some hr
  clear hr
  split at hq
  case isFalse => cases hq
  case isTrue hlen =>
  cases hq
  refine ⟨by simp, ?_⟩
  simp only [dIs, dUs, dSs, dI_e, dU_e, dB_e, dS_e, dFn_e, dL_e, dA2_e, dA3_e, dA4_e, dA5_e]
  have gws_c36 := GWs_36; have ap2 := φIn_ap
  (refine wlkX ?_; intros)
  refine i_loop (α := Nat) mixed (fun k => [(0, sv s), (3, iv k)]) (fun _ => []) (fun _ => 0)
    (fun k => k ≤ s.size ∧ ∀ j, j < k → 97 ≤ at8 s j ∧ at8 s j ≤ 122) (fun k => s.size - k) (by kernel_rfl) 0 ⟨Nat.zero_le _, fun j hj => by omega⟩ ?_ trivial rfl ?_
  · simp only [push_cast, ↓reduceIte, Nat.reduceEqDiff, Nat.reduceBEq, Nat.reduceAdd, Nat.reduceSub, Int.reduceToNat]
  · intro k ⟨hk, hok⟩
    have hrk := at8_rng s k
    repeat' (first | (with_reducible first | apply i_seq | apply i_block | apply i_skip | apply i_exit | apply i_ret | apply i_kS | apply i_kSx | apply i_kSr | apply i_kL | apply i_kLx | apply i_kLr | apply i_kB | apply i_kBr | apply i_kBs | apply i_nil) | ((with_reducible apply i_region); (simp only [List.map_cons, List.map_nil] <;> exact rfl)) | ((with_reducible apply i_draw); (simp only [List.map_cons, List.map_nil] <;> exact rfl); decide +kernel) | ((with_reducible apply i_kBo); rfl) | ((first | ((with_reducible apply i_V); rfl; rfl; rfl) | ((first | ((with_reducible apply i_E); rfl) | ((with_reducible apply i_S); rfl)); first | rfl | (simp only [push_cast, ↓reduceIte])) | ((with_reducible apply i_Vq); rfl; rfl) | ((with_reducible apply i_Vp); rfl; rfl; rfl) | (with_reducible first | apply i_Gb | apply i_cond)); (simp (disch := (first | omega | (simp only [push_cast]; first | done | omega))) only [push_cast, ↓reduceIte, Nat.reduceEqDiff, Nat.reduceBEq, Nat.reduceAdd, Nat.reduceSub, Int.reduceToNat, *] <;> with_reducible exact rfl); all_goals try (first | (with_reducible first | refine hyT ?_ | refine hyF ?_ | exact hyA | exact hyB) | (intro hX; first | (cases hX; done) | ((try simp only [decide_eq_true_eq, decide_eq_false_iff_not, Bool.not_eq_true', Bool.not_eq_false'] at hX); (try have hXb := inB_iff.1 hX))))))
    all_goals try ((first | apply i_end | apply i_endN); simp (disch := (first | omega | (simp only [push_cast]; first | done | omega))) only [push_cast, ↓reduceIte, Nat.reduceEqDiff, Nat.reduceBEq, Nat.reduceAdd, Nat.reduceSub, Int.reduceToNat, *])
    all_goals try (rw [wordB_no (s := s) (k := k) (by omega) (by omega)]; done)
    all_goals try (rw [wordB_yes fun j hj => hok j (by omega)]; done)
    all_goals
      refine ⟨k + 1, ⟨by omega, fun j hj => ?_⟩, by dsimp only; omega, by simp only [push_cast, ↓reduceIte, Nat.reduceEqDiff, Nat.reduceBEq, Nat.reduceAdd, Nat.reduceSub, Int.reduceToNat], trivial, rfl⟩
      by_cases h1 : j < k
      · exact hok j h1
      · have : j = k := by omega
        subst this
        simp_all
        try omega
def φPage : Fun := F1 dI fun n => some (bv (inB n 1 999))
theorem φPage_ap (n : Int) : φPage [.val (.int .i64 n)] = some (.val (.bool (inB n 1 999))) := rfl
noncomputable def GPg : Ctx := { fn := fun f => if f = 42 then some φIn else none, io := fun f => none }
theorem GPg_ok : SoundΓ Tryz.prog GPg := ⟨(fun f φ h => by
  unfold GPg at h
  dsimp only at h
  split at h
  · rename_i hf; cases h; subst hf; exact ⟨⟨_, Tryz.func42, rfl, rfl⟩, in_ok⟩
  cases h), (fun f φ h => by
  unfold GPg at h
  dsimp only at h
  cases h), rfl⟩
theorem GPg_42 (ob : Objs) (ps : List PV) : evCall GPg ob 42 ps = (ps.mapM (reify false 0 ob fuel)).bind φIn := by
  have h : GPg.fn 42 = some φIn := by simp [GPg]
  unfold evCall
  rw [h]
  cases ps.mapM (reify false 0 ob fuel) <;> rfl
theorem isPage_ok : Sound Tryz.prog 28 φPage := by
  refine sound_pq mixed GPg_ok Tryz.func28 rfl 5 rfl [.tmp 2] rfl (by kernel_rfl) fun ps r hr => ?_
  obtain ⟨n, rfl, hr⟩ := F1_some hr
  cases hr
  refine ⟨by simp, ?_⟩
  simp only [dIs, dUs, dSs, dI_e, dU_e, dB_e, dS_e, dFn_e, dL_e, dA2_e, dA3_e, dA4_e, dA5_e]
  have gpg_c42 := GPg_42; have ap := φIn_ap
  (refine wlkX ?_; intros)
  all_goals (exact fnF)
def badW (x : W2) : Bool := !wordB x.1 || !inB x.2 1 999
def φBadW : Fun := F1 dW2 fun x => if x.1.size ≤ 1099511627776 then some (bv (badW x)) else none
theorem φBadW_ap {s : ByteArray} {n : Int} (h : s.size ≤ 1099511627776) : φBadW [.agg [.val (.string s), .val (.int .i64 n)]] = some (.val (.bool (badW (s, n)))) :=
  (F1_ap (A := dW2) (s, n)).trans (if_pos h)
noncomputable def GIc : Ctx := { fn := fun f => if f = 27 then some φWord else if f = 28 then some φPage else none, io := fun f => none }
theorem GIc_ok : SoundΓ Tryz.prog GIc := ⟨(fun f φ h => by
  unfold GIc at h
  dsimp only at h
  split at h
  · rename_i hf; cases h; subst hf; exact ⟨⟨_, Tryz.func27, rfl, rfl⟩, implWordValid_ok⟩
  split at h
  · rename_i hf; cases h; subst hf; exact ⟨⟨_, Tryz.func28, rfl, rfl⟩, isPage_ok⟩
  cases h), (fun f φ h => by
  unfold GIc at h
  dsimp only at h
  cases h), rfl⟩
theorem GIc_27 (ob : Objs) (ps : List PV) : evCall GIc ob 27 ps = (ps.mapM (reify false 0 ob fuel)).bind φWord := by
  have h : GIc.fn 27 = some φWord := by simp [GIc]
  unfold evCall
  rw [h]
  cases ps.mapM (reify false 0 ob fuel) <;> rfl
theorem GIc_28 (ob : Objs) (ps : List PV) : evCall GIc ob 28 ps = (ps.mapM (reify false 0 ob fuel)).bind φPage := by
  have h : GIc.fn 28 = some φPage := by simp [GIc]
  unfold evCall
  rw [h]
  cases ps.mapM (reify false 0 ob fuel) <;> rfl
set_option maxHeartbeats 4000000 in
theorem indexFn_ok : Sound Tryz.prog 26 φBadW := by
  refine sound_pq mixed GIc_ok Tryz.func26 rfl 13 rfl [.tmp 2] rfl (by kernel_rfl) fun ps r hr => ?_
  obtain ⟨⟨s, n⟩, rfl, hq⟩ := F1_some hr
  clear hr
  split at hq
  case isFalse => cases hq
  case isTrue hlen =>
  cases hq
  dsimp only at hlen
  refine ⟨by simp, ?_⟩
  simp only [dIs, dUs, dSs, dI_e, dU_e, dB_e, dS_e, dFn_e, dL_e, dA2_e, dA3_e, dA4_e, dA5_e]
  have gic_c27 := GIc_27; have gic_c28 := GIc_28; have ap := @φWord_ap; have ap2 := φPage_ap
  repeat' (first | (with_reducible first | apply i_seq | apply i_block | apply i_skip | apply i_exit | apply i_ret | apply i_kS | apply i_kSx | apply i_kSr | apply i_kL | apply i_kLx | apply i_kLr | apply i_kB | apply i_kBr | apply i_kBs | apply i_nil) | ((with_reducible apply i_region); (simp only [List.map_cons, List.map_nil] <;> exact rfl)) | ((with_reducible apply i_draw); (simp only [List.map_cons, List.map_nil] <;> exact rfl); decide +kernel) | ((with_reducible apply i_kBo); rfl) | ((first | ((with_reducible apply i_V); rfl; rfl; rfl) | ((first | ((with_reducible apply i_E); rfl) | ((with_reducible apply i_S); rfl)); first | rfl | (simp only [push_cast, ↓reduceIte])) | ((with_reducible apply i_Vq); rfl; rfl) | ((with_reducible apply i_Vp); rfl; rfl; rfl) | (with_reducible first | apply i_Gb | apply i_cond)); (simp (disch := (first | omega | (simp only [push_cast]; first | done | omega))) only [push_cast, ↓reduceIte, Nat.reduceEqDiff, Nat.reduceBEq, Nat.reduceAdd, Nat.reduceSub, Int.reduceToNat, *] <;> with_reducible exact rfl); all_goals try (first | (with_reducible first | refine hyT ?_ | refine hyF ?_ | exact hyA | exact hyB) | (intro hX; first | (cases hX; done) | ((try simp only [decide_eq_true_eq, decide_eq_false_iff_not, Bool.not_eq_true', Bool.not_eq_false'] at hX); (try have hXb := inB_iff.1 hX))))))
  all_goals ((first | apply i_end | apply i_endN); simp (disch := (first | omega | (simp only [push_cast]; first | done | omega))) only [push_cast, ↓reduceIte, Nat.reduceEqDiff, Nat.reduceBEq, Nat.reduceAdd, Nat.reduceSub, Int.reduceToNat, *])
  all_goals simp_all [badW]
def firstAtG {α : Type} (p : α → Bool) (zs : List α) : Int := match zs.findIdx? p with | some i => i | none => -1
theorem firstAtG_found {α : Type} {d : α} {p : α → Bool} {zs : List α} {k : Nat} (h : ∀ j, j < k → p (zs[j]?.getD d) = false) (hk : k < zs.length) (hp : p (zs[k]?.getD d) = true) : firstAtG p zs = k := by
  have : zs.findIdx? p = some k := by
    rw [List.findIdx?_eq_some_iff_getElem]
    refine ⟨hk, by simpa [hk] using hp, fun j hj => ?_⟩
    have := h j hj
    simpa [show j < zs.length by omega] using this
  simp [firstAtG, this]
theorem firstAtG_none {α : Type} {d : α} {p : α → Bool} {zs : List α} (h : ∀ j, j < zs.length → p (zs[j]?.getD d) = false) : firstAtG p zs = -1 := by
  have : zs.findIdx? p = none := by
    rw [List.findIdx?_eq_none_iff]
    intro x hx
    obtain ⟨j, hj, rfl⟩ := List.getElem_of_mem hx
    simpa [hj] using h j hj
  simp [firstAtG, this]
theorem firstAtG_any {α : Type} (p : α → Bool) (zs : List α) : decide (0 ≤ firstAtG p zs) = zs.any p := by
  unfold firstAtG
  split
  · rename_i i h
    rw [List.findIdx?_eq_some_iff_getElem] at h
    obtain ⟨h1, h2, _⟩ := h
    have : zs.any p = true := List.any_eq_true.2 ⟨_, List.getElem_mem h1, h2⟩
    simp [this]
  · rename_i h
    rw [List.findIdx?_eq_none_iff] at h
    have : zs.any p = false := by
      rw [List.any_eq_false]
      intro x hx
      simp [h x hx]
    simp [this]
theorem any_splitG {α : Type} {d : α} {zs : List α} {p : α → Bool} {k : Nat} (hk : k < zs.length) (hp : p (zs[k]?.getD d) = true) : zs.any p = true :=
  List.any_eq_true.2 ⟨zs[k], List.getElem_mem hk, by simpa [hk] using hp⟩
theorem any_noneG {α : Type} {d : α} {zs : List α} {p : α → Bool} (h : ∀ j, j < zs.length → p (zs[j]?.getD d) = false) : zs.any p = false := by
  rw [List.any_eq_false]
  intro x hx
  obtain ⟨j, hj, rfl⟩ := List.getElem_of_mem hx
  simpa [hj] using h j hj
abbrev okW (l : List W2) : Prop := l.length ≤ 1099511627776 ∧ ∀ i : Nat, (l[i]?.getD w0).1.size ≤ 1099511627776
noncomputable instance (l : List W2) : Decidable (okW l) := Classical.propDecidable _
abbrev dWs : Dec (List W2) := dL 2 dW2
noncomputable def φIdxW : Fun := F2 dWs (dFn 26) fun l _ => if okW l then some (iv (firstAtG badW l)) else none
noncomputable def GXw : Ctx := { fn := fun f => if f = 26 then some φBadW else none, io := fun f => none }
theorem GXw_ok : SoundΓ Tryz.prog GXw := ⟨(fun f φ h => by
  unfold GXw at h
  dsimp only at h
  split at h
  · rename_i hf; cases h; subst hf; exact ⟨⟨_, Tryz.func26, rfl, rfl⟩, indexFn_ok⟩
  cases h), (fun f φ h => by
  unfold GXw at h
  dsimp only at h
  cases h), rfl⟩
theorem GXw_26 (ob : Objs) (ps : List PV) : evCall GXw ob 26 ps = (ps.mapM (reify false 0 ob fuel)).bind φBadW := by
  have h : GXw.fn 26 = some φBadW := by simp [GXw]
  unfold evCall
  rw [h]
  cases ps.mapM (reify false 0 ob fuel) <;> rfl
set_option maxHeartbeats 4000000 in
theorem idxW_ok : Sound Tryz.prog 43 φIdxW := by
  refine sound_pq mixed GXw_ok Tryz.func43 rfl 19 rfl [.tmp 4] rfl (by kernel_rfl) fun ps r hr => ?_
  obtain ⟨l, u, rfl, hq⟩ := F2_some hr
  clear hr
  split at hq
  case isFalse => cases hq
  case isTrue hok =>
  cases hq
  obtain ⟨hlen, hsz⟩ := hok
  refine ⟨by simp, ?_⟩
  simp only [dIs, dUs, dSs, dI_e, dU_e, dB_e, dS_e, dFn_e, dL_e, dA2_e, dA3_e, dA4_e, dA5_e]
  have gxw_c26 := GXw_26
  repeat' (first | (with_reducible first | apply i_seq | apply i_block | apply i_skip | apply i_exit | apply i_ret | apply i_kS | apply i_kSx | apply i_kSr | apply i_kL | apply i_kLx | apply i_kLr | apply i_kB | apply i_kBr | apply i_kBs | apply i_nil) | ((with_reducible apply i_region); (simp only [List.map_cons, List.map_nil] <;> exact rfl)) | ((with_reducible apply i_draw); (simp only [List.map_cons, List.map_nil] <;> exact rfl); decide +kernel) | ((with_reducible apply i_kBo); rfl) | ((first | ((with_reducible apply i_V); rfl; rfl; rfl) | ((first | ((with_reducible apply i_E); rfl) | ((with_reducible apply i_S); rfl)); first | rfl | (simp only [push_cast, ↓reduceIte])) | ((with_reducible apply i_Vq); rfl; rfl) | ((with_reducible apply i_Vp); rfl; rfl; rfl) | (with_reducible first | apply i_Gb | apply i_cond)); (simp (disch := (first | omega | (simp only [push_cast]; first | done | omega))) only [push_cast, ↓reduceIte, Nat.reduceEqDiff, Nat.reduceBEq, Nat.reduceAdd, Nat.reduceSub, Int.reduceToNat, *] <;> with_reducible exact rfl); all_goals try (first | (with_reducible first | refine hyT ?_ | refine hyF ?_ | exact hyA | exact hyB) | (intro hX; first | (cases hX; done) | ((try simp only [decide_eq_true_eq, decide_eq_false_iff_not, Bool.not_eq_true', Bool.not_eq_false'] at hX); (try have hXb := inB_iff.1 hX))))))
  refine i_loop (α := Nat) mixed (fun k => [(0, .lst false 2 (l.map fun x => .agg [.val (.string x.1), .val (.int .i64 x.2)])), (1, .val (.func (.func 26) #[] #[])), (7, iv l.length), (8, iv k)]) (fun _ => []) (fun _ => 0)
    (fun k => k ≤ l.length ∧ ∀ j, j < k → badW (l[j]?.getD w0) = false) (fun k => l.length - k) (by kernel_rfl) 0 ⟨Nat.zero_le _, fun j hj => by omega⟩ ?_ trivial rfl ?_
  · simp only [push_cast, ↓reduceIte, Nat.reduceEqDiff, Nat.reduceBEq, Nat.reduceAdd, Nat.reduceSub, Int.reduceToNat]
  · intro k ⟨hk, hok⟩
    have ap := @φBadW_ap _ (l[k]?.getD w0).2 (hsz k)
    clear hsz
    repeat' (first | (with_reducible first | apply i_seq | apply i_block | apply i_skip | apply i_exit | apply i_ret | apply i_kS | apply i_kSx | apply i_kSr | apply i_kL | apply i_kLx | apply i_kLr | apply i_kB | apply i_kBr | apply i_kBs | apply i_nil) | ((with_reducible apply i_region); (simp only [List.map_cons, List.map_nil] <;> exact rfl)) | ((with_reducible apply i_draw); (simp only [List.map_cons, List.map_nil] <;> exact rfl); decide +kernel) | ((with_reducible apply i_kBo); rfl) | ((first | ((with_reducible apply i_V); rfl; rfl; rfl) | ((first | ((with_reducible apply i_E); rfl) | ((with_reducible apply i_S); rfl)); first | rfl | (simp only [push_cast, ↓reduceIte])) | ((with_reducible apply i_Vq); rfl; rfl) | ((with_reducible apply i_Vp); rfl; rfl; rfl) | (with_reducible first | apply i_Gb | apply i_cond)); (simp (disch := (first | omega | (simp only [push_cast]; first | done | omega))) only [push_cast, ↓reduceIte, Nat.reduceEqDiff, Nat.reduceBEq, Nat.reduceAdd, Nat.reduceSub, Int.reduceToNat, *] <;> with_reducible exact rfl); all_goals try (first | (with_reducible first | refine hyT ?_ | refine hyF ?_ | exact hyA | exact hyB) | (intro hX; first | (cases hX; done) | ((try simp only [decide_eq_true_eq, decide_eq_false_iff_not, Bool.not_eq_true', Bool.not_eq_false'] at hX); (try have hXb := inB_iff.1 hX))))))
    all_goals try ((first | apply i_end | apply i_endN); simp (disch := (first | omega | (simp only [push_cast]; first | done | omega))) only [push_cast, ↓reduceIte, Nat.reduceEqDiff, Nat.reduceBEq, Nat.reduceAdd, Nat.reduceSub, Int.reduceToNat, *])
    · rw [firstAtG_found (d := w0) hok (by omega) (by simp_all)]
    · refine ⟨k + 1, ⟨by omega, fun j hj => ?_⟩, by dsimp only; omega, by simp only [push_cast, ↓reduceIte, Nat.reduceEqDiff, Nat.reduceBEq, Nat.reduceAdd, Nat.reduceSub, Int.reduceToNat], trivial, rfl⟩
      by_cases h1 : j < k
      · exact hok j h1
      · have : j = k := by omega
        subst this
        simp_all
    · rw [firstAtG_none (d := w0) fun j hj => hok j (by omega)]
theorem φIdxW_ap {l : List W2} (h : okW l) : φIdxW [.lst false 2 (l.map fun x => .agg [.val (.string x.1), .val (.int .i64 x.2)]), .val (.func (.func 26) #[] #[])] = some (.val (.int .i64 (firstAtG badW l))) :=
  (F2_ap (A := dWs) (B := dFn 26) l ()).trans (if_pos h)
noncomputable def φConW : Fun := F2 dWs (dFn 26) fun l _ => if okW l then some (bv (l.any badW)) else none
theorem φConW_ap {l : List W2} (h : okW l) : φConW [.lst false 2 (l.map fun x => .agg [.val (.string x.1), .val (.int .i64 x.2)]), .val (.func (.func 26) #[] #[])] = some (.val (.bool (l.any badW))) :=
  (F2_ap (A := dWs) (B := dFn 26) l ()).trans (if_pos h)
noncomputable def GCw : Ctx := { fn := fun f => if f = 43 then some φIdxW else none, io := fun f => none }
theorem GCw_ok : SoundΓ Tryz.prog GCw := ⟨(fun f φ h => by
  unfold GCw at h
  dsimp only at h
  split at h
  · rename_i hf; cases h; subst hf; exact ⟨⟨_, Tryz.func43, rfl, rfl⟩, idxW_ok⟩
  cases h), (fun f φ h => by
  unfold GCw at h
  dsimp only at h
  cases h), rfl⟩
theorem GCw_43 (ob : Objs) (ps : List PV) : evCall GCw ob 43 ps = (ps.mapM (reify false 0 ob fuel)).bind φIdxW := by
  have h : GCw.fn 43 = some φIdxW := by simp [GCw]
  unfold evCall
  rw [h]
  cases ps.mapM (reify false 0 ob fuel) <;> rfl
theorem conW_ok : Sound Tryz.prog 25 φConW := by
  refine sound_pq mixed GCw_ok Tryz.func25 rfl 9 rfl [.tmp 4] rfl (by kernel_rfl) fun ps r hr => ?_
  obtain ⟨l, u, rfl, hq⟩ := F2_some hr
  clear hr
  split at hq
  case isFalse => cases hq
  case isTrue hok =>
  cases hq
  have ap := φIdxW_ap hok
  clear hok
  refine ⟨by simp, ?_⟩
  simp only [dIs, dUs, dSs, dI_e, dU_e, dB_e, dS_e, dFn_e, dL_e, dA2_e, dA3_e, dA4_e, dA5_e]
  have gcw_c43 := GCw_43
  repeat' (first | (with_reducible first | apply i_seq | apply i_block | apply i_skip | apply i_exit | apply i_ret | apply i_kS | apply i_kSx | apply i_kSr | apply i_kL | apply i_kLx | apply i_kLr | apply i_kB | apply i_kBr | apply i_kBs | apply i_nil) | ((with_reducible apply i_region); (simp only [List.map_cons, List.map_nil] <;> exact rfl)) | ((with_reducible apply i_draw); (simp only [List.map_cons, List.map_nil] <;> exact rfl); decide +kernel) | ((with_reducible apply i_kBo); rfl) | ((first | ((with_reducible apply i_V); rfl; rfl; rfl) | ((first | ((with_reducible apply i_E); rfl) | ((with_reducible apply i_S); rfl)); first | rfl | (simp only [push_cast, ↓reduceIte])) | ((with_reducible apply i_Vq); rfl; rfl) | ((with_reducible apply i_Vp); rfl; rfl; rfl) | (with_reducible first | apply i_Gb | apply i_cond)); (simp (disch := (first | omega | (simp only [push_cast]; first | done | omega))) only [push_cast, ↓reduceIte, Nat.reduceEqDiff, Nat.reduceBEq, Nat.reduceAdd, Nat.reduceSub, Int.reduceToNat, *] <;> with_reducible exact rfl); all_goals try (first | (with_reducible first | refine hyT ?_ | refine hyF ?_ | exact hyA | exact hyB) | (intro hX; first | (cases hX; done) | ((try simp only [decide_eq_true_eq, decide_eq_false_iff_not, Bool.not_eq_true', Bool.not_eq_false'] at hX); (try have hXb := inB_iff.1 hX))))))
  all_goals ((first | apply i_end | apply i_endN); simp (disch := (first | omega | (simp only [push_cast]; first | done | omega))) only [push_cast, ↓reduceIte, Nat.reduceEqDiff, Nat.reduceBEq, Nat.reduceAdd, Nat.reduceSub, Int.reduceToNat, *])
  all_goals rw [firstAtG_any]
def indexB (l : List W2) : Bool := decide (l.length ≤ 30) && !l.any badW
noncomputable def φIndexValid : Fun := F1 dWs fun l => if okW l then some (bv (indexB l)) else none
theorem φIndexValid_ap {l : List W2} (h : okW l) : φIndexValid [.lst false 2 (l.map fun x => .agg [.val (.string x.1), .val (.int .i64 x.2)])] = some (.val (.bool (indexB l))) :=
  (F1_ap (A := dWs) l).trans (if_pos h)
noncomputable def GIi : Ctx := { fn := fun f => if f = 25 then some φConW else none, io := fun f => none }
theorem GIi_ok : SoundΓ Tryz.prog GIi := ⟨(fun f φ h => by
  unfold GIi at h
  dsimp only at h
  split at h
  · rename_i hf; cases h; subst hf; exact ⟨⟨_, Tryz.func25, rfl, rfl⟩, conW_ok⟩
  cases h), (fun f φ h => by
  unfold GIi at h
  dsimp only at h
  cases h), rfl⟩
theorem GIi_25 (ob : Objs) (ps : List PV) : evCall GIi ob 25 ps = (ps.mapM (reify false 0 ob fuel)).bind φConW := by
  have h : GIi.fn 25 = some φConW := by simp [GIi]
  unfold evCall
  rw [h]
  cases ps.mapM (reify false 0 ob fuel) <;> rfl
set_option maxHeartbeats 4000000 in
theorem implIndexValid_ok : Sound Tryz.prog 12 φIndexValid := by
  refine sound_pq mixed GIi_ok Tryz.func12 rfl 11 rfl [.tmp 2] rfl (by kernel_rfl) fun ps r hr => ?_
  obtain ⟨l, rfl, hq⟩ := F1_some hr
  clear hr
  split at hq
  case isFalse => cases hq
  case isTrue hok =>
  cases hq
  have hlen := hok.1
  have ap := φConW_ap hok
  clear hok
  refine ⟨by simp, ?_⟩
  simp only [dIs, dUs, dSs, dI_e, dU_e, dB_e, dS_e, dFn_e, dL_e, dA2_e, dA3_e, dA4_e, dA5_e]
  have gii_c25 := GIi_25
  repeat' (first | (with_reducible first | apply i_seq | apply i_block | apply i_skip | apply i_exit | apply i_ret | apply i_kS | apply i_kSx | apply i_kSr | apply i_kL | apply i_kLx | apply i_kLr | apply i_kB | apply i_kBr | apply i_kBs | apply i_nil) | ((with_reducible apply i_region); (simp only [List.map_cons, List.map_nil] <;> exact rfl)) | ((with_reducible apply i_draw); (simp only [List.map_cons, List.map_nil] <;> exact rfl); decide +kernel) | ((with_reducible apply i_kBo); rfl) | ((first | ((with_reducible apply i_V); rfl; rfl; rfl) | ((first | ((with_reducible apply i_E); rfl) | ((with_reducible apply i_S); rfl)); first | rfl | (simp only [push_cast, ↓reduceIte])) | ((with_reducible apply i_Vq); rfl; rfl) | ((with_reducible apply i_Vp); rfl; rfl; rfl) | (with_reducible first | apply i_Gb | apply i_cond)); (simp (disch := (first | omega | (simp only [push_cast]; first | done | omega))) only [push_cast, ↓reduceIte, Nat.reduceEqDiff, Nat.reduceBEq, Nat.reduceAdd, Nat.reduceSub, Int.reduceToNat, *] <;> with_reducible exact rfl); all_goals try (first | (with_reducible first | refine hyT ?_ | refine hyF ?_ | exact hyA | exact hyB) | (intro hX; first | (cases hX; done) | ((try simp only [decide_eq_true_eq, decide_eq_false_iff_not, Bool.not_eq_true', Bool.not_eq_false'] at hX); (try have hXb := inB_iff.1 hX))))))
  all_goals ((first | apply i_end | apply i_endN); simp (disch := (first | omega | (simp only [push_cast]; first | done | omega))) only [push_cast, ↓reduceIte, Nat.reduceEqDiff, Nat.reduceBEq, Nat.reduceAdd, Nat.reduceSub, Int.reduceToNat, *])
  all_goals (simp_all [indexB]; try omega)
noncomputable def GIs : Ctx := { fn := fun f => if f = 35 then some φWord else if f = 36 then some φIn else none, io := fun f => none }
theorem GIs_ok : SoundΓ Tryz.prog GIs := ⟨(fun f φ h => by
  unfold GIs at h
  dsimp only at h
  split at h
  · rename_i hf; cases h; subst hf; exact ⟨⟨_, Tryz.func35, rfl, rfl⟩, specWordValid_ok⟩
  split at h
  · rename_i hf; cases h; subst hf; exact ⟨⟨_, Tryz.func36, rfl, rfl⟩, l1In_ok⟩
  cases h), (fun f φ h => by
  unfold GIs at h
  dsimp only at h
  cases h), rfl⟩
theorem GIs_35 (ob : Objs) (ps : List PV) : evCall GIs ob 35 ps = (ps.mapM (reify false 0 ob fuel)).bind φWord := by
  have h : GIs.fn 35 = some φWord := by simp [GIs]
  unfold evCall
  rw [h]
  cases ps.mapM (reify false 0 ob fuel) <;> rfl
theorem GIs_36 (ob : Objs) (ps : List PV) : evCall GIs ob 36 ps = (ps.mapM (reify false 0 ob fuel)).bind φIn := by
  have h : GIs.fn 36 = some φIn := by simp [GIs]
  unfold evCall
  rw [h]
  cases ps.mapM (reify false 0 ob fuel) <;> rfl
set_option maxHeartbeats 4000000 in
theorem specIndexValid_ok : Sound Tryz.prog 17 φIndexValid := by
  refine sound_pq mixed GIs_ok Tryz.func17 rfl 29 rfl [.tmp 2] rfl (by kernel_rfl) fun ps r hr => ?_
  obtain ⟨l, rfl, hq⟩ := F1_some hr
  clear hr
  split at hq
  case isFalse => cases hq
  case isTrue hok =>
  cases hq
  obtain ⟨hlen, hsz⟩ := hok
  refine ⟨by simp, ?_⟩
  simp only [dIs, dUs, dSs, dI_e, dU_e, dB_e, dS_e, dFn_e, dL_e, dA2_e, dA3_e, dA4_e, dA5_e]
  have gis_c35 := GIs_35; have gis_c36 := GIs_36
  repeat' (first | (with_reducible first | apply i_seq | apply i_block | apply i_skip | apply i_exit | apply i_ret | apply i_kS | apply i_kSx | apply i_kSr | apply i_kL | apply i_kLx | apply i_kLr | apply i_kB | apply i_kBr | apply i_kBs | apply i_nil) | ((with_reducible apply i_region); (simp only [List.map_cons, List.map_nil] <;> exact rfl)) | ((with_reducible apply i_draw); (simp only [List.map_cons, List.map_nil] <;> exact rfl); decide +kernel) | ((with_reducible apply i_kBo); rfl) | ((first | ((with_reducible apply i_V); rfl; rfl; rfl) | ((first | ((with_reducible apply i_E); rfl) | ((with_reducible apply i_S); rfl)); first | rfl | (simp only [push_cast, ↓reduceIte])) | ((with_reducible apply i_Vq); rfl; rfl) | ((with_reducible apply i_Vp); rfl; rfl; rfl) | (with_reducible first | apply i_Gb | apply i_cond)); (simp (disch := (first | omega | (simp only [push_cast]; first | done | omega))) only [push_cast, ↓reduceIte, Nat.reduceEqDiff, Nat.reduceBEq, Nat.reduceAdd, Nat.reduceSub, Int.reduceToNat, *] <;> with_reducible exact rfl); all_goals try (first | (with_reducible first | refine hyT ?_ | refine hyF ?_ | exact hyA | exact hyB) | (intro hX; first | (cases hX; done) | ((try simp only [decide_eq_true_eq, decide_eq_false_iff_not, Bool.not_eq_true', Bool.not_eq_false'] at hX); (try have hXb := inB_iff.1 hX))))))
  refine i_loop (α := Nat) mixed (fun k => [(0, .lst false 2 (l.map fun x => .agg [.val (.string x.1), .val (.int .i64 x.2)])), (3, iv k)]) (fun _ => []) (fun _ => 0)
    (fun k => k ≤ l.length ∧ ∀ j, j < k → badW (l[j]?.getD w0) = false) (fun k => l.length - k) (by kernel_rfl) 0 ⟨Nat.zero_le _, fun j hj => by omega⟩ ?_ trivial rfl ?_
  · simp only [push_cast, ↓reduceIte, Nat.reduceEqDiff, Nat.reduceBEq, Nat.reduceAdd, Nat.reduceSub, Int.reduceToNat]
  · intro k ⟨hk, hok⟩
    have ap := @φWord_ap (l[k]?.getD w0).1 (hsz k)
    have ap2 := φIn_ap
    clear hsz
    have hb : badW (l[k]?.getD w0) = (!wordB (l[k]?.getD w0).1 || !inB (l[k]?.getD w0).2 1 999) := rfl
    repeat' (first | (with_reducible first | apply i_seq | apply i_block | apply i_skip | apply i_exit | apply i_ret | apply i_kS | apply i_kSx | apply i_kSr | apply i_kL | apply i_kLx | apply i_kLr | apply i_kB | apply i_kBr | apply i_kBs | apply i_nil) | ((with_reducible apply i_region); (simp only [List.map_cons, List.map_nil] <;> exact rfl)) | ((with_reducible apply i_draw); (simp only [List.map_cons, List.map_nil] <;> exact rfl); decide +kernel) | ((with_reducible apply i_kBo); rfl) | ((first | ((with_reducible apply i_V); rfl; rfl; rfl) | ((first | ((with_reducible apply i_E); rfl) | ((with_reducible apply i_S); rfl)); first | rfl | (simp only [push_cast, ↓reduceIte])) | ((with_reducible apply i_Vq); rfl; rfl) | ((with_reducible apply i_Vp); rfl; rfl; rfl) | (with_reducible first | apply i_Gb | apply i_cond)); (simp (disch := (first | omega | (simp only [push_cast]; first | done | omega))) only [push_cast, ↓reduceIte, Nat.reduceEqDiff, Nat.reduceBEq, Nat.reduceAdd, Nat.reduceSub, Int.reduceToNat, *] <;> with_reducible exact rfl); all_goals try (first | (with_reducible first | refine hyT ?_ | refine hyF ?_ | exact hyA | exact hyB) | (intro hX; first | (cases hX; done) | ((try simp only [decide_eq_true_eq, decide_eq_false_iff_not, Bool.not_eq_true', Bool.not_eq_false'] at hX); (try have hXb := inB_iff.1 hX))))))
    all_goals try ((first | apply i_end | apply i_endN); simp (disch := (first | omega | (simp only [push_cast]; first | done | omega))) only [push_cast, ↓reduceIte, Nat.reduceEqDiff, Nat.reduceBEq, Nat.reduceAdd, Nat.reduceSub, Int.reduceToNat, *])
    all_goals try (rw [show indexB l = false from by (unfold indexB; rw [any_splitG (d := w0) (k := k) (by omega) (by simp_all)]; simp)]; done)
    all_goals try (rw [show indexB l = decide (l.length ≤ 30) from by (unfold indexB; rw [any_noneG (d := w0) fun j hj => hok j (by omega)]; simp)]; simp; omega)
    all_goals
      refine ⟨k + 1, ⟨by omega, fun j hj => ?_⟩, by dsimp only; omega, by simp only [push_cast, ↓reduceIte, Nat.reduceEqDiff, Nat.reduceBEq, Nat.reduceAdd, Nat.reduceSub, Int.reduceToNat], trivial, rfl⟩
      by_cases h1 : j < k
      · exact hok j h1
      · have : j = k := by omega
        subst this
        simp_all
end Go.Proofs.YtpggpdbipajchaaGreatDoor
namespace Go.Proofs.YtpggpdbipajchaaGreatDoor
open Go.RowKit
set_option linter.all false
abbrev LS := List ByteArray
section
variable {α β : Type} {n sz sz' f i : Nat} {ob : Objs} {k k' fr : Bool} {l : List LS}
theorem get_ss {g : LS → PV} (h : i < l.length) : ((l[i]?).map g).getD .dead = g ((l[i]?).getD []) := by simp [h]
theorem omg_ss {g : LS → β} (h : i < l.length) : Option.map g l[i]? = some (g ((l[i]?).getD [])) := by simp [h]
theorem mapM_maps {F : PV → Option PV} {g g' : α → PV} (h : ∀ x, F (g x) = some (g' x)) : ∀ {l : List α}, (l.map g).mapM F = some (l.map g')
  | [] => rfl
  | x :: l => by rw [List.map_cons, List.mapM_cons, h x, mapM_maps h]; rfl
theorem reify_strs {m : Nat} {p : LS} : reify false m ob (f + 2) (.lst k sz (p.map fun s => .val (.string s))) = some (.lst false sz (p.map fun s => .val (.string s))) := reifyS_vals
theorem reify_strsT {m : Nat} {p : LS} : reify fr m ob (f + 2) (.lst true sz (p.map fun s => .val (.string s))) = some (.lst fr sz (p.map fun s => .val (.string s))) := by
  cases fr
  · exact reifyS_vals
  · exact reifyT_vals
theorem reifyS_lsts : reify false n ob (f + 3) (.lst k sz (l.map fun p => .lst k' sz' (p.map fun s => .val (.string s)))) = some (.lst false sz (l.map fun p => .lst false sz' (p.map fun s => .val (.string s)))) := by
  show (if false = true ∧ k = false ∧ (l.map fun p => PV.lst k' sz' (p.map fun s => PV.val (.string s))) ≠ [] then none else ((l.map fun p => PV.lst k' sz' (p.map fun s => PV.val (.string s))).mapM (reify false n ob (f + 2))).map (PV.lst false sz)) = _
  rw [mapM_maps (g' := fun p => PV.lst false sz' (p.map fun s => PV.val (.string s))) fun p => reify_strs]
  simp
theorem reifyT_lsts : reify true n ob (f + 3) (.lst true sz (l.map fun p => .lst true sz' (p.map fun s => .val (.string s)))) = some (.lst true sz (l.map fun p => .lst true sz' (p.map fun s => .val (.string s)))) := by
  show (if true = true ∧ true = false ∧ (l.map fun p => PV.lst true sz' (p.map fun s => PV.val (.string s))) ≠ [] then none else ((l.map fun p => PV.lst true sz' (p.map fun s => PV.val (.string s))).mapM (reify true n ob (f + 2))).map (PV.lst true sz)) = _
  rw [mapM_maps (g' := fun p => PV.lst true sz' (p.map fun s => PV.val (.string s))) fun p => reify_strsT]
  simp
theorem rowRe_lsts {m T : Nat} (hm : m = l.length) : rowRe fr (f + 2) ob sz 0 m (some (T, sz, l.map fun p => .lst true sz' (p.map fun s => .val (.string s)))) = some (.lst fr sz (l.map fun p => .lst fr sz' (p.map fun s => .val (.string s)))) := by
  subst hm
  have e : ((l.map fun p => PV.lst true sz' (p.map fun s => PV.val (.string s))).drop 0).take l.length = l.map fun p => PV.lst true sz' (p.map fun s => PV.val (.string s)) := by
    rw [List.drop_zero, List.take_of_length_le (by simp)]
  have e2 := mapM_maps (l := l) (F := reify fr 0 ob (f + 2)) (g := fun p => PV.lst true sz' (p.map fun s => PV.val (.string s))) (g' := fun p => PV.lst fr sz' (p.map fun s => PV.val (.string s))) fun p => reify_strsT
  simp only [rowRe, e, e2, Nat.zero_add, List.length_map, Nat.le_refl, and_self, if_true, Option.map_some]
end
attribute [push_cast]
  get_ss omg_ss reifyS_lsts reifyT_lsts rowRe_lsts
theorem eq_of_getDK {α : Type} {d : α} {xs ys : List α} (hl : xs.length = ys.length) (h : ∀ j, j < xs.length → xs[j]?.getD d = ys[j]?.getD d) : xs = ys := by
  apply List.ext_getElem hl
  intro i h1 h2
  have := h i h1
  simpa [h1, h2] using this
def smallC (c : Int) : Bool := inB c 97 122
def digC (c : Int) : Bool := inB c 48 57
def prevD (s : ByteArray) (k : Nat) : Bool := decide (0 < k) && digC (at8 s (k - 1))
def patAt (s : ByteArray) (k : Nat) : Bool := smallC (at8 s k) || (digC (at8 s k) && !prevD s k) || (decide (at8 s k = 46) && (decide (k = 0) || decide (k + 1 = s.size)))
def anyS (s : ByteArray) (k : Nat) : Bool := (List.range k).any fun j => smallC (at8 s j)
def patB (s : ByteArray) : Bool := (List.range s.size).all (patAt s) && (anyS s s.size && decide (s.size ≤ 12))
theorem patB_yes {s : ByteArray} (h : ∀ j, j < s.size → patAt s j = true) : patB s = (anyS s s.size && decide (s.size ≤ 12)) := by
  have : (List.range s.size).all (patAt s) = true := by
    rw [List.all_eq_true]
    exact fun k hk => h k (List.mem_range.1 hk)
  simp [patB, this]
structure PatI (s : ByteArray) (k : Nat) (n : Int) : Prop where
  kk : k ≤ s.size
  n0 : 0 ≤ n
  n1 : n ≤ k
  all : ∀ j, j < k → patAt s j = true
  any : decide (0 < n) = anyS s k
theorem PatI.zero (s : ByteArray) : PatI s 0 0 := ⟨Nat.zero_le _, by omega, by omega, fun j hj => by omega, rfl⟩
theorem PatI.done {s : ByteArray} {k : Nat} {n : Int} (h : PatI s k n) (hk : ¬ k < s.size) : patB s = (decide (0 < n) && decide (s.size ≤ 12)) := by
  have hk2 := h.kk
  have : k = s.size := by omega
  subst this
  rw [patB_yes h.all, h.any]
end Go.Proofs.YtpggpdbipajchaaGreatDoor
namespace Go.Proofs.YtpggpdbipajchaaGreatDoor
open Go.RowKit
set_option linter.all false
abbrev BL := Op.bytesLess
theorem bl_irr : ∀ x : List UInt8, BL x x = false
  | [] => rfl
  | a :: x => by
    unfold BL Op.bytesLess
    have := bl_irr x
    unfold BL at this
    rw [this]
    simp
theorem bl_nil (x : List UInt8) : BL x [] = false := by
  cases x <;> rfl
theorem bl_cons {a b : UInt8} {x y : List UInt8} : BL (a :: x) (b :: y) = true ↔ a.toNat < b.toNat ∨ (a.toNat = b.toNat ∧ BL x y = true) := by
  unfold BL
  conv => lhs; unfold Op.bytesLess
  rw [Bool.or_eq_true, Bool.and_eq_true, decide_eq_true_eq, beq_iff_eq, UInt8.lt_iff_toNat_lt, ← UInt8.toNat_inj]
theorem bl_trans : ∀ {x y z : List UInt8}, BL x y = true → BL y z = true → BL x z = true
  | _, [], _, h, _ => by rw [bl_nil] at h; cases h
  | _, _ :: _, [], _, h => by rw [bl_nil] at h; cases h
  | [], _ :: _, _ :: _, _, _ => rfl
  | a :: x, b :: y, c :: z, h1, h2 => by
    rw [bl_cons] at h1 h2 ⊢
    rcases h1 with h1 | ⟨h1, h3⟩ <;> rcases h2 with h2 | ⟨h2, h4⟩
    · left; omega
    · left; omega
    · left; omega
    · right; exact ⟨by omega, bl_trans h3 h4⟩
theorem bl_tri : ∀ x y : List UInt8, BL x y = true ∨ x = y ∨ BL y x = true
  | [], [] => .inr (.inl rfl)
  | [], _ :: _ => .inl rfl
  | _ :: _, [] => .inr (.inr rfl)
  | a :: x, b :: y => by
    rw [bl_cons, bl_cons]
    rcases Nat.lt_trichotomy a.toNat b.toNat with h | h | h
    · exact .inl (.inl h)
    · rcases bl_tri x y with h2 | h2 | h2
      · exact .inl (.inr ⟨h, h2⟩)
      · exact .inr (.inl (by rw [h2, UInt8.toNat_inj.1 h]))
      · exact .inr (.inr (.inr ⟨h.symm, h2⟩))
    · exact .inr (.inr (.inl h))
def ltB (a b : ByteArray) : Bool := BL a.data.toList b.data.toList
theorem ltB_irr (a : ByteArray) : ltB a a = false := bl_irr _
theorem ltB_trans {a b c : ByteArray} (h : ltB a b = true) (h2 : ltB b c = true) : ltB a c = true := bl_trans h h2
theorem ltB_tri (a b : ByteArray) : ltB a b = true ∨ a = b ∨ ltB b a = true := by
  rcases bl_tri a.data.toList b.data.toList with h | h | h
  · exact .inl h
  · refine .inr (.inl ?_)
    obtain ⟨⟨x⟩⟩ := a
    obtain ⟨⟨y⟩⟩ := b
    simpa using h
  · exact .inr (.inr h)
theorem ltB_asymm {a b : ByteArray} (h : ltB a b = true) : ltB b a = false := by
  cases h2 : ltB b a with
  | false => rfl
  | true => have := ltB_trans h h2; rw [ltB_irr] at this; cases this
theorem ltB_ne {a b : ByteArray} (h : ltB a b = true) : ¬ a = b := fun e => by rw [e, ltB_irr] at h; cases h
theorem asc_unique {α : Type} {R : α → α → Prop} (irr : ∀ a, ¬ R a a) (tr : ∀ a b c, R a b → R b c → R a c) : ∀ {l l' : List α}, l.Pairwise R → l'.Pairwise R → (∀ x, x ∈ l ↔ x ∈ l') → l = l'
  | [], [], _, _, _ => rfl
  | [], b :: l', _, _, h => by have := (h b).2 (by simp); simp at this
  | a :: l, [], _, _, h => by have := (h a).1 (by simp); simp at this
  | a :: l, b :: l', h1, h2, h => by
    obtain ⟨a1, a2⟩ := List.pairwise_cons.1 h1
    obtain ⟨b1, b2⟩ := List.pairwise_cons.1 h2
    have hab : a = b := by
      rcases List.mem_cons.1 ((h a).1 (by simp)) with e | e
      · exact e
      · rcases List.mem_cons.1 ((h b).2 (by simp)) with e2 | e2
        · exact e2.symm
        · exact absurd (tr _ _ _ (a1 b e2) (b1 a e)) (irr a)
    subst hab
    refine congrArg (a :: ·) (asc_unique irr tr a2 b2 fun x => ⟨fun hx => ?_, fun hx => ?_⟩)
    · rcases List.mem_cons.1 ((h x).1 (by simp [hx])) with e | e
      · subst e; exact absurd (a1 x hx) (irr x)
      · exact e
    · rcases List.mem_cons.1 ((h x).2 (by simp [hx])) with e | e
      · subst e; exact absurd (b1 x hx) (irr x)
      · exact e
section
variable {P : Program} {t : Nat} {x y : Operand}
theorem bytes_less (a b : ByteArray) : Op.bytesLess a.toList b.toList = ltB a b := by
  rw [Go.ByteArray.toList_eq, Go.ByteArray.toList_eq]
  rfl
theorem pr_strLt {a b : ByteArray} : pureRun P (do eqGuard .lss t x y (.string a) (.string b); binOp .lss t (.string a) (.string b)) = some (.bool (Op.bytesLess a.toList b.toList)) := by
  simp [eqGuard, binOp, Op.stringOp, bind, Sem.bind, pure, pureRun]
theorem pr_strGt {a b : ByteArray} : pureRun P (do eqGuard .gtr t x y (.string a) (.string b); binOp .gtr t (.string a) (.string b)) = some (.bool (!(Op.bytesLess a.toList b.toList || a.toList == b.toList))) := by
  simp [eqGuard, binOp, Op.stringOp, bind, Sem.bind, pure, pureRun]
theorem pr_strGe {a b : ByteArray} : pureRun P (do eqGuard .geq t x y (.string a) (.string b); binOp .geq t (.string a) (.string b)) = some (.bool (!Op.bytesLess a.toList b.toList)) := by
  simp [eqGuard, binOp, Op.stringOp, bind, Sem.bind, pure, pureRun]
theorem bp_lssS {a b : ByteArray} : binP P .lss t x y (some (.string a)) (some (.string b)) = some (.val (.bool (ltB a b))) := by
  simp only [binP, pr_strLt, bytes_less, Option.map_some]
theorem bp_gtrS {a b : ByteArray} : binP P .gtr t x y (some (.string a)) (some (.string b)) = some (.val (.bool (ltB b a))) := by
  simp only [binP, pr_strGt, bytes_less, bytes_teq, Option.map_some]
  have : (!(ltB a b || decide (a = b))) = ltB b a := by
    rcases ltB_tri a b with h | h | h
    · rw [h, ltB_asymm h]; rfl
    · subst h; rw [ltB_irr]; simp
    · have h2 := ltB_asymm h
      have h3 : ¬ a = b := fun e => ltB_ne h e.symm
      rw [h, h2]; simp [h3]
  rw [this]
theorem bp_geqS {a b : ByteArray} : binP P .geq t x y (some (.string a)) (some (.string b)) = some (.val (.bool (!ltB a b))) := by
  simp only [binP, pr_strGe, bytes_less, Option.map_some]
end
attribute [push_cast]
  bp_lssS bp_gtrS bp_geqS
end Go.Proofs.YtpggpdbipajchaaGreatDoor
namespace Go.Proofs.YtpggpdbipajchaaGreatDoor
open Go.RowKit
set_option linter.all false
theorem below_growN (w : World) (k : Nat) (os : Array Obj) : Below w.heap.size w (Sort.grow (w.drewN k) os) :=
  ⟨rfl, rfl, rfl, by simp [Sort.grow, World.drewN], fun b hb => by simp [Sort.grow, World.drewN, Array.getElem?_append_left hb]⟩
def itoaS (n : Int) : ByteArray := ⟨(Lib.itoa n).toArray⟩
theorem tabIs_of {w : World} {io : Nat → Prop} (hT : TabF w io) : Lib.TabIs Tryz.prog w "internal/strconv.uint64pow10" .u64 Lib.pow10Tab := by
  obtain ⟨T, k, h⟩ := hT.at_ _ (List.mem_cons_self ..)
  unfold Lib.TabIs World.var?
  rw [show Tryz.prog.globalNamed "internal/strconv.uint64pow10" = some _ by kernel_rfl, Option.bind_some, h]
def φItoa : Fun := F1 dI fun n => if okI n then some (.val (.string (itoaS n))) else none
theorem φItoa_ap {n : Int} (h : okI n) : φItoa [.val (.int .i64 n)] = some (.val (.string (itoaS n))) := (F1_ap (A := dI) n).trans (if_pos h)
theorem itoa_ok : Sound Tryz.prog 65 φItoa := by
  intro w J ps args r hr hJ hT hargs
  obtain ⟨n, rfl, hq⟩ := F1_some hr
  split at hq
  case isFalse => cases hq
  case isTrue hok =>
  cases hq
  have hargs := hargs
  simp only [RepL] at hargs
  obtain ⟨v1, vs1, e1, h1, rfl⟩ := hargs
  obtain rfl : args = #[v1] := by
    obtain ⟨a⟩ := args
    simp only at e1
    rw [e1]
  simp only [dI, Rep] at h1
  subst h1
  refine (YtpggpdbipajchaaGreatDoor.strconv_Itoa n hok.1 hok.2 w (tabIs_of hT)).mono ?_
  rintro e w' ⟨rfl, k, os, rfl⟩
  exact ⟨_, rfl, below_growN w k os, fun g' _ => by simp only [Rep]; rfl⟩
end Go.Proofs.YtpggpdbipajchaaGreatDoor
namespace Go.Proofs.YtpggpdbipajchaaGreatDoor
open Go.RowKit
set_option linter.all false
section
variable {P : Program} {Γ : Ctx}
end
theorem inn_0o {o : Nat} : inn [0, o] 0 = some 0 := by simp [inn]
theorem inn_1o {o : Nat} (h : 0 < o) : inn [0, o] o = some 1 := by
  have h0 : ¬ (0 : Nat) = o := by omega
  have h1 : (0 == o) = false := by simpa using h0
  simp [inn, List.idxOf_cons, h1]
theorem inn_no {o x : Nat} (h : 0 < x) (h2 : x ≠ o) : inn [0, o] x = none := by
  have h0 : ¬ x = 0 := by omega
  simp [inn, h0, h2]
theorem outF_1n {o nx : Nat} : outF [o] nx 1 = some nx := by simp [outF, outn]
theorem handM_fuel {out : List Nat} {ob : Objs} {l : List PV} : l.mapM (handF out ob fuel) = l.mapM (handF out ob 8) := rfl
attribute [push_cast]
  handM_fuel inn_0o inn_1o inn_no outF_1n
section
variable {P : Program} {Γ : Ctx} {imm : Md} {N : Nat} {gs : List (Option Nat)} {l : List Oper} {Q : AS → Prop} {tm : Nat → PV} {ob : Objs} {nx T : Nat} {Φ : FunIO} {B c : Int} {α : Type} {E : Nat → α → PV} {O : α → CellIO}
end
end Go.Proofs.YtpggpdbipajchaaGreatDoor
namespace Go.Proofs.YtpggpdbipajchaaGreatDoor
open Go.RowKit
set_option linter.all false
abbrev FunN := List PV → Option (PV × List CellIO)
def SoundN (P : Program) (f : Nat) (Ψ : FunN) : Prop := SoundIO P f fun ps cs => if cs = [] then Ψ ps else none
def renT (nm : Nat → Nat) : Nat → PV → Option PV
  | 0, _ => none
  | n + 1, p => match p with
    | .val v => some (.val v)
    | .dead => some .dead
    | .lst k sz es => if k = false ∧ es ≠ [] then none else (es.mapM (renT nm n)).map (.lst k sz)
    | .ptr k e o => if k = false then none else (renT nm n e).map (.ptr k · o)
    | .own o sz i f => some (.own (nm o) sz i f)
    | .row o sz i m => some (.row (nm o) sz i m)
    | .agg cs => (cs.mapM (renT nm n)).map .agg
    | .tup cs => (cs.mapM (renT nm n)).map .tup
theorem Rep.renT {nm : Nat → Nat} {g g' : Gh} {w : World} (hI : ∀ b, g.I true b → g'.I true b) (ho : ∀ o, g.D o → g'.β (nm o) = g.β o ∧ g'.κ (nm o) = g.κ o ∧ g'.D (nm o)) :
    ∀ (f : Nat) (p q : PV) (v : Value), Rep g w p v → Proofs.YtpggpdbipajchaaGreatDoor.renT nm f p = some q → Rep g' w q v
  | 0, p, q, v, h, hr => by simp [Proofs.YtpggpdbipajchaaGreatDoor.renT] at hr
  | f + 1, p, q, v, h, hr => by
    cases p with
    | val u => simp only [Proofs.YtpggpdbipajchaaGreatDoor.renT, Option.some.injEq] at hr; subst hr; simpa [Rep] using h
    | dead => simp only [Proofs.YtpggpdbipajchaaGreatDoor.renT, Option.some.injEq] at hr; subst hr; simp [Rep]
    | lst k sz es =>
      simp only [Proofs.YtpggpdbipajchaaGreatDoor.renT] at hr
      split at hr
      · cases hr
      · rename_i hk
        simp only [Option.map_eq_some_iff] at hr
        obtain ⟨es', h1, rfl⟩ := hr
        have hl := (mapM_get h1).1
        simp only [Rep] at h ⊢
        obtain ⟨a, cap, rfl, h2, h3, h4⟩ := h
        refine ⟨a, cap, by rw [hl], by omega, h3, ?_⟩
        rcases h4 with rfl | ⟨b, off, rfl, h5, h6⟩
        · left; exact List.eq_nil_of_length_eq_zero (by simpa using hl)
        · by_cases hnil : es = []
          · left; subst hnil; exact List.eq_nil_of_length_eq_zero (by simpa using hl)
          · right
            cases k with
            | false => simp [hnil] at hk
            | true => exact ⟨b, off, rfl, hI _ h5, RepEs.conv (g := g) (g' := g') (Rep.renT hI ho f) h6 h1⟩
    | ptr k e o =>
      simp only [Proofs.YtpggpdbipajchaaGreatDoor.renT] at hr
      split at hr
      · cases hr
      · rename_i hk
        simp only [Option.map_eq_some_iff] at hr
        obtain ⟨e', h1, rfl⟩ := hr
        simp only [Rep] at h ⊢
        obtain ⟨b, off, rfl, h2, u, h3, h4⟩ := h
        cases k with
        | false => simp at hk
        | true => exact ⟨b, off, rfl, hI _ h2, u, Rep.renT hI ho f e e' u h3 h1, h4⟩
    | own o sz i f' =>
      simp only [Proofs.YtpggpdbipajchaaGreatDoor.renT, Option.some.injEq] at hr
      subst hr
      simp only [Rep] at h ⊢
      obtain ⟨e1, _, e3⟩ := ho o h.2
      exact ⟨by rw [e1]; exact h.1, e3⟩
    | row o sz i m =>
      simp only [Proofs.YtpggpdbipajchaaGreatDoor.renT, Option.some.injEq] at hr
      subst hr
      simp only [Rep] at h ⊢
      obtain ⟨c, h1, h2, h3, h4, h5⟩ := h
      obtain ⟨e1, e2, e3⟩ := ho o h5
      exact ⟨c, by rw [e1]; exact h1, h2, h3, by rw [e2]; exact h4, e3⟩
    | agg cs =>
      simp only [Proofs.YtpggpdbipajchaaGreatDoor.renT, Option.map_eq_some_iff] at hr
      obtain ⟨cs', h1, rfl⟩ := hr
      simp only [Rep] at h ⊢
      obtain ⟨vs, rfl, h2⟩ := h
      exact ⟨vs, rfl, RepL.conv (g := g) (g' := g') (Rep.renT hI ho f) h2 h1⟩
    | tup cs =>
      simp only [Proofs.YtpggpdbipajchaaGreatDoor.renT, Option.map_eq_some_iff] at hr
      obtain ⟨cs', h1, rfl⟩ := hr
      simp only [Rep] at h ⊢
      obtain ⟨vs, rfl, h2⟩ := h
      exact ⟨vs, rfl, RepL.conv (g := g) (g' := g') (Rep.renT hI ho f) h2 h1⟩
def renCT (nm : Nat → Nat) (f : Nat) (c : CellIO) : Option CellIO := (c.2.2.mapM (renT nm f)).map fun es => (c.1, c.2.1, es)
def pureN (Ψ : FunN) : Fun := fun ps => (Ψ ps).bind fun rc => reify true 0 (fun o => rc.2[o]?) fuel rc.1
theorem SoundN.pure {P : Program} {f : Nat} {Ψ : FunN} (h : SoundN P f Ψ) : Sound P f (pureN Ψ) := by
  intro w J ps args r hr hJ hT hargs
  unfold pureN at hr
  simp only [Option.bind_eq_some_iff] at hr
  obtain ⟨⟨r0, cs0⟩, h2, h3⟩ := hr
  dsimp only at h3
  let J' : Bool → Nat → Prop := fun k b => k = false ∧ J b
  have hO' : ObjsIO J' w (fun _ => 0) (fun _ => 0) [] := ⟨fun o ho => by simp at ho, fun o o' ho => by simp at ho, fun o c ho => by simp at ho⟩
  refine (h w J' (fun _ => 0) (fun _ => 0) ps [] args r0 cs0 (by simpa using h2) (fun k b hb => hJ b hb.2) hO' (hT.io fun t _ ⟨o, ho, _⟩ => by simp at ho) hargs).mono ?_
  rintro e w' ⟨v, β', κ', M, rfl, hfr, _, _, hnew, hM, hO2, hrep⟩
  refine ⟨v, rfl, ⟨hfr.os, hfr.tape, hfr.output, hfr.size, fun b hb => hfr.block b hb (fun ⟨o, ho, _⟩ => by simp at ho)⟩, fun g' hg => ?_⟩
  refine Rep.seen (fr := true) (n := 0) (s := initIO ps cs0) (g := ghIO (addN J' M) β' κ' cs0.length) (g' := g') (fun o c ho => hO2.at_ o c ho) ⟨fun e => (by cases e), fun _ => ⟨fun b hb => ?_, fun o ho _ => ?_⟩⟩ fuel _ _ _ hrep h3
  · rcases hb with ⟨h6, _⟩ | ⟨_, h6⟩
    · cases h6
    · exact hg b (hM b h6).1 (hM b h6).2
  · obtain ⟨c, hc⟩ := Option.isSome_iff_exists.1 ho
    have hlt := (List.getElem?_eq_some_iff.1 hc).1
    exact hg _ (hnew o (Nat.zero_le _) hlt) (hO2.lt o hlt).1
theorem SoundN.io {P : Program} {f : Nat} {Ψ : FunN} (h : SoundN P f Ψ) : SoundIO P f fun ps cs => if cs = [] then Ψ ps else none := h
section
variable {P : Program} {Γ : Ctx}
theorem sound_pqN (hm : P.follows .mixedOrders = true) {f : Nat} {fn : Func} {c : Code} {Ψ : FunN} (hΓ : SoundΓ P Γ) (hf : P.funcs[f]? = some fn) (hb : fn.body = some c) (N : Nat) (hN : fn.ntmps = N) (rs : List ResultVar) (hrs : fn.results.toList = rs) (hc : codeOk Γ true N c = true)
    (h : ∀ ps r cs', Ψ ps = some (r, cs') → ps.length ≤ N ∧ pq P Γ N c (PostIO P rs 0 r cs') (initS ps).tm noObs 0) : SoundN P f Ψ := by
  refine sound_pq0 hm hΓ hf hb N hN rs hrs hc fun ps cs r cs' hr => ?_
  split at hr
  · rename_i hcs
    exact ⟨hcs, h ps r cs' hr⟩
  · cases hr
end
section
variable {α β γ δ ρ : Type} {A : Dec α} {B : Dec β} {C : Dec γ} {D : Dec δ} {ps : List PV} {r : ρ}
def G1 (A : Dec α) (F : α → Option ρ) (ps : List PV) : Option ρ := match ps with | [p] => (A.d p).bind F | _ => none
def G2 (A : Dec α) (B : Dec β) (F : α → β → Option ρ) (ps : List PV) : Option ρ := match ps with | [p, q] => (A.d p).bind fun a => (B.d q).bind fun b => F a b | _ => none
theorem G1_some {F : α → Option ρ} (h : G1 A F ps = some r) : ∃ a, ps = [A.e a] ∧ F a = some r := by
  unfold G1 at h
  split at h
  · rw [Option.bind_eq_some_iff] at h
    obtain ⟨a, h1, h2⟩ := h
    exact ⟨a, by rw [A.h _ _ h1], h2⟩
  · cases h
theorem G1_ap {F : α → Option ρ} (a : α) : G1 A F [A.e a] = F a := by simp [G1, A.h']
end
def nC (T sz : Nat) (es : List PV) : List CellIO := match es with | [] => [] | _ :: _ => [(T, sz, es)]
theorem nC_nil {T sz : Nat} : nC T sz [] = [] := rfl
theorem nC_pos {T sz : Nat} {es : List PV} (h : 0 < es.length) : nC T sz es = [(T, sz, es)] := by
  cases es with
  | nil => simp at h
  | cons e es => rfl
section
variable {Ψ : FunN} {α : Type} {g : α → Value} {l : List α} {T sz : Nat}
theorem pureN_of {ps : List PV} {cs0 : List CellIO} {r r1 : PV} (h2 : Ψ ps = some (r, cs0)) (h3 : reify true 0 (fun o => cs0[o]?) fuel r = some r1) : pureN Ψ ps = some r1 := by
  unfold pureN
  rw [h2, Option.bind_some, h3]
theorem ioR_two {ob : Objs} {nx o T T2 sz sz2 : Nat} {es es2 : List PV} {r : PV} : ioR [o] ob nx (some (r, [(T, sz, es), (T2, sz2, es2)])) = (renF (outF [o] nx) fuel r).bind fun r' => (es.mapM (renF (outF [o] nx) fuel)).bind fun es' => (es2.mapM (renF (outF [o] nx) fuel)).map fun es2' => (r', upd (upd ob o (some (T, sz, es'))) nx (some (T2, sz2, es2')), nx + 1) := by
  unfold ioR
  simp only [mapM_cons', mapM_nil', renC]
  cases renF (outF [o] nx) fuel r with
  | none => rfl
  | some r' =>
    cases es.mapM (renF (outF [o] nx) fuel) with
    | none => rfl
    | some es' =>
      cases es2.mapM (renF (outF [o] nx) fuel) with
      | none => rfl
      | some es2' => 
        simp only [Option.map_some, Option.bind_some, List.length_cons, List.length_nil, Nat.zero_add, Nat.reduceAdd, Nat.reduceSub, Option.some.injEq, Prod.mk.injEq, true_and, and_true]
        show putObs ob [(outn [o] nx 0, _), (outn [o] nx 1, _)] = _
        simp only [putObs, outn, List.length_cons, List.length_nil, Nat.zero_add, Nat.lt_one_iff, if_true, Nat.one_ne_zero, if_false, Nat.sub_self, Nat.add_zero, List.getD_cons_zero]
end
theorem renM_fuel {nm : Nat → Option Nat} {l : List PV} : l.mapM (renF nm fuel) = l.mapM (renF nm 8) := rfl
attribute [push_cast]
  ioR_two renM_fuel
section
variable {P : Program} {Γ : Ctx}
end
section
variable {P : Program} {tm : Nat → PV} {ob : Objs} {nx : Nat} {rs : List ResultVar} {r : PV} {c' : CellIO} {x : X} {R : PV → List CellIO → Prop}
end
end Go.Proofs.YtpggpdbipajchaaGreatDoor
namespace Go.Proofs.YtpggpdbipajchaaGreatDoor
open Go.RowKit
set_option linter.all false
theorem at8_u {s : ByteArray} {j : Nat} (h : j < s.data.toList.length) : at8 s j = (s.data.toList[j].toNat : Int) := by
  have hl : s.data.toList.length = s.size := Array.length_toList
  have e : s[j]? = some s.data.toList[j] := by
    rw [getElem?_pos s j (by omega)]
    congr 1
  unfold at8
  rw [e]
  rfl
end Go.Proofs.YtpggpdbipajchaaGreatDoor
namespace Go.Proofs.YtpggpdbipajchaaGreatDoor
open Go.RowKit
set_option linter.all false
def NumI (n m : Int) (out : ByteArray) : Prop := Lib.decDigits n.toNat = (if m < 10 then [] else Lib.decDigits (m / 10).toNat) ++ out.data.toList
theorem dec_small {m : Int} (h0 : 0 ≤ m) (h : m < 10) : Lib.decDigits m.toNat = [UInt8.ofNat (48 + (m % 10).toNat)] := by
  rw [Lib.decDigits, dif_pos (by omega)]
  congr 2
  omega
theorem dec_big {m : Int} (h : ¬ m < 10) : Lib.decDigits m.toNat = Lib.decDigits (m / 10).toNat ++ [UInt8.ofNat (48 + (m % 10).toNat)] := by
  rw [Lib.decDigits, dif_neg (by omega), show m.toNat / 10 = (m / 10).toNat by omega, show m.toNat % 10 = (m % 10).toNat by omega]
abbrev digB (m : Int) : ByteArray := bytesOf [IntKind.u8.wrap (48 + m % 10)]
theorem digB_data (m : Int) : (digB m).data.toList = [UInt8.ofNat (48 + (m % 10).toNat)] := by
  have e : IntKind.u8.wrap (48 + m % 10) = 48 + m % 10 := by
    rw [IntKind.wrap_u8]
    omega
  have e2 : (48 + m % 10).toNat = 48 + (m % 10).toNat := by omega
  unfold digB bytesOf
  rw [e]
  simp [e2]
theorem NumI.start {n : Int} (h : 0 ≤ n) : NumI n n (digB n) := by
  unfold NumI
  split
  · rw [dec_small h (by assumption), digB_data]; rfl
  · rw [dec_big (by assumption), digB_data]
theorem NumI.step {n m : Int} {out : ByteArray} (h : NumI n m out) (h0 : 9 < m) : NumI n (m / 10) (digB (m / 10) ++ out) := by
  unfold NumI at h ⊢
  rw [if_neg (by omega)] at h
  rw [h]
  have e : (digB (m / 10) ++ out).data.toList = [UInt8.ofNat (48 + (m / 10 % 10).toNat)] ++ out.data.toList := by
    rw [ByteArray.data_append, Array.toList_append, digB_data]
  rw [e, ← List.append_assoc]
  congr 1
  split
  · rw [dec_small (by omega) (by assumption)]; rfl
  · rw [dec_big (by assumption)]
theorem NumI.stop {n m : Int} {out : ByteArray} (h : NumI n m out) (hn : 0 ≤ n) (h0 : ¬ 9 < m) : out = itoaS n := by
  unfold NumI at h
  rw [if_pos (by omega), List.nil_append] at h
  unfold itoaS Lib.itoa
  rw [if_neg (by omega), h]
theorem dec_head : ∀ (u : Nat), ∃ b r, Lib.decDigits u = b :: r ∧ 48 ≤ b.toNat := fun u => by
  induction u using Nat.strongRecOn with
  | _ u ih =>
    by_cases h : u < 10
    · refine ⟨_, [], by rw [Lib.decDigits, dif_pos h], ?_⟩
      show 48 ≤ (48 + u) % 256
      omega
    · obtain ⟨b, r, h1, h2⟩ := ih (u / 10) (by omega)
      exact ⟨b, r ++ [UInt8.ofNat (48 + u % 10)], by rw [Lib.decDigits, dif_neg h, h1]; rfl, h2⟩
theorem itoaS_head {n : Int} (h : 0 ≤ n) : 0 < (itoaS n).size ∧ 48 ≤ at8 (itoaS n) 0 := by
  obtain ⟨b, r, h1, h2⟩ := dec_head n.toNat
  have e : (itoaS n).data.toList = b :: r := by
    unfold itoaS Lib.itoa
    rw [if_neg (by omega), h1]
  have hl : (itoaS n).data.toList.length = (itoaS n).size := Array.length_toList
  have h3 : 0 < (itoaS n).data.toList.length := by rw [e]; simp
  refine ⟨by omega, ?_⟩
  rw [at8_u h3]
  have : (itoaS n).data.toList[0] = b := by simp only [e, List.getElem_cons_zero]
  rw [this]
  omega
def φNum : Fun := F1 dI fun n => if 0 ≤ n ∧ n ≤ 1099511627776 then some (.val (.string (itoaS n))) else none
theorem φNum_ap {n : Int} (h : 0 ≤ n) (h2 : n ≤ 1099511627776) : φNum [.val (.int .i64 n)] = some (.val (.string (itoaS n))) := (F1_ap (A := dI) n).trans (if_pos ⟨h, h2⟩)
set_option maxHeartbeats 8000000 in
theorem num_ok : Sound Tryz.prog 38 φNum := by
  refine sound_pq mixed GE_ok Tryz.func38 rfl 23 rfl [.tmp 2] rfl (by kernel_rfl) fun ps r hr => ?_
  obtain ⟨n, rfl, hq⟩ := F1_some hr
  clear hr
  split at hq
  case isFalse => cases hq
  case isTrue hpre =>
  cases hq
  refine ⟨by simp, ?_⟩
  simp only [dIs, dUs, dSs, dI_e, dU_e, dB_e, dS_e, dFn_e, dL_e, dA2_e, dA3_e, dA4_e, dA5_e]
  obtain ⟨h0, h1⟩ := hpre
  have hst := Lib.hid (NumI.start h0)
  have hd9 : 0 ≤ n % 10 ∧ n % 10 ≤ 9 := by omega
  (refine wlk ?_; intros)
  refine i_loop (α := Int × ByteArray × Nat) mixed (fun s => [(0, iv s.1), (3, .val (.string s.2.1))])
    (fun s => []) (fun s => s.2.2)
    (fun s => 0 ≤ s.1 ∧ s.1 ≤ 1099511627776 ∧ NumI n s.1 s.2.1 ∧ (s.2.1.size : Int) + s.1 ≤ 1099511627780 ∧ 0 < s.2.2) (fun s => s.1.toNat) (by kernel_rfl) (n, digB n, 1) ⟨h0, h1, hst.out, by dsimp only; have : (digB n).size = 1 := size_bytesOf _; omega, by simp⟩ ?_ ?_ rfl ?_
  · exact agr
  · exact agr
  rintro ⟨m, out, y⟩ ⟨m0, m1, hI, hsz, hy⟩
  dsimp only at m0 m1 hI hsz hy
  replace hI := Lib.hid hI
  by_cases h9 : 9 < m
  · have hst := Lib.hid (hI.out.step h9)
    (refine wlk ?_; intros)
    refine ⟨(m / 10, digB (m / 10) ++ out, y + 1), ⟨by dsimp only; omega, by dsimp only; omega, hst.out, by dsimp only; rw [ByteArray.size_append, size_bytesOf]; simp only [List.length_cons, List.length_nil]; omega, by dsimp only; omega⟩, by dsimp only; omega, ?_, ?_, rfl⟩
    · exact agr
    · exact agr
  · have hst := hI.out.stop h0 h9
    subst hst
    exact wlkF
end Go.Proofs.YtpggpdbipajchaaGreatDoor
namespace Go.Proofs.YtpggpdbipajchaaGreatDoor
open Go.RowKit
set_option linter.all false
def ΦOpen : FunIO := fun ps cs => match ps, cs with
  | [p], [] => (dUs.d p).map fun code => (.own 0 2 0 0, [rdC 54 (code.take 2000) 0])
  | _, _ => none
theorem ΦOpen_ap {code : List Int} : ΦOpen [.lst false 1 (code.map fun n => .val (.int .u8 n))] [] = some (.own 0 2 0 0, [rdC 54 (code.take 2000) 0]) := by
  have := dUs.h' code
  simp only [dUs, dL_e, dU_e] at this
  simp only [ΦOpen, dUs, this, Option.map_some]
theorem open_io : SoundIO Tryz.prog 11 ΦOpen := by
  refine sound_pq0 mixed GE_ok Tryz.func11 rfl 11 rfl [.tmp 2] rfl (by kernel_rfl) fun ps cs r cs' hr => ?_
  unfold ΦOpen at hr
  split at hr
  case h_2 => cases hr
  rename_i p
  rw [Option.map_eq_some_iff] at hr
  obtain ⟨code, h1, h2⟩ := hr
  obtain rfl := dUs.h _ _ h1
  clear h1
  cases h2
  refine ⟨rfl, by simp, ?_⟩
  simp only [dIs, dUs, dSs, dI_e, dU_e, dB_e, dS_e, dFn_e, dL_e, dA2_e, dA3_e, dA4_e, dA5_e]
  repeat' (first | (with_reducible first | apply i_seq | apply i_block | apply i_skip | apply i_exit | apply i_ret | apply i_kS | apply i_kSx | apply i_kSr | apply i_kL | apply i_kLx | apply i_kLr | apply i_kB | apply i_kBr | apply i_kBs | apply i_nil) | ((with_reducible apply i_region); (simp only [List.map_cons, List.map_nil] <;> exact rfl)) | ((with_reducible apply i_draw); (simp only [List.map_cons, List.map_nil] <;> exact rfl); decide +kernel) | ((with_reducible apply i_kBo); rfl) | ((first | ((with_reducible apply i_V); rfl; rfl; rfl) | ((first | ((with_reducible apply i_E); rfl) | ((with_reducible apply i_S); rfl)); first | rfl | (simp only [push_cast, ↓reduceIte])) | ((with_reducible apply i_Vq); rfl; rfl) | ((with_reducible apply i_Vp); rfl; rfl; rfl) | (with_reducible first | apply i_Gb | apply i_cond)); (simp (disch := (first | omega | (simp only [push_cast]; first | done | omega))) only [push_cast, ↓reduceIte, Nat.reduceEqDiff, Nat.reduceBEq, Nat.reduceAdd, Nat.reduceSub, Int.reduceToNat, *] <;> with_reducible exact rfl); all_goals try (first | (with_reducible first | refine hyT ?_ | refine hyF ?_ | exact hyA | exact hyB) | (intro hX; first | (cases hX; done) | ((try simp only [decide_eq_true_eq, decide_eq_false_iff_not, Bool.not_eq_true', Bool.not_eq_false'] at hX); (try have hXb := inB_iff.1 hX))))))
  · refine i_endN1 0 (by first | exact .inl rfl | exact .inr rfl) ?_ ?_
    · (focus (simp (disch := (first | omega | (simp only [push_cast]; first | done | omega))) only [push_cast, ↓reduceIte, Nat.reduceEqDiff, Nat.reduceBEq, Nat.reduceAdd, Nat.reduceSub, Int.reduceToNat, rep_iv, rep_sv, rep_w, rep_i3, rep_i4, *] <;> with_reducible exact rfl))
    · simp only [push_cast, ↓reduceIte, Nat.reduceEqDiff, Nat.reduceBEq, Nat.reduceAdd, Nat.reduceSub, Int.reduceToNat, rdC]
  · have h : code.take 2000 = code := List.take_of_length_le (by simp_all; omega)
    refine i_endN1 0 (by first | exact .inl rfl | exact .inr rfl) ?_ ?_
    · (focus (simp (disch := (first | omega | (simp only [push_cast]; first | done | omega))) only [push_cast, ↓reduceIte, Nat.reduceEqDiff, Nat.reduceBEq, Nat.reduceAdd, Nat.reduceSub, Int.reduceToNat, rep_iv, rep_sv, rep_w, rep_i3, rep_i4, *] <;> with_reducible exact rfl))
    · simp only [push_cast, ↓reduceIte, Nat.reduceEqDiff, Nat.reduceBEq, Nat.reduceAdd, Nat.reduceSub, Int.reduceToNat, rdC, h]
theorem pick_ex : ∃ Φ : FunIO, SoundIO Tryz.prog 23 Φ ∧ Drw2 54 Φ 1000000000 1 (fun v : Int => PV.val (.int .i64 v)) (fun _ => True) (fun n v => 0 ≤ v ∧ (1 ≤ n → v < n)) := by
  refine drw2_of mixed GE_ok Tryz.func23 rfl 99 rfl [.tmp 4] rfl (by kernel_rfl) (by simp) _ _ _ _ _ _ fun code p n hok hp _ => ?_
  obtain ⟨hlen, hbyte, hp0, hp1⟩ := id hok
  have hb0 := hbyte p.toNat
  have hb1 := hbyte (p % code.length).toNat
  have hb2 := hbyte ((p * 7 + 3) % code.length).toNat
  have hm : 0 < code.length → 0 ≤ p % (code.length : Int) ∧ p % (code.length : Int) < code.length ∧ 0 ≤ (p * 7 + 3) % (code.length : Int) ∧ (p * 7 + 3) % (code.length : Int) < code.length ∧ 0 ≤ p / (code.length : Int) ∧ p / (code.length : Int) ≤ p := fun h =>
    ⟨Int.emod_nonneg _ (by omega), Int.emod_lt_of_pos _ (by omega), Int.emod_nonneg _ (by omega), Int.emod_lt_of_pos _ (by omega), Int.ediv_nonneg hp0 (by omega), Int.ediv_le_self _ hp0⟩
  clear hbyte
  repeat' (first | (first | (with_reducible first | apply i_seq | apply i_block | apply i_skip | apply i_exit | apply i_ret | apply i_kS | apply i_kSx | apply i_kSr | apply i_kL | apply i_kLx | apply i_kLr | apply i_kB | apply i_kBr | apply i_kBs | apply i_nil) | ((with_reducible apply i_region); (simp only [List.map_cons, List.map_nil] <;> exact rfl)) | ((with_reducible apply i_draw); (simp only [List.map_cons, List.map_nil] <;> exact rfl); decide +kernel) | ((with_reducible apply i_kBo); rfl) | ((first | ((with_reducible apply i_V); rfl; rfl; rfl) | ((first | ((with_reducible apply i_E); rfl) | ((with_reducible apply i_S); rfl)); first | rfl | (simp only [push_cast, ↓reduceIte])) | ((with_reducible apply i_Vq); rfl; rfl) | ((with_reducible apply i_Vp); rfl; rfl; rfl) | (with_reducible first | apply i_Gb | apply i_cond)); (simp (disch := (first | omega | (simp only [push_cast]; first | done | omega))) only [push_cast, ↓reduceIte, Nat.reduceEqDiff, Nat.reduceBEq, Nat.reduceAdd, Nat.reduceSub, Int.reduceToNat, *] <;> with_reducible exact rfl); all_goals try (first | (with_reducible first | refine hyT ?_ | refine hyF ?_ | exact hyA | exact hyB) | (intro hX; first | (cases hX; done) | ((try simp only [decide_eq_true_eq, decide_eq_false_iff_not, Bool.not_eq_true', Bool.not_eq_false'] at hX); (try have hXb := inB_iff.1 hX)))))) | ((with_reducible apply i_xor); rfl; (simp (disch := (first | omega | (simp only [push_cast]; first | done | omega))) only [push_cast, ↓reduceIte, Nat.reduceEqDiff, Nat.reduceBEq, Nat.reduceAdd, Nat.reduceSub, Int.reduceToNat, *] <;> with_reducible exact rfl); (simp (disch := (first | omega | (simp only [push_cast]; first | done | omega))) only [push_cast, ↓reduceIte, Nat.reduceEqDiff, Nat.reduceBEq, Nat.reduceAdd, Nat.reduceSub, Int.reduceToNat, *] <;> with_reducible exact rfl); (first | omega | (simp only [push_cast]; first | done | omega)); (first | omega | (simp only [push_cast]; first | done | omega)); (first | omega | (simp only [push_cast]; first | done | omega)); (first | omega | (simp only [push_cast]; first | done | omega)); intro z hz1 hz2))
  all_goals ((with_reducible apply i_fin1 (by first | exact .inl rfl | exact .inr rfl)); (focus (simp (disch := (first | omega | (simp only [push_cast]; first | done | omega))) only [push_cast, ↓reduceIte, Nat.reduceEqDiff, Nat.reduceBEq, Nat.reduceAdd, Nat.reduceSub, Int.reduceToNat, rep_iv, rep_sv, rep_w, rep_i3, rep_i4, *] <;> with_reducible exact rfl)); (focus (simp (disch := (first | omega | (simp only [push_cast]; first | done | omega))) only [push_cast, ↓reduceIte, Nat.reduceEqDiff, Nat.reduceBEq, Nat.reduceAdd, Nat.reduceSub, Int.reduceToNat, rep_iv, rep_sv, rep_w, rep_i3, rep_i4, *] <;> with_reducible exact rfl)))
  all_goals (first | omega | exact hok.to (by omega) (by omega) | exact ⟨Int.emod_nonneg _ (by omega), fun _ => Int.emod_lt_of_pos _ (by omega)⟩)
noncomputable def Φpick : FunIO := Classical.choose pick_ex
theorem pick_io : SoundIO Tryz.prog 23 Φpick := (Classical.choose_spec pick_ex).1
theorem pick_drw : Drw2 54 Φpick 1000000000 1 (fun v : Int => PV.val (.int .i64 v)) (fun _ => True) (fun n v => 0 ≤ v ∧ (1 ≤ n → v < n)) := (Classical.choose_spec pick_ex).2
noncomputable def GOdd : Ctx := { fn := fun f => none, io := fun f => if f = 23 then some Φpick else none }
theorem GOdd_ok : SoundΓ Tryz.prog GOdd := ⟨(fun f φ h => by
  unfold GOdd at h
  dsimp only at h
  cases h), (fun f φ h => by
  unfold GOdd at h
  dsimp only at h
  split at h
  · rename_i hf; cases h; subst hf; exact ⟨⟨_, Tryz.func23, rfl, rfl⟩, pick_io⟩
  cases h), rfl⟩
theorem odd_ex : ∃ Φ : FunIO, SoundIO Tryz.prog 24 Φ ∧ Drw2 54 Φ 900000000 1 (fun v : Bool => PV.val (.bool v)) (fun n => 0 ≤ n ∧ n ≤ 1000000) (fun n v => n ≤ 0 → v = false) := by
  refine drw2_of mixed GOdd_ok Tryz.func24 rfl 15 rfl [.tmp 4] rfl (by kernel_rfl) (by simp) _ _ _ _ _ _ fun code p n hok hp hn => ?_
  have hp0 := hok.pos
  repeat' (first | (first | (with_reducible first | apply i_seq | apply i_block | apply i_skip | apply i_exit | apply i_ret | apply i_kS | apply i_kSx | apply i_kSr | apply i_kL | apply i_kLx | apply i_kLr | apply i_kB | apply i_kBr | apply i_kBs | apply i_nil) | ((with_reducible apply i_region); (simp only [List.map_cons, List.map_nil] <;> exact rfl)) | ((with_reducible apply i_draw); (simp only [List.map_cons, List.map_nil] <;> exact rfl); decide +kernel) | ((with_reducible apply i_kBo); rfl) | ((first | ((with_reducible apply i_V); rfl; rfl; rfl) | ((first | ((with_reducible apply i_E); rfl) | ((with_reducible apply i_S); rfl)); first | rfl | (simp only [push_cast, ↓reduceIte])) | ((with_reducible apply i_Vq); rfl; rfl) | ((with_reducible apply i_Vp); rfl; rfl; rfl) | (with_reducible first | apply i_Gb | apply i_cond)); (simp (disch := (first | omega | (simp only [push_cast]; first | done | omega))) only [push_cast, ↓reduceIte, Nat.reduceEqDiff, Nat.reduceBEq, Nat.reduceAdd, Nat.reduceSub, Int.reduceToNat, *] <;> with_reducible exact rfl); all_goals try (first | (with_reducible first | refine hyT ?_ | refine hyF ?_ | exact hyA | exact hyB) | (intro hX; first | (cases hX; done) | ((try simp only [decide_eq_true_eq, decide_eq_false_iff_not, Bool.not_eq_true', Bool.not_eq_false'] at hX); (try have hXb := inB_iff.1 hX)))))) | ((with_reducible apply i_drw2 pick_drw (fun _ _ => rfl)); rfl; (simp (disch := (first | omega | (simp only [push_cast]; first | done | omega))) only [push_cast, ↓reduceIte, Nat.reduceEqDiff, Nat.reduceBEq, Nat.reduceAdd, Nat.reduceSub, Int.reduceToNat, *] <;> with_reducible exact rfl); (simp (disch := (first | omega | (simp only [push_cast]; first | done | omega))) only [push_cast, ↓reduceIte, Nat.reduceEqDiff, Nat.reduceBEq, Nat.reduceAdd, Nat.reduceSub, Int.reduceToNat, *] <;> with_reducible exact rfl); (simp (disch := (first | omega | (simp only [push_cast]; first | done | omega))) only [push_cast, ↓reduceIte, Nat.reduceEqDiff, Nat.reduceBEq, Nat.reduceAdd, Nat.reduceSub, Int.reduceToNat, *] <;> with_reducible exact rfl); assumption; omega; (focus (first | trivial | omega)); (focus (first | rfl | (simp only [push_cast, ↓reduceIte]))); intro v pp hv hok hpp1 hpp2))
  all_goals ((with_reducible apply i_fin1 (by first | exact .inl rfl | exact .inr rfl)); (focus (simp (disch := (first | omega | (simp only [push_cast]; first | done | omega))) only [push_cast, ↓reduceIte, Nat.reduceEqDiff, Nat.reduceBEq, Nat.reduceAdd, Nat.reduceSub, Int.reduceToNat, rep_iv, rep_sv, rep_w, rep_i3, rep_i4, *] <;> with_reducible exact rfl)); (focus (simp (disch := (first | omega | (simp only [push_cast]; first | done | omega))) only [push_cast, ↓reduceIte, Nat.reduceEqDiff, Nat.reduceBEq, Nat.reduceAdd, Nat.reduceSub, Int.reduceToNat, rep_iv, rep_sv, rep_w, rep_i3, rep_i4, *] <;> with_reducible exact rfl)))
  all_goals (first | omega | assumption | (intro h; first | omega | rfl | (simp; omega)))
noncomputable def Φodd : FunIO := Classical.choose odd_ex
theorem odd_io : SoundIO Tryz.prog 24 Φodd := (Classical.choose_spec odd_ex).1
theorem odd_drw : Drw2 54 Φodd 900000000 1 (fun v : Bool => PV.val (.bool v)) (fun n => 0 ≤ n ∧ n ≤ 1000000) (fun n v => n ≤ 0 → v = false) := (Classical.choose_spec odd_ex).2
end Go.Proofs.YtpggpdbipajchaaGreatDoor
