/- What the proof rests on, part 10: contracts of functions. No condition beyond what each states. -/
import Derived.Test.YtpggpdbipajchaaGreatDoorZIpD9
namespace Go.Proofs.YtpggpdbipajchaaGreatDoor
open Go.RowKit
set_option linter.all false
theorem pagesB_no {zs : List Int} {k : Nat} (h : k < zs.length) (hb : okPage zs k = false) : pagesB zs = false := by
  unfold pagesB
  rw [okPages_mono h hb]
  rfl
theorem pagesB_yes {zs : List Int} (h : okPages zs zs.length = true) : pagesB zs = decide ((zs.length : Int) ≤ 30) := by
  unfold pagesB
  rw [h, Bool.true_and]
  exact decide_eq_decide.2 (by omega)
theorem pagesB_iff {zs : List Int} : pagesB zs = true ↔ (∀ i, i < zs.length → (1 ≤ zs[i]?.getD 0 ∧ zs[i]?.getD 0 ≤ 999) ∧ (0 < i → zs[i - 1]?.getD 0 < zs[i]?.getD 0)) ∧ zs.length ≤ 30 := by
  unfold pagesB okPages
  simp only [Bool.and_eq_true, List.all_eq_true, List.mem_range, decide_eq_true_eq]
  refine and_congr_left fun _ => forall_congr' fun i => imp_congr_right fun _ => ?_
  simp only [okPage, Bool.and_eq_true, inB_iff, Bool.or_eq_true, beq_iff_eq, decide_eq_true_eq]
  refine and_congr_right fun _ => ?_
  constructor
  · rintro (h | h) h0
    · omega
    · exact h
  · intro h
    by_cases h0 : i = 0
    · exact .inl h0
    · exact .inr (h (by omega))
def φPagesV : Fun := F1 dIs fun zs => if zs.length ≤ 1099511627776 then some (bv (pagesB zs)) else none
theorem φPagesV_ap {zs : List Int} (h : zs.length ≤ 1099511627776) : φPagesV [.lst false 1 (zs.map fun n => .val (.int .i64 n))] = some (.val (.bool (pagesB zs))) :=
  (F1_ap (A := dIs) zs).trans (if_pos h)
noncomputable def GPvi : Ctx := { fn := fun f => if f = 28 then some φPage else none, io := fun f => none }
theorem GPvi_ok : SoundΓ Tryz.prog GPvi := ⟨(fun f φ h => by
  unfold GPvi at h
  dsimp only at h
  split at h
  · rename_i hf; cases h; subst hf; exact ⟨⟨_, Tryz.func28, rfl, rfl⟩, isPage_ok⟩
  cases h), (fun f φ h => by
  unfold GPvi at h
  dsimp only at h
  cases h), rfl⟩
theorem GPvi_28 (ob : Objs) (ps : List PV) : evCall GPvi ob 28 ps = (ps.mapM (reify false 0 ob fuel)).bind φPage := by
  have h : GPvi.fn 28 = some φPage := by simp [GPvi]
  unfold evCall
  rw [h]
  cases ps.mapM (reify false 0 ob fuel) <;> rfl
set_option maxHeartbeats 4000000 in
theorem implPagesV_ok : Sound Tryz.prog 21 φPagesV := by
  refine sound_pq mixed GPvi_ok Tryz.func21 rfl 32 rfl [.tmp 2] rfl (by kernel_rfl) fun ps r hr => ?_
  obtain ⟨zs, rfl, hq⟩ := F1_some hr
  clear hr
  split at hq
  case isFalse => cases hq
  case isTrue hpre =>
  cases hq
  refine ⟨by simp, ?_⟩
  simp only [dIs, dUs, dSs, dI_e, dU_e, dB_e, dS_e, dFn_e, dL_e, dA2_e, dA3_e, dA4_e, dA5_e]
  have gpvi_c28 := GPvi_28; have ap := φPage_ap
  repeat' (first | (with_reducible first | apply i_seq | apply i_block | apply i_skip | apply i_exit | apply i_ret | apply i_kS | apply i_kSx | apply i_kSr | apply i_kL | apply i_kLx | apply i_kLr | apply i_kB | apply i_kBr | apply i_kBs | apply i_nil) | ((with_reducible apply i_region); (simp only [List.map_cons, List.map_nil] <;> exact rfl)) | ((with_reducible apply i_draw); (simp only [List.map_cons, List.map_nil] <;> exact rfl); decide +kernel) | ((with_reducible apply i_kBo); rfl) | ((first | ((with_reducible apply i_V); rfl; rfl; rfl) | ((first | ((with_reducible apply i_E); rfl) | ((with_reducible apply i_S); rfl)); first | rfl | (simp only [push_cast, ↓reduceIte])) | ((with_reducible apply i_Vq); rfl; rfl) | ((with_reducible apply i_Vp); rfl; rfl; rfl) | (with_reducible first | apply i_Gb | apply i_cond)); (simp (disch := (first | omega | (simp only [push_cast]; first | done | omega))) only [push_cast, ↓reduceIte, Nat.reduceEqDiff, Nat.reduceBEq, Nat.reduceAdd, Nat.reduceSub, Int.reduceToNat, *] <;> with_reducible exact rfl); all_goals try (first | (with_reducible first | refine hyT ?_ | refine hyF ?_ | exact hyA | exact hyB) | (intro hX; first | (cases hX; done) | ((try simp only [decide_eq_true_eq, decide_eq_false_iff_not, Bool.not_eq_true', Bool.not_eq_false'] at hX); (try have hXb := inB_iff.1 hX))))))
  refine i_loop (α := Nat) mixed (fun k => [(0, .lst false 1 (zs.map fun n => .val (.int .i64 n))), (5, .lst false 1 (zs.map fun n => .val (.int .i64 n))), (6, iv zs.length), (7, iv k)]) (fun _ => []) (fun _ => 0)
    (fun k => k ≤ zs.length ∧ okPages zs k = true) (fun k => zs.length - k) (by kernel_rfl) 0 ⟨Nat.zero_le _, rfl⟩ ?_ trivial rfl ?_
  · simp only [push_cast, ↓reduceIte, Nat.reduceEqDiff, Nat.reduceBEq, Nat.reduceAdd, Nat.reduceSub, Int.reduceToNat]
  · intro k ⟨hk, hok⟩
    have hpg : okPage zs k = (inB (zs[k]?.getD 0) 1 999 && (k == 0 || decide (zs[k - 1]?.getD 0 < zs[k]?.getD 0))) := rfl
    repeat' (first | (with_reducible first | apply i_seq | apply i_block | apply i_skip | apply i_exit | apply i_ret | apply i_kS | apply i_kSx | apply i_kSr | apply i_kL | apply i_kLx | apply i_kLr | apply i_kB | apply i_kBr | apply i_kBs | apply i_nil) | ((with_reducible apply i_region); (simp only [List.map_cons, List.map_nil] <;> exact rfl)) | ((with_reducible apply i_draw); (simp only [List.map_cons, List.map_nil] <;> exact rfl); decide +kernel) | ((with_reducible apply i_kBo); rfl) | ((first | ((with_reducible apply i_V); rfl; rfl; rfl) | ((first | ((with_reducible apply i_E); rfl) | ((with_reducible apply i_S); rfl)); first | rfl | (simp only [push_cast, ↓reduceIte])) | ((with_reducible apply i_Vq); rfl; rfl) | ((with_reducible apply i_Vp); rfl; rfl; rfl) | (with_reducible first | apply i_Gb | apply i_cond)); (simp (disch := (first | omega | (simp only [push_cast]; first | done | omega))) only [push_cast, ↓reduceIte, Nat.reduceEqDiff, Nat.reduceBEq, Nat.reduceAdd, Nat.reduceSub, Int.reduceToNat, *] <;> with_reducible exact rfl); all_goals try (first | (with_reducible first | refine hyT ?_ | refine hyF ?_ | exact hyA | exact hyB) | (intro hX; first | (cases hX; done) | ((try simp only [decide_eq_true_eq, decide_eq_false_iff_not, Bool.not_eq_true', Bool.not_eq_false'] at hX); (try have hXb := inB_iff.1 hX))))))
    all_goals try ((first | apply i_end | apply i_endN); simp (disch := (first | omega | (simp only [push_cast]; first | done | omega))) only [push_cast, ↓reduceIte, Nat.reduceEqDiff, Nat.reduceBEq, Nat.reduceAdd, Nat.reduceSub, Int.reduceToNat, *])
    all_goals try (rw [pagesB_no (k := k) (by omega) (by rw [hpg]; simp_all; try omega)]; done)
    all_goals try (rw [pagesB_yes (by rwa [show zs.length = k by omega])]; done)
    all_goals
      refine ⟨k + 1, ⟨by omega, by rw [okPages_succ, hok, hpg]; simp_all; try omega⟩, by dsimp only; omega, by simp only [push_cast, ↓reduceIte, Nat.reduceEqDiff, Nat.reduceBEq, Nat.reduceAdd, Nat.reduceSub, Int.reduceToNat], trivial, rfl⟩
noncomputable def GPvs : Ctx := { fn := fun f => if f = 36 then some φIn else none, io := fun f => none }
theorem GPvs_ok : SoundΓ Tryz.prog GPvs := ⟨(fun f φ h => by
  unfold GPvs at h
  dsimp only at h
  split at h
  · rename_i hf; cases h; subst hf; exact ⟨⟨_, Tryz.func36, rfl, rfl⟩, l1In_ok⟩
  cases h), (fun f φ h => by
  unfold GPvs at h
  dsimp only at h
  cases h), rfl⟩
theorem GPvs_36 (ob : Objs) (ps : List PV) : evCall GPvs ob 36 ps = (ps.mapM (reify false 0 ob fuel)).bind φIn := by
  have h : GPvs.fn 36 = some φIn := by simp [GPvs]
  unfold evCall
  rw [h]
  cases ps.mapM (reify false 0 ob fuel) <;> rfl
set_option maxHeartbeats 4000000 in
theorem specPagesV_ok : Sound Tryz.prog 37 φPagesV := by
  refine sound_pq mixed GPvs_ok Tryz.func37 rfl 35 rfl [.tmp 2] rfl (by kernel_rfl) fun ps r hr => ?_
  obtain ⟨zs, rfl, hq⟩ := F1_some hr
  clear hr
  split at hq
  case isFalse => cases hq
  case isTrue hpre =>
  cases hq
  refine ⟨by simp, ?_⟩
  simp only [dIs, dUs, dSs, dI_e, dU_e, dB_e, dS_e, dFn_e, dL_e, dA2_e, dA3_e, dA4_e, dA5_e]
  have gpvs_c36 := GPvs_36; have ap := φIn_ap
  repeat' (first | (with_reducible first | apply i_seq | apply i_block | apply i_skip | apply i_exit | apply i_ret | apply i_kS | apply i_kSx | apply i_kSr | apply i_kL | apply i_kLx | apply i_kLr | apply i_kB | apply i_kBr | apply i_kBs | apply i_nil) | ((with_reducible apply i_region); (simp only [List.map_cons, List.map_nil] <;> exact rfl)) | ((with_reducible apply i_draw); (simp only [List.map_cons, List.map_nil] <;> exact rfl); decide +kernel) | ((with_reducible apply i_kBo); rfl) | ((first | ((with_reducible apply i_V); rfl; rfl; rfl) | ((first | ((with_reducible apply i_E); rfl) | ((with_reducible apply i_S); rfl)); first | rfl | (simp only [push_cast, ↓reduceIte])) | ((with_reducible apply i_Vq); rfl; rfl) | ((with_reducible apply i_Vp); rfl; rfl; rfl) | (with_reducible first | apply i_Gb | apply i_cond)); (simp (disch := (first | omega | (simp only [push_cast]; first | done | omega))) only [push_cast, ↓reduceIte, Nat.reduceEqDiff, Nat.reduceBEq, Nat.reduceAdd, Nat.reduceSub, Int.reduceToNat, *] <;> with_reducible exact rfl); all_goals try (first | (with_reducible first | refine hyT ?_ | refine hyF ?_ | exact hyA | exact hyB) | (intro hX; first | (cases hX; done) | ((try simp only [decide_eq_true_eq, decide_eq_false_iff_not, Bool.not_eq_true', Bool.not_eq_false'] at hX); (try have hXb := inB_iff.1 hX))))))
  refine i_loop (α := Nat) mixed (fun k => [(0, .lst false 1 (zs.map fun n => .val (.int .i64 n))), (3, iv k)]) (fun _ => []) (fun _ => 0)
    (fun k => k ≤ zs.length ∧ okPages zs k = true) (fun k => zs.length - k) (by kernel_rfl) 0 ⟨Nat.zero_le _, rfl⟩ ?_ trivial rfl ?_
  · simp only [push_cast, ↓reduceIte, Nat.reduceEqDiff, Nat.reduceBEq, Nat.reduceAdd, Nat.reduceSub, Int.reduceToNat]
  · intro k ⟨hk, hok⟩
    have hpg : okPage zs k = (inB (zs[k]?.getD 0) 1 999 && (k == 0 || decide (zs[k - 1]?.getD 0 < zs[k]?.getD 0))) := rfl
    repeat' (first | (with_reducible first | apply i_seq | apply i_block | apply i_skip | apply i_exit | apply i_ret | apply i_kS | apply i_kSx | apply i_kSr | apply i_kL | apply i_kLx | apply i_kLr | apply i_kB | apply i_kBr | apply i_kBs | apply i_nil) | ((with_reducible apply i_region); (simp only [List.map_cons, List.map_nil] <;> exact rfl)) | ((with_reducible apply i_draw); (simp only [List.map_cons, List.map_nil] <;> exact rfl); decide +kernel) | ((with_reducible apply i_kBo); rfl) | ((first | ((with_reducible apply i_V); rfl; rfl; rfl) | ((first | ((with_reducible apply i_E); rfl) | ((with_reducible apply i_S); rfl)); first | rfl | (simp only [push_cast, ↓reduceIte])) | ((with_reducible apply i_Vq); rfl; rfl) | ((with_reducible apply i_Vp); rfl; rfl; rfl) | (with_reducible first | apply i_Gb | apply i_cond)); (simp (disch := (first | omega | (simp only [push_cast]; first | done | omega))) only [push_cast, ↓reduceIte, Nat.reduceEqDiff, Nat.reduceBEq, Nat.reduceAdd, Nat.reduceSub, Int.reduceToNat, *] <;> with_reducible exact rfl); all_goals try (first | (with_reducible first | refine hyT ?_ | refine hyF ?_ | exact hyA | exact hyB) | (intro hX; first | (cases hX; done) | ((try simp only [decide_eq_true_eq, decide_eq_false_iff_not, Bool.not_eq_true', Bool.not_eq_false'] at hX); (try have hXb := inB_iff.1 hX))))))
    all_goals try ((first | apply i_end | apply i_endN); simp (disch := (first | omega | (simp only [push_cast]; first | done | omega))) only [push_cast, ↓reduceIte, Nat.reduceEqDiff, Nat.reduceBEq, Nat.reduceAdd, Nat.reduceSub, Int.reduceToNat, *])
    all_goals try (rw [pagesB_no (k := k) (by omega) (by rw [hpg]; simp_all; try omega)]; done)
    all_goals try (rw [pagesB_yes (by rwa [show zs.length = k by omega])]; done)
    all_goals
      refine ⟨k + 1, ⟨by omega, by rw [okPages_succ, hok, hpg]; simp_all; try omega⟩, by dsimp only; omega, by simp only [push_cast, ↓reduceIte, Nat.reduceEqDiff, Nat.reduceBEq, Nat.reduceAdd, Nat.reduceSub, Int.reduceToNat], trivial, rfl⟩
def glueB (g : I4) : Bool := inB g.1 0 1000 && inB g.2.1 0 1000 && inB g.2.2.1 0 g.1 && inB g.2.2.2 0 1
def φGlueV : Fun := F1 dI4 fun g => some (bv (glueB g))
theorem φGlueV_ap {a b c d : Int} : φGlueV [.agg [.val (.int .i64 a), .val (.int .i64 b), .val (.int .i64 c), .val (.int .i64 d)]] = some (.val (.bool (glueB (a, b, c, d)))) := F1_ap (A := dI4) (a, b, c, d)
noncomputable def GGl : Ctx := { fn := fun f => if f = 42 then some φIn else none, io := fun f => none }
theorem GGl_ok : SoundΓ Tryz.prog GGl := ⟨(fun f φ h => by
  unfold GGl at h
  dsimp only at h
  split at h
  · rename_i hf; cases h; subst hf; exact ⟨⟨_, Tryz.func42, rfl, rfl⟩, in_ok⟩
  cases h), (fun f φ h => by
  unfold GGl at h
  dsimp only at h
  cases h), rfl⟩
theorem GGl_42 (ob : Objs) (ps : List PV) : evCall GGl ob 42 ps = (ps.mapM (reify false 0 ob fuel)).bind φIn := by
  have h : GGl.fn 42 = some φIn := by simp [GGl]
  unfold evCall
  rw [h]
  cases ps.mapM (reify false 0 ob fuel) <;> rfl
set_option maxHeartbeats 4000000 in
theorem implGlueV_ok : Sound Tryz.prog 22 φGlueV := by
  refine sound_pq mixed GGl_ok Tryz.func22 rfl 23 rfl [.tmp 2] rfl (by kernel_rfl) fun ps r hr => ?_
  obtain ⟨⟨a, b, c, d⟩, rfl, hr⟩ := F1_some hr
  cases hr
  refine ⟨by simp, ?_⟩
  simp only [dIs, dUs, dSs, dI_e, dU_e, dB_e, dS_e, dFn_e, dL_e, dA2_e, dA3_e, dA4_e, dA5_e]
  have ggl_c42 := GGl_42; have ap := φIn_ap
  repeat' (first | (with_reducible first | apply i_seq | apply i_block | apply i_skip | apply i_exit | apply i_ret | apply i_kS | apply i_kSx | apply i_kSr | apply i_kL | apply i_kLx | apply i_kLr | apply i_kB | apply i_kBr | apply i_kBs | apply i_nil) | ((with_reducible apply i_region); (simp only [List.map_cons, List.map_nil] <;> exact rfl)) | ((with_reducible apply i_draw); (simp only [List.map_cons, List.map_nil] <;> exact rfl); decide +kernel) | ((with_reducible apply i_kBo); rfl) | ((first | ((with_reducible apply i_V); rfl; rfl; rfl) | ((first | ((with_reducible apply i_E); rfl) | ((with_reducible apply i_S); rfl)); first | rfl | (simp only [push_cast, ↓reduceIte])) | ((with_reducible apply i_Vq); rfl; rfl) | ((with_reducible apply i_Vp); rfl; rfl; rfl) | (with_reducible first | apply i_Gb | apply i_cond)); (simp (disch := (first | omega | (simp only [push_cast]; first | done | omega))) only [push_cast, ↓reduceIte, Nat.reduceEqDiff, Nat.reduceBEq, Nat.reduceAdd, Nat.reduceSub, Int.reduceToNat, *] <;> with_reducible exact rfl); all_goals try (first | (with_reducible first | refine hyT ?_ | refine hyF ?_ | exact hyA | exact hyB) | (intro hX; first | (cases hX; done) | ((try simp only [decide_eq_true_eq, decide_eq_false_iff_not, Bool.not_eq_true', Bool.not_eq_false'] at hX); (try have hXb := inB_iff.1 hX))))))
  all_goals ((first | apply i_end | apply i_endN); simp (disch := (first | omega | (simp only [push_cast]; first | done | omega))) only [push_cast, ↓reduceIte, Nat.reduceEqDiff, Nat.reduceBEq, Nat.reduceAdd, Nat.reduceSub, Int.reduceToNat, *])
  all_goals simp_all [glueB]
noncomputable def GAl : Ctx := { fn := fun f => if f = 22 then some φGlueV else none, io := fun f => none }
theorem GAl_ok : SoundΓ Tryz.prog GAl := ⟨(fun f φ h => by
  unfold GAl at h
  dsimp only at h
  split at h
  · rename_i hf; cases h; subst hf; exact ⟨⟨_, Tryz.func22, rfl, rfl⟩, implGlueV_ok⟩
  cases h), (fun f φ h => by
  unfold GAl at h
  dsimp only at h
  cases h), rfl⟩
theorem GAl_22 (ob : Objs) (ps : List PV) : evCall GAl ob 22 ps = (ps.mapM (reify false 0 ob fuel)).bind φGlueV := by
  have h : GAl.fn 22 = some φGlueV := by simp [GAl]
  unfold evCall
  rw [h]
  cases ps.mapM (reify false 0 ob fuel) <;> rfl
def φTrue : Fun := F0 (some (bv true))
theorem φTrue_ap : φTrue [] = some (.val (.bool true)) := rfl
theorem alive_ok : Sound Tryz.prog 9 φTrue := by
  refine sound_pq mixed GAl_ok Tryz.func9 rfl 3 rfl [.tmp 0] rfl (by kernel_rfl) fun ps r hr => ?_
  obtain ⟨rfl, hr⟩ := F0_some hr
  cases hr
  refine ⟨by simp, ?_⟩
  have gal_c22 := GAl_22; have ap := @φGlueV_ap
  have e : glueB (4, 0, 0, 0) = true := rfl
  (refine wlkX ?_; intros)
  all_goals (exact fnF)
noncomputable def GRd : Ctx := { fn := fun f => none, io := fun f => if f = 23 then some Φpick else if f = 24 then some Φodd else none }
theorem GRd_ok : SoundΓ Tryz.prog GRd := ⟨(fun f φ h => by
  unfold GRd at h
  dsimp only at h
  cases h), (fun f φ h => by
  unfold GRd at h
  dsimp only at h
  split at h
  · rename_i hf; cases h; subst hf; exact ⟨⟨_, Tryz.func23, rfl, rfl⟩, pick_io⟩
  split at h
  · rename_i hf; cases h; subst hf; exact ⟨⟨_, Tryz.func24, rfl, rfl⟩, odd_io⟩
  cases h), rfl⟩
end Go.Proofs.YtpggpdbipajchaaGreatDoor
namespace Go.Proofs.YtpggpdbipajchaaGreatDoor
open Go.RowKit
set_option linter.all false
theorem map_app' {α β : Type} {f : α → β} {l l' : List α} : l.map f ++ l'.map f = (l ++ l').map f := List.map_append.symm
theorem min_l {a b : Nat} (h : a ≤ b) : min a b = a := Nat.min_eq_left h
attribute [push_cast]
  map_app' min_l List.take_length
theorem strI_take {s : ByteArray} : (strI s).take s.size = strI s := List.take_of_length_le (by rw [strI_length]; exact Nat.le_refl _)
attribute [push_cast]
  strI_take
theorem io_ag {Φ : FunIO} {ob : Objs} {nx : Nat} {u : Value} {k : Bool} {sz : Nat} {α : Type} {g : α → Value} {l : List α} : ioEv Φ ob nx [.agg [.val u, .lst k sz (l.map fun x => PV.val (g x))]] = ioR [] ob nx (Φ [.agg [.val u, .lst k sz (l.map fun x => PV.val (g x))]] []) :=
  ioNo_of rfl (by simp only [mapM_cons', mapM_nil', renS_fuel, renS_agg, renS_val, renS_vals]; rfl)
attribute [push_cast]
  io_ag
end Go.Proofs.YtpggpdbipajchaaGreatDoor
namespace Go.Proofs.YtpggpdbipajchaaGreatDoor
open Go.RowKit
set_option linter.all false
section
variable {Φ : FunIO} {ob : Objs} {nx o sz i n : Nat} {u u2 v v2 v3 : Value}
theorem io_gr2 : ioEv Φ ob nx [.agg [.val u, .row o sz i n], .val v] = ioOne Φ ob nx o [.agg [.val u, .row 0 sz i n], .val v] (ob o) := ioOne_of (by simp [refsOf, dedup]) (by simp only [mapM_cons', mapM_nil', renS_fuel, renS_agg, renS_row, renS_val, inn_self]; rfl)
theorem io_gr4 : ioEv Φ ob nx [.agg [.val u, .row o sz i n], .val v, .val v2, .val v3] = ioOne Φ ob nx o [.agg [.val u, .row 0 sz i n], .val v, .val v2, .val v3] (ob o) := ioOne_of (by simp [refsOf, dedup]) (by simp only [mapM_cons', mapM_nil', renS_fuel, renS_agg, renS_row, renS_val, inn_self]; rfl)
theorem io_gn2 : ioEv Φ ob nx [.agg [.val u, .val u2], .val v] = ioR [] ob nx (Φ [.agg [.val u, .val u2], .val v] []) := ioNo_of rfl rfl
end
attribute [push_cast]
  io_gr2 io_gr4 io_gn2
end Go.Proofs.YtpggpdbipajchaaGreatDoor
namespace Go.Proofs.YtpggpdbipajchaaGreatDoor
open Go.RowKit
set_option linter.all false
def refsA : List PV → List Nat
  | [] => []
  | .own o _ _ _ :: l => o :: refsA l
  | .row o _ _ _ :: l => o :: refsA l
  | _ :: l => refsA l
def refsX : PV → List Nat
  | .own o _ _ _ => [o]
  | .row o _ _ _ => [o]
  | .agg cs => refsA cs
  | _ => []
def refsL : List PV → List Nat
  | [] => []
  | p :: ps => refsX p ++ refsL ps
theorem refsA_eq : ∀ cs : List PV, (cs.flatMap fun c => match c with | .own o _ _ _ => [o] | .row o _ _ _ => [o] | _ => []) = refsA cs
  | [] => rfl
  | c :: cs => by
    rw [List.flatMap_cons, refsA_eq cs]
    cases c <;> rfl
theorem refsL_eq : ∀ ps : List PV, ps.flatMap refsOf = refsL ps
  | [] => rfl
  | p :: ps => by
    rw [List.flatMap_cons, refsL_eq ps]
    show _ = refsX p ++ refsL ps
    congr 1
    cases p with
    | agg cs => exact refsA_eq cs
    | _ => rfl
section
variable {Φ : FunIO} {ob : Objs} {nx : Nat}
def ioTwo (Φ : FunIO) (ob : Objs) (nx a b : Nat) (qs : List PV) : Option CellIO → Option CellIO → Option (PV × Objs × Nat)
  | some c, some d => (c.2.2.mapM (renF (inn [a, b]) fuel)).bind fun es => (d.2.2.mapM (renF (inn [a, b]) fuel)).bind fun fs => ioR [a, b] ob nx (Φ qs [(c.1, c.2.1, es), (d.1, d.2.1, fs)])
  | _, _ => none
def ioX (Φ : FunIO) (ob : Objs) (nx : Nat) (ps : List PV) : List Nat → Option (PV × Objs × Nat)
  | [] => (ps.mapM (renF (inn []) fuel)).bind fun qs => ioR [] ob nx (Φ qs [])
  | [o] => (ps.mapM (renF (inn [o]) fuel)).bind fun qs => ioOne Φ ob nx o qs (ob o)
  | [a, b] => (ps.mapM (renF (inn [a, b]) fuel)).bind fun qs => ioTwo Φ ob nx a b qs (ob a) (ob b)
  | _ => ioEv Φ ob nx ps
theorem io_any (ps : List PV) : ioEv Φ ob nx ps = ioX Φ ob nx ps (dedup (refsL ps)) := by
  generalize hos : dedup (refsL ps) = os
  rw [← refsL_eq] at hos
  match os with
  | [] =>
    show _ = (ps.mapM (renF (inn []) fuel)).bind _
    cases h2 : ps.mapM (renF (inn []) fuel) with
    | some qs => rw [ioEv_eq ps [] hos, h2, mapM_nil']; rfl
    | none => rw [ioEv_eq ps [] hos, h2, mapM_nil']; rfl
  | [o] =>
    show _ = (ps.mapM (renF (inn [o]) fuel)).bind _
    cases h2 : ps.mapM (renF (inn [o]) fuel) with
    | some qs => rw [ioOne_of hos h2]; rfl
    | none =>
      rw [ioEv_eq ps [o] hos, h2]
      cases [o].mapM ob <;> rfl
  | [a, b] =>
    show _ = (ps.mapM (renF (inn [a, b]) fuel)).bind _
    rw [ioEv_eq ps [a, b] hos]
    simp only [mapM_cons', mapM_nil', renC]
    cases ps.mapM (renF (inn [a, b]) fuel) with
    | none => cases ob a <;> cases ob b <;> rfl
    | some qs =>
      simp only [Option.bind_some]
      cases ob a with
      | none => rfl
      | some c =>
        cases ob b with
        | none => rfl
        | some d =>
          obtain ⟨T, sz, es0⟩ := c
          obtain ⟨T2, sz2, fs0⟩ := d
          simp only [Option.bind_some, Option.map_some, ioTwo, mapM_cons', mapM_nil', renC]
          cases es0.mapM (renF (inn [a, b]) fuel) with
          | none => rfl
          | some es =>
            simp only [Option.bind_some, Option.map_some]
            cases fs0.mapM (renF (inn [a, b]) fuel) <;> rfl
  | _ :: _ :: _ :: _ => rfl
theorem ioX_nil {ps : List PV} : ioX Φ ob nx ps [] = (ps.mapM (renF (inn []) fuel)).bind fun qs => ioR [] ob nx (Φ qs []) := rfl
theorem ioX_one {ps : List PV} {o : Nat} : ioX Φ ob nx ps [o] = (ps.mapM (renF (inn [o]) fuel)).bind fun qs => ioOne Φ ob nx o qs (ob o) := rfl
theorem ioX_two {ps : List PV} {a b : Nat} : ioX Φ ob nx ps [a, b] = (ps.mapM (renF (inn [a, b]) fuel)).bind fun qs => ioTwo Φ ob nx a b qs (ob a) (ob b) := rfl
theorem ioTwo_some {a b T T2 sz sz2 : Nat} {es es2 qs : List PV} : ioTwo Φ ob nx a b qs (some (T, sz, es)) (some (T2, sz2, es2)) = (es.mapM (renF (inn [a, b]) fuel)).bind fun es => (es2.mapM (renF (inn [a, b]) fuel)).bind fun fs => ioR [a, b] ob nx (Φ qs [(T, sz, es), (T2, sz2, fs)]) := rfl
theorem dd_ab {a b : Nat} (h : ¬ a = b) : dedup [a, b] = [a, b] := by
  have h' : ¬ b = a := fun e => h e.symm
  simp [dedup, h']
theorem inn_a {a b : Nat} : inn [a, b] a = some 0 := by simp [inn]
theorem inn_b {a b : Nat} (h : ¬ a = b) : inn [a, b] b = some 1 := by
  have h2 : (a == b) = false := by simpa using h
  simp [inn, List.idxOf_cons, h2]
theorem outF_ab0 {a b nx : Nat} : outF [a, b] nx 0 = some a := rfl
theorem outF_ab1 {a b nx : Nat} : outF [a, b] nx 1 = some b := rfl
theorem outF_ab2 {a b nx : Nat} : outF [a, b] nx 2 = some nx := by simp [outF, outn]
theorem outF_a1 {a nx : Nat} : outF [a] nx 1 = some nx := by simp [outF, outn]
theorem ioR_ab2 {a b T T2 sz sz2 : Nat} {es es2 : List PV} {r : PV} : ioR [a, b] ob nx (some (r, [(T, sz, es), (T2, sz2, es2)])) = (renF (outF [a, b] nx) fuel r).bind fun r' => (es.mapM (renF (outF [a, b] nx) fuel)).bind fun es' => (es2.mapM (renF (outF [a, b] nx) fuel)).map fun es2' => (r', upd (upd ob a (some (T, sz, es'))) b (some (T2, sz2, es2')), nx) := by
  unfold ioR
  simp only [mapM_cons', mapM_nil', renC]
  cases renF (outF [a, b] nx) fuel r with
  | none => rfl
  | some r' =>
    cases es.mapM (renF (outF [a, b] nx) fuel) with
    | none => rfl
    | some es' =>
      cases es2.mapM (renF (outF [a, b] nx) fuel) <;> rfl
theorem ioR_ab3 {a b T T2 T3 sz sz2 sz3 : Nat} {es es2 es3 : List PV} {r : PV} : ioR [a, b] ob nx (some (r, [(T, sz, es), (T2, sz2, es2), (T3, sz3, es3)])) = (renF (outF [a, b] nx) fuel r).bind fun r' => (es.mapM (renF (outF [a, b] nx) fuel)).bind fun es' => (es2.mapM (renF (outF [a, b] nx) fuel)).bind fun es2' => (es3.mapM (renF (outF [a, b] nx) fuel)).map fun es3' => (r', upd (upd (upd ob a (some (T, sz, es'))) b (some (T2, sz2, es2'))) nx (some (T3, sz3, es3')), nx + 1) := by
  unfold ioR
  simp only [mapM_cons', mapM_nil', renC]
  cases renF (outF [a, b] nx) fuel r with
  | none => rfl
  | some r' =>
    cases es.mapM (renF (outF [a, b] nx) fuel) with
    | none => rfl
    | some es' =>
      cases es2.mapM (renF (outF [a, b] nx) fuel) with
      | none => rfl
      | some es2' =>
        cases es3.mapM (renF (outF [a, b] nx) fuel) with
        | none => rfl
        | some es3' =>
          simp only [Option.map_some, Option.bind_some, List.length_cons, List.length_nil, Nat.zero_add, Nat.reduceAdd, Nat.reduceSub, Option.some.injEq, Prod.mk.injEq, true_and, and_true]
          show putObs ob [(outn [a, b] nx 0, _), (outn [a, b] nx 1, _), (outn [a, b] nx 2, _)] = _
          simp [putObs, outn]
theorem dd_nil : dedup [] = [] := rfl
theorem dd_one {o : Nat} : dedup [o] = [o] := rfl
theorem dd_two {o : Nat} : dedup [o, o] = [o] := by simp [dedup]
theorem rl_nil : refsL [] = [] := rfl
theorem rl_cons {p : PV} {ps : List PV} : refsL (p :: ps) = refsX p ++ refsL ps := rfl
theorem rx_val {v : Value} : refsX (.val v) = [] := rfl
theorem rx_lst {k : Bool} {sz : Nat} {es : List PV} : refsX (.lst k sz es) = [] := rfl
theorem rx_ptr {k : Bool} {e : PV} {o : Nat} : refsX (.ptr k e o) = [] := rfl
theorem rx_own {o a b c : Nat} : refsX (.own o a b c) = [o] := rfl
theorem rx_row {o a b c : Nat} : refsX (.row o a b c) = [o] := rfl
theorem rx_agg {cs : List PV} : refsX (.agg cs) = refsA cs := rfl
theorem ra_nil : refsA [] = [] := rfl
theorem ra_val {v : Value} {l : List PV} : refsA (.val v :: l) = refsA l := rfl
theorem ra_lst {k : Bool} {sz : Nat} {es l : List PV} : refsA (.lst k sz es :: l) = refsA l := rfl
theorem ra_own {o a b c : Nat} {l : List PV} : refsA (.own o a b c :: l) = o :: refsA l := rfl
theorem ra_row {o a b c : Nat} {l : List PV} : refsA (.row o a b c :: l) = o :: refsA l := rfl
end
attribute [push_cast low]
  io_any
attribute [push_cast]
  ioX_nil ioX_one ioX_two ioTwo_some dd_ab inn_a inn_b outF_ab0 outF_ab1 outF_ab2 outF_a1 ioR_ab2 ioR_ab3 dd_nil dd_one dd_two rl_nil rl_cons rx_val rx_lst rx_ptr rx_own rx_row rx_agg ra_nil ra_val ra_lst ra_own ra_row
end Go.Proofs.YtpggpdbipajchaaGreatDoor
namespace Go.Proofs.YtpggpdbipajchaaGreatDoor
open Go.RowKit
set_option linter.all false
theorem byteNs_gl {l : List Int} : byteNs (l.map fun n => .val (.int .u8 n)) = some l := by
  induction l with
  | nil => rfl
  | cons x l ih => simp_all [byteNs]
attribute [push_cast]
  byteNs_gl
theorem gl_ext {a b : ByteArray} (h : a.data.toList = b.data.toList) : a = b := by
  obtain ⟨⟨a⟩⟩ := a
  obtain ⟨⟨b⟩⟩ := b
  simp only at h
  rw [h]
end Go.Proofs.YtpggpdbipajchaaGreatDoor
namespace Go.Proofs.YtpggpdbipajchaaGreatDoor
open Go.RowKit
set_option linter.all false
abbrev Rn := Int × Int
def runStep (R : List Rn) (n : Int) : List Rn := match R.getLast? with
  | some r => if r.2 + 1 = n then R.dropLast ++ [(r.1, n)] else R ++ [(n, n)]
  | none => [(n, n)]
def runsR (l : List Int) : List Rn := l.foldl runStep []
def runT (r : Rn) : ByteArray := if r.1 = r.2 then itoaS r.1 else (itoaS r.1 ++ ⟨#[45]⟩) ++ itoaS r.2
def csB : ByteArray := ⟨#[44, 32]⟩
def textR (l : List Int) : ByteArray := joinB ((runsR l).map runT) csB
def pagesT (l : List Int) : ByteArray := if pagesB l = true then textR l else ⟨#[]⟩
theorem runsR_snoc (l : List Int) (n : Int) : runsR (l ++ [n]) = runStep (runsR l) n := by simp [runsR, List.foldl_append]
theorem runStep_snoc (R : List Rn) (r : Rn) (n : Int) : runStep (R ++ [r]) n = if r.2 + 1 = n then R ++ [(r.1, n)] else R ++ [r] ++ [(n, n)] := by
  unfold runStep
  rw [List.getLast?_append]
  simp
theorem runs_last : ∀ (l : List Int) (n : Int), ∃ R a, runsR (l ++ [n]) = R ++ [(a, n)] := fun l n => by
  rw [runsR_snoc]
  rcases List.eq_nil_or_concat (runsR l) with h | ⟨R, r, h⟩
  · rw [h]; exact ⟨[], n, rfl⟩
  · rw [h, List.concat_eq_append, runStep_snoc]
    split
    · exact ⟨R, r.1, rfl⟩
    · exact ⟨R ++ [r], n, rfl⟩
theorem take_snoc {l : List Int} {k : Nat} (h : k < l.length) : l.take (k + 1) = l.take k ++ [l[k]?.getD 0] := by
  rw [List.take_succ_eq_append_getElem h, List.getElem?_eq_getElem h]
  rfl
theorem runs_run {l : List Int} {k : Nat} (hk : k < l.length) (hb : 0 < k → ¬ l[k - 1]?.getD 0 + 1 = l[k]?.getD 0) : ∀ e, k ≤ e → e < l.length → (∀ j, k ≤ j → j < e → l[j + 1]?.getD 0 = l[j]?.getD 0 + 1) →
    runsR (l.take (e + 1)) = runsR (l.take k) ++ [(l[k]?.getD 0, l[e]?.getD 0)] := by
  intro e
  induction e with
  | zero =>
    intro h1 _ _
    obtain rfl : k = 0 := by omega
    rw [take_snoc hk]
    rfl
  | succ e ih =>
    intro h1 h2 h3
    by_cases he : k = e + 1
    · subst he
      rw [take_snoc h2, runsR_snoc]
      have hb := hb (by omega)
      rw [show e + 1 - 1 = e by omega] at hb
      obtain ⟨R, a, hR⟩ := runs_last (l.take e) (l[e]?.getD 0)
      rw [take_snoc (show e < l.length by omega), hR, runStep_snoc, if_neg hb]
    · have hR := ih (by omega) (by omega) fun j h4 h5 => h3 j h4 (by omega)
      rw [take_snoc h2, runsR_snoc, hR, runStep_snoc, if_pos (by rw [h3 e (by omega) (by omega)])]
theorem joinG_snoc {l : LS} (h : 0 < l.length) (z sep : ByteArray) : joinB (l ++ [z]) sep = (joinB l sep ++ sep) ++ z := by
  cases l with
  | nil => simp at h
  | cons x r =>
    refine gl_ext ?_
    rw [ByteArray.data_append, Array.toList_append, ByteArray.data_append, Array.toList_append]
    show Lib.join ((x :: (r ++ [z])).map (·.data.toList)) sep.data.toList = Lib.join ((x :: r).map (·.data.toList)) sep.data.toList ++ sep.data.toList ++ z.data.toList
    rw [List.map_cons, List.map_cons, Lib.join_cons, Lib.join_cons]
    simp [Lib.joinTail]
theorem joinG_one (z sep : ByteArray) : joinB [z] sep = z := gl_ext (by
  show Lib.join [z.data.toList] sep.data.toList = z.data.toList
  rw [Lib.join_one])
theorem textR_run {l : List Int} {k e : Nat} (hk : k < l.length) (hb : 0 < k → ¬ l[k - 1]?.getD 0 + 1 = l[k]?.getD 0) (h1 : k ≤ e) (h2 : e < l.length) (h3 : ∀ j, k ≤ j → j < e → l[j + 1]?.getD 0 = l[j]?.getD 0 + 1) :
    textR (l.take (e + 1)) = (if k = 0 then ⟨#[]⟩ else textR (l.take k) ++ csB) ++ runT (l[k]?.getD 0, l[e]?.getD 0) := by
  unfold textR
  rw [runs_run hk hb e h1 h2 h3, List.map_append, List.map_singleton]
  split
  · rename_i h
    subst h
    show joinB [_] csB = _
    rw [joinG_one]
    exact gl_ext (by rw [ByteArray.data_append, Array.toList_append]; rfl)
  · rename_i h
    obtain ⟨R, a, hR⟩ := runs_last (l.take (k - 1)) (l[k - 1]?.getD 0)
    rw [← take_snoc (show k - 1 < l.length by omega), show k - 1 + 1 = k by omega] at hR
    rw [joinG_snoc (by rw [hR]; simp)]
theorem textR_pos {l : List Int} {k : Nat} (h0 : 0 < k) (hk : k ≤ l.length) (hp : ∀ j, j < l.length → 0 ≤ l[j]?.getD 0) : 0 < (textR (l.take k)).size := by
  obtain ⟨R, a, hR⟩ := runs_last (l.take (k - 1)) (l[k - 1]?.getD 0)
  rw [← take_snoc (show k - 1 < l.length by omega), show k - 1 + 1 = k by omega] at hR
  unfold textR
  rw [joinB_size, hR, List.map_append, List.map_singleton]
  have hz : 0 < (runT (a, l[k - 1]?.getD 0)).size := by
    have := (itoaS_head (hp (k - 1) (by omega))).1
    unfold runT
    split
    · rename_i h; simp only at h; rw [h]; exact this
    · rw [ByteArray.size_append]; dsimp only; omega
  have : (runT (a, l[k - 1]?.getD 0)).size ≤ sumS (R.map runT ++ [runT (a, l[k - 1]?.getD 0)]) := by
    unfold sumS
    rw [List.map_append, List.sum_append]
    simp
  omega
end Go.Proofs.YtpggpdbipajchaaGreatDoor
namespace Go.Proofs.YtpggpdbipajchaaGreatDoor
open Go.RowKit
set_option linter.all false
theorem idx_cs : ∀ (t r : List UInt8), (∀ b ∈ t, ¬ b = 44) → Lib.index (t ++ 44 :: 32 :: r) [44, 32] = t.length
  | [], r, _ => by simp [Lib.index, List.isPrefixOf]
  | b :: t, r, h => by
    have hb : ¬ (44 : UInt8) = b := fun e => h b (by simp) e.symm
    have ih := idx_cs t r fun x hx => h x (by simp [hx])
    rw [List.cons_append, Lib.index, show ([44, 32] : List UInt8).isPrefixOf (b :: (t ++ 44 :: 32 :: r)) = false by simp [List.isPrefixOf, hb]]
    rw [if_neg (by decide), ih, if_neg (by first | (simp; done) | (simp; omega))]
    simp
theorem idx_no : ∀ (t : List UInt8), (∀ b ∈ t, ¬ b = 44) → Lib.index t [44, 32] = -1
  | [], _ => by simp [Lib.index]
  | b :: t, h => by
    have hb : ¬ (44 : UInt8) = b := fun e => h b (by simp) e.symm
    have ih := idx_no t fun x hx => h x (by simp [hx])
    rw [Lib.index, show ([44, 32] : List UInt8).isPrefixOf (b :: t) = false by simp [List.isPrefixOf, hb]]
    rw [if_neg (by decide), ih]
    rfl
theorem split_cs : ∀ (ts : List (List UInt8)), ts ≠ [] → (∀ t ∈ ts, ∀ b ∈ t, ¬ b = 44) → Lib.splitK [44, 32] 0 (Lib.count (Lib.join ts [44, 32]) [44, 32]) (Lib.join ts [44, 32]) = ts
  | [], h, _ => absurd rfl h
  | [t], _, h => by
    have hi := idx_no t (h t (by simp))
    rw [Lib.join_one, Lib.count_miss hi]
    rfl
  | t :: u :: ts, _, h => by
    have ih := split_cs (u :: ts) (by simp) fun x hx => h x (by simp [hx])
    have e : Lib.join (t :: u :: ts) [44, 32] = t ++ 44 :: 32 :: Lib.join (u :: ts) [44, 32] := by
      rw [Lib.join_cons, Lib.join_cons]
      simp [Lib.joinTail]
    have hi := idx_cs t (Lib.join (u :: ts) [44, 32]) (h t (by simp))
    have e2 : (t ++ 44 :: 32 :: Lib.join (u :: ts) [44, 32]).drop (t.length + ([44, 32] : List UInt8).length) = Lib.join (u :: ts) [44, 32] := by
      rw [show t ++ 44 :: 32 :: Lib.join (u :: ts) [44, 32] = (t ++ [44, 32]) ++ Lib.join (u :: ts) [44, 32] by simp, List.drop_left' (by simp)]
    have e3 : (t ++ 44 :: 32 :: Lib.join (u :: ts) [44, 32]).take (t.length + 0) = t := List.take_left' (by simp)
    rw [e, Lib.count_hit (by simp) hi, e2, Nat.add_comm 1]
    unfold Lib.splitK
    rw [hi, if_neg (by first | (simp; done) | (simp; omega)), Int.toNat_natCast, e2, e3, ih]
def valL (l : List UInt8) : Nat := l.foldl (fun n b => 10 * n + (b.toNat - 48)) 0
theorem valL_snoc (l : List UInt8) (b : UInt8) : valL (l ++ [b]) = 10 * valL l + (b.toNat - 48) := by simp [valL, List.foldl_append]
theorem dig_nat {d : Nat} (h : d < 10) : (UInt8.ofNat (48 + d)).toNat = 48 + d := by
  show (48 + d) % 256 = 48 + d
  omega
theorem dec_val (u : Nat) : valL (Lib.decDigits u) = u ∧ ∀ b ∈ Lib.decDigits u, 48 ≤ b.toNat ∧ b.toNat ≤ 57 := by
  induction u using Nat.strongRecOn with
  | _ u ih =>
    by_cases h : u < 10
    · rw [Lib.decDigits, dif_pos h]
      refine ⟨?_, fun b hb => ?_⟩
      · show 10 * 0 + ((UInt8.ofNat (48 + u)).toNat - 48) = u
        rw [dig_nat h]; omega
      · simp only [List.mem_singleton] at hb
        rw [hb, dig_nat h]; omega
    · obtain ⟨h1, h2⟩ := ih (u / 10) (by omega)
      rw [Lib.decDigits, dif_neg h]
      refine ⟨?_, fun b hb => ?_⟩
      · rw [valL_snoc, h1, dig_nat (Nat.mod_lt _ (by omega))]; omega
      · rcases List.mem_append.1 hb with hb | hb
        · exact h2 b hb
        · simp only [List.mem_singleton] at hb
          rw [hb, dig_nat (Nat.mod_lt _ (by omega))]; omega
theorem itoa_val {n : Int} (h : 0 ≤ n) : (itoaS n).data.toList = Lib.decDigits n.toNat := by
  unfold itoaS Lib.itoa
  rw [if_neg (by omega)]
theorem runT_nocomma {r : Rn} (h1 : 0 ≤ r.1) (h2 : 0 ≤ r.2) : ∀ b ∈ (runT r).data.toList, ¬ b = 44 := by
  have hd : ∀ n : Int, 0 ≤ n → ∀ b ∈ (itoaS n).data.toList, ¬ b = 44 := fun n hn b hb e => by
    rw [itoa_val hn] at hb
    have := (dec_val n.toNat).2 b hb
    subst e
    simp at this
  intro b hb
  unfold runT at hb
  split at hb
  · exact hd _ h1 b hb
  · rw [ByteArray.data_append, Array.toList_append, ByteArray.data_append, Array.toList_append] at hb
    rcases List.mem_append.1 hb with hb | hb
    · rcases List.mem_append.1 hb with hb | hb
      · exact hd _ h1 b hb
      · intro e
        subst e
        revert hb
        decide
    · exact hd _ h2 b hb
theorem parse_digits : ∀ (l : List UInt8) (acc : Nat), (∀ b ∈ l, 48 ≤ b.toNat ∧ b.toNat ≤ 57) → l.foldl (fun n b => 10 * n + (b.toNat - 48)) acc < 1000000 → Lib.parseUint10 acc l = .ok (l.foldl (fun n b => 10 * n + (b.toNat - 48)) acc)
  | [], acc, _, _ => rfl
  | c :: r, acc, h, hl => by
    have hc := h c (by simp)
    have hge : ∀ (r : List UInt8) (a : Nat), a ≤ r.foldl (fun n b => 10 * n + (b.toNat - 48)) a := by
      intro r
      induction r with
      | nil => intro a; exact Nat.le_refl _
      | cons x r ih => intro a; exact Nat.le_trans (by omega) (ih (10 * a + (x.toNat - 48)))
    have h1 := hge r (10 * acc + (c.toNat - 48))
    rw [List.foldl_cons] at hl ⊢
    unfold Lib.parseUint10
    rw [if_pos hc, if_neg (by omega), if_neg (by omega), show acc * 10 + (c.toNat - 48) = 10 * acc + (c.toNat - 48) by omega]
    exact parse_digits r _ (fun b hb => h b (by simp [hb])) hl
theorem atoi_itoa {n : Int} (h : 0 ≤ n) (h2 : n < 1000000) : Lib.atoiAll (itoaS n).data.toList = .ok n := by
  obtain ⟨h3, h4⟩ := dec_val n.toNat
  rw [itoa_val h]
  obtain ⟨b, r, h5, h6⟩ := dec_head n.toNat
  have hp := parse_digits (Lib.decDigits n.toNat) 0 h4 (by have : valL (Lib.decDigits n.toNat) < 1000000 := by rw [h3]; omega
                                                           exact this)
  have hv : List.foldl (fun n b => 10 * n + (b.toNat - 48)) 0 (Lib.decDigits n.toNat) = n.toNat := h3
  rw [hv] at hp
  rw [h5] at hp h4 ⊢
  have hb := h4 b (by simp)
  unfold Lib.atoiAll
  have e1 : ¬ (b.toNat = 43 ∨ b.toNat = 45) := by omega
  have e2 : ¬ b.toNat = 45 := by omega
  have e3 : ¬ b.toNat = 43 := by omega
  simp only [e2, e3, or_self, if_false, Lib.parseMag, List.cons_ne_nil, hp, not_false_eq_true, true_and, false_and]
  rw [if_neg (by omega)]
  congr 1
  omega
end Go.Proofs.YtpggpdbipajchaaGreatDoor
namespace Go.Proofs.YtpggpdbipajchaaGreatDoor
open Go.RowKit
set_option linter.all false
def rn0 : Rn := (0, 0)
section
variable {β : Type} {i : Nat}
theorem get_rn {g : Rn → PV} {l : List Rn} (h : i < l.length) : ((l[i]?).map g).getD .dead = g ((l[i]?).getD rn0) := by simp [h]
theorem omg_rn {g : Rn → β} {l : List Rn} (h : i < l.length) : Option.map g l[i]? = some (g ((l[i]?).getD rn0)) := by simp [h]
theorem set_rn {l : List Rn} {a b : Int} : (l.map fun x => PV.agg [.val (.int .i64 x.1), .val (.int .i64 x.2)]).set i (.agg [.val (.int .i64 a), .val (.int .i64 b)]) = (l.set i (a, b)).map fun x => PV.agg [.val (.int .i64 x.1), .val (.int .i64 x.2)] := by rw [List.map_set]
end
attribute [push_cast]
  get_rn omg_rn set_rn
abbrev pvR (x : Rn) : PV := .agg [.val (.int .i64 x.1), .val (.int .i64 x.2)]
def RunI (l : List Int) (k : Nat) (R : List Rn) : Prop := R = runsR (l.take k)
theorem pages_at {l : List Int} (h : pagesB l = true) {i : Nat} (hi : i < l.length) : 1 ≤ l[i]?.getD 0 ∧ l[i]?.getD 0 ≤ 999 := ((pagesB_iff.1 h).1 i hi).1
theorem pages_len {l : List Int} (h : pagesB l = true) : l.length ≤ 30 := (pagesB_iff.1 h).2
theorem RunI.zero (l : List Int) : RunI l 0 [] := rfl
theorem RunI.last {l : List Int} {k : Nat} {R : List Rn} (h : RunI l k R) (h0 : 0 < k) (hk : k ≤ l.length) : 0 < R.length ∧ ∃ a, R[R.length - 1]?.getD rn0 = (a, l[k - 1]?.getD 0) := by
  obtain ⟨R0, a, hR⟩ := runs_last (l.take (k - 1)) (l[k - 1]?.getD 0)
  rw [← take_snoc (show k - 1 < l.length by omega), show k - 1 + 1 = k by omega] at hR
  unfold RunI at h
  rw [h, hR]
  simp
theorem RunI.start {l : List Int} {R : List Rn} (h : RunI l 0 R) (h0 : 0 < l.length) : RunI l 1 ([] ++ [(l[0]?.getD 0, l[0]?.getD 0)]) := by
  unfold RunI
  rw [take_snoc h0]
  rfl
theorem RunI.next {l : List Int} {k : Nat} {R : List Rn} (h : RunI l k R) (h0 : 0 < k) (hk : k < l.length) :
    RunI l (k + 1) (if l[k - 1]?.getD 0 + 1 = l[k]?.getD 0 then R.set (R.length - 1) ((R[R.length - 1]?.getD rn0).1, l[k]?.getD 0) else R ++ [(l[k]?.getD 0, l[k]?.getD 0)]) := by
  obtain ⟨R0, a, hR⟩ := runs_last (l.take (k - 1)) (l[k - 1]?.getD 0)
  rw [← take_snoc (show k - 1 < l.length by omega), show k - 1 + 1 = k by omega] at hR
  unfold RunI at h ⊢
  rw [take_snoc hk, runsR_snoc, hR, runStep_snoc, h, hR]
  dsimp only
  split
  · simp
  · rfl
theorem runs_le (l : List Int) : (runsR l).length ≤ l.length := by
  have key : ∀ n, ∀ l : List Int, l.length = n → (runsR l).length ≤ l.length := by
    intro n
    induction n with
    | zero => intro l h; rw [List.eq_nil_of_length_eq_zero h]; exact Nat.le_refl _
    | succ n ih =>
      intro l h
      rcases List.eq_nil_or_concat l with h1 | ⟨l0, x, h1⟩
      · subst h1; exact Nat.le_refl _
      · rw [List.concat_eq_append] at h1
        subst h1
        rw [List.length_append, List.length_singleton] at h ⊢
        have := ih l0 (by omega)
        rw [runsR_snoc]
        unfold runStep
        split
        · rename_i r hr
          split
          · rw [List.length_append, List.length_dropLast, List.length_singleton]; omega
          · rw [List.length_append, List.length_singleton]; omega
        · simp
  exact key _ l rfl
theorem runs_rng {l : List Int} (h : ∀ x ∈ l, 1 ≤ x ∧ x ≤ 999) : ∀ r ∈ runsR l, (1 ≤ r.1 ∧ r.1 ≤ 999) ∧ (1 ≤ r.2 ∧ r.2 ≤ 999) := by
  have key : ∀ n, ∀ l : List Int, l.length = n → (∀ x ∈ l, 1 ≤ x ∧ x ≤ 999) → ∀ r ∈ runsR l, (1 ≤ r.1 ∧ r.1 ≤ 999) ∧ (1 ≤ r.2 ∧ r.2 ≤ 999) := by
    intro n
    induction n with
    | zero => intro l h _ r hr; rw [List.eq_nil_of_length_eq_zero h] at hr; simp [runsR] at hr
    | succ n ih =>
      intro l h hx r hr
      rcases List.eq_nil_or_concat l with h1 | ⟨l0, x, h1⟩
      · subst h1; simp [runsR] at hr
      · rw [List.concat_eq_append] at h1
        subst h1
        rw [List.length_append, List.length_singleton] at h
        have ih := ih l0 (by omega) fun y hy => hx y (List.mem_append.2 (.inl hy))
        have hxx := hx x (by simp)
        rw [runsR_snoc] at hr
        rcases List.eq_nil_or_concat (runsR l0) with h2 | ⟨R, z, h2⟩
        · rw [h2] at hr
          simp only [runStep, List.getLast?_nil, List.mem_singleton] at hr
          subst hr
          exact ⟨hxx, hxx⟩
        · rw [List.concat_eq_append] at h2
          rw [h2] at hr ih
          rw [runStep_snoc] at hr
          have hz := ih z (by simp)
          split at hr
          · rcases List.mem_append.1 hr with hr | hr
            · exact ih r (List.mem_append.2 (.inl hr))
            · simp only [List.mem_singleton] at hr
              subst hr
              exact ⟨hz.1, hxx⟩
          · rcases List.mem_append.1 hr with hr | hr
            · exact ih r hr
            · simp only [List.mem_singleton] at hr
              subst hr
              exact ⟨hxx, hxx⟩
  exact key _ l rfl h
theorem itoaS_size4 {n : Int} (h : 0 ≤ n) (h2 : n ≤ 9999) : (itoaS n).size ≤ 4 := by
  have e : (itoaS n).size = Lib.nDigits n.toNat := by
    unfold itoaS Lib.itoa
    rw [if_neg (by omega), ← Lib.decDigits_length]
    rfl
  rw [e]
  by_cases h1 : n.toNat < 10
  · rw [Lib.nDigits_small h1]; omega
  · rw [Lib.nDigits_big h1]
    by_cases h3 : n.toNat / 10 < 10
    · rw [Lib.nDigits_small h3]; omega
    · rw [Lib.nDigits_big h3]
      by_cases h4 : n.toNat / 10 / 10 < 10
      · rw [Lib.nDigits_small h4]; omega
      · rw [Lib.nDigits_big h4, Lib.nDigits_small (by omega)]; omega
theorem runT_size {a b : Int} (h : (0 ≤ a ∧ a ≤ 9999) ∧ 0 ≤ b ∧ b ≤ 9999) : (runT (a, b)).size ≤ 9 := by
  have h1 := itoaS_size4 h.1.1 h.1.2
  have h2 := itoaS_size4 h.2.1 h.2.2
  unfold runT
  split
  · dsimp only; omega
  · rw [ByteArray.size_append, ByteArray.size_append]
    have : (⟨#[45]⟩ : ByteArray).size = 1 := rfl
    dsimp only
    omega
theorem runT_sizeR {r : Rn} (h : (0 ≤ r.1 ∧ r.1 ≤ 9999) ∧ 0 ≤ r.2 ∧ r.2 ≤ 9999) : (runT r).size ≤ 9 := runT_size h
def φRunT : Fun := F2 dI dI fun a b => if (0 ≤ a ∧ a ≤ 9999) ∧ 0 ≤ b ∧ b ≤ 9999 then some (.val (.string (runT (a, b)))) else none
theorem φRunT_ap {a b : Int} (h : (0 ≤ a ∧ a ≤ 9999) ∧ 0 ≤ b ∧ b ≤ 9999) : φRunT [.val (.int .i64 a), .val (.int .i64 b)] = some (.val (.string (runT (a, b)))) := (F2_ap (A := dI) (B := dI) a b).trans (if_pos h)
noncomputable def GRt : Ctx := { fn := fun f => if f = 65 then some φItoa else none, io := fun f => none }
theorem GRt_ok : SoundΓ Tryz.prog GRt := ⟨(fun f φ h => by
  unfold GRt at h
  dsimp only at h
  split at h
  · rename_i hf; cases h; subst hf; exact ⟨⟨_, Tryz.func65, rfl, rfl⟩, itoa_ok⟩
  cases h), (fun f φ h => by
  unfold GRt at h
  dsimp only at h
  cases h), rfl⟩
theorem GRt_65 (ob : Objs) (ps : List PV) : evCall GRt ob 65 ps = (ps.mapM (reify false 0 ob fuel)).bind φItoa := by
  have h : GRt.fn 65 = some φItoa := by simp [GRt]
  unfold evCall
  rw [h]
  cases ps.mapM (reify false 0 ob fuel) <;> rfl
theorem runText_ok : Sound Tryz.prog 33 φRunT := by
  refine sound_pq mixed GRt_ok Tryz.func33 rfl 16 rfl [.tmp 4] rfl (by kernel_rfl) fun ps r hr => ?_
  obtain ⟨a, b, rfl, hq⟩ := F2_some hr
  clear hr
  split at hq
  case isFalse => cases hq
  case isTrue hpre =>
  cases hq
  refine ⟨by simp, ?_⟩
  simp only [dIs, dUs, dSs, dI_e, dU_e, dB_e, dS_e, dFn_e, dL_e, dA2_e, dA3_e, dA4_e, dA5_e]
  have ap1 := φItoa_ap (n := a) ⟨by omega, by omega⟩
  have ap2 := φItoa_ap (n := b) ⟨by omega, by omega⟩
  have h1 := itoaS_size4 hpre.1.1 hpre.1.2
  have h2 := itoaS_size4 hpre.2.1 hpre.2.2
  have hone : (⟨#[45]⟩ : ByteArray).size = 1 := rfl
  unfold runT
  by_cases hab : a = b
  · rw [if_pos hab]
    have grt_c65 := GRt_65
    exact wlkF
  · rw [if_neg hab]
    have grt_c65 := GRt_65
    exact wlkF
def φRuns : Fun := F1 dIs fun l => if pagesB l = true then some (.lst true 2 ((runsR l).map pvR)) else none
theorem φRuns_ap {l : List Int} (h : pagesB l = true) : φRuns [.lst false 1 (l.map fun n => .val (.int .i64 n))] = some (.lst true 2 ((runsR l).map pvR)) := (F1_ap (A := dIs) l).trans (if_pos h)
set_option maxHeartbeats 16000000 in
theorem runsOf_ok : Sound Tryz.prog 32 φRuns := by
  refine sound_pqW mixed GE_ok Tryz.func32 rfl 41 rfl [.tmp 2] rfl (by kernel_rfl) fun ps r hr => ?_
  obtain ⟨l, rfl, hq⟩ := F1_some hr
  clear hr
  split at hq
  case isFalse => cases hq
  case isTrue hpre =>
  cases hq
  refine ⟨by simp, ?_⟩
  simp only [dIs, dUs, dSs, dI_e, dU_e, dB_e, dS_e, dFn_e, dL_e, dA2_e, dA3_e, dA4_e, dA5_e]
  have hlen := pages_len hpre
  have hat := fun i hi => pages_at hpre (i := i) hi
  clear hpre
  (refine wlk ?_; intros)
  refine i_loop (α := Nat × List Rn × Nat × Nat) mixed (fun s => [(3, nP 2 (s.2.1.map pvR) s.2.2.1), (7, .lst false 1 (l.map fun n => .val (.int .i64 n))), (8, iv l.length), (9, iv s.1)])
    (fun s => nO 64 2 (s.2.1.map pvR) s.2.2.1) (fun s => s.2.2.2)
    (fun s => s.1 ≤ l.length ∧ RunI l s.1 s.2.1 ∧ (0 < s.2.1.length → s.2.2.1 < s.2.2.2)) (fun s => l.length - s.1) (by kernel_rfl) (0, [], 0, 0) ⟨Nat.zero_le _, RunI.zero l, by simp⟩ ?_ ?_ rfl ?_
  · exact agr
  · exact agr
  rintro ⟨k, R, x, y⟩ ⟨hk, hI, hxy⟩
  dsimp only at hk hI hxy
  have hRl : R.length ≤ 30 := by
    have := runs_le (l.take k)
    rw [← show R = runsR (l.take k) from hI, List.length_take] at this
    omega
  by_cases h0 : k < l.length
  · have hak := hat k h0
    have hak1 := hat (k - 1)
    clear hat
    by_cases hk0 : k = 0
    · subst hk0
      have hst := Lib.hid (hI.start h0)
      have hR0 : R = [] := hI
      subst hR0
      clear hI hak1
      (refine wlk ?_; intros)
      refine ⟨(1, [] ++ [(l[0]?.getD 0, l[0]?.getD 0)], y + 1, y + 2), ⟨by dsimp only; omega, hst.out, fun _ => by dsimp only; omega⟩, by dsimp only; omega, ?_, ?_, rfl⟩
      · exact agr
      · exact agr
    · have hnx := hI.next (by omega) h0
      obtain ⟨hp, a, hla⟩ := hI.last (by omega) hk
      rw [hla] at hnx
      have hxy := hxy hp
      have hak1 := hak1 (by omega)
      have hap : 0 < (R.map pvR).length := by rw [List.length_map]; exact hp
      have hap2 : 0 < ((R.set (R.length - 1) (a, l[k]?.getD 0)).map pvR).length := by rw [List.length_map, List.length_set]; exact hp
      have hap3 : 0 < ((R ++ [(l[k]?.getD 0, l[k]?.getD 0)]).map pvR).length := by simp
      replace hI := Lib.hid hI
      by_cases hc : l[k - 1]?.getD 0 + 1 = l[k]?.getD 0
      · rw [if_pos hc] at hnx
        replace hnx := Lib.hid hnx
        simp only [nP_pos hap, nO_pos hap, List.length_map]
        (refine wlk ?_; intros)
        refine ⟨(k + 1, R.set (R.length - 1) (a, l[k]?.getD 0), x, y), ⟨by dsimp only; omega, hnx.out, fun _ => hxy⟩, by dsimp only; omega, ?_, ?_, rfl⟩
        · simp (disch := (first | omega | (simp only [push_cast]; first | done | omega))) only [push_cast, ↓reduceIte, Nat.reduceEqDiff, Nat.reduceBEq, Nat.reduceAdd, Nat.reduceSub, Int.reduceToNat, nP_pos hap2, List.length_set, List.length_map, *]
        · simp (disch := (first | omega | (simp only [push_cast]; first | done | omega))) only [push_cast, ↓reduceIte, Nat.reduceEqDiff, Nat.reduceBEq, Nat.reduceAdd, Nat.reduceSub, Int.reduceToNat, nO_pos hap2, *]
      · rw [if_neg hc] at hnx
        replace hnx := Lib.hid hnx
        simp only [nP_pos hap, nO_pos hap, List.length_map]
        (refine wlk ?_; intros)
        refine ⟨(k + 1, R ++ [(l[k]?.getD 0, l[k]?.getD 0)], y + 1, y + 2), ⟨by dsimp only; omega, hnx.out, fun _ => by dsimp only; omega⟩, by dsimp only; omega, ?_, ?_, rfl⟩
        · simp (disch := (first | omega | (simp only [push_cast]; first | done | omega))) only [push_cast, ↓reduceIte, Nat.reduceEqDiff, Nat.reduceBEq, Nat.reduceAdd, Nat.reduceSub, Int.reduceToNat, nP_pos hap3, List.length_append, *]
        · simp (disch := (first | omega | (simp only [push_cast]; first | done | omega))) only [push_cast, ↓reduceIte, Nat.reduceEqDiff, Nat.reduceBEq, Nat.reduceAdd, Nat.reduceSub, Int.reduceToNat, nO_pos hap3, List.map_append, List.map_cons, List.map_nil, *]
  · obtain rfl : k = l.length := by omega
    have hR : runsR l = R := by
      unfold RunI at hI
      rw [hI, List.take_of_length_le (Nat.le_refl _)]
    rw [hR]
    clear hI hR hat
    by_cases hR0 : R.length = 0
    · obtain rfl : R = [] := List.eq_nil_of_length_eq_zero hR0
      (refine wlk ?_; intros)
      all_goals ((with_reducible apply i_endW (by first | exact .inl rfl | exact .inr rfl)); (simp (disch := (first | omega | (simp only [push_cast]; first | done | omega))) only [push_cast, ↓reduceIte, Nat.reduceEqDiff, Nat.reduceBEq, Nat.reduceAdd, Nat.reduceSub, Int.reduceToNat, *] <;> with_reducible exact rfl))
      all_goals exact nil_le _ _
    · have hap : 0 < (R.map pvR).length := by rw [List.length_map]; omega
      have hxy := hxy (by omega)
      simp only [nP_pos hap, nO_pos hap, List.length_map]
      (refine wlk ?_; intros)
      all_goals ((with_reducible apply i_endW (by first | exact .inl rfl | exact .inr rfl)); (simp (disch := (first | omega | (simp only [push_cast]; first | done | omega))) only [push_cast, ↓reduceIte, Nat.reduceEqDiff, Nat.reduceBEq, Nat.reduceAdd, Nat.reduceSub, Int.reduceToNat, *] <;> with_reducible exact rfl))
      all_goals exact PV.le_refl _
theorem textR_size {l : List Int} (h : ∀ x ∈ l, 1 ≤ x ∧ x ≤ 999) : (textR l).size ≤ 11 * l.length := by
  have h1 := runs_le l
  unfold textR
  rw [joinB_size, List.length_map]
  have h2 : sumS ((runsR l).map runT) ≤ 9 * ((runsR l).map runT).length := by
    have := sumS_le (l := (runsR l).map runT) (c := 9) fun i => by
      by_cases hi : i < ((runsR l).map runT).length
      · rw [List.getElem?_eq_getElem hi, Option.getD_some, List.getElem_map]
        have hr := runs_rng h _ (List.getElem_mem (l := runsR l) (n := i) (by simpa using hi))
        exact runT_sizeR ⟨⟨by omega, by omega⟩, by omega, by omega⟩
      · rw [List.getElem?_eq_none (by omega)]
        decide
    omega
  rw [List.length_map] at h2
  have h3 : csB.size = 2 := rfl
  rw [h3]
  omega
theorem pages_mem {l : List Int} (h : pagesB l = true) : ∀ x ∈ l, 1 ≤ x ∧ x ≤ 999 := fun x hx => by
  obtain ⟨i, hi, rfl⟩ := List.getElem_of_mem hx
  have := pages_at h hi
  rwa [List.getElem?_eq_getElem hi, Option.getD_some] at this
def φPt : Fun := F1 dIs fun l => if l.length ≤ 1099511627776 then some (.val (.string (pagesT l))) else none
theorem φPt_ap {l : List Int} (h : l.length ≤ 1099511627776) : φPt [.lst false 1 (l.map fun n => .val (.int .i64 n))] = some (.val (.string (pagesT l))) := (F1_ap (A := dIs) l).trans (if_pos h)
noncomputable def φJoinN : Fun := nilF 1 φJoin
theorem φJoinN_ap {l : List ByteArray} {sep : ByteArray} (h : l.length ≤ 1048576) (h2 : (joinB l sep).size ≤ 140737488355328) : φJoinN [.lst false 1 (l.map fun s => .val (.string s)), .val (.string sep)] = some (.val (.string (joinB l sep))) := φJoin_ap h h2
theorem φJoinN_nil : φJoinN [.val (.slice none 0 0), .val (.string csB)] = some (.val (.string ⟨#[]⟩)) := φJoin_ap (l := []) (by simp) (by rw [show joinB [] csB = ⟨#[]⟩ from rfl]; simp [ByteArray.size])
noncomputable def GPt : Ctx := { fn := fun f => if f = 21 then some φPagesV else if f = 32 then some φRuns else if f = 33 then some φRunT else if f = 34 then some φJoinN else none, io := fun f => none }
theorem GPt_ok : SoundΓ Tryz.prog GPt := ⟨(fun f φ h => by
  unfold GPt at h
  dsimp only at h
  split at h
  · rename_i hf; cases h; subst hf; exact ⟨⟨_, Tryz.func21, rfl, rfl⟩, implPagesV_ok⟩
  split at h
  · rename_i hf; cases h; subst hf; exact ⟨⟨_, Tryz.func32, rfl, rfl⟩, runsOf_ok⟩
  split at h
  · rename_i hf; cases h; subst hf; exact ⟨⟨_, Tryz.func33, rfl, rfl⟩, runText_ok⟩
  split at h
  · rename_i hf; cases h; subst hf; exact ⟨⟨_, Tryz.func34, rfl, rfl⟩, (join_ok.nil 1)⟩
  cases h), (fun f φ h => by
  unfold GPt at h
  dsimp only at h
  cases h), rfl⟩
theorem GPt_21 (ob : Objs) (ps : List PV) : evCall GPt ob 21 ps = (ps.mapM (reify false 0 ob fuel)).bind φPagesV := by
  have h : GPt.fn 21 = some φPagesV := by simp [GPt]
  unfold evCall
  rw [h]
  cases ps.mapM (reify false 0 ob fuel) <;> rfl
theorem GPt_32 (ob : Objs) (ps : List PV) : evCall GPt ob 32 ps = (ps.mapM (reify false 0 ob fuel)).bind φRuns := by
  have h : GPt.fn 32 = some φRuns := by simp [GPt]
  unfold evCall
  rw [h]
  cases ps.mapM (reify false 0 ob fuel) <;> rfl
theorem GPt_33 (ob : Objs) (ps : List PV) : evCall GPt ob 33 ps = (ps.mapM (reify false 0 ob fuel)).bind φRunT := by
  have h : GPt.fn 33 = some φRunT := by simp [GPt]
  unfold evCall
  rw [h]
  cases ps.mapM (reify false 0 ob fuel) <;> rfl
theorem GPt_34 (ob : Objs) (ps : List PV) : evCall GPt ob 34 ps = (ps.mapM (reify false 0 ob fuel)).bind φJoinN := by
  have h : GPt.fn 34 = some φJoinN := by simp [GPt]
  unfold evCall
  rw [h]
  cases ps.mapM (reify false 0 ob fuel) <;> rfl
set_option maxHeartbeats 16000000 in
theorem implPt_ok : Sound Tryz.prog 16 φPt := by
  refine sound_pq mixed GPt_ok Tryz.func16 rfl 27 rfl [.tmp 2] rfl (by kernel_rfl) fun ps r hr => ?_
  obtain ⟨l, rfl, hq⟩ := F1_some hr
  clear hr
  split at hq
  case isFalse => cases hq
  case isTrue hpre =>
  cases hq
  refine ⟨by simp, ?_⟩
  simp only [dIs, dUs, dSs, dI_e, dU_e, dB_e, dS_e, dFn_e, dL_e, dA2_e, dA3_e, dA4_e, dA5_e]
  have ap1 := φPagesV_ap hpre
  unfold pagesT
  cases hB : pagesB l with
  | false =>
    rw [hB] at ap1
    rw [if_neg (by decide)]
    clear hB
    have gpt_c21 := GPt_21; have gpt_c32 := GPt_32; have gpt_c33 := GPt_33; have gpt_c34 := GPt_34
    exact wlkF
  | true =>
    have ap2 := φRuns_ap hB
    have hlen := pages_len hB
    have hmem := pages_mem hB
    have hsz := textR_size hmem
    have hrl := runs_le l
    have hrn : ∀ i, i < (runsR l).length → (0 ≤ ((runsR l)[i]?.getD rn0).1 ∧ ((runsR l)[i]?.getD rn0).1 ≤ 9999) ∧ 0 ≤ ((runsR l)[i]?.getD rn0).2 ∧ ((runsR l)[i]?.getD rn0).2 ≤ 9999 := fun i hi => by
      rw [List.getElem?_eq_getElem hi, Option.getD_some]
      have := runs_rng hmem _ (List.getElem_mem hi)
      omega
    rw [hB] at ap1
    rw [if_pos rfl]
    unfold textR at hsz ⊢
    generalize runsR l = R at *
    have hcs : csB = ⟨#[44, 32]⟩ := rfl
    rw [hcs] at hsz ⊢
    have apn := φJoinN_nil
    rw [hcs] at apn
    have apj := φJoinN_ap (l := R.map runT) (sep := ⟨#[44, 32]⟩) (by rw [List.length_map]; omega) (by omega)
    have hJ0 : R.length = 0 → joinB (R.map runT) ⟨#[44, 32]⟩ = ⟨#[]⟩ := fun h => by rw [List.eq_nil_of_length_eq_zero h]; rfl
    replace hJ0 := Lib.hid hJ0
    generalize joinB (R.map runT) ⟨#[44, 32]⟩ = J at *
    clear hB hmem hcs
    have gpt_c21 := GPt_21; have gpt_c32 := GPt_32; have gpt_c33 := GPt_33; have gpt_c34 := GPt_34
    (refine wlk ?_; intros)
    refine i_loop (α := Nat × Nat × Nat) mixed (fun s => [(3, nP 1 (((R.take s.1).map runT).map fun s => .val (.string s)) s.2.1), (10, .lst true 2 (R.map pvR)), (11, iv R.length), (12, iv s.1)])
      (fun s => nO 9 1 (((R.take s.1).map runT).map fun s => .val (.string s)) s.2.1) (fun s => s.2.2)
      (fun s => s.1 ≤ R.length ∧ (0 < s.1 → s.2.1 < s.2.2)) (fun s => R.length - s.1) (by kernel_rfl) (0, 0, 0) ⟨Nat.zero_le _, by simp⟩ ?_ ?_ rfl ?_
    · exact agr
    · exact agr
    rintro ⟨k, x, y⟩ ⟨hk, hxy⟩
    dsimp only at hk hxy
    by_cases hkl : k < R.length
    · have hr := hrn k hkl
      have ap3 := φRunT_ap hr
      have htk : (R.take (k + 1)).map runT = (R.take k).map runT ++ [runT (R[k]?.getD rn0)] := by
        rw [List.take_succ_eq_append_getElem hkl, List.map_append, List.getElem?_eq_getElem hkl]
        rfl
      have hts := runT_size hr
      have hp2 : 0 < (((R.take (k + 1)).map runT).map fun s => PV.val (.string s)).length := by rw [htk]; simp
      have hln : ((R.take k).map runT).length = k := by rw [List.length_map, List.length_take]; omega
      clear hrn
      generalize hre : (R[k]?.getD rn0) = r at *
      obtain ⟨a, b⟩ := r
      dsimp only at hr ap3
      replace htk := Lib.hid htk
      have hln2 : (((R.take (k + 1)).map runT).map fun s => PV.val (.string s)).length = k + 1 := by rw [List.length_map, List.length_map, List.length_take]; omega
      replace hln2 := Lib.hid hln2
      have hes := Lib.hid (show (((R.take (k + 1)).map runT).map fun s => PV.val (.string s)) = (((R.take k).map runT).map fun s => PV.val (.string s)) ++ [PV.val (.string (runT (a, b)))] from by rw [htk.out, List.map_append]; rfl)
      by_cases hk0 : k = 0
      · subst hk0
        simp only [List.take_zero, List.map_nil, nP_nil, nO_nil]
        (refine wlk ?_; intros)
        refine ⟨(1, y + 2, y + 3), ⟨by dsimp only; omega, fun _ => by dsimp only; omega⟩, by dsimp only; omega, ?_, ?_, rfl⟩
        · simp (disch := (first | omega | (simp only [push_cast]; first | done | omega))) only [push_cast, ↓reduceIte, Nat.reduceEqDiff, Nat.reduceBEq, Nat.reduceAdd, Nat.reduceSub, Int.reduceToNat, nP_pos hp2, hln2.out, *]
        · simp (disch := (first | omega | (simp only [push_cast]; first | done | omega))) only [push_cast, ↓reduceIte, Nat.reduceEqDiff, Nat.reduceBEq, Nat.reduceAdd, Nat.reduceSub, Int.reduceToNat, nO_pos hp2, htk.out, List.take_zero, List.map_nil, List.map_cons, List.nil_append, *]
      · have hxy := hxy (by omega)
        have hap : 0 < (((R.take k).map runT).map fun s => PV.val (.string s)).length := by rw [List.length_map, hln]; omega
        have hln3 : (((R.take k).map runT).map fun s => PV.val (.string s)).length = k := by rw [List.length_map, hln]
        simp only [nP_pos hap, nO_pos hap, hln3]
        (refine wlk ?_; intros)
        refine ⟨(k + 1, y + 2, y + 3), ⟨by dsimp only; omega, fun _ => by dsimp only; omega⟩, by dsimp only; omega, ?_, ?_, rfl⟩
        · simp (disch := (first | omega | (simp only [push_cast]; first | done | omega))) only [push_cast, ↓reduceIte, Nat.reduceEqDiff, Nat.reduceBEq, Nat.reduceAdd, Nat.reduceSub, Int.reduceToNat, nP_pos hp2, hln2.out, *]
        · clear hre hln hln3
          simp (disch := (first | omega | (simp only [push_cast]; first | done | omega))) only [push_cast, ↓reduceIte, Nat.reduceEqDiff, Nat.reduceBEq, Nat.reduceAdd, Nat.reduceSub, Int.reduceToNat, nO_pos hp2, hes.out, *]
    · obtain rfl : k = R.length := by omega
      rw [List.take_of_length_le (Nat.le_refl _)]
      by_cases hR0 : R.length = 0
      · have hJ := hJ0.out hR0
        subst hJ
        obtain rfl : R = [] := List.eq_nil_of_length_eq_zero hR0
        simp only [List.map_nil, nP_nil, nO_nil]
        exact wlkF
      · have hxy := hxy (by omega)
        have hap : 0 < ((R.map runT).map fun s => PV.val (.string s)).length := by rw [List.length_map, List.length_map]; omega
        simp only [nP_pos hap, nO_pos hap]
        rw [List.length_map]
        exact wlkF
end Go.Proofs.YtpggpdbipajchaaGreatDoor
namespace Go.Proofs.YtpggpdbipajchaaGreatDoor
open Go.RowKit
set_option linter.all false
theorem chain_up {l : List Int} {k : Nat} : ∀ e, k ≤ e → (∀ j, k ≤ j → j < e → l[j + 1]?.getD 0 = l[j]?.getD 0 + 1) → l[e]?.getD 0 = l[k]?.getD 0 + (e - k : Nat)
  | 0, h, _ => by
    obtain rfl : k = 0 := by omega
    simp
  | e + 1, h, hc => by
    by_cases hk : k = e + 1
    · subst hk; simp
    · rw [hc e (by omega) (by omega), chain_up e (by omega) fun j h1 h2 => hc j h1 (by omega)]
      omega
theorem runT_one (a : Int) : runT (a, a) = itoaS a := if_pos rfl
theorem runT_two {a b : Int} (h : ¬ a = b) : runT (a, b) = (itoaS a ++ ⟨#[45]⟩) ++ itoaS b := if_neg h
theorem ba_assoc (a b c : ByteArray) : a ++ (b ++ c) = (a ++ b) ++ c := gl_ext (by simp [ByteArray.data_append])
theorem textR_le {l : List Int} (h : ∀ x ∈ l, 1 ≤ x ∧ x ≤ 999) (k : Nat) : (textR (l.take k)).size ≤ 11 * l.length := by
  have := textR_size (l := l.take k) fun x hx => h x (List.mem_of_mem_take hx)
  rw [List.length_take] at this
  omega
noncomputable def GSPt : Ctx := { fn := fun f => if f = 37 then some φPagesV else if f = 38 then some φNum else none, io := fun f => none }
theorem GSPt_ok : SoundΓ Tryz.prog GSPt := ⟨(fun f φ h => by
  unfold GSPt at h
  dsimp only at h
  split at h
  · rename_i hf; cases h; subst hf; exact ⟨⟨_, Tryz.func37, rfl, rfl⟩, specPagesV_ok⟩
  split at h
  · rename_i hf; cases h; subst hf; exact ⟨⟨_, Tryz.func38, rfl, rfl⟩, num_ok⟩
  cases h), (fun f φ h => by
  unfold GSPt at h
  dsimp only at h
  cases h), rfl⟩
theorem GSPt_37 (ob : Objs) (ps : List PV) : evCall GSPt ob 37 ps = (ps.mapM (reify false 0 ob fuel)).bind φPagesV := by
  have h : GSPt.fn 37 = some φPagesV := by simp [GSPt]
  unfold evCall
  rw [h]
  cases ps.mapM (reify false 0 ob fuel) <;> rfl
theorem GSPt_38 (ob : Objs) (ps : List PV) : evCall GSPt ob 38 ps = (ps.mapM (reify false 0 ob fuel)).bind φNum := by
  have h : GSPt.fn 38 = some φNum := by simp [GSPt]
  unfold evCall
  rw [h]
  cases ps.mapM (reify false 0 ob fuel) <;> rfl
set_option maxHeartbeats 16000000 in
theorem specPt_ok : Sound Tryz.prog 18 φPt := by
  refine sound_pq mixed GSPt_ok Tryz.func18 rfl 60 rfl [.tmp 2] rfl (by kernel_rfl) fun ps r hr => ?_
  obtain ⟨l, rfl, hq⟩ := F1_some hr
  clear hr
  split at hq
  case isFalse => cases hq
  case isTrue hpre =>
  cases hq
  refine ⟨by simp, ?_⟩
  simp only [dIs, dUs, dSs, dI_e, dU_e, dB_e, dS_e, dFn_e, dL_e, dA2_e, dA3_e, dA4_e, dA5_e]
  have ap1 := φPagesV_ap hpre
  unfold pagesT
  cases hB : pagesB l with
  | false =>
    rw [hB] at ap1
    rw [if_neg (by decide)]
    clear hB
    have gspt_c37 := GSPt_37; have gspt_c38 := GSPt_38
    (refine wlk ?_; intros)
    refine i_loop (α := Unit) mixed (fun s => [(0, .lst false 1 (l.map fun n => .val (.int .i64 n))), (3, .val (.string ⟨#[]⟩)), (4, iv 0)]) (fun _ => []) (fun _ => 0)
      (fun _ => True) (fun _ => 0) (by kernel_rfl) () trivial ?_ trivial rfl ?_
    · exact agr
    rintro - -
    exact wlkF
  | true =>
    have hlen := pages_len hB
    have hmem := pages_mem hB
    have hat := fun i hi => pages_at hB (i := i) hi
    have hszk := textR_le hmem
    rw [hB] at ap1
    rw [if_pos rfl]
    clear hB
    have hrun := fun (k e : Nat) => textR_run (l := l) (k := k) (e := e)
    have hpos := fun (k : Nat) (h1 : 0 < k) (h2 : k ≤ l.length) => textR_pos (l := l) (k := k) h1 h2 fun j hj => by have := hat j hj; omega
    have htr : textR l = textR (l.take l.length) := by rw [List.take_of_length_le (Nat.le_refl _)]
    have ht0 : textR [] = ⟨#[]⟩ := rfl
    rw [htr]
    replace hrun := Lib.hid hrun
    replace hpos := Lib.hid hpos
    clear htr hmem
    have gspt_c37 := GSPt_37; have gspt_c38 := GSPt_38
    (refine wlk ?_; intros)
    refine i_loop (α := Nat) mixed (fun k => [(0, .lst false 1 (l.map fun n => .val (.int .i64 n))), (3, .val (.string (textR (l.take k)))), (4, iv k)]) (fun _ => []) (fun _ => 0)
      (fun k => k ≤ l.length ∧ (0 < k → k < l.length → ¬ l[k - 1]?.getD 0 + 1 = l[k]?.getD 0)) (fun k => l.length - k) (by kernel_rfl) 0 ⟨Nat.zero_le _, fun h => by omega⟩ ?_ trivial rfl ?_
    · simp (disch := (first | omega | (simp only [push_cast]; first | done | omega))) only [push_cast, ↓reduceIte, Nat.reduceEqDiff, Nat.reduceBEq, Nat.reduceAdd, Nat.reduceSub, Int.reduceToNat, ht0, *]
    clear ht0
    rintro k ⟨hk, hb⟩
    have hsk := hszk k
    replace hb := Lib.hid hb
    have hout0 : k = 0 → textR (l.take k) = ⟨#[]⟩ := fun h => by subst h; rfl
    have houtp : 0 < k → ¬ textR (l.take k) = ⟨#[]⟩ := fun h e => by
      have := hpos.out k h hk
      rw [e] at this
      simp [ByteArray.size] at this
    have hrk := hrun.out k
    replace hrk := Lib.hid hrk
    by_cases hkl : k < l.length
    · have hak := hat k hkl
      generalize textR (l.take k) = out at *
      replace hout0 := Lib.hid hout0
      replace houtp := Lib.hid houtp
      (refine wlk ?_; intros)
      refine i_loop (α := Nat) mixed (fun e => [(0, .lst false 1 (l.map fun n => .val (.int .i64 n))), (3, .val (.string out)), (4, iv k), (5, iv e)]) (fun _ => []) (fun _ => 0)
        (fun e => k ≤ e ∧ e < l.length ∧ ∀ j, k ≤ j → j < e → l[j + 1]?.getD 0 = l[j]?.getD 0 + 1) (fun e => l.length - e) (by kernel_rfl) k ⟨Nat.le_refl _, hkl, fun j h1 h2 => by omega⟩ ?_ trivial rfl ?_
      · exact agr
      rintro e ⟨he1, he2, hc⟩
      have hae := hat e he2
      have hae1 := hat (e + 1)
      clear hat
      replace hc := Lib.hid hc
      by_cases hst : e + 1 < l.length ∧ l[e + 1]?.getD 0 = l[e]?.getD 0 + 1
      · obtain ⟨hst1, hst2⟩ := hst
        have hae1 := hae1 hst1
        have hc2 := Lib.hid (show ∀ j, k ≤ j → j < e + 1 → l[j + 1]?.getD 0 = l[j]?.getD 0 + 1 from fun j h1 h2 => by
          by_cases hj : j < e
          · exact hc.out j h1 hj
          · obtain rfl : j = e := by omega
            exact hst2)
        have hst3 : decide (l[e + 1]?.getD 0 = l[e]?.getD 0 + 1) = true := decide_eq_true hst2
        clear hst2
        (refine wlk ?_; intros)
        refine ⟨e + 1, ⟨by omega, hst1, hc2.out⟩, by dsimp only; omega, ?_, trivial, rfl⟩
        exact agr
      · have hex := hrk.out e hkl (fun h => hb.out h hkl) he1 he2 hc.out
        have hsz2 := hszk (e + 1)
        have hup := chain_up e he1 hc.out
        have hbn := Lib.hid (show 0 < e + 1 → e + 1 < l.length → ¬ l[e + 1 - 1]?.getD 0 + 1 = l[e + 1]?.getD 0 from fun _ h1 h2 => hst ⟨h1, by rw [← h2]; rfl⟩)
        have ap2 := φNum_ap (n := l[k]?.getD 0) (by omega) (by omega)
        have ap3 := φNum_ap (n := l[e]?.getD 0) (by omega) (by omega)
        have hz1 := itoaS_size4 (n := l[k]?.getD 0) (by omega) (by omega)
        have hz2 := itoaS_size4 (n := l[e]?.getD 0) (by omega) (by omega)
        have hstop : e + 1 < l.length → ¬ l[e + 1]?.getD 0 = l[e]?.getD 0 + 1 := fun h1 h2 => hst ⟨h1, h2⟩
        have hae2 : e + 1 < l.length → (1 ≤ l[e + 1]?.getD 0 ∧ l[e + 1]?.getD 0 ≤ 999) := hae1
        clear hst hae1 hc hszk
        have hcs : csB = ⟨#[44, 32]⟩ := rfl
        have hcz : (⟨#[44, 32]⟩ : ByteArray).size = 2 := rfl
        have hone : (⟨#[45]⟩ : ByteArray).size = 1 := rfl
        rw [hcs] at hex
        clear hcs
        by_cases hke : e = k
        · subst hke
          rw [runT_one] at hex
          clear hup
          by_cases hk0 : e = 0
          · have h0 := hout0.out hk0
            subst h0
            rw [if_pos hk0] at hex
            clear hk0
            replace hex := Lib.hid hex
            by_cases hle : e + 1 < l.length
            · have hs := hstop hle
              have ha2 := hae2 hle
              clear hstop hae2
              (refine wlk ?_; intros)
              refine ⟨e + 1, ⟨by omega, hbn.out⟩, by dsimp only; omega, ?_, trivial, rfl⟩
              simp (disch := (first | omega | (simp only [push_cast]; first | done | omega))) only [push_cast, ↓reduceIte, Nat.reduceEqDiff, Nat.reduceBEq, Nat.reduceAdd, Nat.reduceSub, Int.reduceToNat, hex.out, *]
            · clear hstop hae2
              (refine wlk ?_; intros)
              refine ⟨e + 1, ⟨by omega, hbn.out⟩, by dsimp only; omega, ?_, trivial, rfl⟩
              simp (disch := (first | omega | (simp only [push_cast]; first | done | omega))) only [push_cast, ↓reduceIte, Nat.reduceEqDiff, Nat.reduceBEq, Nat.reduceAdd, Nat.reduceSub, Int.reduceToNat, hex.out, *]
          · have h0 := houtp.out (by omega)
            rw [if_neg hk0] at hex
            replace hex := Lib.hid hex
            by_cases hle : e + 1 < l.length
            · have hs := hstop hle
              have ha2 := hae2 hle
              clear hstop hae2
              (refine wlk ?_; intros)
              refine ⟨e + 1, ⟨by omega, hbn.out⟩, by dsimp only; omega, ?_, trivial, rfl⟩
              simp (disch := (first | omega | (simp only [push_cast]; first | done | omega))) only [push_cast, ↓reduceIte, Nat.reduceEqDiff, Nat.reduceBEq, Nat.reduceAdd, Nat.reduceSub, Int.reduceToNat, hex.out, *]
            · clear hstop hae2
              (refine wlk ?_; intros)
              refine ⟨e + 1, ⟨by omega, hbn.out⟩, by dsimp only; omega, ?_, trivial, rfl⟩
              simp (disch := (first | omega | (simp only [push_cast]; first | done | omega))) only [push_cast, ↓reduceIte, Nat.reduceEqDiff, Nat.reduceBEq, Nat.reduceAdd, Nat.reduceSub, Int.reduceToNat, hex.out, *]
        · rw [runT_two (by omega), ba_assoc, ba_assoc] at hex
          have hkz : k < e := by omega
          replace hup := Lib.hid hup
          by_cases hk0 : k = 0
          · have h0 := hout0.out hk0
            subst h0
            rw [if_pos hk0] at hex
            clear hk0
            replace hex := Lib.hid hex
            by_cases hle : e + 1 < l.length
            · have hs := hstop hle
              have ha2 := hae2 hle
              clear hstop hae2
              (refine wlk ?_; intros)
              refine ⟨e + 1, ⟨by omega, hbn.out⟩, by dsimp only; omega, ?_, trivial, rfl⟩
              simp (disch := (first | omega | (simp only [push_cast]; first | done | omega))) only [push_cast, ↓reduceIte, Nat.reduceEqDiff, Nat.reduceBEq, Nat.reduceAdd, Nat.reduceSub, Int.reduceToNat, hex.out, *]
            · clear hstop hae2
              (refine wlk ?_; intros)
              refine ⟨e + 1, ⟨by omega, hbn.out⟩, by dsimp only; omega, ?_, trivial, rfl⟩
              simp (disch := (first | omega | (simp only [push_cast]; first | done | omega))) only [push_cast, ↓reduceIte, Nat.reduceEqDiff, Nat.reduceBEq, Nat.reduceAdd, Nat.reduceSub, Int.reduceToNat, hex.out, *]
          · have h0 := houtp.out (by omega)
            rw [if_neg hk0] at hex
            replace hex := Lib.hid hex
            by_cases hle : e + 1 < l.length
            · have hs := hstop hle
              have ha2 := hae2 hle
              clear hstop hae2
              (refine wlk ?_; intros)
              refine ⟨e + 1, ⟨by omega, hbn.out⟩, by dsimp only; omega, ?_, trivial, rfl⟩
              simp (disch := (first | omega | (simp only [push_cast]; first | done | omega))) only [push_cast, ↓reduceIte, Nat.reduceEqDiff, Nat.reduceBEq, Nat.reduceAdd, Nat.reduceSub, Int.reduceToNat, hex.out, *]
            · clear hstop hae2
              (refine wlk ?_; intros)
              refine ⟨e + 1, ⟨by omega, hbn.out⟩, by dsimp only; omega, ?_, trivial, rfl⟩
              simp (disch := (first | omega | (simp only [push_cast]; first | done | omega))) only [push_cast, ↓reduceIte, Nat.reduceEqDiff, Nat.reduceBEq, Nat.reduceAdd, Nat.reduceSub, Int.reduceToNat, hex.out, *]
    · obtain rfl : k = l.length := by omega
      exact wlkF
end Go.Proofs.YtpggpdbipajchaaGreatDoor
namespace Go.Proofs.YtpggpdbipajchaaGreatDoor
open Go.RowKit
set_option linter.all false
theorem wordB_letters {s : ByteArray} (h : wordB s = true) : (∀ j, j < s.size → 97 ≤ at8 s j ∧ at8 s j ≤ 122) ∧ 1 ≤ s.size ∧ s.size ≤ 20 := by
  unfold wordB at h
  rw [Bool.and_eq_true, List.all_eq_true] at h
  refine ⟨fun j hj => inB_iff.1 (h.1 j (List.mem_range.2 hj)), ?_⟩
  have := inB_iff.1 h.2
  omega
end Go.Proofs.YtpggpdbipajchaaGreatDoor
namespace Go.Proofs.YtpggpdbipajchaaGreatDoor
open Go.RowKit
set_option linter.all false
def insU (x : ByteArray) : LS → LS
  | [] => [x]
  | y :: r => if ltB x y = true then x :: y :: r else if ltB y x = true then y :: insU x r else y :: r
theorem insU_mem {x z : ByteArray} : ∀ {r : LS}, z ∈ insU x r ↔ z = x ∨ z ∈ r
  | [] => by simp [insU]
  | y :: r => by
    unfold insU
    split
    · simp
    · split
      · rw [List.mem_cons, insU_mem (r := r), List.mem_cons]
        constructor
        · rintro (h | h | h)
          · exact .inr (.inl h)
          · exact .inl h
          · exact .inr (.inr h)
        · rintro (h | h | h)
          · exact .inr (.inl h)
          · exact .inl h
          · exact .inr (.inr h)
      · rename_i h1 h2
        have : x = y := by
          rcases ltB_tri x y with h | h | h
          · exact absurd h h1
          · exact h
          · exact absurd h h2
        subst this
        simp
abbrev Asc (l : LS) : Prop := l.Pairwise fun a b => ltB a b = true
theorem insU_asc {x : ByteArray} : ∀ {r : LS}, Asc r → Asc (insU x r)
  | [], _ => List.pairwise_singleton _ _
  | y :: r, h => by
    obtain ⟨h1, h2⟩ := List.pairwise_cons.1 h
    unfold insU
    split
    · rename_i hx
      refine List.pairwise_cons.2 ⟨fun z hz => ?_, h⟩
      rcases List.mem_cons.1 hz with rfl | hz
      · exact hx
      · exact ltB_trans hx (h1 z hz)
    · split
      · rename_i hx hy
        refine List.pairwise_cons.2 ⟨fun z hz => ?_, insU_asc h2⟩
        rcases insU_mem.1 hz with rfl | hz
        · exact hy
        · exact h1 z hz
      · exact h
def wordsU (l : List W2) : LS := l.foldr (fun x r => insU x.1 r) []
theorem wordsU_mem {l : List W2} {z : ByteArray} : z ∈ wordsU l ↔ ∃ x ∈ l, x.1 = z := by
  unfold wordsU
  induction l with
  | nil => simp
  | cons y l ih =>
    rw [List.foldr_cons, insU_mem, ih]
    simp only [List.mem_cons]
    constructor
    · rintro (h | ⟨x, h1, h2⟩)
      · exact ⟨y, .inl rfl, h.symm⟩
      · exact ⟨x, .inr h1, h2⟩
    · rintro ⟨x, h1 | h1, h2⟩
      · exact .inl (by rw [← h2, h1])
      · exact .inr ⟨x, h1, h2⟩
theorem wordsU_asc (l : List W2) : Asc (wordsU l) := by
  unfold wordsU
  induction l with
  | nil => exact List.Pairwise.nil
  | cons y l ih => exact insU_asc ih
theorem asc_eq {l l' : LS} (h : Asc l) (h' : Asc l') (hm : ∀ x, x ∈ l ↔ x ∈ l') : l = l' :=
  asc_unique (R := fun a b : ByteArray => ltB a b = true) (fun a q => by rw [ltB_irr] at q; cases q) (fun _ _ _ => ltB_trans) h h' hm
theorem insU_len (x : ByteArray) : ∀ r : LS, (insU x r).length ≤ r.length + 1
  | [] => Nat.le_refl _
  | y :: r => by
    unfold insU
    split
    · simp
    · split
      · have := insU_len x r
        simp only [List.length_cons]
        omega
      · simp
theorem wordsU_len (l : List W2) : (wordsU l).length ≤ l.length := by
  unfold wordsU
  induction l with
  | nil => exact Nat.le_refl _
  | cons y l ih =>
    have := insU_len y.1 (l.foldr (fun x r => insU x.1 r) [])
    rw [List.foldr_cons, List.length_cons]
    omega
def hasP (l : List W2) (w : ByteArray) (p : Int) : Bool := l.any fun x => decide (x.1 = w ∧ x.2 = p)
def pagesN (l : List W2) (w : ByteArray) (n : Nat) : List Int := ((List.range n).filter fun k : Nat => hasP l w ((k : Int) + 1)).map fun k : Nat => (k : Int) + 1
def pagesU (l : List W2) (w : ByteArray) : List Int := pagesN l w 999
theorem pagesN_yes {l : List W2} {w : ByteArray} {n : Nat} (h : hasP l w ((n : Int) + 1) = true) : pagesN l w (n + 1) = pagesN l w n ++ [(n : Int) + 1] := by
  simp [pagesN, List.range_succ, List.filter_append, h]
theorem pagesN_no {l : List W2} {w : ByteArray} {n : Nat} (h : hasP l w ((n : Int) + 1) = false) : pagesN l w (n + 1) = pagesN l w n := by
  simp [pagesN, List.range_succ, List.filter_append, h]
theorem pagesN_mem {l : List W2} {w : ByteArray} {n : Nat} {p : Int} : p ∈ pagesN l w n ↔ (1 ≤ p ∧ p ≤ n) ∧ ∃ x ∈ l, x.1 = w ∧ x.2 = p := by
  unfold pagesN hasP
  simp only [List.mem_map, List.mem_filter, List.mem_range, List.any_eq_true, decide_eq_true_eq]
  constructor
  · rintro ⟨k, ⟨h1, x, h2, h3, h4⟩, rfl⟩
    exact ⟨by omega, x, h2, h3, h4⟩
  · rintro ⟨h1, x, h2, h3, h4⟩
    exact ⟨p.toNat - 1, ⟨by omega, x, h2, h3, by omega⟩, by omega⟩
theorem pagesN_asc (l : List W2) (w : ByteArray) : ∀ n, (pagesN l w n).Pairwise (· < ·)
  | 0 => List.Pairwise.nil
  | n + 1 => by
    cases h : hasP l w ((n : Int) + 1) with
    | true =>
      rw [pagesN_yes h, List.pairwise_append]
      refine ⟨pagesN_asc l w n, List.pairwise_singleton _ _, fun a ha b hb => ?_⟩
      rw [List.mem_singleton.1 hb]
      have := (pagesN_mem.1 ha).1
      omega
    | false =>
      rw [pagesN_no h]
      exact pagesN_asc l w n
theorem ascI_eq {l l' : List Int} (h : l.Pairwise (· < ·)) (h' : l'.Pairwise (· < ·)) (hm : ∀ x, x ∈ l ↔ x ∈ l') : l = l' :=
  asc_unique (R := fun a b : Int => a < b) (fun a => Int.lt_irrefl a) (fun _ _ _ => Int.lt_trans) h h' hm
theorem nodup_len : ∀ {l m : List Int}, l.Nodup → (∀ x ∈ l, x ∈ m) → l.length ≤ m.length
  | [], m, _, _ => Nat.zero_le _
  | x :: l, m, h, hm => by
    obtain ⟨a, b, rfl⟩ := List.append_of_mem (hm x (by simp))
    obtain ⟨h1, h2⟩ := List.nodup_cons.1 h
    have := nodup_len (m := a ++ b) h2 fun y hy => by
      have h3 := hm y (by simp [hy])
      rcases List.mem_append.1 h3 with h4 | h4
      · exact List.mem_append.2 (.inl h4)
      · rcases List.mem_cons.1 h4 with h5 | h5
        · subst h5; exact absurd hy h1
        · exact List.mem_append.2 (.inr h5)
    simp only [List.length_append, List.length_cons] at this ⊢
    omega
theorem asc_len : ∀ {l : List Int} {m : List Int}, l.Pairwise (· < ·) → (∀ x ∈ l, x ∈ m) → l.length ≤ m.length := by
  intro l m h hm
  have hn : l.Nodup := h.imp fun {a b} h e => by omega
  exact nodup_len hn hm
theorem pagesN_len {l : List W2} {w : ByteArray} {n : Nat} : (pagesN l w n).length ≤ l.length := by
  have := asc_len (m := l.map (·.2)) (pagesN_asc l w n) fun x hx => by
    obtain ⟨-, y, h1, -, h2⟩ := pagesN_mem.1 hx
    exact List.mem_map.2 ⟨y, h1, h2⟩
  simpa using this
theorem pagesU_valid {l : List W2} (h : l.length ≤ 30) (w : ByteArray) : pagesB (pagesU l w) = true := by
  rw [pagesB_iff]
  have hl := @pagesN_len l w 999
  have ha := pagesN_asc l w 999
  have hm : ∀ p ∈ pagesN l w 999, 1 ≤ p ∧ p ≤ 999 := fun p hp => by have := (pagesN_mem.1 hp).1; omega
  unfold pagesU
  generalize pagesN l w 999 = P at *
  refine ⟨fun i hi => ⟨?_, fun h0 => ?_⟩, by omega⟩
  · rw [List.getElem?_eq_getElem hi, Option.getD_some]
    exact hm _ (List.getElem_mem hi)
  · rw [List.getElem?_eq_getElem hi, List.getElem?_eq_getElem (show i - 1 < P.length by omega), Option.getD_some, Option.getD_some]
    exact List.pairwise_iff_getElem.1 ha (i - 1) i (by omega) hi (by omega)
def lineU (l : List W2) (w : ByteArray) : ByteArray := (w ++ ⟨#[32]⟩) ++ pagesT (pagesU l w)
def idxR (l : List W2) : LS := (wordsU l).map (lineU l)
def indexR (l : List W2) : LS := if indexB l = true then idxR l else []
theorem indexB_iff {l : List W2} : indexB l = true ↔ l.length ≤ 30 ∧ ∀ x ∈ l, wordB x.1 = true ∧ 1 ≤ x.2 ∧ x.2 ≤ 999 := by
  unfold indexB badW
  simp only [Bool.and_eq_true, decide_eq_true_eq, Bool.not_eq_true', List.any_eq_false, Bool.or_eq_true, Bool.not_eq_true', not_or, Bool.not_eq_false, inB_iff]
structure NextI (l : List W2) (last next : ByteArray) (k : Nat) : Prop where
  none : next = ⟨#[]⟩ → ∀ j, j < k → ltB last (l[j]?.getD w0).1 = false
  some : ¬ next = ⟨#[]⟩ → ltB last next = true ∧ (∃ j, j < k ∧ (l[j]?.getD w0).1 = next) ∧ ∀ j, j < k → ltB last (l[j]?.getD w0).1 = true → ltB (l[j]?.getD w0).1 next = false
theorem NextI.zero (l : List W2) (last : ByteArray) : NextI l last ⟨#[]⟩ 0 := ⟨fun _ j hj => by omega, fun h => absurd rfl h⟩
theorem NextI.keep {l : List W2} {last next : ByteArray} {k : Nat} (h : NextI l last next k) (hc : ltB last (l[k]?.getD w0).1 = false ∨ (¬ next = ⟨#[]⟩ ∧ ltB (l[k]?.getD w0).1 next = false)) : NextI l last next (k + 1) := by
  refine ⟨fun e j hj => ?_, fun e => ?_⟩
  · by_cases h1 : j < k
    · exact h.none e j h1
    · obtain rfl : j = k := by omega
      rcases hc with hc | hc
      · exact hc
      · exact absurd e hc.1
  · obtain ⟨h1, ⟨i, h2, h3⟩, h4⟩ := h.some e
    refine ⟨h1, ⟨i, by omega, h3⟩, fun j hj hl => ?_⟩
    by_cases h5 : j < k
    · exact h4 j h5 hl
    · obtain rfl : j = k := by omega
      rcases hc with hc | hc
      · rw [hc] at hl; cases hl
      · exact hc.2
theorem NextI.take {l : List W2} {last next : ByteArray} {k : Nat} (h : NextI l last next k) (h0 : ¬ (l[k]?.getD w0).1 = ⟨#[]⟩) (h1 : ltB last (l[k]?.getD w0).1 = true) (h2 : next = ⟨#[]⟩ ∨ ltB (l[k]?.getD w0).1 next = true) : NextI l last (l[k]?.getD w0).1 (k + 1) := by
  refine ⟨fun e => absurd e h0, fun _ => ⟨h1, ⟨k, by omega, rfl⟩, fun j hj hl => ?_⟩⟩
  by_cases h5 : j < k
  · rcases h2 with h2 | h2
    · have := h.none h2 j h5
      rw [this] at hl; cases hl
    · by_cases hn : next = ⟨#[]⟩
      · have := h.none hn j h5
        rw [this] at hl; cases hl
      · have h6 := (h.some hn).2.2 j h5 hl
        cases h7 : ltB (l[j]?.getD w0).1 (l[k]?.getD w0).1 with
        | false => rfl
        | true => rw [ltB_trans h7 h2] at h6; cases h6
  · obtain rfl : j = k := by omega
    exact ltB_irr _
theorem ltB_nil {a : ByteArray} (h : ¬ a = ⟨#[]⟩) : ltB ⟨#[]⟩ a = true := by
  rcases ltB_tri ⟨#[]⟩ a with h1 | h1 | h1
  · exact h1
  · exact absurd h1.symm h
  · unfold ltB at h1
    rw [show (⟨#[]⟩ : ByteArray).data.toList = [] from rfl, bl_nil] at h1
    cases h1
theorem getW {l : List W2} {j : Nat} (h : j < l.length) : l[j]?.getD w0 ∈ l := by
  rw [List.getElem?_eq_getElem h, Option.getD_some]
  exact List.getElem_mem h
theorem NextI.done {l : List W2} {k : Nat} {next : ByteArray} (hv : ∀ x ∈ l, ¬ x.1 = ⟨#[]⟩) (h : NextI l (if k = 0 then ⟨#[]⟩ else (wordsU l)[k - 1]?.getD ⟨#[]⟩) next l.length) (hk : k ≤ (wordsU l).length) :
    (next = ⟨#[]⟩ ↔ k = (wordsU l).length) ∧ (k < (wordsU l).length → next = (wordsU l)[k]?.getD ⟨#[]⟩) := by
  have ha := wordsU_asc l
  have hm : ∀ z, z ∈ wordsU l ↔ ∃ x ∈ l, x.1 = z := fun z => wordsU_mem
  generalize wordsU l = W at *
  have hlast : ∀ i, k ≤ i → (hi : i < W.length) → ltB (if k = 0 then ⟨#[]⟩ else W[k - 1]?.getD ⟨#[]⟩) W[i] = true := fun i h1 hi => by
    split
    · obtain ⟨x, hx, he⟩ := (hm _).1 (List.getElem_mem hi)
      exact ltB_nil (by rw [← he]; exact hv x hx)
    · rw [List.getElem?_eq_getElem (show k - 1 < W.length by omega), Option.getD_some]
      exact List.pairwise_iff_getElem.1 ha (k - 1) i (by omega) hi (by omega)
  have hfind : ∀ i, (hi : i < W.length) → ∃ j, j < l.length ∧ (l[j]?.getD w0).1 = W[i] := fun i hi => by
    obtain ⟨x, hx, he⟩ := (hm _).1 (List.getElem_mem hi)
    obtain ⟨j, hj, rfl⟩ := List.getElem_of_mem hx
    exact ⟨j, hj, by rw [List.getElem?_eq_getElem hj, Option.getD_some]; exact he⟩
  by_cases hn : next = ⟨#[]⟩
  · have hk2 : k = W.length := by
      rcases Nat.lt_or_ge k W.length with hlt | hge
      · obtain ⟨j, hj, he⟩ := hfind k hlt
        have h1 := h.none hn j hj
        rw [he, hlast k (Nat.le_refl _) hlt] at h1
        cases h1
      · omega
    exact ⟨⟨fun _ => hk2, fun _ => hn⟩, fun q => by omega⟩
  · obtain ⟨h1, ⟨j, hj, h2⟩, h3⟩ := h.some hn
    have hmem : next ∈ W := (hm _).2 ⟨_, getW hj, h2⟩
    obtain ⟨i, hi, he⟩ := List.getElem_of_mem hmem
    have hki : k ≤ i := by
      rcases Nat.lt_or_ge i k with hlt | hge
      · rw [if_neg (by omega), List.getElem?_eq_getElem (show k - 1 < W.length by omega), Option.getD_some, ← he] at h1
        by_cases e : i = k - 1
        · subst e
          rw [ltB_irr] at h1; cases h1
        · have := List.pairwise_iff_getElem.1 ha i (k - 1) hi (by omega) (by omega)
          rw [ltB_asymm this] at h1; cases h1
      · exact hge
    have hik : i = k := by
      rcases Nat.lt_or_ge k i with hlt | hge
      · obtain ⟨j2, hj2, he2⟩ := hfind k (by omega)
        have h4 := h3 j2 hj2 (by rw [he2]; exact hlast k (Nat.le_refl _) (by omega))
        have := List.pairwise_iff_getElem.1 ha k i (by omega) hi hlt
        rw [he2, ← he, this] at h4
        cases h4
      · omega
    subst hik
    refine ⟨⟨fun q => absurd q hn, fun q => by omega⟩, fun _ => ?_⟩
    rw [List.getElem?_eq_getElem hi, Option.getD_some, he]
end Go.Proofs.YtpggpdbipajchaaGreatDoor
namespace Go.Proofs.YtpggpdbipajchaaGreatDoor
open Go.RowKit
set_option linter.all false
theorem lineU_list (l : List W2) (w : ByteArray) : (lineU l w).data.toList = w.data.toList ++ 32 :: (pagesT (pagesU l w)).data.toList := by
  unfold lineU
  rw [ByteArray.data_append, Array.toList_append, ByteArray.data_append, Array.toList_append, List.append_assoc]
  rfl
theorem at8_list {s : ByteArray} {i : Nat} (h : i < s.size) : at8 s i = ((s.data.toList[i]'(by simpa using h)).toNat : Int) := by
  unfold at8
  rw [getElem?_pos s i h]
  rfl
theorem word_bytes {s : ByteArray} (h : wordB s = true) : ∀ c ∈ s.data.toList, 97 ≤ c.toNat ∧ c.toNat ≤ 122 := fun c hc => by
  obtain ⟨i, hi, rfl⟩ := List.getElem_of_mem hc
  have hi2 : i < s.size := by simpa using hi
  unfold wordB at h
  rw [Bool.and_eq_true, List.all_eq_true] at h
  have := inB_iff.1 (h.1 i (List.mem_range.2 hi2))
  rw [at8_list hi2] at this
  omega
theorem wordsU_word {l : List W2} (h : indexB l = true) : ∀ w ∈ wordsU l, wordB w = true := fun w hw => by
  obtain ⟨x, hx, rfl⟩ := wordsU_mem.1 hw
  exact ((indexB_iff.1 h).2 x hx).1
theorem idxR_len (l : List W2) : (idxR l).length ≤ l.length := by
  unfold idxR
  rw [List.length_map]
  exact wordsU_len l
theorem pagesT_size30 {P : List Int} (h : pagesB P = true) : (pagesT P).size ≤ 330 := by
  unfold pagesT
  rw [if_pos h]
  have := textR_size (pages_mem h)
  have := pages_len h
  omega
theorem lineU_size {l : List W2} (h : indexB l = true) {w : ByteArray} (hw : w ∈ wordsU l) : (lineU l w).size ≤ 360 := by
  have h1 := (wordB_letters (wordsU_word h w hw)).2.2
  have h2 := pagesT_size30 (pagesU_valid (indexB_iff.1 h).1 w)
  unfold lineU
  rw [ByteArray.size_append, ByteArray.size_append, show (⟨#[32]⟩ : ByteArray).size = 1 from rfl]
  omega
end Go.Proofs.YtpggpdbipajchaaGreatDoor
