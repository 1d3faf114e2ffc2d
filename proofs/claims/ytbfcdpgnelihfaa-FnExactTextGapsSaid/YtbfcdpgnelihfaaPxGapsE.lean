/- TextGaps answers as the reference's. -/
import Derived.Test.YtbfcdpgnelihfaaPxText
import Derived.Test.YtbfcdpgnelihfaaPxMark
namespace Go.Proofs.Ytbfcdpgnelihfaa
open Go.RowKit
set_option linter.all false
theorem gaps_lift {l : LS} {wd : Int} (h : okSs l) (h0 : 0 < (gapsR l wd).length) : liftN ΨGaps [.row 0 1 0 l.length, .val (.int .i64 wd)] [(9, 1, l.map fun s => .val (.string s))] = some (.tup [.row 1 1 0 (gapsR l wd).length, .val (.bool (gapsB l wd))], [(9, 1, l.map fun s => .val (.string s)), (3, 1, (gapsR l wd).map fun n => .val (.int .i64 n))]) := by
  have hlp : 0 < (gapsI l wd).length := by simpa using h0
  refine liftN_of (cs := [(9, 1, l.map fun s => .val (.string s))]) (qs := [.lst false 1 (l.map fun s => .val (.string s)), .val (.int .i64 wd)]) (cs1 := [(3, 1, (gapsR l wd).map fun n => .val (.int .i64 n))]) (by
    rw [mapM_cons', reify_row rfl, Option.bind_some, mapM_cons', reify_val, Option.bind_some, mapM_nil']; rfl) ((ΨGaps_ap h).trans (by rw [nP_pos hlp, nC_pos hlp])) (by rw [List.length_map]; rfl) (by rw [mapM_cons', mapM_nil', renCT_vals]; rfl)
theorem gaps_lift0 {l : LS} {wd : Int} (h : okSs l) (h0 : gapsR l wd = []) : liftN ΨGaps [.row 0 1 0 l.length, .val (.int .i64 wd)] [(9, 1, l.map fun s => .val (.string s))] = some (.tup [.val (.slice none 0 0), .val (.bool (gapsB l wd))], [(9, 1, l.map fun s => .val (.string s))]) := by
  refine liftN_of (cs := [(9, 1, l.map fun s => .val (.string s))]) (qs := [.lst false 1 (l.map fun s => .val (.string s)), .val (.int .i64 wd)]) (cs1 := []) (r := .tup [.val (.slice none 0 0), .val (.bool (gapsB l wd))]) (cs0 := []) (by
    rw [mapM_cons', reify_row rfl, Option.bind_some, mapM_cons', reify_val, Option.bind_some, mapM_nil']; rfl) ((ΨGaps_ap h).trans (by unfold gapsI; rw [h0]; rfl)) rfl rfl
noncomputable def φLawTgE : Fun := F2 dSs dI fun l wd => if okSL l then some (bv true) else none
def φEqIn : Fun := nilF 1 φEqI
def φHeldIn : Fun := nilF 1 φHeldI
theorem φEqIn_ap {a b : List Int} (h : a.length ≤ 1048576) (h2 : b.length ≤ 1048576) : φEqIn [.lst false 1 (a.map fun n => .val (.int .i64 n)), .lst false 1 (b.map fun n => .val (.int .i64 n))] = some (.val (.bool (decide (a = b)))) := φEqI_ap h h2
theorem φEqIn_nil : φEqIn [.val (.slice none 0 0), .lst false 1 []] = some (.val (.bool true)) := φEqI_ap (a := []) (b := []) (by simp) (by simp)
theorem φHeldIn_ap {k : Int} {n : Nat} (hn : n ≤ 1048576) (hk : 0 < k) (hk2 : k ≤ 1099511627776) : φHeldIn [.lst false 1 ((marksI k n).map fun n => .val (.int .i64 n)), .val (.int .i64 k)] = some (.val (.int .i64 (k + n))) := φHeldI_ap hn hk hk2
theorem φHeldIn_nil : φHeldIn [.val (.slice none 0 0), .val (.int .i64 1)] = some (.val (.int .i64 1)) := φHeldI_ap (k := 1) (n := 0) (by simp) (by simp) (by simp)
theorem gapsR_len {l : LS} {wd : Int} : (gapsR l wd).length ≤ l.length := by
  unfold gapsR
  split
  · rw [gapsL_K]
    simp [gapsK]
  · simp
noncomputable def GTgE : Ctx := ⟨fun f => if f = 14 then some φSzS else if f = 15 then some φGaps else if f = 18 then some φEqIn else if f = 19 then some φEqS else if f = 22 then some φHeldIn else none, fun f => if f = 16 then some (liftN ΨToS) else if f = 17 then some (liftN ΨGaps) else if f = 20 then some ΦmarkS else if f = 21 then some ΦmarkI else none⟩
theorem GTgE_ok : SoundΓ Try.prog GTgE := ⟨(fun f φ h => by
  unfold GTgE at h
  dsimp only at h
  split at h
  · rename_i hf; cases h; subst hf; exact ⟨⟨_, Try.func14, rfl, rfl⟩, szStringS_ok⟩
  split at h
  · rename_i hf; cases h; subst hf; exact ⟨⟨_, Try.func15, rfl, rfl⟩, specTextGaps_ok⟩
  split at h
  · rename_i hf; cases h; subst hf; exact ⟨⟨_, Try.func18, rfl, rfl⟩, (eqIntS_ok.nil 1)⟩
  split at h
  · rename_i hf; cases h; subst hf; exact ⟨⟨_, Try.func19, rfl, rfl⟩, eqStringS_ok⟩
  split at h
  · rename_i hf; cases h; subst hf; exact ⟨⟨_, Try.func22, rfl, rfl⟩, (heldIntS_ok.nil 1)⟩
  cases h), (fun f φ h => by
  unfold GTgE at h
  dsimp only at h
  split at h
  · rename_i hf; cases h; subst hf; exact ⟨⟨_, Try.func16, rfl, rfl⟩, toStringSN.lift⟩
  split at h
  · rename_i hf; cases h; subst hf; exact ⟨⟨_, Try.func17, rfl, rfl⟩, implTextGapsN.lift⟩
  split at h
  · rename_i hf; cases h; subst hf; exact ⟨⟨_, Try.func20, rfl, rfl⟩, markS_io⟩
  split at h
  · rename_i hf; cases h; subst hf; exact ⟨⟨_, Try.func21, rfl, rfl⟩, markI_io⟩
  cases h)⟩
theorem GTgE_14 (ob : Objs) (ps : List PV) : evCall GTgE ob 14 ps = (ps.mapM (reify false 0 ob fuel)).bind φSzS := by
  have h : GTgE.fn 14 = some φSzS := by simp [GTgE]
  unfold evCall
  rw [h]
  cases ps.mapM (reify false 0 ob fuel) <;> rfl
theorem GTgE_15 (ob : Objs) (ps : List PV) : evCall GTgE ob 15 ps = (ps.mapM (reify false 0 ob fuel)).bind φGaps := by
  have h : GTgE.fn 15 = some φGaps := by simp [GTgE]
  unfold evCall
  rw [h]
  cases ps.mapM (reify false 0 ob fuel) <;> rfl
theorem GTgE_18 (ob : Objs) (ps : List PV) : evCall GTgE ob 18 ps = (ps.mapM (reify false 0 ob fuel)).bind φEqIn := by
  have h : GTgE.fn 18 = some φEqIn := by simp [GTgE]
  unfold evCall
  rw [h]
  cases ps.mapM (reify false 0 ob fuel) <;> rfl
theorem GTgE_19 (ob : Objs) (ps : List PV) : evCall GTgE ob 19 ps = (ps.mapM (reify false 0 ob fuel)).bind φEqS := by
  have h : GTgE.fn 19 = some φEqS := by simp [GTgE]
  unfold evCall
  rw [h]
  cases ps.mapM (reify false 0 ob fuel) <;> rfl
theorem GTgE_22 (ob : Objs) (ps : List PV) : evCall GTgE ob 22 ps = (ps.mapM (reify false 0 ob fuel)).bind φHeldIn := by
  have h : GTgE.fn 22 = some φHeldIn := by simp [GTgE]
  unfold evCall
  rw [h]
  cases ps.mapM (reify false 0 ob fuel) <;> rfl
theorem GTgE_16 : GTgE.io 16 = some (liftN ΨToS) := by simp [GTgE]
theorem GTgE_17 : GTgE.io 17 = some (liftN ΨGaps) := by simp [GTgE]
theorem GTgE_20 : GTgE.io 20 = some ΦmarkS := by simp [GTgE]
theorem GTgE_21 : GTgE.io 21 = some ΦmarkI := by simp [GTgE]
set_option maxHeartbeats 16000000 in
theorem lawTgE_ok : Sound Try.prog 4 φLawTgE := by
  refine sound_pq mixed GTgE_ok Try.func4 rfl 101 rfl [.tmp 4] rfl (by kernel_rfl) fun ps r hr => ?_
  obtain ⟨l, wd, rfl, hq⟩ := F2_some hr
  clear hr
  split at hq
  case isFalse => cases hq
  case isTrue hpre =>
  cases hq
  refine ⟨by simp, ?_⟩
  simp only [dIs, dUs, dSs, dI_e, dU_e, dB_e, dS_e, dFn_e, dL_e, dA2_e, dA3_e, dA4_e, dA5_e]
  have ap1 := φSzS_ap hpre (left := 1048576) (by omega) (by omega)
  by_cases hneg : szS 1048576 l < 0
  · have gtge_c14 := GTgE_14; have gtge_c16 := GTgE_16; have gtge_c15 := GTgE_15; have gtge_c17 := GTgE_17; have gtge_c18 := GTgE_18; have gtge_c19 := GTgE_19; have gtge_c20 := GTgE_20; have gtge_c21 := GTgE_21; have gtge_c22 := GTgE_22
    (repeat' (first | (with_reducible first | apply i_seq | apply i_block | apply i_skip | apply i_exit | apply i_ret | apply i_kS | apply i_kSx | apply i_kSr | apply i_kL | apply i_kLx | apply i_kLr | apply i_kB | apply i_kBr | apply i_kBs | apply i_nil) | ((with_reducible apply i_region); (focus (simp only [List.map_cons, List.map_nil] <;> exact rfl))) | ((with_reducible apply i_draw); (focus (simp only [List.map_cons, List.map_nil] <;> exact rfl)); (focus (decide +kernel))) | ((with_reducible apply i_kBo); (focus rfl)) | ((first | ((with_reducible apply i_V); (focus rfl); (focus rfl); (focus rfl)) | ((with_reducible apply i_E); (focus rfl); (focus (first | rfl | (simp only [push_cast, ↓reduceIte, effOk, touch, refsOf, List.flatMap_cons, List.flatMap_nil])))) | ((with_reducible apply i_S); (focus rfl); (focus (first | rfl | (simp only [push_cast, ↓reduceIte, effOk, touch, refsOf, List.flatMap_cons, List.flatMap_nil])))) | ((with_reducible apply i_Vq); (focus rfl); (focus rfl)) | ((with_reducible apply i_Vp); (focus rfl); (focus rfl); (focus rfl))); (focus (simp (disch := (first | omega | (simp only [push_cast]; done) | (simp only [push_cast]; omega) | ((try simp only [push_cast]); (with_reducible first | apply sel_lt | apply sel_ge); (focus decide); (focus (simp only [push_cast]; omega))))) only [push_cast, ↓reduceIte, Nat.reduceEqDiff, Nat.reduceBEq, Nat.reduceAdd, Nat.reduceSub, Int.reduceToNat, *] <;> with_reducible exact rfl))) | ((with_reducible first | apply i_Gb | apply i_cond); (focus (simp (disch := (first | omega | (simp only [push_cast]; done) | (simp only [push_cast]; omega) | ((try simp only [push_cast]); (with_reducible first | apply sel_lt | apply sel_ge); (focus decide); (focus (simp only [push_cast]; omega))))) only [push_cast, ↓reduceIte, Nat.reduceEqDiff, Nat.reduceBEq, Nat.reduceAdd, Nat.reduceSub, Int.reduceToNat, *] <;> with_reducible exact rfl)); all_goals (intro hX; first | (cases hX; done) | ((with_reducible first | have hX0 : true = true := hX | have hX0 : false = false := hX); clear hX0 hX) | ((try simp only [decide_eq_true_eq, decide_eq_false_iff_not, Bool.not_eq_true', Bool.not_eq_false'] at hX); (try have hXb := inB_iff.1 hX)))))); all_goals try (exfalso; omega)
    all_goals ((first | apply i_end | apply i_endN); simp (disch := (first | omega | (simp only [push_cast]; done) | (simp only [push_cast]; omega) | ((try simp only [push_cast]); (with_reducible first | apply sel_lt | apply sel_ge); (focus decide); (focus (simp only [push_cast]; omega))))) only [push_cast, ↓reduceIte, Nat.reduceEqDiff, Nat.reduceBEq, Nat.reduceAdd, Nat.reduceSub, Int.reduceToNat, *])
  have hok : okSs l := szS_ok (left := 1048576) (by omega) (by omega) (by omega)
  have ap2 := toS_lift hok.1
  have ap3 := φGaps_ap (wd := wd) hok
  have hlen := hok.1
  have hgl := gapsR_len (l := l) (wd := wd)
  have ap5 := φEqS_ap (a := l) (b := l) hok.1 hok.1
  have ap6 := markS_mk.1 l 1 hok.1 (by omega) (by omega)
  by_cases h0 : (gapsR l wd).length = 0
  · have e0 : gapsR l wd = [] := List.eq_nil_of_length_eq_zero h0
    have ap4 := gaps_lift0 (wd := wd) hok e0
    rw [e0] at ap3
    have ap7 := markI_mk.2 1
    have ap8 := φEqIn_nil
    have ap9 := φHeldIn_nil
    clear hpre hok e0 hgl
    have gtge_c14 := GTgE_14; have gtge_c16 := GTgE_16; have gtge_c15 := GTgE_15; have gtge_c17 := GTgE_17; have gtge_c18 := GTgE_18; have gtge_c19 := GTgE_19; have gtge_c20 := GTgE_20; have gtge_c21 := GTgE_21; have gtge_c22 := GTgE_22
    (repeat' (first | (with_reducible first | apply i_seq | apply i_block | apply i_skip | apply i_exit | apply i_ret | apply i_kS | apply i_kSx | apply i_kSr | apply i_kL | apply i_kLx | apply i_kLr | apply i_kB | apply i_kBr | apply i_kBs | apply i_nil) | ((with_reducible apply i_region); (focus (simp only [List.map_cons, List.map_nil] <;> exact rfl))) | ((with_reducible apply i_draw); (focus (simp only [List.map_cons, List.map_nil] <;> exact rfl)); (focus (decide +kernel))) | ((with_reducible apply i_kBo); (focus rfl)) | ((first | ((with_reducible apply i_V); (focus rfl); (focus rfl); (focus rfl)) | ((with_reducible apply i_E); (focus rfl); (focus (first | rfl | (simp only [push_cast, ↓reduceIte, effOk, touch, refsOf, List.flatMap_cons, List.flatMap_nil])))) | ((with_reducible apply i_S); (focus rfl); (focus (first | rfl | (simp only [push_cast, ↓reduceIte, effOk, touch, refsOf, List.flatMap_cons, List.flatMap_nil])))) | ((with_reducible apply i_Vq); (focus rfl); (focus rfl)) | ((with_reducible apply i_Vp); (focus rfl); (focus rfl); (focus rfl))); (focus (simp (disch := (first | omega | (simp only [push_cast]; done) | (simp only [push_cast]; omega) | ((try simp only [push_cast]); (with_reducible first | apply sel_lt | apply sel_ge); (focus decide); (focus (simp only [push_cast]; omega))))) only [push_cast, ↓reduceIte, Nat.reduceEqDiff, Nat.reduceBEq, Nat.reduceAdd, Nat.reduceSub, Int.reduceToNat, *] <;> with_reducible exact rfl))) | ((with_reducible first | apply i_Gb | apply i_cond); (focus (simp (disch := (first | omega | (simp only [push_cast]; done) | (simp only [push_cast]; omega) | ((try simp only [push_cast]); (with_reducible first | apply sel_lt | apply sel_ge); (focus decide); (focus (simp only [push_cast]; omega))))) only [push_cast, ↓reduceIte, Nat.reduceEqDiff, Nat.reduceBEq, Nat.reduceAdd, Nat.reduceSub, Int.reduceToNat, *] <;> with_reducible exact rfl)); all_goals (intro hX; first | (cases hX; done) | ((with_reducible first | have hX0 : true = true := hX | have hX0 : false = false := hX); clear hX0 hX) | ((try simp only [decide_eq_true_eq, decide_eq_false_iff_not, Bool.not_eq_true', Bool.not_eq_false'] at hX); (try have hXb := inB_iff.1 hX)))))); all_goals try (exfalso; omega)
    all_goals (first | (exfalso; omega) | ((first | apply i_end | apply i_endN); simp (disch := (first | omega | (simp only [push_cast]; done) | (simp only [push_cast]; omega) | ((try simp only [push_cast]); (with_reducible first | apply sel_lt | apply sel_ge); (focus decide); (focus (simp only [push_cast]; omega))))) only [push_cast, ↓reduceIte, Nat.reduceEqDiff, Nat.reduceBEq, Nat.reduceAdd, Nat.reduceSub, Int.reduceToNat, *]) | skip)
  · have ap4 := gaps_lift (wd := wd) hok (by omega)
    have ap7 := markI_mk.1 (gapsR l wd) 1 (by omega) (by omega) (by omega)
    have ap8 := φEqIn_ap (a := gapsR l wd) (b := gapsR l wd) (by omega) (by omega)
    have ap9 := φHeldIn_ap (k := 1) (n := (gapsR l wd).length) (by omega) (by omega) (by omega)
    clear hpre hok
    generalize gapsR l wd = x at *
    generalize gapsB l wd = b at *
    have hml := marksI_length 1 x.length
    have gtge_c14 := GTgE_14; have gtge_c16 := GTgE_16; have gtge_c15 := GTgE_15; have gtge_c17 := GTgE_17; have gtge_c18 := GTgE_18; have gtge_c19 := GTgE_19; have gtge_c20 := GTgE_20; have gtge_c21 := GTgE_21; have gtge_c22 := GTgE_22
    (repeat' (first | (with_reducible first | apply i_seq | apply i_block | apply i_skip | apply i_exit | apply i_ret | apply i_kS | apply i_kSx | apply i_kSr | apply i_kL | apply i_kLx | apply i_kLr | apply i_kB | apply i_kBr | apply i_kBs | apply i_nil) | ((with_reducible apply i_region); (focus (simp only [List.map_cons, List.map_nil] <;> exact rfl))) | ((with_reducible apply i_draw); (focus (simp only [List.map_cons, List.map_nil] <;> exact rfl)); (focus (decide +kernel))) | ((with_reducible apply i_kBo); (focus rfl)) | ((first | ((with_reducible apply i_V); (focus rfl); (focus rfl); (focus rfl)) | ((with_reducible apply i_E); (focus rfl); (focus (first | rfl | (simp only [push_cast, ↓reduceIte, effOk, touch, refsOf, List.flatMap_cons, List.flatMap_nil])))) | ((with_reducible apply i_S); (focus rfl); (focus (first | rfl | (simp only [push_cast, ↓reduceIte, effOk, touch, refsOf, List.flatMap_cons, List.flatMap_nil])))) | ((with_reducible apply i_Vq); (focus rfl); (focus rfl)) | ((with_reducible apply i_Vp); (focus rfl); (focus rfl); (focus rfl))); (focus (simp (disch := (first | omega | (simp only [push_cast]; done) | (simp only [push_cast]; omega) | ((try simp only [push_cast]); (with_reducible first | apply sel_lt | apply sel_ge); (focus decide); (focus (simp only [push_cast]; omega))))) only [push_cast, ↓reduceIte, Nat.reduceEqDiff, Nat.reduceBEq, Nat.reduceAdd, Nat.reduceSub, Int.reduceToNat, *] <;> with_reducible exact rfl))) | ((with_reducible first | apply i_Gb | apply i_cond); (focus (simp (disch := (first | omega | (simp only [push_cast]; done) | (simp only [push_cast]; omega) | ((try simp only [push_cast]); (with_reducible first | apply sel_lt | apply sel_ge); (focus decide); (focus (simp only [push_cast]; omega))))) only [push_cast, ↓reduceIte, Nat.reduceEqDiff, Nat.reduceBEq, Nat.reduceAdd, Nat.reduceSub, Int.reduceToNat, *] <;> with_reducible exact rfl)); all_goals (intro hX; first | (cases hX; done) | ((with_reducible first | have hX0 : true = true := hX | have hX0 : false = false := hX); clear hX0 hX) | ((try simp only [decide_eq_true_eq, decide_eq_false_iff_not, Bool.not_eq_true', Bool.not_eq_false'] at hX); (try have hXb := inB_iff.1 hX)))))); all_goals try (exfalso; omega)
    all_goals (first | (exfalso; omega) | ((first | apply i_end | apply i_endN); simp (disch := (first | omega | (simp only [push_cast]; done) | (simp only [push_cast]; omega) | ((try simp only [push_cast]); (with_reducible first | apply sel_lt | apply sel_ge); (focus decide); (focus (simp only [push_cast]; omega))))) only [push_cast, ↓reduceIte, Nat.reduceEqDiff, Nat.reduceBEq, Nat.reduceAdd, Nat.reduceSub, Int.reduceToNat, *]) | skip)
end Go.Proofs.Ytbfcdpgnelihfaa
