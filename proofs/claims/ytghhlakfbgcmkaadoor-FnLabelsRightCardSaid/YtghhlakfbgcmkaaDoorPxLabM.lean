/- Labels: the exact statements of SettleLabels and LabelsRight. -/
import Derived.Test.YtghhlakfbgcmkaaDoorPxLabL
namespace Go.Proofs.YtghhlakfbgcmkaaDoor
open Go.RowKit
set_option linter.all false
theorem setlR_len {l : List I3} {many : Int} : ∀ {n : Nat} {p : Int} {kn : List Int}, labOk l many kn = true → labOk l many (setlR l many n p kn).1 = true ∧ ((setlR l many n p kn).2.2 = true → (labRun l many (setlR l many n p kn).1).1 = (setlR l many n p kn).1 ∧ p ≤ (setlR l many n p kn).2.1) ∧ ((setlR l many n p kn).2.2 = false → (setlR l many n p kn).2.1 = p + n - 1) ∧ (setlR l many n p kn).2.1 ≤ p + n - 1
  | 0, p, kn, h => by
    have e : setlR l many 0 p kn = (kn, p - 1, false) := rfl
    rw [e]
    refine ⟨h, fun e => (by cases e), fun _ => ?_, ?_⟩ <;> (dsimp only; omega)
  | n + 1, p, kn, h => by
    unfold setlR
    split
    · rename_i he
      refine ⟨labOk_next h, fun _ => ⟨by dsimp only; rw [he, he], by dsimp only; omega⟩, fun e => (by cases e), ?_⟩
      dsimp only
      omega
    · have ih := setlR_len (n := n) (p := p + 1) (labOk_next h)
      obtain ⟨h1, h2, h3, h4⟩ := ih
      exact ⟨h1, fun e => ⟨(h2 e).1, by have := (h2 e).2; omega⟩, fun e => by rw [h3 e]; omega, by omega⟩
theorem setl_yes {l : List I3} {many : Int} (h : labOk l many zeros10 = true) : setl l many = setlR l many 50 1 zeros10 := if_pos h
theorem setl_no {l : List I3} {many : Int} (h : labOk l many zeros10 = false) : setl l many = ([], 0, false) := if_neg (by simp [h])
theorem setl_len {l : List I3} {many : Int} (h : labOk l many zeros10 = true) : (setl l many).1.length = 10 := by
  rw [setl_yes h]
  exact (labOk_iff.1 (setlR_len h).1).2.2.1
theorem setl_lift1 {l : List I3} {many : Int} (h : okPcs l) (hO : labOk l many zeros10 = true) : liftN ΨSetl [.row 0 3 0 l.length, .val (.int .i64 many)] [(40, 3, l.map fun x => .agg [.val (.int .i64 x.1), .val (.int .i64 x.2.1), .val (.int .i64 x.2.2)])] =
    some (.tup [.row 1 1 0 10, .val (.int .i64 (setl l many).2.1), .val (.bool (setl l many).2.2)], [(40, 3, l.map fun x => .agg [.val (.int .i64 x.1), .val (.int .i64 x.2.1), .val (.int .i64 x.2.2)]), (3, 1, (setl l many).1.map fun n => .val (.int .i64 n))]) := by
  refine (liftN_of (qs := [.lst false 3 (l.map fun x => .agg [.val (.int .i64 x.1), .val (.int .i64 x.2.1), .val (.int .i64 x.2.2)]), .val (.int .i64 many)]) (by
    simp only [mapM_cons', mapM_nil', reify_fuel, reifyS_row, reifyS_val, List.getElem?_cons_zero, List.getElem?_cons_succ, Bool.false_eq_true, false_and, if_false, rowRe_a3, rowRe_vals, Option.bind_some, Option.map_some]) ((G2_ap (A := dPcs) (B := dI) l many).trans ((if_pos h).trans (by rw [if_pos hO]))) rfl (by rw [mapM_cons', mapM_nil', renCT_vals]; rfl)).trans ?_
  rfl
theorem setl_lift1n {l : List I3} {many : Int} (h : okPcs l) (hO : labOk l many zeros10 = false) : liftN ΨSetl [.row 0 3 0 l.length, .val (.int .i64 many)] [(40, 3, l.map fun x => .agg [.val (.int .i64 x.1), .val (.int .i64 x.2.1), .val (.int .i64 x.2.2)])] =
    some (.tup [.val (.slice none 0 0), .val (.int .i64 0), .val (.bool false)], [(40, 3, l.map fun x => .agg [.val (.int .i64 x.1), .val (.int .i64 x.2.1), .val (.int .i64 x.2.2)])]) := by
  refine (liftN_of (cs1 := []) (qs := [.lst false 3 (l.map fun x => .agg [.val (.int .i64 x.1), .val (.int .i64 x.2.1), .val (.int .i64 x.2.2)]), .val (.int .i64 many)]) (by
    simp only [mapM_cons', mapM_nil', reify_fuel, reifyS_row, reifyS_val, List.getElem?_cons_zero, List.getElem?_cons_succ, Bool.false_eq_true, false_and, if_false, rowRe_a3, rowRe_vals, Option.bind_some, Option.map_some]) ((G2_ap (A := dPcs) (B := dI) l many).trans ((if_pos h).trans (by rw [if_neg (by simp [hO])]))) rfl rfl).trans ?_
  rfl
noncomputable def φLawSetlE : Fun := F2 dPcs dI fun l many => if okL (fun q : I3 => okI q.1 ∧ okI q.2.1 ∧ okI q.2.2) l then some (bv true) else none
noncomputable def GSeE : Ctx := ⟨fun f => if f = 10 then some φSzPcs else if f = 23 then some φSetl else if f = 15 then some φEqIn else if f = 16 then some φEqPcs else if f = 19 then some φHeldIn else none, fun f => if f = 12 then some (liftN ΨToPc) else if f = 24 then some (liftN ΨSetl) else if f = 17 then some ΦmarkPc else if f = 18 then some ΦmarkI else none⟩
theorem GSeE_ok : SoundΓ Tryd.prog GSeE := ⟨(fun f φ h => by
  unfold GSeE at h
  dsimp only at h
  split at h
  · rename_i hf; cases h; subst hf; exact ⟨⟨_, Tryd.func10, rfl, rfl⟩, szPieceS_ok⟩
  split at h
  · rename_i hf; cases h; subst hf; exact ⟨⟨_, Tryd.func23, rfl, rfl⟩, specSetl_ok⟩
  split at h
  · rename_i hf; cases h; subst hf; exact ⟨⟨_, Tryd.func15, rfl, rfl⟩, (eqIntS_ok.nil 1)⟩
  split at h
  · rename_i hf; cases h; subst hf; exact ⟨⟨_, Tryd.func16, rfl, rfl⟩, eqPieceS_ok⟩
  split at h
  · rename_i hf; cases h; subst hf; exact ⟨⟨_, Tryd.func19, rfl, rfl⟩, (heldIntS_ok.nil 1)⟩
  cases h), (fun f φ h => by
  unfold GSeE at h
  dsimp only at h
  split at h
  · rename_i hf; cases h; subst hf; exact ⟨⟨_, Tryd.func12, rfl, rfl⟩, toPieceSN.lift⟩
  split at h
  · rename_i hf; cases h; subst hf; exact ⟨⟨_, Tryd.func24, rfl, rfl⟩, implSetlN.lift⟩
  split at h
  · rename_i hf; cases h; subst hf; exact ⟨⟨_, Tryd.func17, rfl, rfl⟩, markPc_io⟩
  split at h
  · rename_i hf; cases h; subst hf; exact ⟨⟨_, Tryd.func18, rfl, rfl⟩, markI_io⟩
  cases h)⟩
theorem GSeE_10 (ob : Objs) (ps : List PV) : evCall GSeE ob 10 ps = (ps.mapM (reify false 0 ob fuel)).bind φSzPcs := by
  have h : GSeE.fn 10 = some φSzPcs := by simp [GSeE]
  unfold evCall
  rw [h]
  cases ps.mapM (reify false 0 ob fuel) <;> rfl
theorem GSeE_23 (ob : Objs) (ps : List PV) : evCall GSeE ob 23 ps = (ps.mapM (reify false 0 ob fuel)).bind φSetl := by
  have h : GSeE.fn 23 = some φSetl := by simp [GSeE]
  unfold evCall
  rw [h]
  cases ps.mapM (reify false 0 ob fuel) <;> rfl
theorem GSeE_15 (ob : Objs) (ps : List PV) : evCall GSeE ob 15 ps = (ps.mapM (reify false 0 ob fuel)).bind φEqIn := by
  have h : GSeE.fn 15 = some φEqIn := by simp [GSeE]
  unfold evCall
  rw [h]
  cases ps.mapM (reify false 0 ob fuel) <;> rfl
theorem GSeE_16 (ob : Objs) (ps : List PV) : evCall GSeE ob 16 ps = (ps.mapM (reify false 0 ob fuel)).bind φEqPcs := by
  have h : GSeE.fn 16 = some φEqPcs := by simp [GSeE]
  unfold evCall
  rw [h]
  cases ps.mapM (reify false 0 ob fuel) <;> rfl
theorem GSeE_19 (ob : Objs) (ps : List PV) : evCall GSeE ob 19 ps = (ps.mapM (reify false 0 ob fuel)).bind φHeldIn := by
  have h : GSeE.fn 19 = some φHeldIn := by simp [GSeE]
  unfold evCall
  rw [h]
  cases ps.mapM (reify false 0 ob fuel) <;> rfl
theorem GSeE_12 : GSeE.io 12 = some (liftN ΨToPc) := by simp [GSeE]
theorem GSeE_24 : GSeE.io 24 = some (liftN ΨSetl) := by simp [GSeE]
theorem GSeE_17 : GSeE.io 17 = some ΦmarkPc := by simp [GSeE]
theorem GSeE_18 : GSeE.io 18 = some ΦmarkI := by simp [GSeE]
set_option maxHeartbeats 16000000 in
theorem lawSetlE_ok : Sound Tryd.prog 5 φLawSetlE := by
  refine sound_pq mixed GSeE_ok Tryd.func5 rfl 122 rfl [.tmp 4] rfl (by kernel_rfl) fun ps r hr => ?_
  obtain ⟨l, many, rfl, hq⟩ := F2_some hr
  clear hr
  split at hq
  case isFalse => cases hq
  case isTrue hpre =>
  cases hq
  refine ⟨by simp, ?_⟩
  simp only [dIs, dUs, dSs, dI_e, dU_e, dB_e, dS_e, dFn_e, dL_e, dA2_e, dA3_e, dA4_e, dA5_e]
  obtain ⟨hlen, hoI⟩ := hpre
  have ap1 := φSzPcs_ap hlen
  by_cases hl : l.length ≤ 1048576
  · have e1 : lessLen 1048576 l.length = 1048576 - l.length := by unfold lessLen; split <;> omega
    rw [e1] at ap1
    have ap2 := toPc_lift hl
    have ap4 := φSetl_ap (many := many) ⟨hl, hoI⟩
    have ap5 := φEqPcs_ap (a := l) (b := l) hl hl
    have ap7 := markPc_ap l 1 hl (by omega) (by omega)
    cases hO : labOk l many zeros10 with
    | false =>
      have ap9 := setl_lift1n ⟨hl, hoI⟩ hO
      rw [setl_no hO] at ap4
      have ap10 := φEqIn_nil
      have ap11 := markI_mk.2 1
      have ap12 := φHeldIn_nil
      clear hO hoI
      have gsee_c10 := GSeE_10; have gsee_c12 := GSeE_12; have gsee_c23 := GSeE_23; have gsee_c24 := GSeE_24; have gsee_c15 := GSeE_15; have gsee_c16 := GSeE_16; have gsee_c17 := GSeE_17; have gsee_c18 := GSeE_18; have gsee_c19 := GSeE_19
      (repeat' (first | (with_reducible first | apply i_seq | apply i_block | apply i_skip | apply i_exit | apply i_ret | apply i_kS | apply i_kSx | apply i_kSr | apply i_kL | apply i_kLx | apply i_kLr | apply i_kB | apply i_kBr | apply i_kBs | apply i_nil) | ((with_reducible apply i_region); (focus (simp only [List.map_cons, List.map_nil] <;> exact rfl))) | ((with_reducible apply i_draw); (focus (simp only [List.map_cons, List.map_nil] <;> exact rfl)); (focus (decide +kernel))) | ((with_reducible apply i_kBo); (focus rfl)) | ((first | ((with_reducible apply i_V); (focus rfl); (focus rfl); (focus rfl)) | ((with_reducible apply i_E); (focus rfl); (focus (first | rfl | (simp only [push_cast, ↓reduceIte, effOk, touch, refsOf, List.flatMap_cons, List.flatMap_nil])))) | ((with_reducible apply i_S); (focus rfl); (focus (first | rfl | (simp only [push_cast, ↓reduceIte, effOk, touch, refsOf, List.flatMap_cons, List.flatMap_nil])))) | ((with_reducible apply i_Vq); (focus rfl); (focus rfl)) | ((with_reducible apply i_Vp); (focus rfl); (focus rfl); (focus rfl))); (focus (simp (disch := (first | omega | (simp only [push_cast]; done) | (simp only [push_cast]; omega) | ((try simp only [push_cast]); (with_reducible first | apply sel_lt | apply sel_ge); (focus decide); (focus (simp only [push_cast]; omega))))) only [push_cast, ↓reduceIte, Nat.reduceEqDiff, Nat.reduceBEq, Nat.reduceAdd, Nat.reduceSub, Int.reduceToNat, *] <;> with_reducible exact rfl))) | ((with_reducible first | apply i_Gb | apply i_cond); (focus (simp (disch := (first | omega | (simp only [push_cast]; done) | (simp only [push_cast]; omega) | ((try simp only [push_cast]); (with_reducible first | apply sel_lt | apply sel_ge); (focus decide); (focus (simp only [push_cast]; omega))))) only [push_cast, ↓reduceIte, Nat.reduceEqDiff, Nat.reduceBEq, Nat.reduceAdd, Nat.reduceSub, Int.reduceToNat, *] <;> with_reducible exact rfl)); all_goals (intro hX; first | (cases hX; done) | ((with_reducible first | have hX0 : true = true := hX | have hX0 : false = false := hX); clear hX0 hX) | ((try simp only [decide_eq_true_eq, decide_eq_false_iff_not, Bool.not_eq_true', Bool.not_eq_false'] at hX); (try have hXb := inB_iff.1 hX)))))); all_goals try (exfalso; omega)
      all_goals (first | (exfalso; omega) | ((first | apply i_end | apply i_endN); simp (disch := (first | omega | (simp only [push_cast]; done) | (simp only [push_cast]; omega) | ((try simp only [push_cast]); (with_reducible first | apply sel_lt | apply sel_ge); (focus decide); (focus (simp only [push_cast]; omega))))) only [push_cast, ↓reduceIte, Nat.reduceEqDiff, Nat.reduceBEq, Nat.reduceAdd, Nat.reduceSub, Int.reduceToNat, *]) | skip)
    | true =>
      have ap9 := setl_lift1 ⟨hl, hoI⟩ hO
      have h10 : (setl l many).1.length = 10 := setl_len hO
      generalize setl l many = R at *
      obtain ⟨nx, p, b⟩ := R
      dsimp only at h10 ap4 ap9
      have ap10 := φEqIn_ap (a := nx) (b := nx) (by omega) (by omega)
      have ap11 := markI_mk.1 nx 1 (by omega) (by omega) (by omega)
      rw [h10] at ap11
      have ap12 := φHeldIn_ap (k := 1) (n := 10) (by omega) (by omega) (by omega)
      have hml := marksI_length 1 10
      clear hO hoI
      cases b <;>
      · have gsee_c10 := GSeE_10; have gsee_c12 := GSeE_12; have gsee_c23 := GSeE_23; have gsee_c24 := GSeE_24; have gsee_c15 := GSeE_15; have gsee_c16 := GSeE_16; have gsee_c17 := GSeE_17; have gsee_c18 := GSeE_18; have gsee_c19 := GSeE_19
        (repeat' (first | (with_reducible first | apply i_seq | apply i_block | apply i_skip | apply i_exit | apply i_ret | apply i_kS | apply i_kSx | apply i_kSr | apply i_kL | apply i_kLx | apply i_kLr | apply i_kB | apply i_kBr | apply i_kBs | apply i_nil) | ((with_reducible apply i_region); (focus (simp only [List.map_cons, List.map_nil] <;> exact rfl))) | ((with_reducible apply i_draw); (focus (simp only [List.map_cons, List.map_nil] <;> exact rfl)); (focus (decide +kernel))) | ((with_reducible apply i_kBo); (focus rfl)) | ((first | ((with_reducible apply i_V); (focus rfl); (focus rfl); (focus rfl)) | ((with_reducible apply i_E); (focus rfl); (focus (first | rfl | (simp only [push_cast, ↓reduceIte, effOk, touch, refsOf, List.flatMap_cons, List.flatMap_nil])))) | ((with_reducible apply i_S); (focus rfl); (focus (first | rfl | (simp only [push_cast, ↓reduceIte, effOk, touch, refsOf, List.flatMap_cons, List.flatMap_nil])))) | ((with_reducible apply i_Vq); (focus rfl); (focus rfl)) | ((with_reducible apply i_Vp); (focus rfl); (focus rfl); (focus rfl))); (focus (simp (disch := (first | omega | (simp only [push_cast]; done) | (simp only [push_cast]; omega) | ((try simp only [push_cast]); (with_reducible first | apply sel_lt | apply sel_ge); (focus decide); (focus (simp only [push_cast]; omega))))) only [push_cast, ↓reduceIte, Nat.reduceEqDiff, Nat.reduceBEq, Nat.reduceAdd, Nat.reduceSub, Int.reduceToNat, *] <;> with_reducible exact rfl))) | ((with_reducible first | apply i_Gb | apply i_cond); (focus (simp (disch := (first | omega | (simp only [push_cast]; done) | (simp only [push_cast]; omega) | ((try simp only [push_cast]); (with_reducible first | apply sel_lt | apply sel_ge); (focus decide); (focus (simp only [push_cast]; omega))))) only [push_cast, ↓reduceIte, Nat.reduceEqDiff, Nat.reduceBEq, Nat.reduceAdd, Nat.reduceSub, Int.reduceToNat, *] <;> with_reducible exact rfl)); all_goals (intro hX; first | (cases hX; done) | ((with_reducible first | have hX0 : true = true := hX | have hX0 : false = false := hX); clear hX0 hX) | ((try simp only [decide_eq_true_eq, decide_eq_false_iff_not, Bool.not_eq_true', Bool.not_eq_false'] at hX); (try have hXb := inB_iff.1 hX)))))); all_goals try (exfalso; omega)
        all_goals (first | (exfalso; omega) | ((first | apply i_end | apply i_endN); simp (disch := (first | omega | (simp only [push_cast]; done) | (simp only [push_cast]; omega) | ((try simp only [push_cast]); (with_reducible first | apply sel_lt | apply sel_ge); (focus decide); (focus (simp only [push_cast]; omega))))) only [push_cast, ↓reduceIte, Nat.reduceEqDiff, Nat.reduceBEq, Nat.reduceAdd, Nat.reduceSub, Int.reduceToNat, *]) | skip)
  · have e1 : lessLen 1048576 l.length = -1 := by unfold lessLen; split <;> omega
    rw [e1] at ap1
    clear hoI
    have gsee_c10 := GSeE_10; have gsee_c12 := GSeE_12; have gsee_c23 := GSeE_23; have gsee_c24 := GSeE_24; have gsee_c15 := GSeE_15; have gsee_c16 := GSeE_16; have gsee_c17 := GSeE_17; have gsee_c18 := GSeE_18; have gsee_c19 := GSeE_19
    (repeat' (first | (with_reducible first | apply i_seq | apply i_block | apply i_skip | apply i_exit | apply i_ret | apply i_kS | apply i_kSx | apply i_kSr | apply i_kL | apply i_kLx | apply i_kLr | apply i_kB | apply i_kBr | apply i_kBs | apply i_nil) | ((with_reducible apply i_region); (focus (simp only [List.map_cons, List.map_nil] <;> exact rfl))) | ((with_reducible apply i_draw); (focus (simp only [List.map_cons, List.map_nil] <;> exact rfl)); (focus (decide +kernel))) | ((with_reducible apply i_kBo); (focus rfl)) | ((first | ((with_reducible apply i_V); (focus rfl); (focus rfl); (focus rfl)) | ((with_reducible apply i_E); (focus rfl); (focus (first | rfl | (simp only [push_cast, ↓reduceIte, effOk, touch, refsOf, List.flatMap_cons, List.flatMap_nil])))) | ((with_reducible apply i_S); (focus rfl); (focus (first | rfl | (simp only [push_cast, ↓reduceIte, effOk, touch, refsOf, List.flatMap_cons, List.flatMap_nil])))) | ((with_reducible apply i_Vq); (focus rfl); (focus rfl)) | ((with_reducible apply i_Vp); (focus rfl); (focus rfl); (focus rfl))); (focus (simp (disch := (first | omega | (simp only [push_cast]; done) | (simp only [push_cast]; omega) | ((try simp only [push_cast]); (with_reducible first | apply sel_lt | apply sel_ge); (focus decide); (focus (simp only [push_cast]; omega))))) only [push_cast, ↓reduceIte, Nat.reduceEqDiff, Nat.reduceBEq, Nat.reduceAdd, Nat.reduceSub, Int.reduceToNat, *] <;> with_reducible exact rfl))) | ((with_reducible first | apply i_Gb | apply i_cond); (focus (simp (disch := (first | omega | (simp only [push_cast]; done) | (simp only [push_cast]; omega) | ((try simp only [push_cast]); (with_reducible first | apply sel_lt | apply sel_ge); (focus decide); (focus (simp only [push_cast]; omega))))) only [push_cast, ↓reduceIte, Nat.reduceEqDiff, Nat.reduceBEq, Nat.reduceAdd, Nat.reduceSub, Int.reduceToNat, *] <;> with_reducible exact rfl)); all_goals (intro hX; first | (cases hX; done) | ((with_reducible first | have hX0 : true = true := hX | have hX0 : false = false := hX); clear hX0 hX) | ((try simp only [decide_eq_true_eq, decide_eq_false_iff_not, Bool.not_eq_true', Bool.not_eq_false'] at hX); (try have hXb := inB_iff.1 hX)))))); all_goals try (exfalso; omega)
    all_goals (first | (exfalso; omega) | ((first | apply i_end | apply i_endN); simp (disch := (first | omega | (simp only [push_cast]; done) | (simp only [push_cast]; omega) | ((try simp only [push_cast]); (with_reducible first | apply sel_lt | apply sel_ge); (focus decide); (focus (simp only [push_cast]; omega))))) only [push_cast, ↓reduceIte, Nat.reduceEqDiff, Nat.reduceBEq, Nat.reduceAdd, Nat.reduceSub, Int.reduceToNat, *]) | skip)
noncomputable def φLawLabRE : Fun := F3 dPcs dI dIs fun l many kn => if okL (fun q : I3 => okI q.1 ∧ okI q.2.1 ∧ okI q.2.2) l ∧ okL okI kn then some (bv true) else none
noncomputable def GLrE : Ctx := ⟨fun f => if f = 10 then some φSzPcs else if f = 28 then some φLabR else if f = 26 then some φLabR else if f = 15 then some φEqIn else if f = 16 then some φEqPcs else none, fun f => if f = 12 then some (liftN ΨToPc) else if f = 13 then some (liftN ΨToI) else none⟩
theorem GLrE_ok : SoundΓ Tryd.prog GLrE := ⟨(fun f φ h => by
  unfold GLrE at h
  dsimp only at h
  split at h
  · rename_i hf; cases h; subst hf; exact ⟨⟨_, Tryd.func10, rfl, rfl⟩, szPieceS_ok⟩
  split at h
  · rename_i hf; cases h; subst hf; exact ⟨⟨_, Tryd.func28, rfl, rfl⟩, specLabR_ok⟩
  split at h
  · rename_i hf; cases h; subst hf; exact ⟨⟨_, Tryd.func26, rfl, rfl⟩, implLabR_ok⟩
  split at h
  · rename_i hf; cases h; subst hf; exact ⟨⟨_, Tryd.func15, rfl, rfl⟩, (eqIntS_ok.nil 1)⟩
  split at h
  · rename_i hf; cases h; subst hf; exact ⟨⟨_, Tryd.func16, rfl, rfl⟩, eqPieceS_ok⟩
  cases h), (fun f φ h => by
  unfold GLrE at h
  dsimp only at h
  split at h
  · rename_i hf; cases h; subst hf; exact ⟨⟨_, Tryd.func12, rfl, rfl⟩, toPieceSN.lift⟩
  split at h
  · rename_i hf; cases h; subst hf; exact ⟨⟨_, Tryd.func13, rfl, rfl⟩, toIntSN.lift⟩
  cases h)⟩
theorem GLrE_10 (ob : Objs) (ps : List PV) : evCall GLrE ob 10 ps = (ps.mapM (reify false 0 ob fuel)).bind φSzPcs := by
  have h : GLrE.fn 10 = some φSzPcs := by simp [GLrE]
  unfold evCall
  rw [h]
  cases ps.mapM (reify false 0 ob fuel) <;> rfl
theorem GLrE_28 (ob : Objs) (ps : List PV) : evCall GLrE ob 28 ps = (ps.mapM (reify false 0 ob fuel)).bind φLabR := by
  have h : GLrE.fn 28 = some φLabR := by simp [GLrE]
  unfold evCall
  rw [h]
  cases ps.mapM (reify false 0 ob fuel) <;> rfl
theorem GLrE_26 (ob : Objs) (ps : List PV) : evCall GLrE ob 26 ps = (ps.mapM (reify false 0 ob fuel)).bind φLabR := by
  have h : GLrE.fn 26 = some φLabR := by simp [GLrE]
  unfold evCall
  rw [h]
  cases ps.mapM (reify false 0 ob fuel) <;> rfl
theorem GLrE_15 (ob : Objs) (ps : List PV) : evCall GLrE ob 15 ps = (ps.mapM (reify false 0 ob fuel)).bind φEqIn := by
  have h : GLrE.fn 15 = some φEqIn := by simp [GLrE]
  unfold evCall
  rw [h]
  cases ps.mapM (reify false 0 ob fuel) <;> rfl
theorem GLrE_16 (ob : Objs) (ps : List PV) : evCall GLrE ob 16 ps = (ps.mapM (reify false 0 ob fuel)).bind φEqPcs := by
  have h : GLrE.fn 16 = some φEqPcs := by simp [GLrE]
  unfold evCall
  rw [h]
  cases ps.mapM (reify false 0 ob fuel) <;> rfl
theorem GLrE_12 : GLrE.io 12 = some (liftN ΨToPc) := by simp [GLrE]
theorem GLrE_13 : GLrE.io 13 = some (liftN ΨToI) := by simp [GLrE]
set_option maxHeartbeats 16000000 in
theorem lawLabRE_ok : Sound Tryd.prog 9 φLawLabRE := by
  refine sound_pq mixed GLrE_ok Tryd.func9 rfl 47 rfl [.tmp 6] rfl (by kernel_rfl) fun ps r hr => ?_
  obtain ⟨l, many, kn, rfl, hq⟩ := F3_some hr
  clear hr
  split at hq
  case isFalse => cases hq
  case isTrue hpre =>
  cases hq
  refine ⟨by simp, ?_⟩
  simp only [dIs, dUs, dSs, dI_e, dU_e, dB_e, dS_e, dFn_e, dL_e, dA2_e, dA3_e, dA4_e, dA5_e]
  obtain ⟨⟨hlen, hoI⟩, hkn, -⟩ := hpre
  by_cases hk : kn.length ≤ 1048576
  · have ap1 := φSzPcs_ap hlen
    by_cases hl : l.length ≤ 1048576
    · have e1 : lessLen 1048576 l.length = 1048576 - l.length := by unfold lessLen; split <;> omega
      rw [e1] at ap1
      have ap2 := toPc_lift hl
      have ap3 := toI_lift hk
      have ap4 := φLabR_ap (many := many) (kn := kn) ⟨hl, hoI⟩ hk
      have ap5 := φEqPcs_ap (a := l) (b := l) hl hl
      have ap6 := φEqIn_ap (a := kn) (b := kn) hk hk
      clear hoI
      generalize labR l many kn = b at *
      cases b <;>
      · have glre_c10 := GLrE_10; have glre_c12 := GLrE_12; have glre_c13 := GLrE_13; have glre_c28 := GLrE_28; have glre_c26 := GLrE_26; have glre_c15 := GLrE_15; have glre_c16 := GLrE_16
        (repeat' (first | (with_reducible first | apply i_seq | apply i_block | apply i_skip | apply i_exit | apply i_ret | apply i_kS | apply i_kSx | apply i_kSr | apply i_kL | apply i_kLx | apply i_kLr | apply i_kB | apply i_kBr | apply i_kBs | apply i_nil) | ((with_reducible apply i_region); (focus (simp only [List.map_cons, List.map_nil] <;> exact rfl))) | ((with_reducible apply i_draw); (focus (simp only [List.map_cons, List.map_nil] <;> exact rfl)); (focus (decide +kernel))) | ((with_reducible apply i_kBo); (focus rfl)) | ((first | ((with_reducible apply i_V); (focus rfl); (focus rfl); (focus rfl)) | ((with_reducible apply i_E); (focus rfl); (focus (first | rfl | (simp only [push_cast, ↓reduceIte, effOk, touch, refsOf, List.flatMap_cons, List.flatMap_nil])))) | ((with_reducible apply i_S); (focus rfl); (focus (first | rfl | (simp only [push_cast, ↓reduceIte, effOk, touch, refsOf, List.flatMap_cons, List.flatMap_nil])))) | ((with_reducible apply i_Vq); (focus rfl); (focus rfl)) | ((with_reducible apply i_Vp); (focus rfl); (focus rfl); (focus rfl))); (focus (simp (disch := (first | omega | (simp only [push_cast]; done) | (simp only [push_cast]; omega) | ((try simp only [push_cast]); (with_reducible first | apply sel_lt | apply sel_ge); (focus decide); (focus (simp only [push_cast]; omega))))) only [push_cast, ↓reduceIte, Nat.reduceEqDiff, Nat.reduceBEq, Nat.reduceAdd, Nat.reduceSub, Int.reduceToNat, *] <;> with_reducible exact rfl))) | ((with_reducible first | apply i_Gb | apply i_cond); (focus (simp (disch := (first | omega | (simp only [push_cast]; done) | (simp only [push_cast]; omega) | ((try simp only [push_cast]); (with_reducible first | apply sel_lt | apply sel_ge); (focus decide); (focus (simp only [push_cast]; omega))))) only [push_cast, ↓reduceIte, Nat.reduceEqDiff, Nat.reduceBEq, Nat.reduceAdd, Nat.reduceSub, Int.reduceToNat, *] <;> with_reducible exact rfl)); all_goals (intro hX; first | (cases hX; done) | ((with_reducible first | have hX0 : true = true := hX | have hX0 : false = false := hX); clear hX0 hX) | ((try simp only [decide_eq_true_eq, decide_eq_false_iff_not, Bool.not_eq_true', Bool.not_eq_false'] at hX); (try have hXb := inB_iff.1 hX)))))); all_goals try (exfalso; omega)
        all_goals (first | (exfalso; omega) | ((first | apply i_end | apply i_endN); simp (disch := (first | omega | (simp only [push_cast]; done) | (simp only [push_cast]; omega) | ((try simp only [push_cast]); (with_reducible first | apply sel_lt | apply sel_ge); (focus decide); (focus (simp only [push_cast]; omega))))) only [push_cast, ↓reduceIte, Nat.reduceEqDiff, Nat.reduceBEq, Nat.reduceAdd, Nat.reduceSub, Int.reduceToNat, *]) | skip)
    · have e1 : lessLen 1048576 l.length = -1 := by unfold lessLen; split <;> omega
      rw [e1] at ap1
      clear hoI
      have glre_c10 := GLrE_10; have glre_c12 := GLrE_12; have glre_c13 := GLrE_13; have glre_c28 := GLrE_28; have glre_c26 := GLrE_26; have glre_c15 := GLrE_15; have glre_c16 := GLrE_16
      (repeat' (first | (with_reducible first | apply i_seq | apply i_block | apply i_skip | apply i_exit | apply i_ret | apply i_kS | apply i_kSx | apply i_kSr | apply i_kL | apply i_kLx | apply i_kLr | apply i_kB | apply i_kBr | apply i_kBs | apply i_nil) | ((with_reducible apply i_region); (focus (simp only [List.map_cons, List.map_nil] <;> exact rfl))) | ((with_reducible apply i_draw); (focus (simp only [List.map_cons, List.map_nil] <;> exact rfl)); (focus (decide +kernel))) | ((with_reducible apply i_kBo); (focus rfl)) | ((first | ((with_reducible apply i_V); (focus rfl); (focus rfl); (focus rfl)) | ((with_reducible apply i_E); (focus rfl); (focus (first | rfl | (simp only [push_cast, ↓reduceIte, effOk, touch, refsOf, List.flatMap_cons, List.flatMap_nil])))) | ((with_reducible apply i_S); (focus rfl); (focus (first | rfl | (simp only [push_cast, ↓reduceIte, effOk, touch, refsOf, List.flatMap_cons, List.flatMap_nil])))) | ((with_reducible apply i_Vq); (focus rfl); (focus rfl)) | ((with_reducible apply i_Vp); (focus rfl); (focus rfl); (focus rfl))); (focus (simp (disch := (first | omega | (simp only [push_cast]; done) | (simp only [push_cast]; omega) | ((try simp only [push_cast]); (with_reducible first | apply sel_lt | apply sel_ge); (focus decide); (focus (simp only [push_cast]; omega))))) only [push_cast, ↓reduceIte, Nat.reduceEqDiff, Nat.reduceBEq, Nat.reduceAdd, Nat.reduceSub, Int.reduceToNat, *] <;> with_reducible exact rfl))) | ((with_reducible first | apply i_Gb | apply i_cond); (focus (simp (disch := (first | omega | (simp only [push_cast]; done) | (simp only [push_cast]; omega) | ((try simp only [push_cast]); (with_reducible first | apply sel_lt | apply sel_ge); (focus decide); (focus (simp only [push_cast]; omega))))) only [push_cast, ↓reduceIte, Nat.reduceEqDiff, Nat.reduceBEq, Nat.reduceAdd, Nat.reduceSub, Int.reduceToNat, *] <;> with_reducible exact rfl)); all_goals (intro hX; first | (cases hX; done) | ((with_reducible first | have hX0 : true = true := hX | have hX0 : false = false := hX); clear hX0 hX) | ((try simp only [decide_eq_true_eq, decide_eq_false_iff_not, Bool.not_eq_true', Bool.not_eq_false'] at hX); (try have hXb := inB_iff.1 hX)))))); all_goals try (exfalso; omega)
      all_goals (first | (exfalso; omega) | ((first | apply i_end | apply i_endN); simp (disch := (first | omega | (simp only [push_cast]; done) | (simp only [push_cast]; omega) | ((try simp only [push_cast]); (with_reducible first | apply sel_lt | apply sel_ge); (focus decide); (focus (simp only [push_cast]; omega))))) only [push_cast, ↓reduceIte, Nat.reduceEqDiff, Nat.reduceBEq, Nat.reduceAdd, Nat.reduceSub, Int.reduceToNat, *]) | skip)
  · clear hoI
    have glre_c10 := GLrE_10; have glre_c12 := GLrE_12; have glre_c13 := GLrE_13; have glre_c28 := GLrE_28; have glre_c26 := GLrE_26; have glre_c15 := GLrE_15; have glre_c16 := GLrE_16
    (repeat' (first | (with_reducible first | apply i_seq | apply i_block | apply i_skip | apply i_exit | apply i_ret | apply i_kS | apply i_kSx | apply i_kSr | apply i_kL | apply i_kLx | apply i_kLr | apply i_kB | apply i_kBr | apply i_kBs | apply i_nil) | ((with_reducible apply i_region); (focus (simp only [List.map_cons, List.map_nil] <;> exact rfl))) | ((with_reducible apply i_draw); (focus (simp only [List.map_cons, List.map_nil] <;> exact rfl)); (focus (decide +kernel))) | ((with_reducible apply i_kBo); (focus rfl)) | ((first | ((with_reducible apply i_V); (focus rfl); (focus rfl); (focus rfl)) | ((with_reducible apply i_E); (focus rfl); (focus (first | rfl | (simp only [push_cast, ↓reduceIte, effOk, touch, refsOf, List.flatMap_cons, List.flatMap_nil])))) | ((with_reducible apply i_S); (focus rfl); (focus (first | rfl | (simp only [push_cast, ↓reduceIte, effOk, touch, refsOf, List.flatMap_cons, List.flatMap_nil])))) | ((with_reducible apply i_Vq); (focus rfl); (focus rfl)) | ((with_reducible apply i_Vp); (focus rfl); (focus rfl); (focus rfl))); (focus (simp (disch := (first | omega | (simp only [push_cast]; done) | (simp only [push_cast]; omega) | ((try simp only [push_cast]); (with_reducible first | apply sel_lt | apply sel_ge); (focus decide); (focus (simp only [push_cast]; omega))))) only [push_cast, ↓reduceIte, Nat.reduceEqDiff, Nat.reduceBEq, Nat.reduceAdd, Nat.reduceSub, Int.reduceToNat, *] <;> with_reducible exact rfl))) | ((with_reducible first | apply i_Gb | apply i_cond); (focus (simp (disch := (first | omega | (simp only [push_cast]; done) | (simp only [push_cast]; omega) | ((try simp only [push_cast]); (with_reducible first | apply sel_lt | apply sel_ge); (focus decide); (focus (simp only [push_cast]; omega))))) only [push_cast, ↓reduceIte, Nat.reduceEqDiff, Nat.reduceBEq, Nat.reduceAdd, Nat.reduceSub, Int.reduceToNat, *] <;> with_reducible exact rfl)); all_goals (intro hX; first | (cases hX; done) | ((with_reducible first | have hX0 : true = true := hX | have hX0 : false = false := hX); clear hX0 hX) | ((try simp only [decide_eq_true_eq, decide_eq_false_iff_not, Bool.not_eq_true', Bool.not_eq_false'] at hX); (try have hXb := inB_iff.1 hX)))))); all_goals try (exfalso; omega)
    all_goals (first | (exfalso; omega) | ((first | apply i_end | apply i_endN); simp (disch := (first | omega | (simp only [push_cast]; done) | (simp only [push_cast]; omega) | ((try simp only [push_cast]); (with_reducible first | apply sel_lt | apply sel_ge); (focus decide); (focus (simp only [push_cast]; omega))))) only [push_cast, ↓reduceIte, Nat.reduceEqDiff, Nat.reduceBEq, Nat.reduceAdd, Nat.reduceSub, Int.reduceToNat, *]) | skip)
end Go.Proofs.YtghhlakfbgcmkaaDoor
