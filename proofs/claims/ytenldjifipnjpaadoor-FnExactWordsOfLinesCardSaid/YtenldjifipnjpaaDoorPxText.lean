/- Gaps between words. -/
import Derived.Test.YtenldjifipnjpaaDoorPxObj
import Derived.Test.YtenldjifipnjpaaDoorPxBook
namespace Go.Proofs.YtenldjifipnjpaaDoor
open Go.RowKit
set_option linter.all false
/-- Bytes of words with single spaces between them. -/
def natN (l : LS) : Nat := sumS l + (l.length - 1)
theorem natN_le {l : LS} (h : okSs l) : natN l ≤ 1099512676352 := by
  have h1 := sumS_le h.2
  have h2 : l.length * 1048576 ≤ 1048576 * 1048576 := Nat.mul_le_mul_right _ h.1
  unfold natN
  have := h.1
  omega
noncomputable def φNat : Fun := F1 dSs fun l => if okSs l then some (iv (natN l)) else none
theorem φNat_ap {l : LS} (h : okSs l) : φNat [.lst false 1 (l.map fun s => .val (.string s))] = some (.val (.int .i64 (natN l))) :=
  (F1_ap (A := dSs) l).trans (if_pos h)
noncomputable def GNat : Ctx := ⟨fun f => if f = 79 then some φJoin else none, fun f => none⟩
theorem GNat_ok : SoundΓ Tryd.prog GNat := ⟨(fun f φ h => by
  unfold GNat at h
  dsimp only at h
  split at h
  · rename_i hf; cases h; subst hf; exact ⟨⟨_, Tryd.func79, rfl, rfl⟩, join_ok⟩
  cases h), (fun f φ h => by
  unfold GNat at h
  dsimp only at h
  cases h)⟩
theorem GNat_79 (ob : Objs) (ps : List PV) : evCall GNat ob 79 ps = (ps.mapM (reify false 0 ob fuel)).bind φJoin := by
  have h : GNat.fn 79 = some φJoin := by simp [GNat]
  unfold evCall
  rw [h]
  cases ps.mapM (reify false 0 ob fuel) <;> rfl
theorem natural_ok : Sound Tryd.prog 78 φNat := by
  refine sound_pq mixed GNat_ok Tryd.func78 rfl 6 rfl [.tmp 2] rfl (by kernel_rfl) fun ps r hr => ?_
  obtain ⟨l, rfl, hq⟩ := F1_some hr
  clear hr
  split at hq
  case isFalse => cases hq
  case isTrue hpre =>
  cases hq
  refine ⟨by simp, ?_⟩
  simp only [dIs, dUs, dSs, dI_e, dU_e, dB_e, dS_e, dFn_e, dL_e, dA2_e, dA3_e, dA4_e, dA5_e]
  have hn := natN_le hpre
  have e : (joinB l ⟨#[32]⟩).size = natN l := by
    rw [joinB_size]
    show sumS l + (l.length - 1) * 1 = _
    rw [Nat.mul_one]
    rfl
  have ap := φJoin_ap (l := l) (sep := ⟨#[32]⟩) hpre.1 (by omega)
  clear hpre
  have gnat_c79 := GNat_79
  repeat' (first | (with_reducible first | apply i_seq | apply i_block | apply i_skip | apply i_exit | apply i_ret | apply i_kS | apply i_kSx | apply i_kSr | apply i_kL | apply i_kLx | apply i_kLr | apply i_kB | apply i_kBr | apply i_kBs | apply i_nil) | ((with_reducible apply i_region); (focus (simp only [List.map_cons, List.map_nil] <;> exact rfl))) | ((with_reducible apply i_draw); (focus (simp only [List.map_cons, List.map_nil] <;> exact rfl)); (focus (decide +kernel))) | ((with_reducible apply i_kBo); (focus rfl)) | ((first | ((with_reducible apply i_V); (focus rfl); (focus rfl); (focus rfl)) | ((with_reducible apply i_E); (focus rfl); (focus (first | rfl | (simp only [push_cast, ↓reduceIte, effOk, touch, refsOf, List.flatMap_cons, List.flatMap_nil])))) | ((with_reducible apply i_S); (focus rfl); (focus (first | rfl | (simp only [push_cast, ↓reduceIte, effOk, touch, refsOf, List.flatMap_cons, List.flatMap_nil])))) | ((with_reducible apply i_Vq); (focus rfl); (focus rfl)) | ((with_reducible apply i_Vp); (focus rfl); (focus rfl); (focus rfl))); (focus (simp (disch := (first | omega | (simp only [push_cast]; done) | (simp only [push_cast]; omega) | ((try simp only [push_cast]); (with_reducible first | apply sel_lt | apply sel_ge); (focus decide); (focus (simp only [push_cast]; omega))))) only [push_cast, ↓reduceIte, Nat.reduceEqDiff, Nat.reduceBEq, Nat.reduceAdd, Nat.reduceSub, Int.reduceToNat, *] <;> with_reducible exact rfl))) | ((with_reducible first | apply i_Gb | apply i_cond); (focus (simp (disch := (first | omega | (simp only [push_cast]; done) | (simp only [push_cast]; omega) | ((try simp only [push_cast]); (with_reducible first | apply sel_lt | apply sel_ge); (focus decide); (focus (simp only [push_cast]; omega))))) only [push_cast, ↓reduceIte, Nat.reduceEqDiff, Nat.reduceBEq, Nat.reduceAdd, Nat.reduceSub, Int.reduceToNat, *] <;> with_reducible exact rfl)); all_goals (intro hX; first | (cases hX; done) | ((with_reducible first | have hX0 : true = true := hX | have hX0 : false = false := hX); clear hX0 hX) | ((try simp only [decide_eq_true_eq, decide_eq_false_iff_not, Bool.not_eq_true', Bool.not_eq_false'] at hX); (try have hXb := inB_iff.1 hX)))))
  all_goals ((first | apply i_end | apply i_endN); simp (disch := (first | omega | (simp only [push_cast]; done) | (simp only [push_cast]; omega) | ((try simp only [push_cast]); (with_reducible first | apply sel_lt | apply sel_ge); (focus decide); (focus (simp only [push_cast]; omega))))) only [push_cast, ↓reduceIte, Nat.reduceEqDiff, Nat.reduceBEq, Nat.reduceAdd, Nat.reduceSub, Int.reduceToNat, *])
def φBroad : Fun := F1 dI fun n => some (bv (inB n 1 60))
theorem φBroad_ap (n : Int) : φBroad [.val (.int .i64 n)] = some (.val (.bool (inB n 1 60))) := rfl
noncomputable def GBr : Ctx := ⟨fun f => if f = 65 then some φIn else none, fun f => none⟩
theorem GBr_ok : SoundΓ Tryd.prog GBr := ⟨(fun f φ h => by
  unfold GBr at h
  dsimp only at h
  split at h
  · rename_i hf; cases h; subst hf; exact ⟨⟨_, Tryd.func65, rfl, rfl⟩, in_ok⟩
  cases h), (fun f φ h => by
  unfold GBr at h
  dsimp only at h
  cases h)⟩
theorem GBr_65 (ob : Objs) (ps : List PV) : evCall GBr ob 65 ps = (ps.mapM (reify false 0 ob fuel)).bind φIn := by
  have h : GBr.fn 65 = some φIn := by simp [GBr]
  unfold evCall
  rw [h]
  cases ps.mapM (reify false 0 ob fuel) <;> rfl
theorem isBroad_ok : Sound Tryd.prog 77 φBroad := by
  refine sound_pq mixed GBr_ok Tryd.func77 rfl 5 rfl [.tmp 2] rfl (by kernel_rfl) fun ps r hr => ?_
  obtain ⟨n, rfl, hr⟩ := F1_some hr
  cases hr
  refine ⟨by simp, ?_⟩
  simp only [dIs, dUs, dSs, dI_e, dU_e, dB_e, dS_e, dFn_e, dL_e, dA2_e, dA3_e, dA4_e, dA5_e]
  have gbr_c65 := GBr_65; have ap := φIn_ap
  repeat' (first | (with_reducible first | apply i_seq | apply i_block | apply i_skip | apply i_exit | apply i_ret | apply i_kS | apply i_kSx | apply i_kSr | apply i_kL | apply i_kLx | apply i_kLr | apply i_kB | apply i_kBr | apply i_kBs | apply i_nil) | ((with_reducible apply i_region); (focus (simp only [List.map_cons, List.map_nil] <;> exact rfl))) | ((with_reducible apply i_draw); (focus (simp only [List.map_cons, List.map_nil] <;> exact rfl)); (focus (decide +kernel))) | ((with_reducible apply i_kBo); (focus rfl)) | ((first | ((with_reducible apply i_V); (focus rfl); (focus rfl); (focus rfl)) | ((with_reducible apply i_E); (focus rfl); (focus (first | rfl | (simp only [push_cast, ↓reduceIte, effOk, touch, refsOf, List.flatMap_cons, List.flatMap_nil])))) | ((with_reducible apply i_S); (focus rfl); (focus (first | rfl | (simp only [push_cast, ↓reduceIte, effOk, touch, refsOf, List.flatMap_cons, List.flatMap_nil])))) | ((with_reducible apply i_Vq); (focus rfl); (focus rfl)) | ((with_reducible apply i_Vp); (focus rfl); (focus rfl); (focus rfl))); (focus (simp (disch := (first | omega | (simp only [push_cast]; done) | (simp only [push_cast]; omega) | ((try simp only [push_cast]); (with_reducible first | apply sel_lt | apply sel_ge); (focus decide); (focus (simp only [push_cast]; omega))))) only [push_cast, ↓reduceIte, Nat.reduceEqDiff, Nat.reduceBEq, Nat.reduceAdd, Nat.reduceSub, Int.reduceToNat, *] <;> with_reducible exact rfl))) | ((with_reducible first | apply i_Gb | apply i_cond); (focus (simp (disch := (first | omega | (simp only [push_cast]; done) | (simp only [push_cast]; omega) | ((try simp only [push_cast]); (with_reducible first | apply sel_lt | apply sel_ge); (focus decide); (focus (simp only [push_cast]; omega))))) only [push_cast, ↓reduceIte, Nat.reduceEqDiff, Nat.reduceBEq, Nat.reduceAdd, Nat.reduceSub, Int.reduceToNat, *] <;> with_reducible exact rfl)); all_goals (intro hX; first | (cases hX; done) | ((with_reducible first | have hX0 : true = true := hX | have hX0 : false = false := hX); clear hX0 hX) | ((try simp only [decide_eq_true_eq, decide_eq_false_iff_not, Bool.not_eq_true', Bool.not_eq_false'] at hX); (try have hXb := inB_iff.1 hX)))))
  all_goals ((first | apply i_end | apply i_endN); simp (disch := (first | omega | (simp only [push_cast]; done) | (simp only [push_cast]; omega) | ((try simp only [push_cast]); (with_reducible first | apply sel_lt | apply sel_ge); (focus decide); (focus (simp only [push_cast]; omega))))) only [push_cast, ↓reduceIte, Nat.reduceEqDiff, Nat.reduceBEq, Nat.reduceAdd, Nat.reduceSub, Int.reduceToNat, *])
def gapF (m n : Int) (k : Nat) : Int := 1 + m * (k + 1) / n - m * k / n
def gapsL (l : LS) (wd : Int) : List Int := (List.range (l.length - 1)).map (gapF (wd - natN l) ((l.length : Int) - 1))
def gapsK (l : LS) (wd : Int) (k : Nat) : List Int := (List.range k).map (gapF (wd - natN l) ((l.length : Int) - 1))
theorem gapsL_K {l : LS} {wd : Int} : gapsL l wd = gapsK l wd (l.length - 1) := rfl
theorem gapsK_step {l : LS} {wd : Int} {L : List Int} (h : L = gapsK l wd L.length) : L ++ [gapF (wd - natN l) ((l.length : Int) - 1) L.length] = gapsK l wd (L ++ [gapF (wd - natN l) ((l.length : Int) - 1) L.length]).length := by
  have e : gapsK l wd (L.length + 1) = gapsK l wd L.length ++ [gapF (wd - natN l) ((l.length : Int) - 1) L.length] := by
    simp [gapsK, List.range_succ]
  rw [List.length_append, List.length_cons, List.length_nil, Nat.zero_add, e, ← h]
def gapsB (l : LS) (wd : Int) : Bool := allWords l && (!decide (l.length = 0) && (inB wd 1 60 && decide ((natN l : Int) ≤ wd)))
def gapsR (l : LS) (wd : Int) : List Int := if gapsB l wd = true then gapsL l wd else []
noncomputable def φGaps : Fun := F2 dSs dI fun l wd => if okSs l then some (.tup [.lst true 1 ((gapsR l wd).map fun n => .val (.int .i64 n)), .val (.bool (gapsB l wd))]) else none
theorem φGaps_ap {l : LS} {wd : Int} (h : okSs l) : φGaps [.lst false 1 (l.map fun s => .val (.string s)), .val (.int .i64 wd)] = some (.tup [.lst true 1 ((gapsR l wd).map fun n => .val (.int .i64 n)), .val (.bool (gapsB l wd))]) :=
  (F2_ap (A := dSs) (B := dI) l wd).trans (if_pos h)
theorem gapsR_no {l : LS} {wd : Int} (h : gapsB l wd = false) : gapsR l wd = [] := by simp [gapsR, h]
theorem gapsR_yes {l : LS} {wd : Int} (h : gapsB l wd = true) : gapsR l wd = gapsL l wd := by simp [gapsR, h]
theorem gaps_no {l : LS} {wd : Int} (h : gapsB l wd = false) : (PV.tup [.val (.slice none 0 0), .val (.bool false)]).le (.tup [.lst true 1 ((gapsR l wd).map fun n => .val (.int .i64 n)), .val (.bool (gapsB l wd))]) := by
  rw [gapsR_no h, h]
  exact tup_le ⟨nil_le _ _, PV.le_refl _, trivial⟩
theorem gapsB_iff {l : LS} {wd : Int} : gapsB l wd = true ↔ allWords l = true ∧ l.length ≠ 0 ∧ inB wd 1 60 = true ∧ (natN l : Int) ≤ wd := by
  simp [gapsB]
theorem allWords_len {l : LS} (h : allWords l = true) : l.length ≤ 12 := by
  unfold allWords at h
  simp only [Bool.and_eq_true, decide_eq_true_eq] at h
  exact h.1
theorem gap_rng {m n : Int} {k : Nat} (hm : 0 ≤ m) (hm2 : m ≤ 60) (hk : (k : Int) ≤ 12) (hn : 0 ≤ n) :
    (0 ≤ m * (k + 1) ∧ m * (k + 1) ≤ 780) ∧ (0 ≤ m * k ∧ m * k ≤ 780) ∧ (0 ≤ m * (k + 1) / n ∧ m * (k + 1) / n ≤ 780) ∧ (0 ≤ m * k / n ∧ m * k / n ≤ 780) := by
  have h1 : 0 ≤ m * (k + 1) := Int.mul_nonneg hm (by omega)
  have h2 : 0 ≤ m * k := Int.mul_nonneg hm (by omega)
  have h3 : m * (k + 1) ≤ 60 * 13 := Int.mul_le_mul hm2 (by omega) (by omega) (by omega)
  have h4 : m * k ≤ 60 * 13 := Int.mul_le_mul hm2 (by omega) (by omega) (by omega)
  refine ⟨⟨h1, by omega⟩, ⟨h2, by omega⟩, ⟨Int.ediv_nonneg h1 hn, ?_⟩, ⟨Int.ediv_nonneg h2 hn, ?_⟩⟩
  · have := Int.ediv_le_self n h1; omega
  · have := Int.ediv_le_self n h2; omega
noncomputable def GGap : Ctx := ⟨fun f => if f = 76 then some φWords else if f = 77 then some φBroad else if f = 78 then some φNat else none, fun f => none⟩
theorem GGap_ok : SoundΓ Tryd.prog GGap := ⟨(fun f φ h => by
  unfold GGap at h
  dsimp only at h
  split at h
  · rename_i hf; cases h; subst hf; exact ⟨⟨_, Tryd.func76, rfl, rfl⟩, implWordsValid_ok⟩
  split at h
  · rename_i hf; cases h; subst hf; exact ⟨⟨_, Tryd.func77, rfl, rfl⟩, isBroad_ok⟩
  split at h
  · rename_i hf; cases h; subst hf; exact ⟨⟨_, Tryd.func78, rfl, rfl⟩, natural_ok⟩
  cases h), (fun f φ h => by
  unfold GGap at h
  dsimp only at h
  cases h)⟩
theorem GGap_76 (ob : Objs) (ps : List PV) : evCall GGap ob 76 ps = (ps.mapM (reify false 0 ob fuel)).bind φWords := by
  have h : GGap.fn 76 = some φWords := by simp [GGap]
  unfold evCall
  rw [h]
  cases ps.mapM (reify false 0 ob fuel) <;> rfl
theorem GGap_77 (ob : Objs) (ps : List PV) : evCall GGap ob 77 ps = (ps.mapM (reify false 0 ob fuel)).bind φBroad := by
  have h : GGap.fn 77 = some φBroad := by simp [GGap]
  unfold evCall
  rw [h]
  cases ps.mapM (reify false 0 ob fuel) <;> rfl
theorem GGap_78 (ob : Objs) (ps : List PV) : evCall GGap ob 78 ps = (ps.mapM (reify false 0 ob fuel)).bind φNat := by
  have h : GGap.fn 78 = some φNat := by simp [GGap]
  unfold evCall
  rw [h]
  cases ps.mapM (reify false 0 ob fuel) <;> rfl
/-- What TextGaps hands over. -/
abbrev gapsI (l : LS) (wd : Int) : List PV := (gapsR l wd).map fun n => .val (.int .i64 n)
noncomputable def ΨGaps : FunN := G2 dSs dI fun l wd => if okSs l then some (.tup [nP 1 (gapsI l wd) 0, .val (.bool (gapsB l wd))], nC 3 1 (gapsI l wd)) else none
theorem ΨGaps_ap {l : LS} {wd : Int} (h : okSs l) : ΨGaps [.lst false 1 (l.map fun s => .val (.string s)), .val (.int .i64 wd)] = some (.tup [nP 1 (gapsI l wd) 0, .val (.bool (gapsB l wd))], nC 3 1 (gapsI l wd)) :=
  (G2_ap (A := dSs) (B := dI) l wd).trans (if_pos h)
set_option maxHeartbeats 8000000 in
theorem implTextGapsN : SoundN Tryd.prog 72 ΨGaps := by
  refine sound_pqN mixed GGap_ok Tryd.func72 rfl 58 rfl [.tmp 4, .tmp 5] rfl (by kernel_rfl) fun ps r cs' hr => ?_
  obtain ⟨l, wd, rfl, hq⟩ := G2_some hr
  clear hr
  split at hq
  case isFalse => cases hq
  case isTrue hpre =>
  cases hq
  refine ⟨by simp, ?_⟩
  simp only [dIs, dUs, dSs, dI_e, dU_e, dB_e, dS_e, dFn_e, dL_e, dA2_e, dA3_e, dA4_e, dA5_e]
  have hl := hpre.1
  have hn := natN_le hpre
  have ap1 := φWords_ap hpre
  have ap2 := φNat_ap hpre
  have ap3 := φBroad_ap
  clear hpre
  unfold gapsI
  cases hG : gapsB l wd with
  | false =>
    rw [gapsR_no hG]
    unfold gapsB at hG
    show pq _ _ _ _ (PostIO _ _ 0 (.tup [.val (.slice none 0 0), .val (.bool false)]) []) _ _ _
    have ggap_c76 := GGap_76; have ggap_c77 := GGap_77; have ggap_c78 := GGap_78
    repeat' (first | (with_reducible first | apply i_seq | apply i_block | apply i_skip | apply i_exit | apply i_ret | apply i_kS | apply i_kSx | apply i_kSr | apply i_kL | apply i_kLx | apply i_kLr | apply i_kB | apply i_kBr | apply i_kBs | apply i_nil) | ((with_reducible apply i_region); (focus (simp only [List.map_cons, List.map_nil] <;> exact rfl))) | ((with_reducible apply i_draw); (focus (simp only [List.map_cons, List.map_nil] <;> exact rfl)); (focus (decide +kernel))) | ((with_reducible apply i_kBo); (focus rfl)) | ((first | ((with_reducible apply i_V); (focus rfl); (focus rfl); (focus rfl)) | ((with_reducible apply i_E); (focus rfl); (focus (first | rfl | (simp only [push_cast, ↓reduceIte, effOk, touch, refsOf, List.flatMap_cons, List.flatMap_nil])))) | ((with_reducible apply i_S); (focus rfl); (focus (first | rfl | (simp only [push_cast, ↓reduceIte, effOk, touch, refsOf, List.flatMap_cons, List.flatMap_nil])))) | ((with_reducible apply i_Vq); (focus rfl); (focus rfl)) | ((with_reducible apply i_Vp); (focus rfl); (focus rfl); (focus rfl))); (focus (simp (disch := (first | omega | (simp only [push_cast]; done) | (simp only [push_cast]; omega) | ((try simp only [push_cast]); (with_reducible first | apply sel_lt | apply sel_ge); (focus decide); (focus (simp only [push_cast]; omega))))) only [push_cast, ↓reduceIte, Nat.reduceEqDiff, Nat.reduceBEq, Nat.reduceAdd, Nat.reduceSub, Int.reduceToNat, *] <;> with_reducible exact rfl))) | ((with_reducible first | apply i_Gb | apply i_cond); (focus (simp (disch := (first | omega | (simp only [push_cast]; done) | (simp only [push_cast]; omega) | ((try simp only [push_cast]); (with_reducible first | apply sel_lt | apply sel_ge); (focus decide); (focus (simp only [push_cast]; omega))))) only [push_cast, ↓reduceIte, Nat.reduceEqDiff, Nat.reduceBEq, Nat.reduceAdd, Nat.reduceSub, Int.reduceToNat, *] <;> with_reducible exact rfl)); all_goals (intro hX; first | (cases hX; done) | ((with_reducible first | have hX0 : true = true := hX | have hX0 : false = false := hX); clear hX0 hX) | ((try simp only [decide_eq_true_eq, decide_eq_false_iff_not, Bool.not_eq_true', Bool.not_eq_false'] at hX); (try have hXb := inB_iff.1 hX)))))
    all_goals (first | (exfalso; simp_all; done) | (((with_reducible apply i_endN0 (by first | exact .inl rfl | exact .inr rfl)); (focus (simp (disch := (first | omega | (simp only [push_cast]; done) | (simp only [push_cast]; omega) | ((try simp only [push_cast]); (with_reducible first | apply sel_lt | apply sel_ge); (focus decide); (focus (simp only [push_cast]; omega))))) only [push_cast, ↓reduceIte, Nat.reduceEqDiff, Nat.reduceBEq, Nat.reduceAdd, Nat.reduceSub, Int.reduceToNat, *] <;> with_reducible exact rfl))); done) | skip)
  | true =>
    obtain ⟨hw, h0, hwd, hle⟩ := gapsB_iff.1 hG
    have hwb := inB_iff.1 hwd
    have h12 := allWords_len hw
    have hR := gapsR_yes hG
    rw [hR]
    clear hG hR
    have ggap_c76 := GGap_76; have ggap_c77 := GGap_77; have ggap_c78 := GGap_78
    repeat' (first | (with_reducible first | apply i_seq | apply i_block | apply i_skip | apply i_exit | apply i_ret | apply i_kS | apply i_kSx | apply i_kSr | apply i_kL | apply i_kLx | apply i_kLr | apply i_kB | apply i_kBr | apply i_kBs | apply i_nil) | ((with_reducible apply i_region); (focus (simp only [List.map_cons, List.map_nil] <;> exact rfl))) | ((with_reducible apply i_draw); (focus (simp only [List.map_cons, List.map_nil] <;> exact rfl)); (focus (decide +kernel))) | ((with_reducible apply i_kBo); (focus rfl)) | ((first | ((with_reducible apply i_V); (focus rfl); (focus rfl); (focus rfl)) | ((with_reducible apply i_E); (focus rfl); (focus (first | rfl | (simp only [push_cast, ↓reduceIte, effOk, touch, refsOf, List.flatMap_cons, List.flatMap_nil])))) | ((with_reducible apply i_S); (focus rfl); (focus (first | rfl | (simp only [push_cast, ↓reduceIte, effOk, touch, refsOf, List.flatMap_cons, List.flatMap_nil])))) | ((with_reducible apply i_Vq); (focus rfl); (focus rfl)) | ((with_reducible apply i_Vp); (focus rfl); (focus rfl); (focus rfl))); (focus (simp (disch := (first | omega | (simp only [push_cast]; done) | (simp only [push_cast]; omega) | ((try simp only [push_cast]); (with_reducible first | apply sel_lt | apply sel_ge); (focus decide); (focus (simp only [push_cast]; omega))))) only [push_cast, ↓reduceIte, Nat.reduceEqDiff, Nat.reduceBEq, Nat.reduceAdd, Nat.reduceSub, Int.reduceToNat, *] <;> with_reducible exact rfl))) | ((with_reducible first | apply i_Gb | apply i_cond); (focus (simp (disch := (first | omega | (simp only [push_cast]; done) | (simp only [push_cast]; omega) | ((try simp only [push_cast]); (with_reducible first | apply sel_lt | apply sel_ge); (focus decide); (focus (simp only [push_cast]; omega))))) only [push_cast, ↓reduceIte, Nat.reduceEqDiff, Nat.reduceBEq, Nat.reduceAdd, Nat.reduceSub, Int.reduceToNat, *] <;> with_reducible exact rfl)); all_goals (intro hX; first | (cases hX; done) | ((with_reducible first | have hX0 : true = true := hX | have hX0 : false = false := hX); clear hX0 hX) | ((try simp only [decide_eq_true_eq, decide_eq_false_iff_not, Bool.not_eq_true', Bool.not_eq_false'] at hX); (try have hXb := inB_iff.1 hX)))))
    all_goals try (exfalso; omega)
    refine i_loop (α := List Int × Nat × Nat) mixed (fun s => [(6, iv (wd - natN l)), (7, iv ((l.length : Int) - 1)), (8, nP 1 (s.1.map fun n => .val (.int .i64 n)) s.2.1), (36, iv ((l.length : Int) - 1)), (37, iv s.1.length)])
      (fun s => nO 3 1 (s.1.map fun n => .val (.int .i64 n)) s.2.1) (fun s => s.2.2)
      (fun s => s.1 = gapsK l wd s.1.length ∧ s.1.length < l.length ∧ s.2.1 ≤ s.2.2) (fun s => l.length - s.1.length) (by kernel_rfl) ([], 0, 0) ⟨rfl, by simp; omega, by simp⟩ ?_ ?_ rfl ?_
    · simp (disch := (first | omega | (simp only [push_cast]; done) | (simp only [push_cast]; omega) | ((try simp only [push_cast]); (with_reducible first | apply sel_lt | apply sel_ge); (focus decide); (focus (simp only [push_cast]; omega))))) only [push_cast, ↓reduceIte, Nat.reduceEqDiff, Nat.reduceBEq, Nat.reduceAdd, Nat.reduceSub, Int.reduceToNat, List.length_append, *]
    · simp (disch := (first | omega | (simp only [push_cast]; done) | (simp only [push_cast]; omega) | ((try simp only [push_cast]); (with_reducible first | apply sel_lt | apply sel_ge); (focus decide); (focus (simp only [push_cast]; omega))))) only [push_cast, ↓reduceIte, Nat.reduceEqDiff, Nat.reduceBEq, Nat.reduceAdd, Nat.reduceSub, Int.reduceToNat, List.length_append, *]
    rintro ⟨L, x, y⟩ ⟨hL, hk, hxy⟩
    dsimp only at hL hk hxy
    replace hL := Lib.hid hL
    obtain ⟨r1, r2, r3, r4⟩ := gap_rng (m := wd - natN l) (n := (l.length : Int) - 1) (k := L.length) (by omega) (by omega) (by omega) (by omega)
    have hK : (l.length : Int) - 1 ≤ L.length → gapsL l wd = L := fun h2 => by
      rw [gapsL_K, show l.length - 1 = L.length by omega, ← hL.out]
    by_cases h0 : L.length = 0
    · obtain rfl : L = [] := List.eq_nil_of_length_eq_zero h0
      clear h0
      simp only [List.length_nil, Int.natCast_zero] at r1 r2 r3 r4
      repeat' (first | (with_reducible first | apply i_seq | apply i_block | apply i_skip | apply i_exit | apply i_ret | apply i_kS | apply i_kSx | apply i_kSr | apply i_kL | apply i_kLx | apply i_kLr | apply i_kB | apply i_kBr | apply i_kBs | apply i_nil) | ((with_reducible apply i_region); (focus (simp only [List.map_cons, List.map_nil] <;> exact rfl))) | ((with_reducible apply i_draw); (focus (simp only [List.map_cons, List.map_nil] <;> exact rfl)); (focus (decide +kernel))) | ((with_reducible apply i_kBo); (focus rfl)) | ((first | ((with_reducible apply i_V); (focus rfl); (focus rfl); (focus rfl)) | ((with_reducible apply i_E); (focus rfl); (focus (first | rfl | (simp only [push_cast, ↓reduceIte, effOk, touch, refsOf, List.flatMap_cons, List.flatMap_nil])))) | ((with_reducible apply i_S); (focus rfl); (focus (first | rfl | (simp only [push_cast, ↓reduceIte, effOk, touch, refsOf, List.flatMap_cons, List.flatMap_nil])))) | ((with_reducible apply i_Vq); (focus rfl); (focus rfl)) | ((with_reducible apply i_Vp); (focus rfl); (focus rfl); (focus rfl))); (focus (simp (disch := (first | omega | (simp only [push_cast]; done) | (simp only [push_cast]; omega) | ((try simp only [push_cast]); (with_reducible first | apply sel_lt | apply sel_ge); (focus decide); (focus (simp only [push_cast]; omega))))) only [push_cast, ↓reduceIte, Nat.reduceEqDiff, Nat.reduceBEq, Nat.reduceAdd, Nat.reduceSub, Int.reduceToNat, *] <;> with_reducible exact rfl))) | ((with_reducible first | apply i_Gb | apply i_cond); (focus (simp (disch := (first | omega | (simp only [push_cast]; done) | (simp only [push_cast]; omega) | ((try simp only [push_cast]); (with_reducible first | apply sel_lt | apply sel_ge); (focus decide); (focus (simp only [push_cast]; omega))))) only [push_cast, ↓reduceIte, Nat.reduceEqDiff, Nat.reduceBEq, Nat.reduceAdd, Nat.reduceSub, Int.reduceToNat, *] <;> with_reducible exact rfl)); all_goals (intro hX; first | (cases hX; done) | ((with_reducible first | have hX0 : true = true := hX | have hX0 : false = false := hX); clear hX0 hX) | ((try simp only [decide_eq_true_eq, decide_eq_false_iff_not, Bool.not_eq_true', Bool.not_eq_false'] at hX); (try have hXb := inB_iff.1 hX)))))
      · refine ⟨([] ++ [gapF (wd - natN l) ((l.length : Int) - 1) ([] : List Int).length], y, y + 1), ⟨gapsK_step hL.out, by simp; omega, by dsimp only; omega⟩, by simp; omega, ?_, ?_, rfl⟩
        · simp (disch := (first | omega | (simp only [push_cast]; done) | (simp only [push_cast]; omega) | ((try simp only [push_cast]); (with_reducible first | apply sel_lt | apply sel_ge); (focus decide); (focus (simp only [push_cast]; omega))))) only [push_cast, ↓reduceIte, Nat.reduceEqDiff, Nat.reduceBEq, Nat.reduceAdd, Nat.reduceSub, Int.reduceToNat, List.length_append, gapF, *]
        · simp (disch := (first | omega | (simp only [push_cast]; done) | (simp only [push_cast]; omega) | ((try simp only [push_cast]); (with_reducible first | apply sel_lt | apply sel_ge); (focus decide); (focus (simp only [push_cast]; omega))))) only [push_cast, ↓reduceIte, Nat.reduceEqDiff, Nat.reduceBEq, Nat.reduceAdd, Nat.reduceSub, Int.reduceToNat, List.length_append, gapF, *]
      · rw [hK (by simp; omega)]
        show PostIO _ _ 0 (.tup [.val (.slice none 0 0), .val (.bool true)]) [] _ _
        ((with_reducible apply i_endN0 (by first | exact .inl rfl | exact .inr rfl)); (focus (simp (disch := (first | omega | (simp only [push_cast]; done) | (simp only [push_cast]; omega) | ((try simp only [push_cast]); (with_reducible first | apply sel_lt | apply sel_ge); (focus decide); (focus (simp only [push_cast]; omega))))) only [push_cast, ↓reduceIte, Nat.reduceEqDiff, Nat.reduceBEq, Nat.reduceAdd, Nat.reduceSub, Int.reduceToNat, *] <;> with_reducible exact rfl)))
    · have hlp : 0 < (L.map fun n => PV.val (.int .i64 n)).length := by simp; omega
      repeat' (first | (with_reducible first | apply i_seq | apply i_block | apply i_skip | apply i_exit | apply i_ret | apply i_kS | apply i_kSx | apply i_kSr | apply i_kL | apply i_kLx | apply i_kLr | apply i_kB | apply i_kBr | apply i_kBs | apply i_nil) | ((with_reducible apply i_region); (focus (simp only [List.map_cons, List.map_nil] <;> exact rfl))) | ((with_reducible apply i_draw); (focus (simp only [List.map_cons, List.map_nil] <;> exact rfl)); (focus (decide +kernel))) | ((with_reducible apply i_kBo); (focus rfl)) | ((first | ((with_reducible apply i_V); (focus rfl); (focus rfl); (focus rfl)) | ((with_reducible apply i_E); (focus rfl); (focus (first | rfl | (simp only [push_cast, ↓reduceIte, effOk, touch, refsOf, List.flatMap_cons, List.flatMap_nil])))) | ((with_reducible apply i_S); (focus rfl); (focus (first | rfl | (simp only [push_cast, ↓reduceIte, effOk, touch, refsOf, List.flatMap_cons, List.flatMap_nil])))) | ((with_reducible apply i_Vq); (focus rfl); (focus rfl)) | ((with_reducible apply i_Vp); (focus rfl); (focus rfl); (focus rfl))); (focus (simp (disch := (first | omega | (simp only [push_cast]; done) | (simp only [push_cast]; omega) | ((try simp only [push_cast]); (with_reducible first | apply sel_lt | apply sel_ge); (focus decide); (focus (simp only [push_cast]; omega))))) only [push_cast, ↓reduceIte, Nat.reduceEqDiff, Nat.reduceBEq, Nat.reduceAdd, Nat.reduceSub, Int.reduceToNat, *] <;> with_reducible exact rfl))) | ((with_reducible first | apply i_Gb | apply i_cond); (focus (simp (disch := (first | omega | (simp only [push_cast]; done) | (simp only [push_cast]; omega) | ((try simp only [push_cast]); (with_reducible first | apply sel_lt | apply sel_ge); (focus decide); (focus (simp only [push_cast]; omega))))) only [push_cast, ↓reduceIte, Nat.reduceEqDiff, Nat.reduceBEq, Nat.reduceAdd, Nat.reduceSub, Int.reduceToNat, *] <;> with_reducible exact rfl)); all_goals (intro hX; first | (cases hX; done) | ((with_reducible first | have hX0 : true = true := hX | have hX0 : false = false := hX); clear hX0 hX) | ((try simp only [decide_eq_true_eq, decide_eq_false_iff_not, Bool.not_eq_true', Bool.not_eq_false'] at hX); (try have hXb := inB_iff.1 hX)))))
      · refine ⟨(L ++ [gapF (wd - natN l) ((l.length : Int) - 1) L.length], y, y + 1), ⟨gapsK_step hL.out, by simp; omega, by dsimp only; omega⟩, by simp; omega, ?_, ?_, rfl⟩
        · simp (disch := (first | omega | (simp only [push_cast]; done) | (simp only [push_cast]; omega) | ((try simp only [push_cast]); (with_reducible first | apply sel_lt | apply sel_ge); (focus decide); (focus (simp only [push_cast]; omega))))) only [push_cast, ↓reduceIte, Nat.reduceEqDiff, Nat.reduceBEq, Nat.reduceAdd, Nat.reduceSub, Int.reduceToNat, List.length_append, gapF, *]
        · simp (disch := (first | omega | (simp only [push_cast]; done) | (simp only [push_cast]; omega) | ((try simp only [push_cast]); (with_reducible first | apply sel_lt | apply sel_ge); (focus decide); (focus (simp only [push_cast]; omega))))) only [push_cast, ↓reduceIte, Nat.reduceEqDiff, Nat.reduceBEq, Nat.reduceAdd, Nat.reduceSub, Int.reduceToNat, List.length_append, gapF, *]
      · rw [hK (by omega), nP_pos hlp, nC_pos hlp, List.length_map]
        ((with_reducible apply i_endN1 (x) (by first | exact .inl rfl | exact .inr rfl)); (focus (simp (disch := (first | omega | (simp only [push_cast]; done) | (simp only [push_cast]; omega) | ((try simp only [push_cast]); (with_reducible first | apply sel_lt | apply sel_ge); (focus decide); (focus (simp only [push_cast]; omega))))) only [push_cast, ↓reduceIte, Nat.reduceEqDiff, Nat.reduceBEq, Nat.reduceAdd, Nat.reduceSub, Int.reduceToNat, *] <;> with_reducible exact rfl)); (focus (simp (disch := (first | omega | (simp only [push_cast]; done) | (simp only [push_cast]; omega) | ((try simp only [push_cast]); (with_reducible first | apply sel_lt | apply sel_ge); (focus decide); (focus (simp only [push_cast]; omega))))) only [push_cast, ↓reduceIte, Nat.reduceEqDiff, Nat.reduceBEq, Nat.reduceAdd, Nat.reduceSub, Int.reduceToNat, *] <;> with_reducible exact rfl)))
/-- The same without objects. -/
theorem implTextGaps_ok : Sound Tryd.prog 72 φGaps := by
  refine implTextGapsN.pure.weak fun ps r hr => ?_
  obtain ⟨l, wd, rfl, hq⟩ := F2_some hr
  split at hq
  case isFalse => cases hq
  case isTrue hpre =>
  cases hq
  by_cases h0 : (gapsR l wd).length = 0
  · have e : gapsR l wd = [] := List.eq_nil_of_length_eq_zero h0
    rw [e]
    refine ⟨_, _, leL_refl _, pureN_of (r1 := .tup [.val (.slice none 0 0), .val (.bool (gapsB l wd))]) (ΨGaps_ap hpre) ?_, tup_le ⟨nil_le _ _, PV.le_refl _, trivial⟩⟩
    unfold gapsI
    rw [e]
    rfl
  · have hlp : 0 < (gapsI l wd).length := by simp; omega
    refine ⟨_, _, leL_refl _, pureN_of (ΨGaps_ap hpre) ?_, PV.le_refl _⟩
    rw [nP_pos hlp, nC_pos hlp, List.length_map]
    have ho : (fun o => [((3, 1, gapsI l wd) : CellIO)][o]?) = lo [(0, (3, 1, gapsI l wd))] := ls_one _
    rw [ho]
    (simp (disch := (first | omega | (simp only [push_cast]; done) | (simp only [push_cast]; omega) | ((try simp only [push_cast]); (with_reducible first | apply sel_lt | apply sel_ge); (focus decide); (focus (simp only [push_cast]; omega))))) only [push_cast, ↓reduceIte, Nat.reduceEqDiff, Nat.reduceBEq, Nat.reduceAdd, Nat.reduceSub, Int.reduceToNat, *] <;> with_reducible exact rfl)
theorem sumS_nil : sumS [] = 0 := rfl
theorem sumS_take {l : LS} {k : Nat} (h : k < l.length) : sumS (l.take (k + 1)) = sumS (l.take k) + (l[k]?.getD .empty).size := by
  rw [List.take_add_one, List.getElem?_eq_getElem h]
  simp only [sumS, List.map_append, List.sum_append, Option.toList_some, List.map_cons, List.map_nil, List.sum_cons, List.sum_nil, Nat.add_zero, Option.getD_some]
theorem sumS_take_le (l : LS) (k : Nat) : sumS (l.take k) ≤ sumS l := by
  have h : sumS l = sumS (l.take k) + sumS (l.drop k) := by
    conv => lhs; rw [← List.take_append_drop k l]
    simp only [sumS, List.map_append, List.sum_append]
  omega
noncomputable def GSgap : Ctx := ⟨fun f => if f = 80 then some φWords else if f = 58 then some φIn else none, fun f => none⟩
theorem GSgap_ok : SoundΓ Tryd.prog GSgap := ⟨(fun f φ h => by
  unfold GSgap at h
  dsimp only at h
  split at h
  · rename_i hf; cases h; subst hf; exact ⟨⟨_, Tryd.func80, rfl, rfl⟩, specWordsValid_ok⟩
  split at h
  · rename_i hf; cases h; subst hf; exact ⟨⟨_, Tryd.func58, rfl, rfl⟩, l1In_ok⟩
  cases h), (fun f φ h => by
  unfold GSgap at h
  dsimp only at h
  cases h)⟩
theorem GSgap_80 (ob : Objs) (ps : List PV) : evCall GSgap ob 80 ps = (ps.mapM (reify false 0 ob fuel)).bind φWords := by
  have h : GSgap.fn 80 = some φWords := by simp [GSgap]
  unfold evCall
  rw [h]
  cases ps.mapM (reify false 0 ob fuel) <;> rfl
theorem GSgap_58 (ob : Objs) (ps : List PV) : evCall GSgap ob 58 ps = (ps.mapM (reify false 0 ob fuel)).bind φIn := by
  have h : GSgap.fn 58 = some φIn := by simp [GSgap]
  unfold evCall
  rw [h]
  cases ps.mapM (reify false 0 ob fuel) <;> rfl
set_option maxHeartbeats 8000000 in
theorem specTextGaps_ok : Sound Tryd.prog 74 φGaps := by
  refine sound_pq mixed GSgap_ok Tryd.func74 rfl 75 rfl [.tmp 4, .tmp 5] rfl (by kernel_rfl) fun ps r hr => ?_
  obtain ⟨l, wd, rfl, hq⟩ := F2_some hr
  clear hr
  split at hq
  case isFalse => cases hq
  case isTrue hpre =>
  cases hq
  refine ⟨by simp, ?_⟩
  simp only [dIs, dUs, dSs, dI_e, dU_e, dB_e, dS_e, dFn_e, dL_e, dA2_e, dA3_e, dA4_e, dA5_e]
  have hl := hpre.1
  have hn := natN_le hpre
  have ap1 := φWords_ap hpre
  have ap3 := φIn_ap
  have hsz := hpre.2
  clear hpre
  by_cases hp : allWords l = true ∧ l.length ≠ 0 ∧ inB wd 1 60 = true
  · obtain ⟨hw, h0, hwd⟩ := hp
    have hwb := inB_iff.1 hwd
    have h12 := allWords_len hw
    have gsgap_c80 := GSgap_80; have gsgap_c58 := GSgap_58
    repeat' (first | (with_reducible first | apply i_seq | apply i_block | apply i_skip | apply i_exit | apply i_ret | apply i_kS | apply i_kSx | apply i_kSr | apply i_kL | apply i_kLx | apply i_kLr | apply i_kB | apply i_kBr | apply i_kBs | apply i_nil) | ((with_reducible apply i_region); (focus (simp only [List.map_cons, List.map_nil] <;> exact rfl))) | ((with_reducible apply i_draw); (focus (simp only [List.map_cons, List.map_nil] <;> exact rfl)); (focus (decide +kernel))) | ((with_reducible apply i_kBo); (focus rfl)) | ((first | ((with_reducible apply i_V); (focus rfl); (focus rfl); (focus rfl)) | ((with_reducible apply i_E); (focus rfl); (focus (first | rfl | (simp only [push_cast, ↓reduceIte, effOk, touch, refsOf, List.flatMap_cons, List.flatMap_nil])))) | ((with_reducible apply i_S); (focus rfl); (focus (first | rfl | (simp only [push_cast, ↓reduceIte, effOk, touch, refsOf, List.flatMap_cons, List.flatMap_nil])))) | ((with_reducible apply i_Vq); (focus rfl); (focus rfl)) | ((with_reducible apply i_Vp); (focus rfl); (focus rfl); (focus rfl))); (focus (simp (disch := (first | omega | (simp only [push_cast]; done) | (simp only [push_cast]; omega) | ((try simp only [push_cast]); (with_reducible first | apply sel_lt | apply sel_ge); (focus decide); (focus (simp only [push_cast]; omega))))) only [push_cast, ↓reduceIte, Nat.reduceEqDiff, Nat.reduceBEq, Nat.reduceAdd, Nat.reduceSub, Int.reduceToNat, *] <;> with_reducible exact rfl))) | ((with_reducible first | apply i_Gb | apply i_cond); (focus (simp (disch := (first | omega | (simp only [push_cast]; done) | (simp only [push_cast]; omega) | ((try simp only [push_cast]); (with_reducible first | apply sel_lt | apply sel_ge); (focus decide); (focus (simp only [push_cast]; omega))))) only [push_cast, ↓reduceIte, Nat.reduceEqDiff, Nat.reduceBEq, Nat.reduceAdd, Nat.reduceSub, Int.reduceToNat, *] <;> with_reducible exact rfl)); all_goals (intro hX; first | (cases hX; done) | ((with_reducible first | have hX0 : true = true := hX | have hX0 : false = false := hX); clear hX0 hX) | ((try simp only [decide_eq_true_eq, decide_eq_false_iff_not, Bool.not_eq_true', Bool.not_eq_false'] at hX); (try have hXb := inB_iff.1 hX)))))
    all_goals try (exfalso; omega)
    have hG : gapsB l wd = decide ((natN l : Int) ≤ wd) := by
      unfold gapsB
      rw [hw, hwd, decide_eq_false h0]
      simp
    have hR : gapsR l wd = if (natN l : Int) ≤ wd then gapsL l wd else [] := by
      unfold gapsR
      rw [hG]
      simp
    rw [hG, hR]
    clear hG hR
    refine i_loop (α := Nat) mixed (fun k => [(0, .lst false 1 (l.map fun s => .val (.string s))), (1, iv wd), (6, .row 0 1 0 0), (7, iv ((l.length : Int) - 1 + sumS (l.take k))), (8, iv k)])
      (fun _ => [(0, 3, 1, [])]) (fun _ => 1) (fun k => k ≤ l.length) (fun k => l.length - k) (by kernel_rfl) 0 (Nat.zero_le _) ?_ ?_ rfl ?_
    · simp (disch := (first | omega | (simp only [push_cast]; done) | (simp only [push_cast]; omega) | ((try simp only [push_cast]); (with_reducible first | apply sel_lt | apply sel_ge); (focus decide); (focus (simp only [push_cast]; omega))))) only [push_cast, ↓reduceIte, Nat.reduceEqDiff, Nat.reduceBEq, Nat.reduceAdd, Nat.reduceSub, Int.reduceToNat, sumS_nil, Int.add_zero, *]
    · simp (disch := (first | omega | (simp only [push_cast]; done) | (simp only [push_cast]; omega) | ((try simp only [push_cast]); (with_reducible first | apply sel_lt | apply sel_ge); (focus decide); (focus (simp only [push_cast]; omega))))) only [push_cast, ↓reduceIte, Nat.reduceEqDiff, Nat.reduceBEq, Nat.reduceAdd, Nat.reduceSub, Int.reduceToNat, List.length_append, *]
    intro k hk
    have hs1 := sumS_take_le l k
    have hs2 := hsz k
    have hs3 : sumS l ≤ natN l := by unfold natN; omega
    by_cases hkl : k < l.length
    · repeat' (first | (with_reducible first | apply i_seq | apply i_block | apply i_skip | apply i_exit | apply i_ret | apply i_kS | apply i_kSx | apply i_kSr | apply i_kL | apply i_kLx | apply i_kLr | apply i_kB | apply i_kBr | apply i_kBs | apply i_nil) | ((with_reducible apply i_region); (focus (simp only [List.map_cons, List.map_nil] <;> exact rfl))) | ((with_reducible apply i_draw); (focus (simp only [List.map_cons, List.map_nil] <;> exact rfl)); (focus (decide +kernel))) | ((with_reducible apply i_kBo); (focus rfl)) | ((first | ((with_reducible apply i_V); (focus rfl); (focus rfl); (focus rfl)) | ((with_reducible apply i_E); (focus rfl); (focus (first | rfl | (simp only [push_cast, ↓reduceIte, effOk, touch, refsOf, List.flatMap_cons, List.flatMap_nil])))) | ((with_reducible apply i_S); (focus rfl); (focus (first | rfl | (simp only [push_cast, ↓reduceIte, effOk, touch, refsOf, List.flatMap_cons, List.flatMap_nil])))) | ((with_reducible apply i_Vq); (focus rfl); (focus rfl)) | ((with_reducible apply i_Vp); (focus rfl); (focus rfl); (focus rfl))); (focus (simp (disch := (first | omega | (simp only [push_cast]; done) | (simp only [push_cast]; omega) | ((try simp only [push_cast]); (with_reducible first | apply sel_lt | apply sel_ge); (focus decide); (focus (simp only [push_cast]; omega))))) only [push_cast, ↓reduceIte, Nat.reduceEqDiff, Nat.reduceBEq, Nat.reduceAdd, Nat.reduceSub, Int.reduceToNat, *] <;> with_reducible exact rfl))) | ((with_reducible first | apply i_Gb | apply i_cond); (focus (simp (disch := (first | omega | (simp only [push_cast]; done) | (simp only [push_cast]; omega) | ((try simp only [push_cast]); (with_reducible first | apply sel_lt | apply sel_ge); (focus decide); (focus (simp only [push_cast]; omega))))) only [push_cast, ↓reduceIte, Nat.reduceEqDiff, Nat.reduceBEq, Nat.reduceAdd, Nat.reduceSub, Int.reduceToNat, *] <;> with_reducible exact rfl)); all_goals (intro hX; first | (cases hX; done) | ((with_reducible first | have hX0 : true = true := hX | have hX0 : false = false := hX); clear hX0 hX) | ((try simp only [decide_eq_true_eq, decide_eq_false_iff_not, Bool.not_eq_true', Bool.not_eq_false'] at hX); (try have hXb := inB_iff.1 hX)))))
      all_goals try (exfalso; omega)
      refine ⟨k + 1, by omega, by dsimp only; omega, ?_, ?_, rfl⟩
      · simp (disch := (first | omega | (simp only [push_cast]; done) | (simp only [push_cast]; omega) | ((try simp only [push_cast]); (with_reducible first | apply sel_lt | apply sel_ge); (focus decide); (focus (simp only [push_cast]; omega))))) only [push_cast, ↓reduceIte, Nat.reduceEqDiff, Nat.reduceBEq, Nat.reduceAdd, Nat.reduceSub, Int.reduceToNat, sumS_take, *]
        simp only [Int.add_assoc, and_self]
      · simp (disch := (first | omega | (simp only [push_cast]; done) | (simp only [push_cast]; omega) | ((try simp only [push_cast]); (with_reducible first | apply sel_lt | apply sel_ge); (focus decide); (focus (simp only [push_cast]; omega))))) only [push_cast, ↓reduceIte, Nat.reduceEqDiff, Nat.reduceBEq, Nat.reduceAdd, Nat.reduceSub, Int.reduceToNat, List.length_append, *]
    have e1 : l.take k = l := List.take_of_length_le (by omega)
    rw [e1]
    have e2 : (l.length : Int) - 1 + sumS l = natN l := by unfold natN; omega
    rw [e2]
    clear e1 e2 hs1 hs2 hs3
    have hle := Lib.hid (rfl : natN l = natN l)
    repeat' (first | (with_reducible first | apply i_seq | apply i_block | apply i_skip | apply i_exit | apply i_ret | apply i_kS | apply i_kSx | apply i_kSr | apply i_kL | apply i_kLx | apply i_kLr | apply i_kB | apply i_kBr | apply i_kBs | apply i_nil) | ((with_reducible apply i_region); (focus (simp only [List.map_cons, List.map_nil] <;> exact rfl))) | ((with_reducible apply i_draw); (focus (simp only [List.map_cons, List.map_nil] <;> exact rfl)); (focus (decide +kernel))) | ((with_reducible apply i_kBo); (focus rfl)) | ((first | ((with_reducible apply i_V); (focus rfl); (focus rfl); (focus rfl)) | ((with_reducible apply i_E); (focus rfl); (focus (first | rfl | (simp only [push_cast, ↓reduceIte, effOk, touch, refsOf, List.flatMap_cons, List.flatMap_nil])))) | ((with_reducible apply i_S); (focus rfl); (focus (first | rfl | (simp only [push_cast, ↓reduceIte, effOk, touch, refsOf, List.flatMap_cons, List.flatMap_nil])))) | ((with_reducible apply i_Vq); (focus rfl); (focus rfl)) | ((with_reducible apply i_Vp); (focus rfl); (focus rfl); (focus rfl))); (focus (simp (disch := (first | omega | (simp only [push_cast]; done) | (simp only [push_cast]; omega) | ((try simp only [push_cast]); (with_reducible first | apply sel_lt | apply sel_ge); (focus decide); (focus (simp only [push_cast]; omega))))) only [push_cast, ↓reduceIte, Nat.reduceEqDiff, Nat.reduceBEq, Nat.reduceAdd, Nat.reduceSub, Int.reduceToNat, *] <;> with_reducible exact rfl))) | ((with_reducible first | apply i_Gb | apply i_cond); (focus (simp (disch := (first | omega | (simp only [push_cast]; done) | (simp only [push_cast]; omega) | ((try simp only [push_cast]); (with_reducible first | apply sel_lt | apply sel_ge); (focus decide); (focus (simp only [push_cast]; omega))))) only [push_cast, ↓reduceIte, Nat.reduceEqDiff, Nat.reduceBEq, Nat.reduceAdd, Nat.reduceSub, Int.reduceToNat, *] <;> with_reducible exact rfl)); all_goals (intro hX; first | (cases hX; done) | ((with_reducible first | have hX0 : true = true := hX | have hX0 : false = false := hX); clear hX0 hX) | ((try simp only [decide_eq_true_eq, decide_eq_false_iff_not, Bool.not_eq_true', Bool.not_eq_false'] at hX); (try have hXb := inB_iff.1 hX)))))
    all_goals try (exfalso; omega)
    · rename_i hX
      rw [if_neg (by omega), decide_eq_false (by omega)]
      ((first | apply i_end | apply i_endN); simp (disch := (first | omega | (simp only [push_cast]; done) | (simp only [push_cast]; omega) | ((try simp only [push_cast]); (with_reducible first | apply sel_lt | apply sel_ge); (focus decide); (focus (simp only [push_cast]; omega))))) only [push_cast, ↓reduceIte, Nat.reduceEqDiff, Nat.reduceBEq, Nat.reduceAdd, Nat.reduceSub, Int.reduceToNat, *])
    rename_i hX
    rw [if_pos (by omega), decide_eq_true (by omega)]
    refine i_loop (α := List Int × Nat × Nat) mixed (fun s => [(1, iv wd), (6, .row s.2.1 1 0 s.1.length), (7, iv (natN l)), (9, iv ((l.length : Int) - 1)), (10, iv s.1.length)])
      (fun s => [(s.2.1, 3, 1, s.1.map fun n => .val (.int .i64 n))]) (fun s => s.2.2)
      (fun s => s.1 = gapsK l wd s.1.length ∧ s.1.length < l.length ∧ s.2.1 < s.2.2) (fun s => l.length - s.1.length) (by kernel_rfl) ([], 0, 1) ⟨rfl, by simp; omega, by simp⟩ ?_ ?_ rfl ?_
    · simp (disch := (first | omega | (simp only [push_cast]; done) | (simp only [push_cast]; omega) | ((try simp only [push_cast]); (with_reducible first | apply sel_lt | apply sel_ge); (focus decide); (focus (simp only [push_cast]; omega))))) only [push_cast, ↓reduceIte, Nat.reduceEqDiff, Nat.reduceBEq, Nat.reduceAdd, Nat.reduceSub, Int.reduceToNat, List.length_append, *]
    · simp (disch := (first | omega | (simp only [push_cast]; done) | (simp only [push_cast]; omega) | ((try simp only [push_cast]); (with_reducible first | apply sel_lt | apply sel_ge); (focus decide); (focus (simp only [push_cast]; omega))))) only [push_cast, ↓reduceIte, Nat.reduceEqDiff, Nat.reduceBEq, Nat.reduceAdd, Nat.reduceSub, Int.reduceToNat, List.length_append, *]
    rintro ⟨L, x, y⟩ ⟨hL, hk, hxy⟩
    dsimp only at hL hk hxy
    replace hL := Lib.hid hL
    obtain ⟨r1, r2, r3, r4⟩ := gap_rng (m := wd - natN l) (n := (l.length : Int) - 1) (k := L.length) (by omega) (by omega) (by omega) (by omega)
    repeat' (first | (with_reducible first | apply i_seq | apply i_block | apply i_skip | apply i_exit | apply i_ret | apply i_kS | apply i_kSx | apply i_kSr | apply i_kL | apply i_kLx | apply i_kLr | apply i_kB | apply i_kBr | apply i_kBs | apply i_nil) | ((with_reducible apply i_region); (focus (simp only [List.map_cons, List.map_nil] <;> exact rfl))) | ((with_reducible apply i_draw); (focus (simp only [List.map_cons, List.map_nil] <;> exact rfl)); (focus (decide +kernel))) | ((with_reducible apply i_kBo); (focus rfl)) | ((first | ((with_reducible apply i_V); (focus rfl); (focus rfl); (focus rfl)) | ((with_reducible apply i_E); (focus rfl); (focus (first | rfl | (simp only [push_cast, ↓reduceIte, effOk, touch, refsOf, List.flatMap_cons, List.flatMap_nil])))) | ((with_reducible apply i_S); (focus rfl); (focus (first | rfl | (simp only [push_cast, ↓reduceIte, effOk, touch, refsOf, List.flatMap_cons, List.flatMap_nil])))) | ((with_reducible apply i_Vq); (focus rfl); (focus rfl)) | ((with_reducible apply i_Vp); (focus rfl); (focus rfl); (focus rfl))); (focus (simp (disch := (first | omega | (simp only [push_cast]; done) | (simp only [push_cast]; omega) | ((try simp only [push_cast]); (with_reducible first | apply sel_lt | apply sel_ge); (focus decide); (focus (simp only [push_cast]; omega))))) only [push_cast, ↓reduceIte, Nat.reduceEqDiff, Nat.reduceBEq, Nat.reduceAdd, Nat.reduceSub, Int.reduceToNat, *] <;> with_reducible exact rfl))) | ((with_reducible first | apply i_Gb | apply i_cond); (focus (simp (disch := (first | omega | (simp only [push_cast]; done) | (simp only [push_cast]; omega) | ((try simp only [push_cast]); (with_reducible first | apply sel_lt | apply sel_ge); (focus decide); (focus (simp only [push_cast]; omega))))) only [push_cast, ↓reduceIte, Nat.reduceEqDiff, Nat.reduceBEq, Nat.reduceAdd, Nat.reduceSub, Int.reduceToNat, *] <;> with_reducible exact rfl)); all_goals (intro hX; first | (cases hX; done) | ((with_reducible first | have hX0 : true = true := hX | have hX0 : false = false := hX); clear hX0 hX) | ((try simp only [decide_eq_true_eq, decide_eq_false_iff_not, Bool.not_eq_true', Bool.not_eq_false'] at hX); (try have hXb := inB_iff.1 hX)))))
    · refine ⟨(L ++ [gapF (wd - natN l) ((l.length : Int) - 1) L.length], y, y + 1), ⟨gapsK_step hL.out, by simp; omega, by dsimp only; omega⟩, by simp; omega, ?_, ?_, rfl⟩
      · simp (disch := (first | omega | (simp only [push_cast]; done) | (simp only [push_cast]; omega) | ((try simp only [push_cast]); (with_reducible first | apply sel_lt | apply sel_ge); (focus decide); (focus (simp only [push_cast]; omega))))) only [push_cast, ↓reduceIte, Nat.reduceEqDiff, Nat.reduceBEq, Nat.reduceAdd, Nat.reduceSub, Int.reduceToNat, List.length_append, gapF, *]
      · simp (disch := (first | omega | (simp only [push_cast]; done) | (simp only [push_cast]; omega) | ((try simp only [push_cast]); (with_reducible first | apply sel_lt | apply sel_ge); (focus decide); (focus (simp only [push_cast]; omega))))) only [push_cast, ↓reduceIte, Nat.reduceEqDiff, Nat.reduceBEq, Nat.reduceAdd, Nat.reduceSub, Int.reduceToNat, List.length_append, gapF, *]
    · rw [gapsL_K, show l.length - 1 = L.length by omega, ← hL.out]
      ((first | apply i_end | apply i_endN); simp (disch := (first | omega | (simp only [push_cast]; done) | (simp only [push_cast]; omega) | ((try simp only [push_cast]); (with_reducible first | apply sel_lt | apply sel_ge); (focus decide); (focus (simp only [push_cast]; omega))))) only [push_cast, ↓reduceIte, Nat.reduceEqDiff, Nat.reduceBEq, Nat.reduceAdd, Nat.reduceSub, Int.reduceToNat, *])
  · have hG : gapsB l wd = false := by
      rw [Bool.eq_false_iff]
      intro h
      have := gapsB_iff.1 h
      exact hp ⟨this.1, this.2.1, this.2.2.1⟩
    rw [gapsR_no hG, hG]
    clear hG
    have gsgap_c80 := GSgap_80; have gsgap_c58 := GSgap_58
    repeat' (first | (with_reducible first | apply i_seq | apply i_block | apply i_skip | apply i_exit | apply i_ret | apply i_kS | apply i_kSx | apply i_kSr | apply i_kL | apply i_kLx | apply i_kLr | apply i_kB | apply i_kBr | apply i_kBs | apply i_nil) | ((with_reducible apply i_region); (focus (simp only [List.map_cons, List.map_nil] <;> exact rfl))) | ((with_reducible apply i_draw); (focus (simp only [List.map_cons, List.map_nil] <;> exact rfl)); (focus (decide +kernel))) | ((with_reducible apply i_kBo); (focus rfl)) | ((first | ((with_reducible apply i_V); (focus rfl); (focus rfl); (focus rfl)) | ((with_reducible apply i_E); (focus rfl); (focus (first | rfl | (simp only [push_cast, ↓reduceIte, effOk, touch, refsOf, List.flatMap_cons, List.flatMap_nil])))) | ((with_reducible apply i_S); (focus rfl); (focus (first | rfl | (simp only [push_cast, ↓reduceIte, effOk, touch, refsOf, List.flatMap_cons, List.flatMap_nil])))) | ((with_reducible apply i_Vq); (focus rfl); (focus rfl)) | ((with_reducible apply i_Vp); (focus rfl); (focus rfl); (focus rfl))); (focus (simp (disch := (first | omega | (simp only [push_cast]; done) | (simp only [push_cast]; omega) | ((try simp only [push_cast]); (with_reducible first | apply sel_lt | apply sel_ge); (focus decide); (focus (simp only [push_cast]; omega))))) only [push_cast, ↓reduceIte, Nat.reduceEqDiff, Nat.reduceBEq, Nat.reduceAdd, Nat.reduceSub, Int.reduceToNat, *] <;> with_reducible exact rfl))) | ((with_reducible first | apply i_Gb | apply i_cond); (focus (simp (disch := (first | omega | (simp only [push_cast]; done) | (simp only [push_cast]; omega) | ((try simp only [push_cast]); (with_reducible first | apply sel_lt | apply sel_ge); (focus decide); (focus (simp only [push_cast]; omega))))) only [push_cast, ↓reduceIte, Nat.reduceEqDiff, Nat.reduceBEq, Nat.reduceAdd, Nat.reduceSub, Int.reduceToNat, *] <;> with_reducible exact rfl)); all_goals (intro hX; first | (cases hX; done) | ((with_reducible first | have hX0 : true = true := hX | have hX0 : false = false := hX); clear hX0 hX) | ((try simp only [decide_eq_true_eq, decide_eq_false_iff_not, Bool.not_eq_true', Bool.not_eq_false'] at hX); (try have hXb := inB_iff.1 hX)))))
    all_goals (first | (exfalso; simp_all; done) | (((first | apply i_end | apply i_endN); simp (disch := (first | omega | (simp only [push_cast]; done) | (simp only [push_cast]; omega) | ((try simp only [push_cast]); (with_reducible first | apply sel_lt | apply sel_ge); (focus decide); (focus (simp only [push_cast]; omega))))) only [push_cast, ↓reduceIte, Nat.reduceEqDiff, Nat.reduceBEq, Nat.reduceAdd, Nat.reduceSub, Int.reduceToNat, *]); done) | skip)
theorem div_step {a m n : Int} (hn : 0 < n) : a / n + m / n ≤ (a + m) / n ∧ (a + m) / n ≤ a / n + m / n + 1 := by
  have e1 := Int.mul_ediv_add_emod a n
  have e2 := Int.mul_ediv_add_emod m n
  have e3 := Int.mul_ediv_add_emod (a + m) n
  have a1 := Int.emod_nonneg a (show n ≠ 0 by omega)
  have a2 := Int.emod_nonneg m (show n ≠ 0 by omega)
  have a3 := Int.emod_nonneg (a + m) (show n ≠ 0 by omega)
  have b1 := Int.emod_lt_of_pos a hn
  have b2 := Int.emod_lt_of_pos m hn
  have b3 := Int.emod_lt_of_pos (a + m) hn
  generalize a / n = q0 at *
  generalize m / n = qm at *
  generalize (a + m) / n = q1 at *
  have e : n * (q1 - q0 - qm) = n * q1 - n * q0 - n * qm := by rw [Int.mul_sub, Int.mul_sub]
  constructor
  · by_cases h : q0 + qm ≤ q1
    · exact h
    · exfalso
      have : n * (q1 - q0 - qm) ≤ n * (-1) := Int.mul_le_mul_of_nonneg_left (by omega) (by omega)
      omega
  · by_cases h : q1 ≤ q0 + qm + 1
    · exact h
    · exfalso
      have : n * 2 ≤ n * (q1 - q0 - qm) := Int.mul_le_mul_of_nonneg_left (by omega) (by omega)
      omega
theorem gap_near {m n : Int} (hm : 0 ≤ m) (hn : 0 < n) (k : Nat) : 1 + m / n ≤ gapF m n k ∧ gapF m n k ≤ 2 + m / n := by
  have h := div_step (a := m * k) (m := m) hn
  have e : m * ((k : Int) + 1) = m * k + m := by rw [Int.mul_add, Int.mul_one]
  unfold gapF
  rw [e]
  omega
end Go.Proofs.YtenldjifipnjpaaDoor
