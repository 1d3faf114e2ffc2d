/- Boxes, packed (PackRow, PackStack) by the engine. -/
import Derived.Test.YtenhkmkajmnaaaaPxTy
import Derived.Test.YtenhkmkajmnaaaaPlain
import Derived.Test.YtenhkmkajmnaaaaPxGrid
namespace Go.Proofs.Ytenhkmkajmnaaaa
open Go.RowKit
set_option linter.all false
theorem ite_nat_ne {α : Type} {a b : Nat} {x y : α} (h : a ≠ b) : (if a = b then x else y) = y := if_neg h
attribute [push_cast]
  ite_nat_ne
theorem eq_of_getDB {α : Type} {d : α} {xs ys : List α} (hl : xs.length = ys.length) (h : ∀ j, j < xs.length → xs[j]?.getD d = ys[j]?.getD d) : xs = ys := by
  apply List.ext_getElem hl
  intro i h1 h2
  have := h i h1
  simpa [h1, h2] using this
theorem drop_getD {α : Type} {d : α} {l : List α} {k : Nat} (h : k < l.length) : l.drop k = l[k]?.getD d :: l.drop (k + 1) := by
  rw [List.drop_eq_getElem_cons h]; simp [h]
abbrev pvB (x : I4) : PV := .agg [.val (.int .i64 x.1), .val (.int .i64 x.2.1), .val (.int .i64 x.2.2.1), .val (.int .i64 x.2.2.2)]
abbrev dBs : Dec (List I4) := dL 4 dI4
def boxQ (a b c d : Int) : Bool := inB a 0 10000 && (inB b 0 10000 && (inB c 0 10000 && inB d (-10000) 10000))
def boxX (x : I4) : Bool := boxQ x.1 x.2.1 x.2.2.1 x.2.2.2
def boxesX (l : List I4) : Bool := decide (l.length ≤ 20) && l.all boxX
theorem boxX_iff {x : I4} : boxX x = true ↔ (0 ≤ x.1 ∧ x.1 ≤ 10000) ∧ (0 ≤ x.2.1 ∧ x.2.1 ≤ 10000) ∧ (0 ≤ x.2.2.1 ∧ x.2.2.1 ≤ 10000) ∧ (-10000 ≤ x.2.2.2 ∧ x.2.2.2 ≤ 10000) := by
  simp [boxX, boxQ, inB]
def φBoxX : Fun := F1 dI4 fun x => some (bv (boxX x))
theorem φBoxX_ap {a b c d : Int} : φBoxX [.agg [.val (.int .i64 a), .val (.int .i64 b), .val (.int .i64 c), .val (.int .i64 d)]] = some (.val (.bool (boxQ a b c d))) := F1_ap (A := dI4) (a, b, c, d)
noncomputable def GBi : Ctx := ⟨fun f => if f = 61 then some φIn else none, fun f => none⟩
theorem GBi_ok : SoundΓ Try.prog GBi := ⟨(fun f φ h => by
  unfold GBi at h
  dsimp only at h
  split at h
  · rename_i hf; cases h; subst hf; exact ⟨⟨_, Try.func61, rfl, rfl⟩, in_ok⟩
  cases h), (fun f φ h => by
  unfold GBi at h
  dsimp only at h
  cases h)⟩
theorem GBi_61 (ob : Objs) (ps : List PV) : evCall GBi ob 61 ps = (ps.mapM (reify false 0 ob fuel)).bind φIn := by
  have h : GBi.fn 61 = some φIn := by simp [GBi]
  unfold evCall
  rw [h]
  cases ps.mapM (reify false 0 ob fuel) <;> rfl
set_option maxHeartbeats 4000000 in
theorem implBoxValid_ok : Sound Try.prog 22 φBoxX := by
  refine sound_pq mixed GBi_ok Try.func22 rfl 21 rfl [.tmp 2] rfl (by kernel_rfl) fun ps r hr => ?_
  obtain ⟨⟨a, b, c, d⟩, rfl, hr⟩ := F1_some hr
  cases hr
  refine ⟨by simp, ?_⟩
  simp only [dIs, dUs, dSs, dI_e, dU_e, dB_e, dS_e, dFn_e, dL_e, dA2_e, dA3_e, dA4_e, dA5_e]
  have gbi_c61 := GBi_61; have ap := φIn_ap
  repeat' (first | (with_reducible first | apply i_seq | apply i_block | apply i_skip | apply i_exit | apply i_ret | apply i_kS | apply i_kSx | apply i_kSr | apply i_kL | apply i_kLx | apply i_kLr | apply i_kB | apply i_kBr | apply i_kBs | apply i_nil) | ((with_reducible apply i_region); (focus (simp only [List.map_cons, List.map_nil] <;> exact rfl))) | ((with_reducible apply i_draw); (focus (simp only [List.map_cons, List.map_nil] <;> exact rfl)); (focus (decide +kernel))) | ((with_reducible apply i_kBo); (focus rfl)) | ((first | ((with_reducible apply i_V); (focus rfl); (focus rfl); (focus rfl)) | ((with_reducible apply i_E); (focus rfl); (focus (first | rfl | (simp only [push_cast, ↓reduceIte, effOk, touch, refsOf, List.flatMap_cons, List.flatMap_nil])))) | ((with_reducible apply i_S); (focus rfl); (focus (first | rfl | (simp only [push_cast, ↓reduceIte, effOk, touch, refsOf, List.flatMap_cons, List.flatMap_nil])))) | ((with_reducible apply i_Vq); (focus rfl); (focus rfl)) | ((with_reducible apply i_Vp); (focus rfl); (focus rfl); (focus rfl))); (focus (simp (disch := (first | omega | (simp only [push_cast]; done) | (simp only [push_cast]; omega) | ((try simp only [push_cast]); (with_reducible first | apply sel_lt | apply sel_ge); (focus decide); (focus (simp only [push_cast]; omega))))) only [push_cast, ↓reduceIte, Nat.reduceEqDiff, Nat.reduceBEq, Nat.reduceAdd, Nat.reduceSub, Int.reduceToNat, *] <;> with_reducible exact rfl))) | ((with_reducible first | apply i_Gb | apply i_cond); (focus (simp (disch := (first | omega | (simp only [push_cast]; done) | (simp only [push_cast]; omega) | ((try simp only [push_cast]); (with_reducible first | apply sel_lt | apply sel_ge); (focus decide); (focus (simp only [push_cast]; omega))))) only [push_cast, ↓reduceIte, Nat.reduceEqDiff, Nat.reduceBEq, Nat.reduceAdd, Nat.reduceSub, Int.reduceToNat, *] <;> with_reducible exact rfl)); all_goals (intro hX; first | (cases hX; done) | ((with_reducible first | have hX0 : true = true := hX | have hX0 : false = false := hX); clear hX0 hX) | ((try simp only [decide_eq_true_eq, decide_eq_false_iff_not, Bool.not_eq_true', Bool.not_eq_false'] at hX); (try have hXb := inB_iff.1 hX)))))
  all_goals ((first | apply i_end | apply i_endN); simp (disch := (first | omega | (simp only [push_cast]; done) | (simp only [push_cast]; omega) | ((try simp only [push_cast]); (with_reducible first | apply sel_lt | apply sel_ge); (focus decide); (focus (simp only [push_cast]; omega))))) only [push_cast, ↓reduceIte, Nat.reduceEqDiff, Nat.reduceBEq, Nat.reduceAdd, Nat.reduceSub, Int.reduceToNat, *])
  all_goals simp_all [boxX, boxQ]
noncomputable def GBs : Ctx := ⟨fun f => if f = 57 then some φIn else none, fun f => none⟩
theorem GBs_ok : SoundΓ Try.prog GBs := ⟨(fun f φ h => by
  unfold GBs at h
  dsimp only at h
  split at h
  · rename_i hf; cases h; subst hf; exact ⟨⟨_, Try.func57, rfl, rfl⟩, l1In_ok⟩
  cases h), (fun f φ h => by
  unfold GBs at h
  dsimp only at h
  cases h)⟩
theorem GBs_57 (ob : Objs) (ps : List PV) : evCall GBs ob 57 ps = (ps.mapM (reify false 0 ob fuel)).bind φIn := by
  have h : GBs.fn 57 = some φIn := by simp [GBs]
  unfold evCall
  rw [h]
  cases ps.mapM (reify false 0 ob fuel) <;> rfl
set_option maxHeartbeats 4000000 in
theorem specBoxValid_ok : Sound Try.prog 63 φBoxX := by
  refine sound_pq mixed GBs_ok Try.func63 rfl 21 rfl [.tmp 2] rfl (by kernel_rfl) fun ps r hr => ?_
  obtain ⟨⟨a, b, c, d⟩, rfl, hr⟩ := F1_some hr
  cases hr
  refine ⟨by simp, ?_⟩
  simp only [dIs, dUs, dSs, dI_e, dU_e, dB_e, dS_e, dFn_e, dL_e, dA2_e, dA3_e, dA4_e, dA5_e]
  have gbs_c57 := GBs_57; have ap := φIn_ap
  repeat' (first | (with_reducible first | apply i_seq | apply i_block | apply i_skip | apply i_exit | apply i_ret | apply i_kS | apply i_kSx | apply i_kSr | apply i_kL | apply i_kLx | apply i_kLr | apply i_kB | apply i_kBr | apply i_kBs | apply i_nil) | ((with_reducible apply i_region); (focus (simp only [List.map_cons, List.map_nil] <;> exact rfl))) | ((with_reducible apply i_draw); (focus (simp only [List.map_cons, List.map_nil] <;> exact rfl)); (focus (decide +kernel))) | ((with_reducible apply i_kBo); (focus rfl)) | ((first | ((with_reducible apply i_V); (focus rfl); (focus rfl); (focus rfl)) | ((with_reducible apply i_E); (focus rfl); (focus (first | rfl | (simp only [push_cast, ↓reduceIte, effOk, touch, refsOf, List.flatMap_cons, List.flatMap_nil])))) | ((with_reducible apply i_S); (focus rfl); (focus (first | rfl | (simp only [push_cast, ↓reduceIte, effOk, touch, refsOf, List.flatMap_cons, List.flatMap_nil])))) | ((with_reducible apply i_Vq); (focus rfl); (focus rfl)) | ((with_reducible apply i_Vp); (focus rfl); (focus rfl); (focus rfl))); (focus (simp (disch := (first | omega | (simp only [push_cast]; done) | (simp only [push_cast]; omega) | ((try simp only [push_cast]); (with_reducible first | apply sel_lt | apply sel_ge); (focus decide); (focus (simp only [push_cast]; omega))))) only [push_cast, ↓reduceIte, Nat.reduceEqDiff, Nat.reduceBEq, Nat.reduceAdd, Nat.reduceSub, Int.reduceToNat, *] <;> with_reducible exact rfl))) | ((with_reducible first | apply i_Gb | apply i_cond); (focus (simp (disch := (first | omega | (simp only [push_cast]; done) | (simp only [push_cast]; omega) | ((try simp only [push_cast]); (with_reducible first | apply sel_lt | apply sel_ge); (focus decide); (focus (simp only [push_cast]; omega))))) only [push_cast, ↓reduceIte, Nat.reduceEqDiff, Nat.reduceBEq, Nat.reduceAdd, Nat.reduceSub, Int.reduceToNat, *] <;> with_reducible exact rfl)); all_goals (intro hX; first | (cases hX; done) | ((with_reducible first | have hX0 : true = true := hX | have hX0 : false = false := hX); clear hX0 hX) | ((try simp only [decide_eq_true_eq, decide_eq_false_iff_not, Bool.not_eq_true', Bool.not_eq_false'] at hX); (try have hXb := inB_iff.1 hX)))))
  all_goals ((first | apply i_end | apply i_endN); simp (disch := (first | omega | (simp only [push_cast]; done) | (simp only [push_cast]; omega) | ((try simp only [push_cast]); (with_reducible first | apply sel_lt | apply sel_ge); (focus decide); (focus (simp only [push_cast]; omega))))) only [push_cast, ↓reduceIte, Nat.reduceEqDiff, Nat.reduceBEq, Nat.reduceAdd, Nat.reduceSub, Int.reduceToNat, *])
  all_goals simp_all [boxX, boxQ]
theorem boxesX_no {l : List I4} {k : Nat} (h : k < l.length) (hb : boxX (l[k]?.getD i40) = false) : boxesX l = false := by
  have : l.all boxX = false := by
    rw [List.all_eq_false]
    exact ⟨l[k], List.getElem_mem h, by simp [h] at hb; simp [hb]⟩
  simp [boxesX, this]
theorem boxesX_yes {l : List I4} (h : ∀ j, j < l.length → boxX (l[j]?.getD i40) = true) : boxesX l = decide (l.length ≤ 20) := by
  have : l.all boxX = true := by
    rw [List.all_eq_true]
    intro x hx
    obtain ⟨j, hj, rfl⟩ := List.getElem_of_mem hx
    simpa [hj] using h j hj
  simp [boxesX, this]
def φBoxes : Fun := F1 dBs fun l => if l.length ≤ 1048576 then some (bv (boxesX l)) else none
theorem φBoxes_ap {l : List I4} (h : l.length ≤ 1048576) : φBoxes [.lst false 4 (l.map fun x => .agg [.val (.int .i64 x.1), .val (.int .i64 x.2.1), .val (.int .i64 x.2.2.1), .val (.int .i64 x.2.2.2)])] = some (.val (.bool (boxesX l))) :=
  (F1_ap (A := dBs) l).trans (if_pos h)
noncomputable def GB8 : Ctx := ⟨fun f => if f = 63 then some φBoxX else none, fun f => none⟩
theorem GB8_ok : SoundΓ Try.prog GB8 := ⟨(fun f φ h => by
  unfold GB8 at h
  dsimp only at h
  split at h
  · rename_i hf; cases h; subst hf; exact ⟨⟨_, Try.func63, rfl, rfl⟩, specBoxValid_ok⟩
  cases h), (fun f φ h => by
  unfold GB8 at h
  dsimp only at h
  cases h)⟩
theorem GB8_63 (ob : Objs) (ps : List PV) : evCall GB8 ob 63 ps = (ps.mapM (reify false 0 ob fuel)).bind φBoxX := by
  have h : GB8.fn 63 = some φBoxX := by simp [GB8]
  unfold evCall
  rw [h]
  cases ps.mapM (reify false 0 ob fuel) <;> rfl
set_option maxHeartbeats 4000000 in
theorem l18Valid_ok : Sound Try.prog 76 φBoxes := by
  refine sound_pq mixed GB8_ok Try.func76 rfl 19 rfl [.tmp 2] rfl (by kernel_rfl) fun ps r hr => ?_
  obtain ⟨l, rfl, hq⟩ := F1_some hr
  clear hr
  split at hq
  case isFalse => cases hq
  case isTrue hlen =>
  cases hq
  refine ⟨by simp, ?_⟩
  simp only [dIs, dUs, dSs, dI_e, dU_e, dB_e, dS_e, dFn_e, dL_e, dA2_e, dA3_e, dA4_e, dA5_e]
  have gb8_c63 := GB8_63; have ap := @φBoxX_ap
  repeat' (first | (with_reducible first | apply i_seq | apply i_block | apply i_skip | apply i_exit | apply i_ret | apply i_kS | apply i_kSx | apply i_kSr | apply i_kL | apply i_kLx | apply i_kLr | apply i_kB | apply i_kBr | apply i_kBs | apply i_nil) | ((with_reducible apply i_region); (focus (simp only [List.map_cons, List.map_nil] <;> exact rfl))) | ((with_reducible apply i_draw); (focus (simp only [List.map_cons, List.map_nil] <;> exact rfl)); (focus (decide +kernel))) | ((with_reducible apply i_kBo); (focus rfl)) | ((first | ((with_reducible apply i_V); (focus rfl); (focus rfl); (focus rfl)) | ((with_reducible apply i_E); (focus rfl); (focus (first | rfl | (simp only [push_cast, ↓reduceIte, effOk, touch, refsOf, List.flatMap_cons, List.flatMap_nil])))) | ((with_reducible apply i_S); (focus rfl); (focus (first | rfl | (simp only [push_cast, ↓reduceIte, effOk, touch, refsOf, List.flatMap_cons, List.flatMap_nil])))) | ((with_reducible apply i_Vq); (focus rfl); (focus rfl)) | ((with_reducible apply i_Vp); (focus rfl); (focus rfl); (focus rfl))); (focus (simp (disch := (first | omega | (simp only [push_cast]; done) | (simp only [push_cast]; omega) | ((try simp only [push_cast]); (with_reducible first | apply sel_lt | apply sel_ge); (focus decide); (focus (simp only [push_cast]; omega))))) only [push_cast, ↓reduceIte, Nat.reduceEqDiff, Nat.reduceBEq, Nat.reduceAdd, Nat.reduceSub, Int.reduceToNat, *] <;> with_reducible exact rfl))) | ((with_reducible first | apply i_Gb | apply i_cond); (focus (simp (disch := (first | omega | (simp only [push_cast]; done) | (simp only [push_cast]; omega) | ((try simp only [push_cast]); (with_reducible first | apply sel_lt | apply sel_ge); (focus decide); (focus (simp only [push_cast]; omega))))) only [push_cast, ↓reduceIte, Nat.reduceEqDiff, Nat.reduceBEq, Nat.reduceAdd, Nat.reduceSub, Int.reduceToNat, *] <;> with_reducible exact rfl)); all_goals (intro hX; first | (cases hX; done) | ((with_reducible first | have hX0 : true = true := hX | have hX0 : false = false := hX); clear hX0 hX) | ((try simp only [decide_eq_true_eq, decide_eq_false_iff_not, Bool.not_eq_true', Bool.not_eq_false'] at hX); (try have hXb := inB_iff.1 hX)))))
  refine i_loop (α := Nat) mixed (fun k => [(0, .lst false 4 (l.map fun x => .agg [.val (.int .i64 x.1), .val (.int .i64 x.2.1), .val (.int .i64 x.2.2.1), .val (.int .i64 x.2.2.2)])), (3, iv k)]) (fun _ => []) (fun _ => 0)
    (fun k => k ≤ l.length ∧ ∀ j, j < k → boxX (l[j]?.getD i40) = true) (fun k => l.length - k) (by kernel_rfl) 0 ⟨Nat.zero_le _, fun j hj => by omega⟩ ?_ trivial rfl ?_
  · simp only [push_cast, ↓reduceIte, Nat.reduceEqDiff, Nat.reduceBEq, Nat.reduceAdd, Nat.reduceSub, Int.reduceToNat]
  · intro k ⟨hk, hok⟩
    have hb : boxX (l[k]?.getD i40) = boxQ (l[k]?.getD i40).1 (l[k]?.getD i40).2.1 (l[k]?.getD i40).2.2.1 (l[k]?.getD i40).2.2.2 := rfl
    repeat' (first | (with_reducible first | apply i_seq | apply i_block | apply i_skip | apply i_exit | apply i_ret | apply i_kS | apply i_kSx | apply i_kSr | apply i_kL | apply i_kLx | apply i_kLr | apply i_kB | apply i_kBr | apply i_kBs | apply i_nil) | ((with_reducible apply i_region); (focus (simp only [List.map_cons, List.map_nil] <;> exact rfl))) | ((with_reducible apply i_draw); (focus (simp only [List.map_cons, List.map_nil] <;> exact rfl)); (focus (decide +kernel))) | ((with_reducible apply i_kBo); (focus rfl)) | ((first | ((with_reducible apply i_V); (focus rfl); (focus rfl); (focus rfl)) | ((with_reducible apply i_E); (focus rfl); (focus (first | rfl | (simp only [push_cast, ↓reduceIte, effOk, touch, refsOf, List.flatMap_cons, List.flatMap_nil])))) | ((with_reducible apply i_S); (focus rfl); (focus (first | rfl | (simp only [push_cast, ↓reduceIte, effOk, touch, refsOf, List.flatMap_cons, List.flatMap_nil])))) | ((with_reducible apply i_Vq); (focus rfl); (focus rfl)) | ((with_reducible apply i_Vp); (focus rfl); (focus rfl); (focus rfl))); (focus (simp (disch := (first | omega | (simp only [push_cast]; done) | (simp only [push_cast]; omega) | ((try simp only [push_cast]); (with_reducible first | apply sel_lt | apply sel_ge); (focus decide); (focus (simp only [push_cast]; omega))))) only [push_cast, ↓reduceIte, Nat.reduceEqDiff, Nat.reduceBEq, Nat.reduceAdd, Nat.reduceSub, Int.reduceToNat, *] <;> with_reducible exact rfl))) | ((with_reducible first | apply i_Gb | apply i_cond); (focus (simp (disch := (first | omega | (simp only [push_cast]; done) | (simp only [push_cast]; omega) | ((try simp only [push_cast]); (with_reducible first | apply sel_lt | apply sel_ge); (focus decide); (focus (simp only [push_cast]; omega))))) only [push_cast, ↓reduceIte, Nat.reduceEqDiff, Nat.reduceBEq, Nat.reduceAdd, Nat.reduceSub, Int.reduceToNat, *] <;> with_reducible exact rfl)); all_goals (intro hX; first | (cases hX; done) | ((with_reducible first | have hX0 : true = true := hX | have hX0 : false = false := hX); clear hX0 hX) | ((try simp only [decide_eq_true_eq, decide_eq_false_iff_not, Bool.not_eq_true', Bool.not_eq_false'] at hX); (try have hXb := inB_iff.1 hX)))))
    all_goals try ((first | apply i_end | apply i_endN); simp (disch := (first | omega | (simp only [push_cast]; done) | (simp only [push_cast]; omega) | ((try simp only [push_cast]); (with_reducible first | apply sel_lt | apply sel_ge); (focus decide); (focus (simp only [push_cast]; omega))))) only [push_cast, ↓reduceIte, Nat.reduceEqDiff, Nat.reduceBEq, Nat.reduceAdd, Nat.reduceSub, Int.reduceToNat, *])
    · rw [boxesX_no (k := k) (by omega) (by simp_all)]
    · refine ⟨k + 1, ⟨by omega, fun j hj => ?_⟩, by dsimp only; omega, by simp only [push_cast, ↓reduceIte, Nat.reduceEqDiff, Nat.reduceBEq, Nat.reduceAdd, Nat.reduceSub, Int.reduceToNat], trivial, rfl⟩
      by_cases h1 : j < k
      · exact hok j h1
      · have : j = k := by omega
        subst this
        simp_all
    · rw [boxesX_yes fun j hj => hok j (by omega)]
      simp
      omega
noncomputable def GBv : Ctx := ⟨fun f => if f = 22 then some φBoxX else none, fun f => none⟩
theorem GBv_ok : SoundΓ Try.prog GBv := ⟨(fun f φ h => by
  unfold GBv at h
  dsimp only at h
  split at h
  · rename_i hf; cases h; subst hf; exact ⟨⟨_, Try.func22, rfl, rfl⟩, implBoxValid_ok⟩
  cases h), (fun f φ h => by
  unfold GBv at h
  dsimp only at h
  cases h)⟩
theorem GBv_22 (ob : Objs) (ps : List PV) : evCall GBv ob 22 ps = (ps.mapM (reify false 0 ob fuel)).bind φBoxX := by
  have h : GBv.fn 22 = some φBoxX := by simp [GBv]
  unfold evCall
  rw [h]
  cases ps.mapM (reify false 0 ob fuel) <;> rfl
set_option maxHeartbeats 4000000 in
theorem boxesValid_ok : Sound Try.prog 69 φBoxes := by
  refine sound_pq mixed GBv_ok Try.func69 rfl 18 rfl [.tmp 2] rfl (by kernel_rfl) fun ps r hr => ?_
  obtain ⟨l, rfl, hq⟩ := F1_some hr
  clear hr
  split at hq
  case isFalse => cases hq
  case isTrue hlen =>
  cases hq
  refine ⟨by simp, ?_⟩
  simp only [dIs, dUs, dSs, dI_e, dU_e, dB_e, dS_e, dFn_e, dL_e, dA2_e, dA3_e, dA4_e, dA5_e]
  have gbv_c22 := GBv_22; have ap := @φBoxX_ap
  repeat' (first | (with_reducible first | apply i_seq | apply i_block | apply i_skip | apply i_exit | apply i_ret | apply i_kS | apply i_kSx | apply i_kSr | apply i_kL | apply i_kLx | apply i_kLr | apply i_kB | apply i_kBr | apply i_kBs | apply i_nil) | ((with_reducible apply i_region); (focus (simp only [List.map_cons, List.map_nil] <;> exact rfl))) | ((with_reducible apply i_draw); (focus (simp only [List.map_cons, List.map_nil] <;> exact rfl)); (focus (decide +kernel))) | ((with_reducible apply i_kBo); (focus rfl)) | ((first | ((with_reducible apply i_V); (focus rfl); (focus rfl); (focus rfl)) | ((with_reducible apply i_E); (focus rfl); (focus (first | rfl | (simp only [push_cast, ↓reduceIte, effOk, touch, refsOf, List.flatMap_cons, List.flatMap_nil])))) | ((with_reducible apply i_S); (focus rfl); (focus (first | rfl | (simp only [push_cast, ↓reduceIte, effOk, touch, refsOf, List.flatMap_cons, List.flatMap_nil])))) | ((with_reducible apply i_Vq); (focus rfl); (focus rfl)) | ((with_reducible apply i_Vp); (focus rfl); (focus rfl); (focus rfl))); (focus (simp (disch := (first | omega | (simp only [push_cast]; done) | (simp only [push_cast]; omega) | ((try simp only [push_cast]); (with_reducible first | apply sel_lt | apply sel_ge); (focus decide); (focus (simp only [push_cast]; omega))))) only [push_cast, ↓reduceIte, Nat.reduceEqDiff, Nat.reduceBEq, Nat.reduceAdd, Nat.reduceSub, Int.reduceToNat, *] <;> with_reducible exact rfl))) | ((with_reducible first | apply i_Gb | apply i_cond); (focus (simp (disch := (first | omega | (simp only [push_cast]; done) | (simp only [push_cast]; omega) | ((try simp only [push_cast]); (with_reducible first | apply sel_lt | apply sel_ge); (focus decide); (focus (simp only [push_cast]; omega))))) only [push_cast, ↓reduceIte, Nat.reduceEqDiff, Nat.reduceBEq, Nat.reduceAdd, Nat.reduceSub, Int.reduceToNat, *] <;> with_reducible exact rfl)); all_goals (intro hX; first | (cases hX; done) | ((with_reducible first | have hX0 : true = true := hX | have hX0 : false = false := hX); clear hX0 hX) | ((try simp only [decide_eq_true_eq, decide_eq_false_iff_not, Bool.not_eq_true', Bool.not_eq_false'] at hX); (try have hXb := inB_iff.1 hX)))))
  refine i_loop (α := Nat) mixed (fun k => [(0, .lst false 4 (l.map fun x => .agg [.val (.int .i64 x.1), .val (.int .i64 x.2.1), .val (.int .i64 x.2.2.1), .val (.int .i64 x.2.2.2)])), (5, .lst false 4 (l.map fun x => .agg [.val (.int .i64 x.1), .val (.int .i64 x.2.1), .val (.int .i64 x.2.2.1), .val (.int .i64 x.2.2.2)])), (6, iv l.length), (7, iv k)]) (fun _ => []) (fun k => k)
    (fun k => k ≤ l.length ∧ ∀ j, j < k → boxX (l[j]?.getD i40) = true) (fun k => l.length - k) (by kernel_rfl) 0 ⟨Nat.zero_le _, fun j hj => by omega⟩ ?_ trivial rfl ?_
  · simp only [push_cast, ↓reduceIte, Nat.reduceEqDiff, Nat.reduceBEq, Nat.reduceAdd, Nat.reduceSub, Int.reduceToNat]
  · intro k ⟨hk, hok⟩
    have hb : boxX (l[k]?.getD i40) = boxQ (l[k]?.getD i40).1 (l[k]?.getD i40).2.1 (l[k]?.getD i40).2.2.1 (l[k]?.getD i40).2.2.2 := rfl
    repeat' (first | (with_reducible first | apply i_seq | apply i_block | apply i_skip | apply i_exit | apply i_ret | apply i_kS | apply i_kSx | apply i_kSr | apply i_kL | apply i_kLx | apply i_kLr | apply i_kB | apply i_kBr | apply i_kBs | apply i_nil) | ((with_reducible apply i_region); (focus (simp only [List.map_cons, List.map_nil] <;> exact rfl))) | ((with_reducible apply i_draw); (focus (simp only [List.map_cons, List.map_nil] <;> exact rfl)); (focus (decide +kernel))) | ((with_reducible apply i_kBo); (focus rfl)) | ((first | ((with_reducible apply i_V); (focus rfl); (focus rfl); (focus rfl)) | ((with_reducible apply i_E); (focus rfl); (focus (first | rfl | (simp only [push_cast, ↓reduceIte, effOk, touch, refsOf, List.flatMap_cons, List.flatMap_nil])))) | ((with_reducible apply i_S); (focus rfl); (focus (first | rfl | (simp only [push_cast, ↓reduceIte, effOk, touch, refsOf, List.flatMap_cons, List.flatMap_nil])))) | ((with_reducible apply i_Vq); (focus rfl); (focus rfl)) | ((with_reducible apply i_Vp); (focus rfl); (focus rfl); (focus rfl))); (focus (simp (disch := (first | omega | (simp only [push_cast]; done) | (simp only [push_cast]; omega) | ((try simp only [push_cast]); (with_reducible first | apply sel_lt | apply sel_ge); (focus decide); (focus (simp only [push_cast]; omega))))) only [push_cast, ↓reduceIte, Nat.reduceEqDiff, Nat.reduceBEq, Nat.reduceAdd, Nat.reduceSub, Int.reduceToNat, *] <;> with_reducible exact rfl))) | ((with_reducible first | apply i_Gb | apply i_cond); (focus (simp (disch := (first | omega | (simp only [push_cast]; done) | (simp only [push_cast]; omega) | ((try simp only [push_cast]); (with_reducible first | apply sel_lt | apply sel_ge); (focus decide); (focus (simp only [push_cast]; omega))))) only [push_cast, ↓reduceIte, Nat.reduceEqDiff, Nat.reduceBEq, Nat.reduceAdd, Nat.reduceSub, Int.reduceToNat, *] <;> with_reducible exact rfl)); all_goals (intro hX; first | (cases hX; done) | ((with_reducible first | have hX0 : true = true := hX | have hX0 : false = false := hX); clear hX0 hX) | ((try simp only [decide_eq_true_eq, decide_eq_false_iff_not, Bool.not_eq_true', Bool.not_eq_false'] at hX); (try have hXb := inB_iff.1 hX)))))
    all_goals try ((first | apply i_end | apply i_endN); simp (disch := (first | omega | (simp only [push_cast]; done) | (simp only [push_cast]; omega) | ((try simp only [push_cast]); (with_reducible first | apply sel_lt | apply sel_ge); (focus decide); (focus (simp only [push_cast]; omega))))) only [push_cast, ↓reduceIte, Nat.reduceEqDiff, Nat.reduceBEq, Nat.reduceAdd, Nat.reduceSub, Int.reduceToNat, *])
    · rw [boxesX_no (k := k) (by omega) (by simp_all)]
    · refine ⟨k + 1, ⟨by omega, fun j hj => ?_⟩, by dsimp only; omega, by simp only [push_cast, ↓reduceIte, Nat.reduceEqDiff, Nat.reduceBEq, Nat.reduceAdd, Nat.reduceSub, Int.reduceToNat], trivial, rfl⟩
      by_cases h1 : j < k
      · exact hok j h1
      · have : j = k := by omega
        subst this
        simp_all
    · rw [boxesX_yes fun j hj => hok j (by omega)]
      simp
      omega
/-- A packed box: itself if it is valid, else the zero one. -/
def okd (o : I4) : I4 × Bool := if boxX o = true then (o, true) else (i40, false)
def φPacked : Fun := F1 dI4 fun x => some (.tup [pvB (okd x).1, bv (okd x).2])
theorem φPacked_ap {a b c d : Int} : φPacked [.agg [.val (.int .i64 a), .val (.int .i64 b), .val (.int .i64 c), .val (.int .i64 d)]] = some (.tup [pvB (okd (a, b, c, d)).1, .val (.bool (okd (a, b, c, d)).2)]) := F1_ap (A := dI4) (a, b, c, d)
set_option maxHeartbeats 4000000 in
theorem packed_ok : Sound Try.prog 62 φPacked := by
  refine sound_pq mixed GBv_ok Try.func62 rfl 9 rfl [.cell 2 29, .tmp 3] rfl (by kernel_rfl) fun ps r hr => ?_
  obtain ⟨⟨a, b, c, d⟩, rfl, hr⟩ := F1_some hr
  cases hr
  refine ⟨by simp, ?_⟩
  simp only [dIs, dUs, dSs, dI_e, dU_e, dB_e, dS_e, dFn_e, dL_e, dA2_e, dA3_e, dA4_e, dA5_e]
  have gbv_c22 := GBv_22; have ap := @φBoxX_ap
  repeat' (first | (with_reducible first | apply i_seq | apply i_block | apply i_skip | apply i_exit | apply i_ret | apply i_kS | apply i_kSx | apply i_kSr | apply i_kL | apply i_kLx | apply i_kLr | apply i_kB | apply i_kBr | apply i_kBs | apply i_nil) | ((with_reducible apply i_region); (focus (simp only [List.map_cons, List.map_nil] <;> exact rfl))) | ((with_reducible apply i_draw); (focus (simp only [List.map_cons, List.map_nil] <;> exact rfl)); (focus (decide +kernel))) | ((with_reducible apply i_kBo); (focus rfl)) | ((first | ((with_reducible apply i_V); (focus rfl); (focus rfl); (focus rfl)) | ((with_reducible apply i_E); (focus rfl); (focus (first | rfl | (simp only [push_cast, ↓reduceIte, effOk, touch, refsOf, List.flatMap_cons, List.flatMap_nil])))) | ((with_reducible apply i_S); (focus rfl); (focus (first | rfl | (simp only [push_cast, ↓reduceIte, effOk, touch, refsOf, List.flatMap_cons, List.flatMap_nil])))) | ((with_reducible apply i_Vq); (focus rfl); (focus rfl)) | ((with_reducible apply i_Vp); (focus rfl); (focus rfl); (focus rfl))); (focus (simp (disch := (first | omega | (simp only [push_cast]; done) | (simp only [push_cast]; omega) | ((try simp only [push_cast]); (with_reducible first | apply sel_lt | apply sel_ge); (focus decide); (focus (simp only [push_cast]; omega))))) only [push_cast, ↓reduceIte, Nat.reduceEqDiff, Nat.reduceBEq, Nat.reduceAdd, Nat.reduceSub, Int.reduceToNat, *] <;> with_reducible exact rfl))) | ((with_reducible first | apply i_Gb | apply i_cond); (focus (simp (disch := (first | omega | (simp only [push_cast]; done) | (simp only [push_cast]; omega) | ((try simp only [push_cast]); (with_reducible first | apply sel_lt | apply sel_ge); (focus decide); (focus (simp only [push_cast]; omega))))) only [push_cast, ↓reduceIte, Nat.reduceEqDiff, Nat.reduceBEq, Nat.reduceAdd, Nat.reduceSub, Int.reduceToNat, *] <;> with_reducible exact rfl)); all_goals (intro hX; first | (cases hX; done) | ((with_reducible first | have hX0 : true = true := hX | have hX0 : false = false := hX); clear hX0 hX) | ((try simp only [decide_eq_true_eq, decide_eq_false_iff_not, Bool.not_eq_true', Bool.not_eq_false'] at hX); (try have hXb := inB_iff.1 hX)))))
  all_goals ((first | apply i_end | apply i_endN); simp (disch := (first | omega | (simp only [push_cast]; done) | (simp only [push_cast]; omega) | ((try simp only [push_cast]); (with_reducible first | apply sel_lt | apply sel_ge); (focus decide); (focus (simp only [push_cast]; omega))))) only [push_cast, ↓reduceIte, Nat.reduceEqDiff, Nat.reduceBEq, Nat.reduceAdd, Nat.reduceSub, Int.reduceToNat, *])
  all_goals simp_all [okd, boxX, i40]
def mx (m n : Int) : Int := if n > m then n else m
theorem mx_fold (m n : Int) : (if n > m then n else m) = mx m n := rfl
theorem mx_bd {m n lo hi : Int} (h1 : lo ≤ m) (h2 : m ≤ hi) (h3 : n ≤ hi) : lo ≤ mx m n ∧ mx m n ≤ hi := by unfold mx; split <;> omega
def rowStep (o x : I4) : I4 := (o.1 + x.1, mx o.2.1 (x.2.1 - x.2.2.2), mx o.2.2.1 (x.2.2.1 + x.2.2.2), o.2.2.2)
def stackStep (o x : I4) : I4 := (mx o.1 (x.1 + x.2.2.2), o.2.1 + o.2.2.1 + x.2.1, x.2.2.1, o.2.2.2)
def packG (st : I4 → I4 → I4) (l : List I4) : I4 × Bool := if boxesX l = true then okd (l.foldl st i40) else (i40, false)
def φPackR : Fun := F1 dBs fun l => if l.length ≤ 1048576 then some (.tup [pvB (packG rowStep l).1, bv (packG rowStep l).2]) else none
def φPackS : Fun := F1 dBs fun l => if l.length ≤ 1048576 then some (.tup [pvB (packG stackStep l).1, bv (packG stackStep l).2]) else none
theorem φPackR_ap {l : List I4} (h : l.length ≤ 1048576) : φPackR [.lst false 4 (l.map fun x => .agg [.val (.int .i64 x.1), .val (.int .i64 x.2.1), .val (.int .i64 x.2.2.1), .val (.int .i64 x.2.2.2)])] = some (.tup [pvB (packG rowStep l).1, .val (.bool (packG rowStep l).2)]) :=
  (F1_ap (A := dBs) l).trans (if_pos h)
theorem φPackS_ap {l : List I4} (h : l.length ≤ 1048576) : φPackS [.lst false 4 (l.map fun x => .agg [.val (.int .i64 x.1), .val (.int .i64 x.2.1), .val (.int .i64 x.2.2.1), .val (.int .i64 x.2.2.2)])] = some (.tup [pvB (packG stackStep l).1, .val (.bool (packG stackStep l).2)]) :=
  (F1_ap (A := dBs) l).trans (if_pos h)
theorem boxesX_at {l : List I4} (h : boxesX l = true) : l.length ≤ 20 ∧ ∀ k, k < l.length → boxX (l[k]?.getD i40) = true := by
  unfold boxesX at h
  rw [Bool.and_eq_true, decide_eq_true_eq, List.all_eq_true] at h
  exact ⟨h.1, fun k hk => by simpa [hk] using h.2 _ (List.getElem_mem hk)⟩
attribute [push_cast]
  mx_fold
noncomputable def GPr8 : Ctx := ⟨fun f => if f = 76 then some φBoxes else if f = 63 then some φBoxX else none, fun f => none⟩
theorem GPr8_ok : SoundΓ Try.prog GPr8 := ⟨(fun f φ h => by
  unfold GPr8 at h
  dsimp only at h
  split at h
  · rename_i hf; cases h; subst hf; exact ⟨⟨_, Try.func76, rfl, rfl⟩, l18Valid_ok⟩
  split at h
  · rename_i hf; cases h; subst hf; exact ⟨⟨_, Try.func63, rfl, rfl⟩, specBoxValid_ok⟩
  cases h), (fun f φ h => by
  unfold GPr8 at h
  dsimp only at h
  cases h)⟩
theorem GPr8_76 (ob : Objs) (ps : List PV) : evCall GPr8 ob 76 ps = (ps.mapM (reify false 0 ob fuel)).bind φBoxes := by
  have h : GPr8.fn 76 = some φBoxes := by simp [GPr8]
  unfold evCall
  rw [h]
  cases ps.mapM (reify false 0 ob fuel) <;> rfl
theorem GPr8_63 (ob : Objs) (ps : List PV) : evCall GPr8 ob 63 ps = (ps.mapM (reify false 0 ob fuel)).bind φBoxX := by
  have h : GPr8.fn 63 = some φBoxX := by simp [GPr8]
  unfold evCall
  rw [h]
  cases ps.mapM (reify false 0 ob fuel) <;> rfl
set_option maxHeartbeats 4000000 in
theorem specPackRow_ok : Sound Try.prog 31 φPackR := by
  refine sound_pq mixed GPr8_ok Try.func31 rfl 61 rfl [.cell 2 29, .tmp 3] rfl (by kernel_rfl) fun ps r hr => ?_
  obtain ⟨l, rfl, hq⟩ := F1_some hr
  clear hr
  split at hq
  case isFalse => cases hq
  case isTrue hlen =>
  cases hq
  have ap := φBoxes_ap hlen
  refine ⟨by simp, ?_⟩
  cases hv : boxesX l with
  | false =>
    rw [show packG rowStep l = (i40, false) by simp [packG, hv]]
    simp only [dIs, dUs, dSs, dI_e, dU_e, dB_e, dS_e, dFn_e, dL_e, dA2_e, dA3_e, dA4_e, dA5_e]
    have gpr8_c76 := GPr8_76; have gpr8_c63 := GPr8_63
    repeat' (first | (with_reducible first | apply i_seq | apply i_block | apply i_skip | apply i_exit | apply i_ret | apply i_kS | apply i_kSx | apply i_kSr | apply i_kL | apply i_kLx | apply i_kLr | apply i_kB | apply i_kBr | apply i_kBs | apply i_nil) | ((with_reducible apply i_region); (focus (simp only [List.map_cons, List.map_nil] <;> exact rfl))) | ((with_reducible apply i_draw); (focus (simp only [List.map_cons, List.map_nil] <;> exact rfl)); (focus (decide +kernel))) | ((with_reducible apply i_kBo); (focus rfl)) | ((first | ((with_reducible apply i_V); (focus rfl); (focus rfl); (focus rfl)) | ((with_reducible apply i_E); (focus rfl); (focus (first | rfl | (simp only [push_cast, ↓reduceIte, effOk, touch, refsOf, List.flatMap_cons, List.flatMap_nil])))) | ((with_reducible apply i_S); (focus rfl); (focus (first | rfl | (simp only [push_cast, ↓reduceIte, effOk, touch, refsOf, List.flatMap_cons, List.flatMap_nil])))) | ((with_reducible apply i_Vq); (focus rfl); (focus rfl)) | ((with_reducible apply i_Vp); (focus rfl); (focus rfl); (focus rfl))); (focus (simp (disch := (first | omega | (simp only [push_cast]; done) | (simp only [push_cast]; omega) | ((try simp only [push_cast]); (with_reducible first | apply sel_lt | apply sel_ge); (focus decide); (focus (simp only [push_cast]; omega))))) only [push_cast, ↓reduceIte, Nat.reduceEqDiff, Nat.reduceBEq, Nat.reduceAdd, Nat.reduceSub, Int.reduceToNat, *] <;> with_reducible exact rfl))) | ((with_reducible first | apply i_Gb | apply i_cond); (focus (simp (disch := (first | omega | (simp only [push_cast]; done) | (simp only [push_cast]; omega) | ((try simp only [push_cast]); (with_reducible first | apply sel_lt | apply sel_ge); (focus decide); (focus (simp only [push_cast]; omega))))) only [push_cast, ↓reduceIte, Nat.reduceEqDiff, Nat.reduceBEq, Nat.reduceAdd, Nat.reduceSub, Int.reduceToNat, *] <;> with_reducible exact rfl)); all_goals (intro hX; first | (cases hX; done) | ((with_reducible first | have hX0 : true = true := hX | have hX0 : false = false := hX); clear hX0 hX) | ((try simp only [decide_eq_true_eq, decide_eq_false_iff_not, Bool.not_eq_true', Bool.not_eq_false'] at hX); (try have hXb := inB_iff.1 hX)))))
    all_goals ((first | apply i_end | apply i_endN); simp (disch := (first | omega | (simp only [push_cast]; done) | (simp only [push_cast]; omega) | ((try simp only [push_cast]); (with_reducible first | apply sel_lt | apply sel_ge); (focus decide); (focus (simp only [push_cast]; omega))))) only [push_cast, ↓reduceIte, Nat.reduceEqDiff, Nat.reduceBEq, Nat.reduceAdd, Nat.reduceSub, Int.reduceToNat, *])
    all_goals rfl
  | true =>
    obtain ⟨h20, hx⟩ := boxesX_at hv
    rw [show packG rowStep l = okd (l.foldl rowStep i40) by simp [packG, hv]]
    generalize hR : l.foldl rowStep i40 = R
    simp only [dIs, dUs, dSs, dI_e, dU_e, dB_e, dS_e, dFn_e, dL_e, dA2_e, dA3_e, dA4_e, dA5_e]
    have gpr8_c76 := GPr8_76; have gpr8_c63 := GPr8_63; have ap2 := @φBoxX_ap
    repeat' (first | (with_reducible first | apply i_seq | apply i_block | apply i_skip | apply i_exit | apply i_ret | apply i_kS | apply i_kSx | apply i_kSr | apply i_kL | apply i_kLx | apply i_kLr | apply i_kB | apply i_kBr | apply i_kBs | apply i_nil) | ((with_reducible apply i_region); (focus (simp only [List.map_cons, List.map_nil] <;> exact rfl))) | ((with_reducible apply i_draw); (focus (simp only [List.map_cons, List.map_nil] <;> exact rfl)); (focus (decide +kernel))) | ((with_reducible apply i_kBo); (focus rfl)) | ((first | ((with_reducible apply i_V); (focus rfl); (focus rfl); (focus rfl)) | ((with_reducible apply i_E); (focus rfl); (focus (first | rfl | (simp only [push_cast, ↓reduceIte, effOk, touch, refsOf, List.flatMap_cons, List.flatMap_nil])))) | ((with_reducible apply i_S); (focus rfl); (focus (first | rfl | (simp only [push_cast, ↓reduceIte, effOk, touch, refsOf, List.flatMap_cons, List.flatMap_nil])))) | ((with_reducible apply i_Vq); (focus rfl); (focus rfl)) | ((with_reducible apply i_Vp); (focus rfl); (focus rfl); (focus rfl))); (focus (simp (disch := (first | omega | (simp only [push_cast]; done) | (simp only [push_cast]; omega) | ((try simp only [push_cast]); (with_reducible first | apply sel_lt | apply sel_ge); (focus decide); (focus (simp only [push_cast]; omega))))) only [push_cast, ↓reduceIte, Nat.reduceEqDiff, Nat.reduceBEq, Nat.reduceAdd, Nat.reduceSub, Int.reduceToNat, *] <;> with_reducible exact rfl))) | ((with_reducible first | apply i_Gb | apply i_cond); (focus (simp (disch := (first | omega | (simp only [push_cast]; done) | (simp only [push_cast]; omega) | ((try simp only [push_cast]); (with_reducible first | apply sel_lt | apply sel_ge); (focus decide); (focus (simp only [push_cast]; omega))))) only [push_cast, ↓reduceIte, Nat.reduceEqDiff, Nat.reduceBEq, Nat.reduceAdd, Nat.reduceSub, Int.reduceToNat, *] <;> with_reducible exact rfl)); all_goals (intro hX; first | (cases hX; done) | ((with_reducible first | have hX0 : true = true := hX | have hX0 : false = false := hX); clear hX0 hX) | ((try simp only [decide_eq_true_eq, decide_eq_false_iff_not, Bool.not_eq_true', Bool.not_eq_false'] at hX); (try have hXb := inB_iff.1 hX)))))
    refine i_loop (α := Nat × I4) mixed (fun k => [(0, .lst false 4 (l.map fun x => .agg [.val (.int .i64 x.1), .val (.int .i64 x.2.1), .val (.int .i64 x.2.2.1), .val (.int .i64 x.2.2.2)])), (2, .own 0 4 0 0), (4, .own 1 4 0 0), (5, iv k.1)]) (fun k => [(0, 29, 4, [pvB i40]), (1, 29, 4, [pvB k.2])]) (fun _ => 2)
      (fun k => k.1 ≤ l.length ∧ 0 ≤ k.2.1 ∧ k.2.1 ≤ 10000 * k.1 ∧ R = (l.drop k.1).foldl rowStep k.2) (fun k => l.length - k.1) (by kernel_rfl) (0, i40) ⟨Nat.zero_le _, by simp [i40], by simp [i40], by simp [hR]⟩ ?_ ?_ ?_ ?_
    · simp only [push_cast, ↓reduceIte, Nat.reduceEqDiff, Nat.reduceBEq, Nat.reduceAdd, Nat.reduceSub, Int.reduceToNat]
    · simp only [push_cast, ↓reduceIte, Nat.reduceEqDiff, Nat.reduceBEq, Nat.reduceAdd, Nat.reduceSub, Int.reduceToNat, i40]
    · simp only [push_cast, ↓reduceIte, Nat.reduceEqDiff, Nat.reduceBEq, Nat.reduceAdd, Nat.reduceSub, Int.reduceToNat]
    · rintro ⟨k, o⟩ ⟨hk, h0, h1, hok⟩
      dsimp only at hk h0 h1 hok
      have hxk : k < l.length → boxX (l[k]?.getD i40) = true := hx k
      clear hx ap
      by_cases hkn : k < l.length
      · have hb := boxX_iff.1 (hxk hkn)
        obtain ⟨⟨b1, b2⟩, ⟨b3, b4⟩, ⟨b5, b6⟩, b7, b8⟩ := hb
        rw [drop_getD (d := i40) hkn, List.foldl_cons] at hok
        clear hxk
        repeat' (first | (with_reducible first | apply i_seq | apply i_block | apply i_skip | apply i_exit | apply i_ret | apply i_kS | apply i_kSx | apply i_kSr | apply i_kL | apply i_kLx | apply i_kLr | apply i_kB | apply i_kBr | apply i_kBs | apply i_nil) | ((with_reducible apply i_region); (focus (simp only [List.map_cons, List.map_nil] <;> exact rfl))) | ((with_reducible apply i_draw); (focus (simp only [List.map_cons, List.map_nil] <;> exact rfl)); (focus (decide +kernel))) | ((with_reducible apply i_kBo); (focus rfl)) | ((first | ((with_reducible apply i_V); (focus rfl); (focus rfl); (focus rfl)) | ((with_reducible apply i_E); (focus rfl); (focus (first | rfl | (simp only [push_cast, ↓reduceIte, effOk, touch, refsOf, List.flatMap_cons, List.flatMap_nil])))) | ((with_reducible apply i_S); (focus rfl); (focus (first | rfl | (simp only [push_cast, ↓reduceIte, effOk, touch, refsOf, List.flatMap_cons, List.flatMap_nil])))) | ((with_reducible apply i_Vq); (focus rfl); (focus rfl)) | ((with_reducible apply i_Vp); (focus rfl); (focus rfl); (focus rfl))); (focus (simp (disch := (first | omega | (simp only [push_cast]; done) | (simp only [push_cast]; omega) | ((try simp only [push_cast]); (with_reducible first | apply sel_lt | apply sel_ge); (focus decide); (focus (simp only [push_cast]; omega))))) only [push_cast, ↓reduceIte, Nat.reduceEqDiff, Nat.reduceBEq, Nat.reduceAdd, Nat.reduceSub, Int.reduceToNat, *] <;> with_reducible exact rfl))) | ((with_reducible first | apply i_Gb | apply i_cond); (focus (simp (disch := (first | omega | (simp only [push_cast]; done) | (simp only [push_cast]; omega) | ((try simp only [push_cast]); (with_reducible first | apply sel_lt | apply sel_ge); (focus decide); (focus (simp only [push_cast]; omega))))) only [push_cast, ↓reduceIte, Nat.reduceEqDiff, Nat.reduceBEq, Nat.reduceAdd, Nat.reduceSub, Int.reduceToNat, *] <;> with_reducible exact rfl)); all_goals (intro hX; first | (cases hX; done) | ((with_reducible first | have hX0 : true = true := hX | have hX0 : false = false := hX); clear hX0 hX) | ((try simp only [decide_eq_true_eq, decide_eq_false_iff_not, Bool.not_eq_true', Bool.not_eq_false'] at hX); (try have hXb := inB_iff.1 hX)))))
        all_goals try (exfalso; omega)
        refine ⟨(k + 1, rowStep o (l[k]?.getD i40)), ⟨by dsimp only; omega, by simp only [rowStep]; omega, by simp only [rowStep, Int.natCast_add, Int.natCast_one]; omega, hok⟩, by dsimp only; omega, by simp only [push_cast, ↓reduceIte, Nat.reduceEqDiff, Nat.reduceBEq, Nat.reduceAdd, Nat.reduceSub, Int.reduceToNat], by simp (disch := omega) only [push_cast, ↓reduceIte, Nat.reduceEqDiff, Nat.reduceBEq, Nat.reduceAdd, Nat.reduceSub, Int.reduceToNat, rowStep], rfl⟩
      · rw [List.drop_eq_nil_of_le (by omega)] at hok
        have hok2 : R = o := hok
        subst hok2
        clear hok
        repeat' (first | (with_reducible first | apply i_seq | apply i_block | apply i_skip | apply i_exit | apply i_ret | apply i_kS | apply i_kSx | apply i_kSr | apply i_kL | apply i_kLx | apply i_kLr | apply i_kB | apply i_kBr | apply i_kBs | apply i_nil) | ((with_reducible apply i_region); (focus (simp only [List.map_cons, List.map_nil] <;> exact rfl))) | ((with_reducible apply i_draw); (focus (simp only [List.map_cons, List.map_nil] <;> exact rfl)); (focus (decide +kernel))) | ((with_reducible apply i_kBo); (focus rfl)) | ((first | ((with_reducible apply i_V); (focus rfl); (focus rfl); (focus rfl)) | ((with_reducible apply i_E); (focus rfl); (focus (first | rfl | (simp only [push_cast, ↓reduceIte, effOk, touch, refsOf, List.flatMap_cons, List.flatMap_nil])))) | ((with_reducible apply i_S); (focus rfl); (focus (first | rfl | (simp only [push_cast, ↓reduceIte, effOk, touch, refsOf, List.flatMap_cons, List.flatMap_nil])))) | ((with_reducible apply i_Vq); (focus rfl); (focus rfl)) | ((with_reducible apply i_Vp); (focus rfl); (focus rfl); (focus rfl))); (focus (simp (disch := (first | omega | (simp only [push_cast]; done) | (simp only [push_cast]; omega) | ((try simp only [push_cast]); (with_reducible first | apply sel_lt | apply sel_ge); (focus decide); (focus (simp only [push_cast]; omega))))) only [push_cast, ↓reduceIte, Nat.reduceEqDiff, Nat.reduceBEq, Nat.reduceAdd, Nat.reduceSub, Int.reduceToNat, *] <;> with_reducible exact rfl))) | ((with_reducible first | apply i_Gb | apply i_cond); (focus (simp (disch := (first | omega | (simp only [push_cast]; done) | (simp only [push_cast]; omega) | ((try simp only [push_cast]); (with_reducible first | apply sel_lt | apply sel_ge); (focus decide); (focus (simp only [push_cast]; omega))))) only [push_cast, ↓reduceIte, Nat.reduceEqDiff, Nat.reduceBEq, Nat.reduceAdd, Nat.reduceSub, Int.reduceToNat, *] <;> with_reducible exact rfl)); all_goals (intro hX; first | (cases hX; done) | ((with_reducible first | have hX0 : true = true := hX | have hX0 : false = false := hX); clear hX0 hX) | ((try simp only [decide_eq_true_eq, decide_eq_false_iff_not, Bool.not_eq_true', Bool.not_eq_false'] at hX); (try have hXb := inB_iff.1 hX)))))
        all_goals try (exfalso; omega)
        all_goals ((first | apply i_end | apply i_endN); simp (disch := (first | omega | (simp only [push_cast]; done) | (simp only [push_cast]; omega) | ((try simp only [push_cast]); (with_reducible first | apply sel_lt | apply sel_ge); (focus decide); (focus (simp only [push_cast]; omega))))) only [push_cast, ↓reduceIte, Nat.reduceEqDiff, Nat.reduceBEq, Nat.reduceAdd, Nat.reduceSub, Int.reduceToNat, *])
        all_goals simp_all [okd, boxX, i40]
noncomputable def GPr8s : Ctx := ⟨fun f => if f = 76 then some φBoxes else if f = 63 then some φBoxX else none, fun f => none⟩
theorem GPr8s_ok : SoundΓ Try.prog GPr8s := ⟨(fun f φ h => by
  unfold GPr8s at h
  dsimp only at h
  split at h
  · rename_i hf; cases h; subst hf; exact ⟨⟨_, Try.func76, rfl, rfl⟩, l18Valid_ok⟩
  split at h
  · rename_i hf; cases h; subst hf; exact ⟨⟨_, Try.func63, rfl, rfl⟩, specBoxValid_ok⟩
  cases h), (fun f φ h => by
  unfold GPr8s at h
  dsimp only at h
  cases h)⟩
theorem GPr8s_76 (ob : Objs) (ps : List PV) : evCall GPr8s ob 76 ps = (ps.mapM (reify false 0 ob fuel)).bind φBoxes := by
  have h : GPr8s.fn 76 = some φBoxes := by simp [GPr8s]
  unfold evCall
  rw [h]
  cases ps.mapM (reify false 0 ob fuel) <;> rfl
theorem GPr8s_63 (ob : Objs) (ps : List PV) : evCall GPr8s ob 63 ps = (ps.mapM (reify false 0 ob fuel)).bind φBoxX := by
  have h : GPr8s.fn 63 = some φBoxX := by simp [GPr8s]
  unfold evCall
  rw [h]
  cases ps.mapM (reify false 0 ob fuel) <;> rfl
set_option maxHeartbeats 4000000 in
theorem specPackStack_ok : Sound Try.prog 34 φPackS := by
  refine sound_pq mixed GPr8s_ok Try.func34 rfl 55 rfl [.cell 2 29, .tmp 3] rfl (by kernel_rfl) fun ps r hr => ?_
  obtain ⟨l, rfl, hq⟩ := F1_some hr
  clear hr
  split at hq
  case isFalse => cases hq
  case isTrue hlen =>
  cases hq
  have ap := φBoxes_ap hlen
  refine ⟨by simp, ?_⟩
  cases hv : boxesX l with
  | false =>
    rw [show packG stackStep l = (i40, false) by simp [packG, hv]]
    simp only [dIs, dUs, dSs, dI_e, dU_e, dB_e, dS_e, dFn_e, dL_e, dA2_e, dA3_e, dA4_e, dA5_e]
    have gpr8s_c76 := GPr8s_76; have gpr8s_c63 := GPr8s_63
    repeat' (first | (with_reducible first | apply i_seq | apply i_block | apply i_skip | apply i_exit | apply i_ret | apply i_kS | apply i_kSx | apply i_kSr | apply i_kL | apply i_kLx | apply i_kLr | apply i_kB | apply i_kBr | apply i_kBs | apply i_nil) | ((with_reducible apply i_region); (focus (simp only [List.map_cons, List.map_nil] <;> exact rfl))) | ((with_reducible apply i_draw); (focus (simp only [List.map_cons, List.map_nil] <;> exact rfl)); (focus (decide +kernel))) | ((with_reducible apply i_kBo); (focus rfl)) | ((first | ((with_reducible apply i_V); (focus rfl); (focus rfl); (focus rfl)) | ((with_reducible apply i_E); (focus rfl); (focus (first | rfl | (simp only [push_cast, ↓reduceIte, effOk, touch, refsOf, List.flatMap_cons, List.flatMap_nil])))) | ((with_reducible apply i_S); (focus rfl); (focus (first | rfl | (simp only [push_cast, ↓reduceIte, effOk, touch, refsOf, List.flatMap_cons, List.flatMap_nil])))) | ((with_reducible apply i_Vq); (focus rfl); (focus rfl)) | ((with_reducible apply i_Vp); (focus rfl); (focus rfl); (focus rfl))); (focus (simp (disch := (first | omega | (simp only [push_cast]; done) | (simp only [push_cast]; omega) | ((try simp only [push_cast]); (with_reducible first | apply sel_lt | apply sel_ge); (focus decide); (focus (simp only [push_cast]; omega))))) only [push_cast, ↓reduceIte, Nat.reduceEqDiff, Nat.reduceBEq, Nat.reduceAdd, Nat.reduceSub, Int.reduceToNat, *] <;> with_reducible exact rfl))) | ((with_reducible first | apply i_Gb | apply i_cond); (focus (simp (disch := (first | omega | (simp only [push_cast]; done) | (simp only [push_cast]; omega) | ((try simp only [push_cast]); (with_reducible first | apply sel_lt | apply sel_ge); (focus decide); (focus (simp only [push_cast]; omega))))) only [push_cast, ↓reduceIte, Nat.reduceEqDiff, Nat.reduceBEq, Nat.reduceAdd, Nat.reduceSub, Int.reduceToNat, *] <;> with_reducible exact rfl)); all_goals (intro hX; first | (cases hX; done) | ((with_reducible first | have hX0 : true = true := hX | have hX0 : false = false := hX); clear hX0 hX) | ((try simp only [decide_eq_true_eq, decide_eq_false_iff_not, Bool.not_eq_true', Bool.not_eq_false'] at hX); (try have hXb := inB_iff.1 hX)))))
    all_goals ((first | apply i_end | apply i_endN); simp (disch := (first | omega | (simp only [push_cast]; done) | (simp only [push_cast]; omega) | ((try simp only [push_cast]); (with_reducible first | apply sel_lt | apply sel_ge); (focus decide); (focus (simp only [push_cast]; omega))))) only [push_cast, ↓reduceIte, Nat.reduceEqDiff, Nat.reduceBEq, Nat.reduceAdd, Nat.reduceSub, Int.reduceToNat, *])
    all_goals rfl
  | true =>
    obtain ⟨h20, hx⟩ := boxesX_at hv
    rw [show packG stackStep l = okd (l.foldl stackStep i40) by simp [packG, hv]]
    generalize hR : l.foldl stackStep i40 = R
    simp only [dIs, dUs, dSs, dI_e, dU_e, dB_e, dS_e, dFn_e, dL_e, dA2_e, dA3_e, dA4_e, dA5_e]
    have gpr8s_c76 := GPr8s_76; have gpr8s_c63 := GPr8s_63; have ap2 := @φBoxX_ap
    repeat' (first | (with_reducible first | apply i_seq | apply i_block | apply i_skip | apply i_exit | apply i_ret | apply i_kS | apply i_kSx | apply i_kSr | apply i_kL | apply i_kLx | apply i_kLr | apply i_kB | apply i_kBr | apply i_kBs | apply i_nil) | ((with_reducible apply i_region); (focus (simp only [List.map_cons, List.map_nil] <;> exact rfl))) | ((with_reducible apply i_draw); (focus (simp only [List.map_cons, List.map_nil] <;> exact rfl)); (focus (decide +kernel))) | ((with_reducible apply i_kBo); (focus rfl)) | ((first | ((with_reducible apply i_V); (focus rfl); (focus rfl); (focus rfl)) | ((with_reducible apply i_E); (focus rfl); (focus (first | rfl | (simp only [push_cast, ↓reduceIte, effOk, touch, refsOf, List.flatMap_cons, List.flatMap_nil])))) | ((with_reducible apply i_S); (focus rfl); (focus (first | rfl | (simp only [push_cast, ↓reduceIte, effOk, touch, refsOf, List.flatMap_cons, List.flatMap_nil])))) | ((with_reducible apply i_Vq); (focus rfl); (focus rfl)) | ((with_reducible apply i_Vp); (focus rfl); (focus rfl); (focus rfl))); (focus (simp (disch := (first | omega | (simp only [push_cast]; done) | (simp only [push_cast]; omega) | ((try simp only [push_cast]); (with_reducible first | apply sel_lt | apply sel_ge); (focus decide); (focus (simp only [push_cast]; omega))))) only [push_cast, ↓reduceIte, Nat.reduceEqDiff, Nat.reduceBEq, Nat.reduceAdd, Nat.reduceSub, Int.reduceToNat, *] <;> with_reducible exact rfl))) | ((with_reducible first | apply i_Gb | apply i_cond); (focus (simp (disch := (first | omega | (simp only [push_cast]; done) | (simp only [push_cast]; omega) | ((try simp only [push_cast]); (with_reducible first | apply sel_lt | apply sel_ge); (focus decide); (focus (simp only [push_cast]; omega))))) only [push_cast, ↓reduceIte, Nat.reduceEqDiff, Nat.reduceBEq, Nat.reduceAdd, Nat.reduceSub, Int.reduceToNat, *] <;> with_reducible exact rfl)); all_goals (intro hX; first | (cases hX; done) | ((with_reducible first | have hX0 : true = true := hX | have hX0 : false = false := hX); clear hX0 hX) | ((try simp only [decide_eq_true_eq, decide_eq_false_iff_not, Bool.not_eq_true', Bool.not_eq_false'] at hX); (try have hXb := inB_iff.1 hX)))))
    refine i_loop (α := Nat × I4) mixed (fun k => [(0, .lst false 4 (l.map fun x => .agg [.val (.int .i64 x.1), .val (.int .i64 x.2.1), .val (.int .i64 x.2.2.1), .val (.int .i64 x.2.2.2)])), (2, .own 0 4 0 0), (4, .own 1 4 0 0), (5, iv k.1)]) (fun k => [(0, 29, 4, [pvB i40]), (1, 29, 4, [pvB k.2])]) (fun _ => 2)
      (fun k => k.1 ≤ l.length ∧ 0 ≤ k.2.2.1 ∧ k.2.2.1 ≤ 20000 * k.1 ∧ 0 ≤ k.2.2.2.1 ∧ k.2.2.2.1 ≤ 10000 ∧ R = (l.drop k.1).foldl stackStep k.2) (fun k => l.length - k.1) (by kernel_rfl) (0, i40) ⟨Nat.zero_le _, by simp [i40], by simp [i40], by simp [i40], by simp [i40], by simp [hR]⟩ ?_ ?_ ?_ ?_
    · simp only [push_cast, ↓reduceIte, Nat.reduceEqDiff, Nat.reduceBEq, Nat.reduceAdd, Nat.reduceSub, Int.reduceToNat]
    · simp only [push_cast, ↓reduceIte, Nat.reduceEqDiff, Nat.reduceBEq, Nat.reduceAdd, Nat.reduceSub, Int.reduceToNat, i40]
    · simp only [push_cast, ↓reduceIte, Nat.reduceEqDiff, Nat.reduceBEq, Nat.reduceAdd, Nat.reduceSub, Int.reduceToNat]
    · rintro ⟨k, o⟩ ⟨hk, h0, h1, h2, h3, hok⟩
      dsimp only at hk h0 h1 h2 h3 hok
      have hxk : k < l.length → boxX (l[k]?.getD i40) = true := hx k
      clear hx ap
      by_cases hkn : k < l.length
      · have hb := boxX_iff.1 (hxk hkn)
        obtain ⟨⟨b1, b2⟩, ⟨b3, b4⟩, ⟨b5, b6⟩, b7, b8⟩ := hb
        rw [drop_getD (d := i40) hkn, List.foldl_cons] at hok
        clear hxk
        repeat' (first | (with_reducible first | apply i_seq | apply i_block | apply i_skip | apply i_exit | apply i_ret | apply i_kS | apply i_kSx | apply i_kSr | apply i_kL | apply i_kLx | apply i_kLr | apply i_kB | apply i_kBr | apply i_kBs | apply i_nil) | ((with_reducible apply i_region); (focus (simp only [List.map_cons, List.map_nil] <;> exact rfl))) | ((with_reducible apply i_draw); (focus (simp only [List.map_cons, List.map_nil] <;> exact rfl)); (focus (decide +kernel))) | ((with_reducible apply i_kBo); (focus rfl)) | ((first | ((with_reducible apply i_V); (focus rfl); (focus rfl); (focus rfl)) | ((with_reducible apply i_E); (focus rfl); (focus (first | rfl | (simp only [push_cast, ↓reduceIte, effOk, touch, refsOf, List.flatMap_cons, List.flatMap_nil])))) | ((with_reducible apply i_S); (focus rfl); (focus (first | rfl | (simp only [push_cast, ↓reduceIte, effOk, touch, refsOf, List.flatMap_cons, List.flatMap_nil])))) | ((with_reducible apply i_Vq); (focus rfl); (focus rfl)) | ((with_reducible apply i_Vp); (focus rfl); (focus rfl); (focus rfl))); (focus (simp (disch := (first | omega | (simp only [push_cast]; done) | (simp only [push_cast]; omega) | ((try simp only [push_cast]); (with_reducible first | apply sel_lt | apply sel_ge); (focus decide); (focus (simp only [push_cast]; omega))))) only [push_cast, ↓reduceIte, Nat.reduceEqDiff, Nat.reduceBEq, Nat.reduceAdd, Nat.reduceSub, Int.reduceToNat, *] <;> with_reducible exact rfl))) | ((with_reducible first | apply i_Gb | apply i_cond); (focus (simp (disch := (first | omega | (simp only [push_cast]; done) | (simp only [push_cast]; omega) | ((try simp only [push_cast]); (with_reducible first | apply sel_lt | apply sel_ge); (focus decide); (focus (simp only [push_cast]; omega))))) only [push_cast, ↓reduceIte, Nat.reduceEqDiff, Nat.reduceBEq, Nat.reduceAdd, Nat.reduceSub, Int.reduceToNat, *] <;> with_reducible exact rfl)); all_goals (intro hX; first | (cases hX; done) | ((with_reducible first | have hX0 : true = true := hX | have hX0 : false = false := hX); clear hX0 hX) | ((try simp only [decide_eq_true_eq, decide_eq_false_iff_not, Bool.not_eq_true', Bool.not_eq_false'] at hX); (try have hXb := inB_iff.1 hX)))))
        all_goals try (exfalso; omega)
        refine ⟨(k + 1, stackStep o (l[k]?.getD i40)), ⟨by dsimp only; omega, by simp only [stackStep]; omega, by simp only [stackStep, Int.natCast_add, Int.natCast_one]; omega, by simp only [stackStep]; omega, by simp only [stackStep]; omega, hok⟩, by dsimp only; omega, by simp only [push_cast, ↓reduceIte, Nat.reduceEqDiff, Nat.reduceBEq, Nat.reduceAdd, Nat.reduceSub, Int.reduceToNat], by simp (disch := omega) only [push_cast, ↓reduceIte, Nat.reduceEqDiff, Nat.reduceBEq, Nat.reduceAdd, Nat.reduceSub, Int.reduceToNat, stackStep, Int.add_assoc], rfl⟩
      · rw [List.drop_eq_nil_of_le (by omega)] at hok
        have hok2 : R = o := hok
        subst hok2
        clear hok
        repeat' (first | (with_reducible first | apply i_seq | apply i_block | apply i_skip | apply i_exit | apply i_ret | apply i_kS | apply i_kSx | apply i_kSr | apply i_kL | apply i_kLx | apply i_kLr | apply i_kB | apply i_kBr | apply i_kBs | apply i_nil) | ((with_reducible apply i_region); (focus (simp only [List.map_cons, List.map_nil] <;> exact rfl))) | ((with_reducible apply i_draw); (focus (simp only [List.map_cons, List.map_nil] <;> exact rfl)); (focus (decide +kernel))) | ((with_reducible apply i_kBo); (focus rfl)) | ((first | ((with_reducible apply i_V); (focus rfl); (focus rfl); (focus rfl)) | ((with_reducible apply i_E); (focus rfl); (focus (first | rfl | (simp only [push_cast, ↓reduceIte, effOk, touch, refsOf, List.flatMap_cons, List.flatMap_nil])))) | ((with_reducible apply i_S); (focus rfl); (focus (first | rfl | (simp only [push_cast, ↓reduceIte, effOk, touch, refsOf, List.flatMap_cons, List.flatMap_nil])))) | ((with_reducible apply i_Vq); (focus rfl); (focus rfl)) | ((with_reducible apply i_Vp); (focus rfl); (focus rfl); (focus rfl))); (focus (simp (disch := (first | omega | (simp only [push_cast]; done) | (simp only [push_cast]; omega) | ((try simp only [push_cast]); (with_reducible first | apply sel_lt | apply sel_ge); (focus decide); (focus (simp only [push_cast]; omega))))) only [push_cast, ↓reduceIte, Nat.reduceEqDiff, Nat.reduceBEq, Nat.reduceAdd, Nat.reduceSub, Int.reduceToNat, *] <;> with_reducible exact rfl))) | ((with_reducible first | apply i_Gb | apply i_cond); (focus (simp (disch := (first | omega | (simp only [push_cast]; done) | (simp only [push_cast]; omega) | ((try simp only [push_cast]); (with_reducible first | apply sel_lt | apply sel_ge); (focus decide); (focus (simp only [push_cast]; omega))))) only [push_cast, ↓reduceIte, Nat.reduceEqDiff, Nat.reduceBEq, Nat.reduceAdd, Nat.reduceSub, Int.reduceToNat, *] <;> with_reducible exact rfl)); all_goals (intro hX; first | (cases hX; done) | ((with_reducible first | have hX0 : true = true := hX | have hX0 : false = false := hX); clear hX0 hX) | ((try simp only [decide_eq_true_eq, decide_eq_false_iff_not, Bool.not_eq_true', Bool.not_eq_false'] at hX); (try have hXb := inB_iff.1 hX)))))
        all_goals try (exfalso; omega)
        all_goals ((first | apply i_end | apply i_endN); simp (disch := (first | omega | (simp only [push_cast]; done) | (simp only [push_cast]; omega) | ((try simp only [push_cast]); (with_reducible first | apply sel_lt | apply sel_ge); (focus decide); (focus (simp only [push_cast]; omega))))) only [push_cast, ↓reduceIte, Nat.reduceEqDiff, Nat.reduceBEq, Nat.reduceAdd, Nat.reduceSub, Int.reduceToNat, *])
        all_goals simp_all [okd, boxX, i40]
noncomputable def GPri : Ctx := ⟨fun f => if f = 69 then some φBoxes else if f = 62 then some φPacked else none, fun f => none⟩
theorem GPri_ok : SoundΓ Try.prog GPri := ⟨(fun f φ h => by
  unfold GPri at h
  dsimp only at h
  split at h
  · rename_i hf; cases h; subst hf; exact ⟨⟨_, Try.func69, rfl, rfl⟩, boxesValid_ok⟩
  split at h
  · rename_i hf; cases h; subst hf; exact ⟨⟨_, Try.func62, rfl, rfl⟩, packed_ok⟩
  cases h), (fun f φ h => by
  unfold GPri at h
  dsimp only at h
  cases h)⟩
theorem GPri_69 (ob : Objs) (ps : List PV) : evCall GPri ob 69 ps = (ps.mapM (reify false 0 ob fuel)).bind φBoxes := by
  have h : GPri.fn 69 = some φBoxes := by simp [GPri]
  unfold evCall
  rw [h]
  cases ps.mapM (reify false 0 ob fuel) <;> rfl
theorem GPri_62 (ob : Objs) (ps : List PV) : evCall GPri ob 62 ps = (ps.mapM (reify false 0 ob fuel)).bind φPacked := by
  have h : GPri.fn 62 = some φPacked := by simp [GPri]
  unfold evCall
  rw [h]
  cases ps.mapM (reify false 0 ob fuel) <;> rfl
set_option maxHeartbeats 4000000 in
theorem implPackRow_ok : Sound Try.prog 26 φPackR := by
  refine sound_pq mixed GPri_ok Try.func26 rfl 46 rfl [.cell 2 29, .tmp 3] rfl (by kernel_rfl) fun ps r hr => ?_
  obtain ⟨l, rfl, hq⟩ := F1_some hr
  clear hr
  split at hq
  case isFalse => cases hq
  case isTrue hlen =>
  cases hq
  have ap := φBoxes_ap hlen
  refine ⟨by simp, ?_⟩
  cases hv : boxesX l with
  | false =>
    rw [show packG rowStep l = (i40, false) by simp [packG, hv]]
    simp only [dIs, dUs, dSs, dI_e, dU_e, dB_e, dS_e, dFn_e, dL_e, dA2_e, dA3_e, dA4_e, dA5_e]
    have gpri_c69 := GPri_69; have gpri_c62 := GPri_62
    repeat' (first | (with_reducible first | apply i_seq | apply i_block | apply i_skip | apply i_exit | apply i_ret | apply i_kS | apply i_kSx | apply i_kSr | apply i_kL | apply i_kLx | apply i_kLr | apply i_kB | apply i_kBr | apply i_kBs | apply i_nil) | ((with_reducible apply i_region); (focus (simp only [List.map_cons, List.map_nil] <;> exact rfl))) | ((with_reducible apply i_draw); (focus (simp only [List.map_cons, List.map_nil] <;> exact rfl)); (focus (decide +kernel))) | ((with_reducible apply i_kBo); (focus rfl)) | ((first | ((with_reducible apply i_V); (focus rfl); (focus rfl); (focus rfl)) | ((with_reducible apply i_E); (focus rfl); (focus (first | rfl | (simp only [push_cast, ↓reduceIte, effOk, touch, refsOf, List.flatMap_cons, List.flatMap_nil])))) | ((with_reducible apply i_S); (focus rfl); (focus (first | rfl | (simp only [push_cast, ↓reduceIte, effOk, touch, refsOf, List.flatMap_cons, List.flatMap_nil])))) | ((with_reducible apply i_Vq); (focus rfl); (focus rfl)) | ((with_reducible apply i_Vp); (focus rfl); (focus rfl); (focus rfl))); (focus (simp (disch := (first | omega | (simp only [push_cast]; done) | (simp only [push_cast]; omega) | ((try simp only [push_cast]); (with_reducible first | apply sel_lt | apply sel_ge); (focus decide); (focus (simp only [push_cast]; omega))))) only [push_cast, ↓reduceIte, Nat.reduceEqDiff, Nat.reduceBEq, Nat.reduceAdd, Nat.reduceSub, Int.reduceToNat, *] <;> with_reducible exact rfl))) | ((with_reducible first | apply i_Gb | apply i_cond); (focus (simp (disch := (first | omega | (simp only [push_cast]; done) | (simp only [push_cast]; omega) | ((try simp only [push_cast]); (with_reducible first | apply sel_lt | apply sel_ge); (focus decide); (focus (simp only [push_cast]; omega))))) only [push_cast, ↓reduceIte, Nat.reduceEqDiff, Nat.reduceBEq, Nat.reduceAdd, Nat.reduceSub, Int.reduceToNat, *] <;> with_reducible exact rfl)); all_goals (intro hX; first | (cases hX; done) | ((with_reducible first | have hX0 : true = true := hX | have hX0 : false = false := hX); clear hX0 hX) | ((try simp only [decide_eq_true_eq, decide_eq_false_iff_not, Bool.not_eq_true', Bool.not_eq_false'] at hX); (try have hXb := inB_iff.1 hX)))))
    all_goals ((first | apply i_end | apply i_endN); simp (disch := (first | omega | (simp only [push_cast]; done) | (simp only [push_cast]; omega) | ((try simp only [push_cast]); (with_reducible first | apply sel_lt | apply sel_ge); (focus decide); (focus (simp only [push_cast]; omega))))) only [push_cast, ↓reduceIte, Nat.reduceEqDiff, Nat.reduceBEq, Nat.reduceAdd, Nat.reduceSub, Int.reduceToNat, *])
    all_goals rfl
  | true =>
    obtain ⟨h20, hx⟩ := boxesX_at hv
    rw [show packG rowStep l = okd (l.foldl rowStep i40) by simp [packG, hv]]
    generalize hR : l.foldl rowStep i40 = R
    simp only [dIs, dUs, dSs, dI_e, dU_e, dB_e, dS_e, dFn_e, dL_e, dA2_e, dA3_e, dA4_e, dA5_e]
    have gpri_c69 := GPri_69; have gpri_c62 := GPri_62; have ap2 := @φPacked_ap
    repeat' (first | (with_reducible first | apply i_seq | apply i_block | apply i_skip | apply i_exit | apply i_ret | apply i_kS | apply i_kSx | apply i_kSr | apply i_kL | apply i_kLx | apply i_kLr | apply i_kB | apply i_kBr | apply i_kBs | apply i_nil) | ((with_reducible apply i_region); (focus (simp only [List.map_cons, List.map_nil] <;> exact rfl))) | ((with_reducible apply i_draw); (focus (simp only [List.map_cons, List.map_nil] <;> exact rfl)); (focus (decide +kernel))) | ((with_reducible apply i_kBo); (focus rfl)) | ((first | ((with_reducible apply i_V); (focus rfl); (focus rfl); (focus rfl)) | ((with_reducible apply i_E); (focus rfl); (focus (first | rfl | (simp only [push_cast, ↓reduceIte, effOk, touch, refsOf, List.flatMap_cons, List.flatMap_nil])))) | ((with_reducible apply i_S); (focus rfl); (focus (first | rfl | (simp only [push_cast, ↓reduceIte, effOk, touch, refsOf, List.flatMap_cons, List.flatMap_nil])))) | ((with_reducible apply i_Vq); (focus rfl); (focus rfl)) | ((with_reducible apply i_Vp); (focus rfl); (focus rfl); (focus rfl))); (focus (simp (disch := (first | omega | (simp only [push_cast]; done) | (simp only [push_cast]; omega) | ((try simp only [push_cast]); (with_reducible first | apply sel_lt | apply sel_ge); (focus decide); (focus (simp only [push_cast]; omega))))) only [push_cast, ↓reduceIte, Nat.reduceEqDiff, Nat.reduceBEq, Nat.reduceAdd, Nat.reduceSub, Int.reduceToNat, *] <;> with_reducible exact rfl))) | ((with_reducible first | apply i_Gb | apply i_cond); (focus (simp (disch := (first | omega | (simp only [push_cast]; done) | (simp only [push_cast]; omega) | ((try simp only [push_cast]); (with_reducible first | apply sel_lt | apply sel_ge); (focus decide); (focus (simp only [push_cast]; omega))))) only [push_cast, ↓reduceIte, Nat.reduceEqDiff, Nat.reduceBEq, Nat.reduceAdd, Nat.reduceSub, Int.reduceToNat, *] <;> with_reducible exact rfl)); all_goals (intro hX; first | (cases hX; done) | ((with_reducible first | have hX0 : true = true := hX | have hX0 : false = false := hX); clear hX0 hX) | ((try simp only [decide_eq_true_eq, decide_eq_false_iff_not, Bool.not_eq_true', Bool.not_eq_false'] at hX); (try have hXb := inB_iff.1 hX)))))
    refine i_loop (α := Nat × I4) mixed (fun k => [(0, .lst false 4 (l.map fun x => .agg [.val (.int .i64 x.1), .val (.int .i64 x.2.1), .val (.int .i64 x.2.2.1), .val (.int .i64 x.2.2.2)])), (2, .own 0 4 0 0), (4, .own 1 4 0 0), (11, .lst false 4 (l.map fun x => .agg [.val (.int .i64 x.1), .val (.int .i64 x.2.1), .val (.int .i64 x.2.2.1), .val (.int .i64 x.2.2.2)])), (12, iv l.length), (13, iv k.1)]) (fun k => [(0, 29, 4, [pvB i40]), (1, 29, 4, [pvB k.2])]) (fun k => 2 + k.1)
      (fun k => k.1 ≤ l.length ∧ 0 ≤ k.2.1 ∧ k.2.1 ≤ 10000 * k.1 ∧ R = (l.drop k.1).foldl rowStep k.2) (fun k => l.length - k.1) (by kernel_rfl) (0, i40) ⟨Nat.zero_le _, by simp [i40], by simp [i40], by simp [hR]⟩ ?_ ?_ ?_ ?_
    · simp only [push_cast, ↓reduceIte, Nat.reduceEqDiff, Nat.reduceBEq, Nat.reduceAdd, Nat.reduceSub, Int.reduceToNat]
    · simp only [push_cast, ↓reduceIte, Nat.reduceEqDiff, Nat.reduceBEq, Nat.reduceAdd, Nat.reduceSub, Int.reduceToNat, i40]
    · simp only [push_cast, ↓reduceIte, Nat.reduceEqDiff, Nat.reduceBEq, Nat.reduceAdd, Nat.reduceSub, Int.reduceToNat]
    · rintro ⟨k, o⟩ ⟨hk, h0, h1, hok⟩
      dsimp only at hk h0 h1 hok
      have hxk : k < l.length → boxX (l[k]?.getD i40) = true := hx k
      clear hx ap
      by_cases hkn : k < l.length
      · have hb := boxX_iff.1 (hxk hkn)
        obtain ⟨⟨b1, b2⟩, ⟨b3, b4⟩, ⟨b5, b6⟩, b7, b8⟩ := hb
        rw [drop_getD (d := i40) hkn, List.foldl_cons] at hok
        clear hxk
        repeat' (first | (with_reducible first | apply i_seq | apply i_block | apply i_skip | apply i_exit | apply i_ret | apply i_kS | apply i_kSx | apply i_kSr | apply i_kL | apply i_kLx | apply i_kLr | apply i_kB | apply i_kBr | apply i_kBs | apply i_nil) | ((with_reducible apply i_region); (focus (simp only [List.map_cons, List.map_nil] <;> exact rfl))) | ((with_reducible apply i_draw); (focus (simp only [List.map_cons, List.map_nil] <;> exact rfl)); (focus (decide +kernel))) | ((with_reducible apply i_kBo); (focus rfl)) | ((first | ((with_reducible apply i_V); (focus rfl); (focus rfl); (focus rfl)) | ((with_reducible apply i_E); (focus rfl); (focus (first | rfl | (simp only [push_cast, ↓reduceIte, effOk, touch, refsOf, List.flatMap_cons, List.flatMap_nil])))) | ((with_reducible apply i_S); (focus rfl); (focus (first | rfl | (simp only [push_cast, ↓reduceIte, effOk, touch, refsOf, List.flatMap_cons, List.flatMap_nil])))) | ((with_reducible apply i_Vq); (focus rfl); (focus rfl)) | ((with_reducible apply i_Vp); (focus rfl); (focus rfl); (focus rfl))); (focus (simp (disch := (first | omega | (simp only [push_cast]; done) | (simp only [push_cast]; omega) | ((try simp only [push_cast]); (with_reducible first | apply sel_lt | apply sel_ge); (focus decide); (focus (simp only [push_cast]; omega))))) only [push_cast, ↓reduceIte, Nat.reduceEqDiff, Nat.reduceBEq, Nat.reduceAdd, Nat.reduceSub, Int.reduceToNat, *] <;> with_reducible exact rfl))) | ((with_reducible first | apply i_Gb | apply i_cond); (focus (simp (disch := (first | omega | (simp only [push_cast]; done) | (simp only [push_cast]; omega) | ((try simp only [push_cast]); (with_reducible first | apply sel_lt | apply sel_ge); (focus decide); (focus (simp only [push_cast]; omega))))) only [push_cast, ↓reduceIte, Nat.reduceEqDiff, Nat.reduceBEq, Nat.reduceAdd, Nat.reduceSub, Int.reduceToNat, *] <;> with_reducible exact rfl)); all_goals (intro hX; first | (cases hX; done) | ((with_reducible first | have hX0 : true = true := hX | have hX0 : false = false := hX); clear hX0 hX) | ((try simp only [decide_eq_true_eq, decide_eq_false_iff_not, Bool.not_eq_true', Bool.not_eq_false'] at hX); (try have hXb := inB_iff.1 hX)))))
        all_goals try (exfalso; omega)
        refine ⟨(k + 1, rowStep o (l[k]?.getD i40)), ⟨by dsimp only; omega, by simp only [rowStep]; omega, by simp only [rowStep, Int.natCast_add, Int.natCast_one]; omega, hok⟩, by dsimp only; omega, by simp only [push_cast, ↓reduceIte, Nat.reduceEqDiff, Nat.reduceBEq, Nat.reduceAdd, Nat.reduceSub, Int.reduceToNat], by simp (disch := omega) only [push_cast, ↓reduceIte, Nat.reduceEqDiff, Nat.reduceBEq, Nat.reduceAdd, Nat.reduceSub, Int.reduceToNat, rowStep], rfl⟩
      · rw [List.drop_eq_nil_of_le (by omega)] at hok
        have hok2 : R = o := hok
        subst hok2
        clear hok
        repeat' (first | (with_reducible first | apply i_seq | apply i_block | apply i_skip | apply i_exit | apply i_ret | apply i_kS | apply i_kSx | apply i_kSr | apply i_kL | apply i_kLx | apply i_kLr | apply i_kB | apply i_kBr | apply i_kBs | apply i_nil) | ((with_reducible apply i_region); (focus (simp only [List.map_cons, List.map_nil] <;> exact rfl))) | ((with_reducible apply i_draw); (focus (simp only [List.map_cons, List.map_nil] <;> exact rfl)); (focus (decide +kernel))) | ((with_reducible apply i_kBo); (focus rfl)) | ((first | ((with_reducible apply i_V); (focus rfl); (focus rfl); (focus rfl)) | ((with_reducible apply i_E); (focus rfl); (focus (first | rfl | (simp only [push_cast, ↓reduceIte, effOk, touch, refsOf, List.flatMap_cons, List.flatMap_nil])))) | ((with_reducible apply i_S); (focus rfl); (focus (first | rfl | (simp only [push_cast, ↓reduceIte, effOk, touch, refsOf, List.flatMap_cons, List.flatMap_nil])))) | ((with_reducible apply i_Vq); (focus rfl); (focus rfl)) | ((with_reducible apply i_Vp); (focus rfl); (focus rfl); (focus rfl))); (focus (simp (disch := (first | omega | (simp only [push_cast]; done) | (simp only [push_cast]; omega) | ((try simp only [push_cast]); (with_reducible first | apply sel_lt | apply sel_ge); (focus decide); (focus (simp only [push_cast]; omega))))) only [push_cast, ↓reduceIte, Nat.reduceEqDiff, Nat.reduceBEq, Nat.reduceAdd, Nat.reduceSub, Int.reduceToNat, *] <;> with_reducible exact rfl))) | ((with_reducible first | apply i_Gb | apply i_cond); (focus (simp (disch := (first | omega | (simp only [push_cast]; done) | (simp only [push_cast]; omega) | ((try simp only [push_cast]); (with_reducible first | apply sel_lt | apply sel_ge); (focus decide); (focus (simp only [push_cast]; omega))))) only [push_cast, ↓reduceIte, Nat.reduceEqDiff, Nat.reduceBEq, Nat.reduceAdd, Nat.reduceSub, Int.reduceToNat, *] <;> with_reducible exact rfl)); all_goals (intro hX; first | (cases hX; done) | ((with_reducible first | have hX0 : true = true := hX | have hX0 : false = false := hX); clear hX0 hX) | ((try simp only [decide_eq_true_eq, decide_eq_false_iff_not, Bool.not_eq_true', Bool.not_eq_false'] at hX); (try have hXb := inB_iff.1 hX)))))
        all_goals try (exfalso; omega)
        all_goals ((first | apply i_end | apply i_endN); simp (disch := (first | omega | (simp only [push_cast]; done) | (simp only [push_cast]; omega) | ((try simp only [push_cast]); (with_reducible first | apply sel_lt | apply sel_ge); (focus decide); (focus (simp only [push_cast]; omega))))) only [push_cast, ↓reduceIte, Nat.reduceEqDiff, Nat.reduceBEq, Nat.reduceAdd, Nat.reduceSub, Int.reduceToNat, *])
        all_goals rfl
noncomputable def GPris : Ctx := ⟨fun f => if f = 69 then some φBoxes else if f = 62 then some φPacked else none, fun f => none⟩
theorem GPris_ok : SoundΓ Try.prog GPris := ⟨(fun f φ h => by
  unfold GPris at h
  dsimp only at h
  split at h
  · rename_i hf; cases h; subst hf; exact ⟨⟨_, Try.func69, rfl, rfl⟩, boxesValid_ok⟩
  split at h
  · rename_i hf; cases h; subst hf; exact ⟨⟨_, Try.func62, rfl, rfl⟩, packed_ok⟩
  cases h), (fun f φ h => by
  unfold GPris at h
  dsimp only at h
  cases h)⟩
theorem GPris_69 (ob : Objs) (ps : List PV) : evCall GPris ob 69 ps = (ps.mapM (reify false 0 ob fuel)).bind φBoxes := by
  have h : GPris.fn 69 = some φBoxes := by simp [GPris]
  unfold evCall
  rw [h]
  cases ps.mapM (reify false 0 ob fuel) <;> rfl
theorem GPris_62 (ob : Objs) (ps : List PV) : evCall GPris ob 62 ps = (ps.mapM (reify false 0 ob fuel)).bind φPacked := by
  have h : GPris.fn 62 = some φPacked := by simp [GPris]
  unfold evCall
  rw [h]
  cases ps.mapM (reify false 0 ob fuel) <;> rfl
set_option maxHeartbeats 4000000 in
theorem implPackStack_ok : Sound Try.prog 33 φPackS := by
  refine sound_pq mixed GPris_ok Try.func33 rfl 43 rfl [.cell 2 29, .tmp 3] rfl (by kernel_rfl) fun ps r hr => ?_
  obtain ⟨l, rfl, hq⟩ := F1_some hr
  clear hr
  split at hq
  case isFalse => cases hq
  case isTrue hlen =>
  cases hq
  have ap := φBoxes_ap hlen
  refine ⟨by simp, ?_⟩
  cases hv : boxesX l with
  | false =>
    rw [show packG stackStep l = (i40, false) by simp [packG, hv]]
    simp only [dIs, dUs, dSs, dI_e, dU_e, dB_e, dS_e, dFn_e, dL_e, dA2_e, dA3_e, dA4_e, dA5_e]
    have gpris_c69 := GPris_69; have gpris_c62 := GPris_62
    repeat' (first | (with_reducible first | apply i_seq | apply i_block | apply i_skip | apply i_exit | apply i_ret | apply i_kS | apply i_kSx | apply i_kSr | apply i_kL | apply i_kLx | apply i_kLr | apply i_kB | apply i_kBr | apply i_kBs | apply i_nil) | ((with_reducible apply i_region); (focus (simp only [List.map_cons, List.map_nil] <;> exact rfl))) | ((with_reducible apply i_draw); (focus (simp only [List.map_cons, List.map_nil] <;> exact rfl)); (focus (decide +kernel))) | ((with_reducible apply i_kBo); (focus rfl)) | ((first | ((with_reducible apply i_V); (focus rfl); (focus rfl); (focus rfl)) | ((with_reducible apply i_E); (focus rfl); (focus (first | rfl | (simp only [push_cast, ↓reduceIte, effOk, touch, refsOf, List.flatMap_cons, List.flatMap_nil])))) | ((with_reducible apply i_S); (focus rfl); (focus (first | rfl | (simp only [push_cast, ↓reduceIte, effOk, touch, refsOf, List.flatMap_cons, List.flatMap_nil])))) | ((with_reducible apply i_Vq); (focus rfl); (focus rfl)) | ((with_reducible apply i_Vp); (focus rfl); (focus rfl); (focus rfl))); (focus (simp (disch := (first | omega | (simp only [push_cast]; done) | (simp only [push_cast]; omega) | ((try simp only [push_cast]); (with_reducible first | apply sel_lt | apply sel_ge); (focus decide); (focus (simp only [push_cast]; omega))))) only [push_cast, ↓reduceIte, Nat.reduceEqDiff, Nat.reduceBEq, Nat.reduceAdd, Nat.reduceSub, Int.reduceToNat, *] <;> with_reducible exact rfl))) | ((with_reducible first | apply i_Gb | apply i_cond); (focus (simp (disch := (first | omega | (simp only [push_cast]; done) | (simp only [push_cast]; omega) | ((try simp only [push_cast]); (with_reducible first | apply sel_lt | apply sel_ge); (focus decide); (focus (simp only [push_cast]; omega))))) only [push_cast, ↓reduceIte, Nat.reduceEqDiff, Nat.reduceBEq, Nat.reduceAdd, Nat.reduceSub, Int.reduceToNat, *] <;> with_reducible exact rfl)); all_goals (intro hX; first | (cases hX; done) | ((with_reducible first | have hX0 : true = true := hX | have hX0 : false = false := hX); clear hX0 hX) | ((try simp only [decide_eq_true_eq, decide_eq_false_iff_not, Bool.not_eq_true', Bool.not_eq_false'] at hX); (try have hXb := inB_iff.1 hX)))))
    all_goals ((first | apply i_end | apply i_endN); simp (disch := (first | omega | (simp only [push_cast]; done) | (simp only [push_cast]; omega) | ((try simp only [push_cast]); (with_reducible first | apply sel_lt | apply sel_ge); (focus decide); (focus (simp only [push_cast]; omega))))) only [push_cast, ↓reduceIte, Nat.reduceEqDiff, Nat.reduceBEq, Nat.reduceAdd, Nat.reduceSub, Int.reduceToNat, *])
    all_goals rfl
  | true =>
    obtain ⟨h20, hx⟩ := boxesX_at hv
    rw [show packG stackStep l = okd (l.foldl stackStep i40) by simp [packG, hv]]
    generalize hR : l.foldl stackStep i40 = R
    simp only [dIs, dUs, dSs, dI_e, dU_e, dB_e, dS_e, dFn_e, dL_e, dA2_e, dA3_e, dA4_e, dA5_e]
    have gpris_c69 := GPris_69; have gpris_c62 := GPris_62; have ap2 := @φPacked_ap
    repeat' (first | (with_reducible first | apply i_seq | apply i_block | apply i_skip | apply i_exit | apply i_ret | apply i_kS | apply i_kSx | apply i_kSr | apply i_kL | apply i_kLx | apply i_kLr | apply i_kB | apply i_kBr | apply i_kBs | apply i_nil) | ((with_reducible apply i_region); (focus (simp only [List.map_cons, List.map_nil] <;> exact rfl))) | ((with_reducible apply i_draw); (focus (simp only [List.map_cons, List.map_nil] <;> exact rfl)); (focus (decide +kernel))) | ((with_reducible apply i_kBo); (focus rfl)) | ((first | ((with_reducible apply i_V); (focus rfl); (focus rfl); (focus rfl)) | ((with_reducible apply i_E); (focus rfl); (focus (first | rfl | (simp only [push_cast, ↓reduceIte, effOk, touch, refsOf, List.flatMap_cons, List.flatMap_nil])))) | ((with_reducible apply i_S); (focus rfl); (focus (first | rfl | (simp only [push_cast, ↓reduceIte, effOk, touch, refsOf, List.flatMap_cons, List.flatMap_nil])))) | ((with_reducible apply i_Vq); (focus rfl); (focus rfl)) | ((with_reducible apply i_Vp); (focus rfl); (focus rfl); (focus rfl))); (focus (simp (disch := (first | omega | (simp only [push_cast]; done) | (simp only [push_cast]; omega) | ((try simp only [push_cast]); (with_reducible first | apply sel_lt | apply sel_ge); (focus decide); (focus (simp only [push_cast]; omega))))) only [push_cast, ↓reduceIte, Nat.reduceEqDiff, Nat.reduceBEq, Nat.reduceAdd, Nat.reduceSub, Int.reduceToNat, *] <;> with_reducible exact rfl))) | ((with_reducible first | apply i_Gb | apply i_cond); (focus (simp (disch := (first | omega | (simp only [push_cast]; done) | (simp only [push_cast]; omega) | ((try simp only [push_cast]); (with_reducible first | apply sel_lt | apply sel_ge); (focus decide); (focus (simp only [push_cast]; omega))))) only [push_cast, ↓reduceIte, Nat.reduceEqDiff, Nat.reduceBEq, Nat.reduceAdd, Nat.reduceSub, Int.reduceToNat, *] <;> with_reducible exact rfl)); all_goals (intro hX; first | (cases hX; done) | ((with_reducible first | have hX0 : true = true := hX | have hX0 : false = false := hX); clear hX0 hX) | ((try simp only [decide_eq_true_eq, decide_eq_false_iff_not, Bool.not_eq_true', Bool.not_eq_false'] at hX); (try have hXb := inB_iff.1 hX)))))
    refine i_loop (α := Nat × I4) mixed (fun k => [(0, .lst false 4 (l.map fun x => .agg [.val (.int .i64 x.1), .val (.int .i64 x.2.1), .val (.int .i64 x.2.2.1), .val (.int .i64 x.2.2.2)])), (2, .own 0 4 0 0), (4, .own 1 4 0 0), (11, .lst false 4 (l.map fun x => .agg [.val (.int .i64 x.1), .val (.int .i64 x.2.1), .val (.int .i64 x.2.2.1), .val (.int .i64 x.2.2.2)])), (12, iv l.length), (13, iv k.1)]) (fun k => [(0, 29, 4, [pvB i40]), (1, 29, 4, [pvB k.2])]) (fun k => 2 + k.1)
      (fun k => k.1 ≤ l.length ∧ 0 ≤ k.2.2.1 ∧ k.2.2.1 ≤ 20000 * k.1 ∧ 0 ≤ k.2.2.2.1 ∧ k.2.2.2.1 ≤ 10000 ∧ R = (l.drop k.1).foldl stackStep k.2) (fun k => l.length - k.1) (by kernel_rfl) (0, i40) ⟨Nat.zero_le _, by simp [i40], by simp [i40], by simp [i40], by simp [i40], by simp [hR]⟩ ?_ ?_ ?_ ?_
    · simp only [push_cast, ↓reduceIte, Nat.reduceEqDiff, Nat.reduceBEq, Nat.reduceAdd, Nat.reduceSub, Int.reduceToNat]
    · simp only [push_cast, ↓reduceIte, Nat.reduceEqDiff, Nat.reduceBEq, Nat.reduceAdd, Nat.reduceSub, Int.reduceToNat, i40]
    · simp only [push_cast, ↓reduceIte, Nat.reduceEqDiff, Nat.reduceBEq, Nat.reduceAdd, Nat.reduceSub, Int.reduceToNat]
    · rintro ⟨k, o⟩ ⟨hk, h0, h1, h2, h3, hok⟩
      dsimp only at hk h0 h1 h2 h3 hok
      have hxk : k < l.length → boxX (l[k]?.getD i40) = true := hx k
      clear hx ap
      by_cases hkn : k < l.length
      · have hb := boxX_iff.1 (hxk hkn)
        obtain ⟨⟨b1, b2⟩, ⟨b3, b4⟩, ⟨b5, b6⟩, b7, b8⟩ := hb
        rw [drop_getD (d := i40) hkn, List.foldl_cons] at hok
        clear hxk
        repeat' (first | (with_reducible first | apply i_seq | apply i_block | apply i_skip | apply i_exit | apply i_ret | apply i_kS | apply i_kSx | apply i_kSr | apply i_kL | apply i_kLx | apply i_kLr | apply i_kB | apply i_kBr | apply i_kBs | apply i_nil) | ((with_reducible apply i_region); (focus (simp only [List.map_cons, List.map_nil] <;> exact rfl))) | ((with_reducible apply i_draw); (focus (simp only [List.map_cons, List.map_nil] <;> exact rfl)); (focus (decide +kernel))) | ((with_reducible apply i_kBo); (focus rfl)) | ((first | ((with_reducible apply i_V); (focus rfl); (focus rfl); (focus rfl)) | ((with_reducible apply i_E); (focus rfl); (focus (first | rfl | (simp only [push_cast, ↓reduceIte, effOk, touch, refsOf, List.flatMap_cons, List.flatMap_nil])))) | ((with_reducible apply i_S); (focus rfl); (focus (first | rfl | (simp only [push_cast, ↓reduceIte, effOk, touch, refsOf, List.flatMap_cons, List.flatMap_nil])))) | ((with_reducible apply i_Vq); (focus rfl); (focus rfl)) | ((with_reducible apply i_Vp); (focus rfl); (focus rfl); (focus rfl))); (focus (simp (disch := (first | omega | (simp only [push_cast]; done) | (simp only [push_cast]; omega) | ((try simp only [push_cast]); (with_reducible first | apply sel_lt | apply sel_ge); (focus decide); (focus (simp only [push_cast]; omega))))) only [push_cast, ↓reduceIte, Nat.reduceEqDiff, Nat.reduceBEq, Nat.reduceAdd, Nat.reduceSub, Int.reduceToNat, *] <;> with_reducible exact rfl))) | ((with_reducible first | apply i_Gb | apply i_cond); (focus (simp (disch := (first | omega | (simp only [push_cast]; done) | (simp only [push_cast]; omega) | ((try simp only [push_cast]); (with_reducible first | apply sel_lt | apply sel_ge); (focus decide); (focus (simp only [push_cast]; omega))))) only [push_cast, ↓reduceIte, Nat.reduceEqDiff, Nat.reduceBEq, Nat.reduceAdd, Nat.reduceSub, Int.reduceToNat, *] <;> with_reducible exact rfl)); all_goals (intro hX; first | (cases hX; done) | ((with_reducible first | have hX0 : true = true := hX | have hX0 : false = false := hX); clear hX0 hX) | ((try simp only [decide_eq_true_eq, decide_eq_false_iff_not, Bool.not_eq_true', Bool.not_eq_false'] at hX); (try have hXb := inB_iff.1 hX)))))
        all_goals try (exfalso; omega)
        refine ⟨(k + 1, stackStep o (l[k]?.getD i40)), ⟨by dsimp only; omega, by simp only [stackStep]; omega, by simp only [stackStep, Int.natCast_add, Int.natCast_one]; omega, by simp only [stackStep]; omega, by simp only [stackStep]; omega, hok⟩, by dsimp only; omega, by simp only [push_cast, ↓reduceIte, Nat.reduceEqDiff, Nat.reduceBEq, Nat.reduceAdd, Nat.reduceSub, Int.reduceToNat], by simp (disch := omega) only [push_cast, ↓reduceIte, Nat.reduceEqDiff, Nat.reduceBEq, Nat.reduceAdd, Nat.reduceSub, Int.reduceToNat, stackStep, Int.add_assoc], rfl⟩
      · rw [List.drop_eq_nil_of_le (by omega)] at hok
        have hok2 : R = o := hok
        subst hok2
        clear hok
        repeat' (first | (with_reducible first | apply i_seq | apply i_block | apply i_skip | apply i_exit | apply i_ret | apply i_kS | apply i_kSx | apply i_kSr | apply i_kL | apply i_kLx | apply i_kLr | apply i_kB | apply i_kBr | apply i_kBs | apply i_nil) | ((with_reducible apply i_region); (focus (simp only [List.map_cons, List.map_nil] <;> exact rfl))) | ((with_reducible apply i_draw); (focus (simp only [List.map_cons, List.map_nil] <;> exact rfl)); (focus (decide +kernel))) | ((with_reducible apply i_kBo); (focus rfl)) | ((first | ((with_reducible apply i_V); (focus rfl); (focus rfl); (focus rfl)) | ((with_reducible apply i_E); (focus rfl); (focus (first | rfl | (simp only [push_cast, ↓reduceIte, effOk, touch, refsOf, List.flatMap_cons, List.flatMap_nil])))) | ((with_reducible apply i_S); (focus rfl); (focus (first | rfl | (simp only [push_cast, ↓reduceIte, effOk, touch, refsOf, List.flatMap_cons, List.flatMap_nil])))) | ((with_reducible apply i_Vq); (focus rfl); (focus rfl)) | ((with_reducible apply i_Vp); (focus rfl); (focus rfl); (focus rfl))); (focus (simp (disch := (first | omega | (simp only [push_cast]; done) | (simp only [push_cast]; omega) | ((try simp only [push_cast]); (with_reducible first | apply sel_lt | apply sel_ge); (focus decide); (focus (simp only [push_cast]; omega))))) only [push_cast, ↓reduceIte, Nat.reduceEqDiff, Nat.reduceBEq, Nat.reduceAdd, Nat.reduceSub, Int.reduceToNat, *] <;> with_reducible exact rfl))) | ((with_reducible first | apply i_Gb | apply i_cond); (focus (simp (disch := (first | omega | (simp only [push_cast]; done) | (simp only [push_cast]; omega) | ((try simp only [push_cast]); (with_reducible first | apply sel_lt | apply sel_ge); (focus decide); (focus (simp only [push_cast]; omega))))) only [push_cast, ↓reduceIte, Nat.reduceEqDiff, Nat.reduceBEq, Nat.reduceAdd, Nat.reduceSub, Int.reduceToNat, *] <;> with_reducible exact rfl)); all_goals (intro hX; first | (cases hX; done) | ((with_reducible first | have hX0 : true = true := hX | have hX0 : false = false := hX); clear hX0 hX) | ((try simp only [decide_eq_true_eq, decide_eq_false_iff_not, Bool.not_eq_true', Bool.not_eq_false'] at hX); (try have hXb := inB_iff.1 hX)))))
        all_goals try (exfalso; omega)
        all_goals ((first | apply i_end | apply i_endN); simp (disch := (first | omega | (simp only [push_cast]; done) | (simp only [push_cast]; omega) | ((try simp only [push_cast]); (with_reducible first | apply sel_lt | apply sel_ge); (focus decide); (focus (simp only [push_cast]; omega))))) only [push_cast, ↓reduceIte, Nat.reduceEqDiff, Nat.reduceBEq, Nat.reduceAdd, Nat.reduceSub, Int.reduceToNat, *])
        all_goals rfl
end Go.Proofs.Ytenhkmkajmnaaaa
