/- Rows and stacks of boxes: what holds of them. -/
import Derived.Test.YtenhkmkajmnaaaaPxFrac
namespace Go.Proofs.Ytenhkmkajmnaaaa
open Go.RowKit
set_option linter.all false
theorem packG_cases (st : I4 → I4 → I4) (l : List I4) : packG st l = ((0, 0, 0, 0), false) ∨ (boxesX l = true ∧ boxX (l.foldl st i40) = true ∧ packG st l = (l.foldl st i40, true)) := by
  unfold packG okd
  by_cases h : boxesX l = true
  · rw [if_pos h]
    by_cases h2 : boxX (l.foldl st i40) = true
    · rw [if_pos h2]; exact .inr ⟨h, h2, rfl⟩
    · rw [if_neg h2]; exact .inl rfl
  · rw [if_neg h]; exact .inl rfl
theorem boxesX_mem {l : List I4} (h : boxesX l = true) : l.length ≤ 20 ∧ ∀ b ∈ l, boxX b = true := by
  unfold boxesX at h
  rw [Bool.and_eq_true, decide_eq_true_eq, List.all_eq_true] at h
  exact h
theorem boxesX_of {l : List I4} (h1 : l.length ≤ 20) (h2 : ∀ b ∈ l, boxX b = true) : boxesX l = true := by
  unfold boxesX
  rw [Bool.and_eq_true, decide_eq_true_eq, List.all_eq_true]
  exact ⟨h1, h2⟩
/-! Rows. -/
theorem foldR_from : ∀ (l : List I4) (o : I4), 0 ≤ o.2.1 → 0 ≤ o.2.2.1 → l.foldl rowStep o = (o.1 + (l.foldl rowStep i40).1, mx o.2.1 (l.foldl rowStep i40).2.1, mx o.2.2.1 (l.foldl rowStep i40).2.2.1, o.2.2.2) ∧ 0 ≤ (l.foldl rowStep i40).2.1 ∧ 0 ≤ (l.foldl rowStep i40).2.2.1 ∧ (l.foldl rowStep i40).2.2.2 = 0
  | [], o, h1, h2 => by
    obtain ⟨a, b, c, d⟩ := o
    dsimp only at h1 h2
    simp only [List.foldl_nil, i40, Int.add_zero, Prod.mk.injEq, true_and, and_true]
    refine ⟨⟨?_, ?_⟩, by omega⟩ <;> (unfold mx; split <;> omega)
  | x :: l, o, h1, h2 => by
    obtain ⟨a, b, c, d⟩ := o
    obtain ⟨x1, x2, x3, x4⟩ := x
    dsimp only at h1 h2
    have k1 := mx_pos (m := b) (n := x2 - x4) h1
    have k2 := mx_pos (m := c) (n := x3 + x4) h2
    have k3 := mx_pos (m := 0) (n := x2 - x4) (Int.le_refl 0)
    have k4 := mx_pos (m := 0) (n := x3 + x4) (Int.le_refl 0)
    obtain ⟨e1, e2, e3, e4⟩ := foldR_from l (rowStep (a, b, c, d) (x1, x2, x3, x4)) k1.1 k2.1
    obtain ⟨f1, _⟩ := foldR_from l (rowStep i40 (x1, x2, x3, x4)) k3.1 k4.1
    simp only [List.foldl_cons]
    rw [e1, f1]
    generalize (l.foldl rowStep i40).1 = s1 at *
    generalize (l.foldl rowStep i40).2.1 = s2 at *
    generalize (l.foldl rowStep i40).2.2.1 = s3 at *
    simp only [rowStep, i40, Prod.mk.injEq]
    refine ⟨⟨by omega, ?_, ?_, trivial⟩, ?_, ?_, trivial⟩
    · unfold mx; repeat' (split <;> try omega)
    · unfold mx; repeat' (split <;> try omega)
    · exact (mx_pos k3.1).1
    · exact (mx_pos k4.1).1
theorem rowStep_comm (o x y : I4) : rowStep (rowStep o x) y = rowStep (rowStep o y) x := by
  obtain ⟨a, b, c, d⟩ := o
  obtain ⟨x1, x2, x3, x4⟩ := x
  obtain ⟨y1, y2, y3, y4⟩ := y
  simp only [rowStep, Prod.mk.injEq, and_true]
  refine ⟨by omega, ?_, ?_⟩ <;> (unfold mx; repeat' (split <;> try omega))
theorem foldR_reverse (l : List I4) : l.reverse.foldl rowStep i40 = l.foldl rowStep i40 :=
  (List.reverse_perm l).foldl_eq' (fun x _ y _ z => rowStep_comm z x y) i40
theorem packR_reverse (l : List I4) : packG rowStep l.reverse = packG rowStep l := by
  unfold packG
  rw [foldR_reverse]
  have : boxesX l.reverse = boxesX l := by simp [boxesX]
  rw [this]
/-- Two parts packed, and packed together. -/
theorem packR_both {l : List I4} {h : Nat} (h0 : boxesX l = true)
    (h1 : (packG rowStep (l.take h)).2 = true) (h2 : (packG rowStep (l.drop h)).2 = true) (h3 : (packG rowStep [(packG rowStep (l.take h)).1, (packG rowStep (l.drop h)).1]).2 = true) :
    (packG rowStep [(packG rowStep (l.take h)).1, (packG rowStep (l.drop h)).1]).1 = l.foldl rowStep i40 := by
  rcases packG_cases rowStep (l.take h) with e1 | ⟨a1, a2, e1⟩
  · rw [e1] at h1; cases h1
  rcases packG_cases rowStep (l.drop h) with e2 | ⟨b1, b2, e2⟩
  · rw [e2] at h2; cases h2
  rw [e1, e2] at h3 ⊢
  dsimp only at h3 ⊢
  rcases packG_cases rowStep [(l.take h).foldl rowStep i40, (l.drop h).foldl rowStep i40] with e3 | ⟨c1, c2, e3⟩
  · rw [e3] at h3; cases h3
  rw [e3]
  dsimp only
  have t := (foldR_from (l.take h) i40 (Int.le_refl 0) (Int.le_refl 0)).2
  have d := foldR_from (l.drop h) ((l.take h).foldl rowStep i40) t.1 t.2.1
  have e : l.foldl rowStep i40 = (l.drop h).foldl rowStep ((l.take h).foldl rowStep i40) := by rw [← List.foldl_append, List.take_append_drop]
  rw [e, d.1]
  obtain ⟨_, d2, d3, d4⟩ := d
  obtain ⟨t1, t2, t3⟩ := t
  simp only [List.foldl_cons, List.foldl_nil]
  generalize (l.take h).foldl rowStep i40 = T at *
  generalize (l.drop h).foldl rowStep i40 = D at *
  obtain ⟨p1, p2, p3, p4⟩ := T
  obtain ⟨q1, q2, q3, q4⟩ := D
  dsimp only at *
  subst t3 d4
  simp only [rowStep, i40, Prod.mk.injEq, and_true]
  refine ⟨by omega, ?_, ?_⟩ <;> (unfold mx; repeat' (split <;> try omega))
/-! Stacks. -/
theorem foldS_from : ∀ (l : List I4) (o : I4), 0 ≤ o.1 → (l ≠ [] → l.foldl stackStep o = (mx o.1 (l.foldl stackStep i40).1, o.2.1 + o.2.2.1 + (l.foldl stackStep i40).2.1, (l.foldl stackStep i40).2.2.1, o.2.2.2)) ∧ 0 ≤ (l.foldl stackStep i40).1 ∧ (l.foldl stackStep i40).2.2.2 = 0
  | [], o, h1 => by simp [i40]
  | x :: l, o, h1 => by
    obtain ⟨a, b, c, d⟩ := o
    obtain ⟨x1, x2, x3, x4⟩ := x
    dsimp only at h1
    have k1 := mx_pos (m := a) (n := x1 + x4) h1
    have k3 := mx_pos (m := 0) (n := x1 + x4) (Int.le_refl 0)
    obtain ⟨e1, e2, e3⟩ := foldS_from l (stackStep (a, b, c, d) (x1, x2, x3, x4)) k1.1
    obtain ⟨f1, _⟩ := foldS_from l (stackStep i40 (x1, x2, x3, x4)) k3.1
    simp only [List.foldl_cons]
    by_cases hl : l = []
    · subst hl
      simp only [List.foldl_nil, stackStep, i40, Prod.mk.injEq, and_true]
      refine ⟨fun _ => ⟨?_, by omega⟩, k3.1⟩
      unfold mx; repeat' (split <;> try omega)
    · rw [e1 hl, f1 hl]
      generalize (l.foldl stackStep i40).1 = s1 at *
      generalize (l.foldl stackStep i40).2.1 = s2 at *
      generalize (l.foldl stackStep i40).2.2.1 = s3 at *
      simp only [stackStep, i40, Prod.mk.injEq, and_true]
      refine ⟨fun _ => ⟨?_, by omega⟩, (mx_pos k3.1).1⟩
      unfold mx; repeat' (split <;> try omega)
def sumHD (l : List I4) : Int := (l.map fun x => x.2.1 + x.2.2.1).sum
theorem foldS_sum : ∀ (l : List I4) (o : I4), (l.foldl stackStep o).2.1 + (l.foldl stackStep o).2.2.1 = o.2.1 + o.2.2.1 + sumHD l
  | [], o => by simp [sumHD]
  | x :: l, o => by
    rw [List.foldl_cons, foldS_sum l]
    simp only [stackStep, sumHD, List.map_cons, List.sum_cons]
    omega
theorem packS_both {l : List I4} {h : Nat} (h0 : h < l.length)
    (h1 : (packG stackStep (l.take h)).2 = true) (h2 : (packG stackStep (l.drop h)).2 = true) (h3 : (packG stackStep [(packG stackStep (l.take h)).1, (packG stackStep (l.drop h)).1]).2 = true) :
    (packG stackStep [(packG stackStep (l.take h)).1, (packG stackStep (l.drop h)).1]).1 = l.foldl stackStep i40 := by
  rcases packG_cases stackStep (l.take h) with e1 | ⟨a1, a2, e1⟩
  · rw [e1] at h1; cases h1
  rcases packG_cases stackStep (l.drop h) with e2 | ⟨b1, b2, e2⟩
  · rw [e2] at h2; cases h2
  rw [e1, e2] at h3 ⊢
  dsimp only at h3 ⊢
  rcases packG_cases stackStep [(l.take h).foldl stackStep i40, (l.drop h).foldl stackStep i40] with e3 | ⟨c1, c2, e3⟩
  · rw [e3] at h3; cases h3
  rw [e3]
  dsimp only
  have hne : l.drop h ≠ [] := by
    intro hd
    have := congrArg List.length hd
    simp at this
    omega
  have t := (foldS_from (l.take h) i40 (Int.le_refl 0)).2
  have d := foldS_from (l.drop h) ((l.take h).foldl stackStep i40) t.1
  have e : l.foldl stackStep i40 = (l.drop h).foldl stackStep ((l.take h).foldl stackStep i40) := by rw [← List.foldl_append, List.take_append_drop]
  rw [e, d.1 hne]
  obtain ⟨_, d2, d4⟩ := d
  obtain ⟨t1, t3⟩ := t
  simp only [List.foldl_cons, List.foldl_nil]
  generalize (l.take h).foldl stackStep i40 = T at *
  generalize (l.drop h).foldl stackStep i40 = D at *
  obtain ⟨p1, p2, p3, p4⟩ := T
  obtain ⟨q1, q2, q3, q4⟩ := D
  dsimp only at *
  subst t3 d4
  simp only [stackStep, i40, Prod.mk.injEq, and_true]
  refine ⟨?_, by omega⟩
  unfold mx; repeat' (split <;> try omega)
theorem sumHD_take {l : List I4} {k : Nat} (hk : k < l.length) : sumHD (l.take (k + 1)) = sumHD (l.take k) + (l[k]?.getD i40).2.1 + (l[k]?.getD i40).2.2.1 := by
  unfold sumHD
  rw [List.take_add_one, List.getElem?_eq_getElem hk]
  simp only [Option.toList_some, List.map_append, List.sum_append, List.map_cons, List.map_nil, List.sum_cons, List.sum_nil, Option.getD_some]
  omega
theorem sumHD_bd : ∀ {l : List I4}, (∀ b ∈ l, boxX b = true) → 0 ≤ sumHD l ∧ sumHD l ≤ 20000 * l.length
  | [], _ => by simp [sumHD]
  | x :: l, h => by
    have h1 := sumHD_bd (l := l) fun b hb => h b (by simp [hb])
    have h2 := boxX_iff.1 (h x (by simp))
    simp only [sumHD, List.map_cons, List.sum_cons, List.length_cons] at h1 ⊢
    omega
theorem φPackR_ap2 {a b c d a' b' c' d' : Int} : φPackR [.lst false 4 [.agg [.val (.int .i64 a), .val (.int .i64 b), .val (.int .i64 c), .val (.int .i64 d)], .agg [.val (.int .i64 a'), .val (.int .i64 b'), .val (.int .i64 c'), .val (.int .i64 d')]]] = some (.tup [pvB (packG rowStep [(a, b, c, d), (a', b', c', d')]).1, .val (.bool (packG rowStep [(a, b, c, d), (a', b', c', d')]).2)]) :=
  φPackR_ap (l := [(a, b, c, d), (a', b', c', d')]) (by simp)
theorem φPackS_ap2 {a b c d a' b' c' d' : Int} : φPackS [.lst false 4 [.agg [.val (.int .i64 a), .val (.int .i64 b), .val (.int .i64 c), .val (.int .i64 d)], .agg [.val (.int .i64 a'), .val (.int .i64 b'), .val (.int .i64 c'), .val (.int .i64 d')]]] = some (.tup [pvB (packG stackStep [(a, b, c, d), (a', b', c', d')]).1, .val (.bool (packG stackStep [(a, b, c, d), (a', b', c', d')]).2)]) :=
  φPackS_ap (l := [(a, b, c, d), (a', b', c', d')]) (by simp)
noncomputable def GLpr : Ctx := ⟨fun f => if f = 30 then some φdrawPackRow else if f = 26 then some φPackR else if f = 31 then some φPackR else if f = 18 then some φTrue else if f = 22 then some φBoxX else none, fun f => none⟩
theorem GLpr_ok : SoundΓ Try.prog GLpr := ⟨(fun f φ h => by
  unfold GLpr at h
  dsimp only at h
  split at h
  · rename_i hf; cases h; subst hf; exact ⟨⟨_, Try.func30, rfl, rfl⟩, drawPackRow_ok⟩
  split at h
  · rename_i hf; cases h; subst hf; exact ⟨⟨_, Try.func26, rfl, rfl⟩, implPackRow_ok⟩
  split at h
  · rename_i hf; cases h; subst hf; exact ⟨⟨_, Try.func31, rfl, rfl⟩, specPackRow_ok⟩
  split at h
  · rename_i hf; cases h; subst hf; exact ⟨⟨_, Try.func18, rfl, rfl⟩, alive_ok⟩
  split at h
  · rename_i hf; cases h; subst hf; exact ⟨⟨_, Try.func22, rfl, rfl⟩, implBoxValid_ok⟩
  cases h), (fun f φ h => by
  unfold GLpr at h
  dsimp only at h
  cases h)⟩
theorem GLpr_30 (ob : Objs) (ps : List PV) : evCall GLpr ob 30 ps = (ps.mapM (reify false 0 ob fuel)).bind φdrawPackRow := by
  have h : GLpr.fn 30 = some φdrawPackRow := by simp [GLpr]
  unfold evCall
  rw [h]
  cases ps.mapM (reify false 0 ob fuel) <;> rfl
theorem GLpr_26 (ob : Objs) (ps : List PV) : evCall GLpr ob 26 ps = (ps.mapM (reify false 0 ob fuel)).bind φPackR := by
  have h : GLpr.fn 26 = some φPackR := by simp [GLpr]
  unfold evCall
  rw [h]
  cases ps.mapM (reify false 0 ob fuel) <;> rfl
theorem GLpr_31 (ob : Objs) (ps : List PV) : evCall GLpr ob 31 ps = (ps.mapM (reify false 0 ob fuel)).bind φPackR := by
  have h : GLpr.fn 31 = some φPackR := by simp [GLpr]
  unfold evCall
  rw [h]
  cases ps.mapM (reify false 0 ob fuel) <;> rfl
theorem GLpr_18 (ob : Objs) (ps : List PV) : evCall GLpr ob 18 ps = (ps.mapM (reify false 0 ob fuel)).bind φTrue := by
  have h : GLpr.fn 18 = some φTrue := by simp [GLpr]
  unfold evCall
  rw [h]
  cases ps.mapM (reify false 0 ob fuel) <;> rfl
theorem GLpr_22 (ob : Objs) (ps : List PV) : evCall GLpr ob 22 ps = (ps.mapM (reify false 0 ob fuel)).bind φBoxX := by
  have h : GLpr.fn 22 = some φBoxX := by simp [GLpr]
  unfold evCall
  rw [h]
  cases ps.mapM (reify false 0 ob fuel) <;> rfl
set_option maxHeartbeats 16000000 in
theorem lawRow_ok : Sound Try.prog 8 φLawFr := by
  refine sound_pq mixed GLpr_ok Try.func8 rfl 118 rfl [.tmp 2] rfl (by kernel_rfl) fun ps r hr => ?_
  obtain ⟨code, rfl, hq⟩ := F1_some hr
  clear hr
  split at hq
  case isFalse => cases hq
  case isTrue hpre =>
  cases hq
  refine ⟨by simp, ?_⟩
  simp only [dIs, dUs, dSs, dI_e, dU_e, dB_e, dS_e, dFn_e, dL_e, dA2_e, dA3_e, dA4_e, dA5_e]
  have hbyte := bytes_ok hpre
  by_cases hlen : code.length ≤ 1048576
  · obtain ⟨l, e, hl, hb⟩ := drawPackRow_drw code hbyte hlen
    have apt := φTrue_ap
    have app := @φPackR_ap
    have apb := @φBoxX_ap
    clear hbyte hpre hb
    rcases packG_cases rowStep l with e1 | ⟨hbx, hfx, e1⟩
    · have glpr_c30 := GLpr_30; have glpr_c26 := GLpr_26; have glpr_c31 := GLpr_31; have glpr_c18 := GLpr_18; have glpr_c22 := GLpr_22
      repeat' (first | (with_reducible first | apply i_seq | apply i_block | apply i_skip | apply i_exit | apply i_ret | apply i_kS | apply i_kSx | apply i_kSr | apply i_kL | apply i_kLx | apply i_kLr | apply i_kB | apply i_kBr | apply i_kBs | apply i_nil) | ((with_reducible apply i_region); (focus (simp only [List.map_cons, List.map_nil] <;> exact rfl))) | ((with_reducible apply i_draw); (focus (simp only [List.map_cons, List.map_nil] <;> exact rfl)); (focus (decide +kernel))) | ((with_reducible apply i_kBo); (focus rfl)) | ((first | ((with_reducible apply i_V); (focus rfl); (focus rfl); (focus rfl)) | ((with_reducible apply i_E); (focus rfl); (focus (first | rfl | (simp only [push_cast, ↓reduceIte, effOk, touch, refsOf, List.flatMap_cons, List.flatMap_nil])))) | ((with_reducible apply i_S); (focus rfl); (focus (first | rfl | (simp only [push_cast, ↓reduceIte, effOk, touch, refsOf, List.flatMap_cons, List.flatMap_nil])))) | ((with_reducible apply i_Vq); (focus rfl); (focus rfl)) | ((with_reducible apply i_Vp); (focus rfl); (focus rfl); (focus rfl))); (focus (simp (disch := (first | omega | (simp only [push_cast]; done) | (simp only [push_cast]; omega) | ((try simp only [push_cast]); (with_reducible first | apply sel_lt | apply sel_ge); (focus decide); (focus (simp only [push_cast]; omega))))) only [push_cast, ↓reduceIte, Nat.reduceEqDiff, Nat.reduceBEq, Nat.reduceAdd, Nat.reduceSub, Int.reduceToNat, *] <;> with_reducible exact rfl))) | ((with_reducible first | apply i_Gb | apply i_cond); (focus (simp (disch := (first | omega | (simp only [push_cast]; done) | (simp only [push_cast]; omega) | ((try simp only [push_cast]); (with_reducible first | apply sel_lt | apply sel_ge); (focus decide); (focus (simp only [push_cast]; omega))))) only [push_cast, ↓reduceIte, Nat.reduceEqDiff, Nat.reduceBEq, Nat.reduceAdd, Nat.reduceSub, Int.reduceToNat, *] <;> with_reducible exact rfl)); all_goals (intro hX; first | (cases hX; done) | ((with_reducible first | have hX0 : true = true := hX | have hX0 : false = false := hX); clear hX0 hX) | ((try simp only [decide_eq_true_eq, decide_eq_false_iff_not, Bool.not_eq_true', Bool.not_eq_false'] at hX); (try have hXb := inB_iff.1 hX)))))
      all_goals (first | (exfalso; omega) | ((first | apply i_end | apply i_endN); simp (disch := (first | omega | (simp only [push_cast]; done) | (simp only [push_cast]; omega) | ((try simp only [push_cast]); (with_reducible first | apply sel_lt | apply sel_ge); (focus decide); (focus (simp only [push_cast]; omega))))) only [push_cast, ↓reduceIte, Nat.reduceEqDiff, Nat.reduceBEq, Nat.reduceAdd, Nat.reduceSub, Int.reduceToNat, *]) | skip)
    · have hq : boxQ (l.foldl rowStep i40).1 (l.foldl rowStep i40).2.1 (l.foldl rowStep i40).2.2.1 (l.foldl rowStep i40).2.2.2 = true := hfx
      have hm := (boxesX_mem hbx).1
      have glpr_c30 := GLpr_30; have glpr_c26 := GLpr_26; have glpr_c31 := GLpr_31; have glpr_c18 := GLpr_18; have glpr_c22 := GLpr_22
      repeat' (first | (with_reducible first | apply i_seq | apply i_block | apply i_skip | apply i_exit | apply i_ret | apply i_kS | apply i_kSx | apply i_kSr | apply i_kL | apply i_kLx | apply i_kLr | apply i_kB | apply i_kBr | apply i_kBs | apply i_nil) | ((with_reducible apply i_region); (focus (simp only [List.map_cons, List.map_nil] <;> exact rfl))) | ((with_reducible apply i_draw); (focus (simp only [List.map_cons, List.map_nil] <;> exact rfl)); (focus (decide +kernel))) | ((with_reducible apply i_kBo); (focus rfl)) | ((first | ((with_reducible apply i_V); (focus rfl); (focus rfl); (focus rfl)) | ((with_reducible apply i_E); (focus rfl); (focus (first | rfl | (simp only [push_cast, ↓reduceIte, effOk, touch, refsOf, List.flatMap_cons, List.flatMap_nil])))) | ((with_reducible apply i_S); (focus rfl); (focus (first | rfl | (simp only [push_cast, ↓reduceIte, effOk, touch, refsOf, List.flatMap_cons, List.flatMap_nil])))) | ((with_reducible apply i_Vq); (focus rfl); (focus rfl)) | ((with_reducible apply i_Vp); (focus rfl); (focus rfl); (focus rfl))); (focus (simp (disch := (first | omega | (simp only [push_cast]; done) | (simp only [push_cast]; omega) | ((try simp only [push_cast]); (with_reducible first | apply sel_lt | apply sel_ge); (focus decide); (focus (simp only [push_cast]; omega))))) only [push_cast, ↓reduceIte, Nat.reduceEqDiff, Nat.reduceBEq, Nat.reduceAdd, Nat.reduceSub, Int.reduceToNat, *] <;> with_reducible exact rfl))) | ((with_reducible first | apply i_Gb | apply i_cond); (focus (simp (disch := (first | omega | (simp only [push_cast]; done) | (simp only [push_cast]; omega) | ((try simp only [push_cast]); (with_reducible first | apply sel_lt | apply sel_ge); (focus decide); (focus (simp only [push_cast]; omega))))) only [push_cast, ↓reduceIte, Nat.reduceEqDiff, Nat.reduceBEq, Nat.reduceAdd, Nat.reduceSub, Int.reduceToNat, *] <;> with_reducible exact rfl)); all_goals (intro hX; first | (cases hX; done) | ((with_reducible first | have hX0 : true = true := hX | have hX0 : false = false := hX); clear hX0 hX) | ((try simp only [decide_eq_true_eq, decide_eq_false_iff_not, Bool.not_eq_true', Bool.not_eq_false'] at hX); (try have hXb := inB_iff.1 hX)))))
      all_goals (first | (exfalso; omega) | ((first | apply i_end | apply i_endN); simp (disch := (first | omega | (simp only [push_cast]; done) | (simp only [push_cast]; omega) | ((try simp only [push_cast]); (with_reducible first | apply sel_lt | apply sel_ge); (focus decide); (focus (simp only [push_cast]; omega))))) only [push_cast, ↓reduceIte, Nat.reduceEqDiff, Nat.reduceBEq, Nat.reduceAdd, Nat.reduceSub, Int.reduceToNat, *]) | skip)
      have app2 := @φPackR_ap2
      have hrev : packG rowStep l.reverse = (l.foldl rowStep i40, true) := (packR_reverse l).trans e1
      refine i_loop (α := Nat × Nat × Nat) mixed (fun s => [(3, .lst true 4 (l.map fun x => PV.agg [.val (.int .i64 x.1), .val (.int .i64 x.2.1), .val (.int .i64 x.2.2.1), .val (.int .i64 x.2.2.2)])), (4, .own 0 4 0 0), (8, .row s.2.1 4 0 (l.length - s.1)), (9, iv ((s.1 : Int) - 1))])
        (fun s => [(0, 29, 4, [pvB (l.foldl rowStep i40)]), (s.2.1, 29, 4, ((l.drop s.1).reverse).map fun x => PV.agg [.val (.int .i64 x.1), .val (.int .i64 x.2.1), .val (.int .i64 x.2.2.1), .val (.int .i64 x.2.2.2)])]) (fun s => s.2.2)
        (fun s => s.1 ≤ l.length ∧ 0 < s.2.1 ∧ s.2.1 < s.2.2) (fun s => s.1) (by kernel_rfl) (l.length, 2, 3) ⟨Nat.le_refl _, by dsimp only; omega, by dsimp only; omega⟩ ?_ ?_ rfl ?_
      · simp (disch := (first | omega | (simp only [push_cast]; done) | (simp only [push_cast]; omega) | ((try simp only [push_cast]); (with_reducible first | apply sel_lt | apply sel_ge); (focus decide); (focus (simp only [push_cast]; omega))))) only [push_cast, ↓reduceIte, Nat.reduceEqDiff, Nat.reduceBEq, Nat.reduceAdd, Nat.reduceSub, Int.reduceToNat, List.length_append, *]
        simp
      · simp (disch := (first | omega | (simp only [push_cast]; done) | (simp only [push_cast]; omega) | ((try simp only [push_cast]); (with_reducible first | apply sel_lt | apply sel_ge); (focus decide); (focus (simp only [push_cast]; omega))))) only [push_cast, ↓reduceIte, Nat.reduceEqDiff, Nat.reduceBEq, Nat.reduceAdd, Nat.reduceSub, Int.reduceToNat, List.length_append, *]
        simp
      rintro ⟨k, x, y⟩ ⟨i1, i2, i3⟩
      dsimp only at i1 i2 i3
      rcases k with _ | j
      · clear i1
        repeat' (first | (with_reducible first | apply i_seq | apply i_block | apply i_skip | apply i_exit | apply i_ret | apply i_kS | apply i_kSx | apply i_kSr | apply i_kL | apply i_kLx | apply i_kLr | apply i_kB | apply i_kBr | apply i_kBs | apply i_nil) | ((with_reducible apply i_region); (focus (simp only [List.map_cons, List.map_nil] <;> exact rfl))) | ((with_reducible apply i_draw); (focus (simp only [List.map_cons, List.map_nil] <;> exact rfl)); (focus (decide +kernel))) | ((with_reducible apply i_kBo); (focus rfl)) | ((first | ((with_reducible apply i_V); (focus rfl); (focus rfl); (focus rfl)) | ((with_reducible apply i_E); (focus rfl); (focus (first | rfl | (simp only [push_cast, ↓reduceIte, effOk, touch, refsOf, List.flatMap_cons, List.flatMap_nil])))) | ((with_reducible apply i_S); (focus rfl); (focus (first | rfl | (simp only [push_cast, ↓reduceIte, effOk, touch, refsOf, List.flatMap_cons, List.flatMap_nil])))) | ((with_reducible apply i_Vq); (focus rfl); (focus rfl)) | ((with_reducible apply i_Vp); (focus rfl); (focus rfl); (focus rfl))); (focus (simp (disch := (first | omega | (simp only [push_cast]; done) | (simp only [push_cast]; omega) | ((try simp only [push_cast]); (with_reducible first | apply sel_lt | apply sel_ge); (focus decide); (focus (simp only [push_cast]; omega))))) only [push_cast, ↓reduceIte, Nat.reduceEqDiff, Nat.reduceBEq, Nat.reduceAdd, Nat.reduceSub, Int.reduceToNat, *] <;> with_reducible exact rfl))) | ((with_reducible first | apply i_Gb | apply i_cond); (focus (simp (disch := (first | omega | (simp only [push_cast]; done) | (simp only [push_cast]; omega) | ((try simp only [push_cast]); (with_reducible first | apply sel_lt | apply sel_ge); (focus decide); (focus (simp only [push_cast]; omega))))) only [push_cast, ↓reduceIte, Nat.reduceEqDiff, Nat.reduceBEq, Nat.reduceAdd, Nat.reduceSub, Int.reduceToNat, *] <;> with_reducible exact rfl)); all_goals (intro hX; first | (cases hX; done) | ((with_reducible first | have hX0 : true = true := hX | have hX0 : false = false := hX); clear hX0 hX) | ((try simp only [decide_eq_true_eq, decide_eq_false_iff_not, Bool.not_eq_true', Bool.not_eq_false'] at hX); (try have hXb := inB_iff.1 hX)))))
        all_goals (first | (exfalso; omega) | ((first | apply i_end | apply i_endN); simp (disch := (first | omega | (simp only [push_cast]; done) | (simp only [push_cast]; omega) | ((try simp only [push_cast]); (with_reducible first | apply sel_lt | apply sel_ge); (focus decide); (focus (simp only [push_cast]; omega))))) only [push_cast, ↓reduceIte, Nat.reduceEqDiff, Nat.reduceBEq, Nat.reduceAdd, Nat.reduceSub, Int.reduceToNat, *]) | skip)
        have htk : (l.drop (l.length / 2 : Int).toNat).take (l.length - (l.length / 2 : Int).toNat) = l.drop (l.length / 2 : Int).toNat := List.take_of_length_le (by simp)
        simp only [htk] at *
        have hb := @packR_both l (l.length / 2 : Int).toNat hbx
        generalize packG rowStep (l.take (l.length / 2 : Int).toNat) = T at *
        generalize packG rowStep (l.drop (l.length / 2 : Int).toNat) = D at *
        obtain ⟨⟨t1, t2, t3, t4⟩, tb⟩ := T
        obtain ⟨⟨d1, d2, d3, d4⟩, db⟩ := D
        dsimp only at *
        simp only [hb (by assumption) (by assumption) (by assumption), beq_self_eq_true, Bool.and_self]
      · have hj : j < l.length := by omega
        have hd : (l.drop j).reverse = (l.drop (j + 1)).reverse ++ [((l[j]?.getD i40).1, (l[j]?.getD i40).2.1, (l[j]?.getD i40).2.2.1, (l[j]?.getD i40).2.2.2)] := by
          rw [drop_getD (d := i40) hj, List.reverse_cons]
        repeat' (first | (with_reducible first | apply i_seq | apply i_block | apply i_skip | apply i_exit | apply i_ret | apply i_kS | apply i_kSx | apply i_kSr | apply i_kL | apply i_kLx | apply i_kLr | apply i_kB | apply i_kBr | apply i_kBs | apply i_nil) | ((with_reducible apply i_region); (focus (simp only [List.map_cons, List.map_nil] <;> exact rfl))) | ((with_reducible apply i_draw); (focus (simp only [List.map_cons, List.map_nil] <;> exact rfl)); (focus (decide +kernel))) | ((with_reducible apply i_kBo); (focus rfl)) | ((first | ((with_reducible apply i_V); (focus rfl); (focus rfl); (focus rfl)) | ((with_reducible apply i_E); (focus rfl); (focus (first | rfl | (simp only [push_cast, ↓reduceIte, effOk, touch, refsOf, List.flatMap_cons, List.flatMap_nil])))) | ((with_reducible apply i_S); (focus rfl); (focus (first | rfl | (simp only [push_cast, ↓reduceIte, effOk, touch, refsOf, List.flatMap_cons, List.flatMap_nil])))) | ((with_reducible apply i_Vq); (focus rfl); (focus rfl)) | ((with_reducible apply i_Vp); (focus rfl); (focus rfl); (focus rfl))); (focus (simp (disch := (first | omega | (simp only [push_cast]; done) | (simp only [push_cast]; omega) | ((try simp only [push_cast]); (with_reducible first | apply sel_lt | apply sel_ge); (focus decide); (focus (simp only [push_cast]; omega))))) only [push_cast, ↓reduceIte, Nat.reduceEqDiff, Nat.reduceBEq, Nat.reduceAdd, Nat.reduceSub, Int.reduceToNat, *] <;> with_reducible exact rfl))) | ((with_reducible first | apply i_Gb | apply i_cond); (focus (simp (disch := (first | omega | (simp only [push_cast]; done) | (simp only [push_cast]; omega) | ((try simp only [push_cast]); (with_reducible first | apply sel_lt | apply sel_ge); (focus decide); (focus (simp only [push_cast]; omega))))) only [push_cast, ↓reduceIte, Nat.reduceEqDiff, Nat.reduceBEq, Nat.reduceAdd, Nat.reduceSub, Int.reduceToNat, *] <;> with_reducible exact rfl)); all_goals (intro hX; first | (cases hX; done) | ((with_reducible first | have hX0 : true = true := hX | have hX0 : false = false := hX); clear hX0 hX) | ((try simp only [decide_eq_true_eq, decide_eq_false_iff_not, Bool.not_eq_true', Bool.not_eq_false'] at hX); (try have hXb := inB_iff.1 hX)))))
        all_goals (first | (exfalso; omega) | ((first | apply i_end | apply i_endN); simp (disch := (first | omega | (simp only [push_cast]; done) | (simp only [push_cast]; omega) | ((try simp only [push_cast]); (with_reducible first | apply sel_lt | apply sel_ge); (focus decide); (focus (simp only [push_cast]; omega))))) only [push_cast, ↓reduceIte, Nat.reduceEqDiff, Nat.reduceBEq, Nat.reduceAdd, Nat.reduceSub, Int.reduceToNat, *]) | skip)
        all_goals try (exfalso; simp at *; omega)
        refine ⟨(j, y + 1, y + 1 + 1), ⟨by dsimp only; omega, by dsimp only; omega, by dsimp only; omega⟩, by dsimp only; omega, ?_, ?_, rfl⟩
        · simp (disch := (first | omega | (simp only [push_cast]; done) | (simp only [push_cast]; omega) | ((try simp only [push_cast]); (with_reducible first | apply sel_lt | apply sel_ge); (focus decide); (focus (simp only [push_cast]; omega))))) only [push_cast, ↓reduceIte, Nat.reduceEqDiff, Nat.reduceBEq, Nat.reduceAdd, Nat.reduceSub, Int.reduceToNat, List.length_append, *]
          simp
          omega
        · simp (disch := (first | omega | (simp only [push_cast]; done) | (simp only [push_cast]; omega) | ((try simp only [push_cast]); (with_reducible first | apply sel_lt | apply sel_ge); (focus decide); (focus (simp only [push_cast]; omega))))) only [push_cast, ↓reduceIte, Nat.reduceEqDiff, Nat.reduceBEq, Nat.reduceAdd, Nat.reduceSub, Int.reduceToNat, List.length_append, *]
  · have glpr_c30 := GLpr_30; have glpr_c26 := GLpr_26; have glpr_c31 := GLpr_31; have glpr_c18 := GLpr_18; have glpr_c22 := GLpr_22
    repeat' (first | (with_reducible first | apply i_seq | apply i_block | apply i_skip | apply i_exit | apply i_ret | apply i_kS | apply i_kSx | apply i_kSr | apply i_kL | apply i_kLx | apply i_kLr | apply i_kB | apply i_kBr | apply i_kBs | apply i_nil) | ((with_reducible apply i_region); (focus (simp only [List.map_cons, List.map_nil] <;> exact rfl))) | ((with_reducible apply i_draw); (focus (simp only [List.map_cons, List.map_nil] <;> exact rfl)); (focus (decide +kernel))) | ((with_reducible apply i_kBo); (focus rfl)) | ((first | ((with_reducible apply i_V); (focus rfl); (focus rfl); (focus rfl)) | ((with_reducible apply i_E); (focus rfl); (focus (first | rfl | (simp only [push_cast, ↓reduceIte, effOk, touch, refsOf, List.flatMap_cons, List.flatMap_nil])))) | ((with_reducible apply i_S); (focus rfl); (focus (first | rfl | (simp only [push_cast, ↓reduceIte, effOk, touch, refsOf, List.flatMap_cons, List.flatMap_nil])))) | ((with_reducible apply i_Vq); (focus rfl); (focus rfl)) | ((with_reducible apply i_Vp); (focus rfl); (focus rfl); (focus rfl))); (focus (simp (disch := (first | omega | (simp only [push_cast]; done) | (simp only [push_cast]; omega) | ((try simp only [push_cast]); (with_reducible first | apply sel_lt | apply sel_ge); (focus decide); (focus (simp only [push_cast]; omega))))) only [push_cast, ↓reduceIte, Nat.reduceEqDiff, Nat.reduceBEq, Nat.reduceAdd, Nat.reduceSub, Int.reduceToNat, *] <;> with_reducible exact rfl))) | ((with_reducible first | apply i_Gb | apply i_cond); (focus (simp (disch := (first | omega | (simp only [push_cast]; done) | (simp only [push_cast]; omega) | ((try simp only [push_cast]); (with_reducible first | apply sel_lt | apply sel_ge); (focus decide); (focus (simp only [push_cast]; omega))))) only [push_cast, ↓reduceIte, Nat.reduceEqDiff, Nat.reduceBEq, Nat.reduceAdd, Nat.reduceSub, Int.reduceToNat, *] <;> with_reducible exact rfl)); all_goals (intro hX; first | (cases hX; done) | ((with_reducible first | have hX0 : true = true := hX | have hX0 : false = false := hX); clear hX0 hX) | ((try simp only [decide_eq_true_eq, decide_eq_false_iff_not, Bool.not_eq_true', Bool.not_eq_false'] at hX); (try have hXb := inB_iff.1 hX)))))
    all_goals (first | (exfalso; omega) | ((first | apply i_end | apply i_endN); simp (disch := (first | omega | (simp only [push_cast]; done) | (simp only [push_cast]; omega) | ((try simp only [push_cast]); (with_reducible first | apply sel_lt | apply sel_ge); (focus decide); (focus (simp only [push_cast]; omega))))) only [push_cast, ↓reduceIte, Nat.reduceEqDiff, Nat.reduceBEq, Nat.reduceAdd, Nat.reduceSub, Int.reduceToNat, *]) | skip)
noncomputable def GLps : Ctx := ⟨fun f => if f = 32 then some φdrawPackStack else if f = 33 then some φPackS else if f = 34 then some φPackS else if f = 18 then some φTrue else if f = 22 then some φBoxX else none, fun f => none⟩
theorem GLps_ok : SoundΓ Try.prog GLps := ⟨(fun f φ h => by
  unfold GLps at h
  dsimp only at h
  split at h
  · rename_i hf; cases h; subst hf; exact ⟨⟨_, Try.func32, rfl, rfl⟩, drawPackStack_ok⟩
  split at h
  · rename_i hf; cases h; subst hf; exact ⟨⟨_, Try.func33, rfl, rfl⟩, implPackStack_ok⟩
  split at h
  · rename_i hf; cases h; subst hf; exact ⟨⟨_, Try.func34, rfl, rfl⟩, specPackStack_ok⟩
  split at h
  · rename_i hf; cases h; subst hf; exact ⟨⟨_, Try.func18, rfl, rfl⟩, alive_ok⟩
  split at h
  · rename_i hf; cases h; subst hf; exact ⟨⟨_, Try.func22, rfl, rfl⟩, implBoxValid_ok⟩
  cases h), (fun f φ h => by
  unfold GLps at h
  dsimp only at h
  cases h)⟩
theorem GLps_32 (ob : Objs) (ps : List PV) : evCall GLps ob 32 ps = (ps.mapM (reify false 0 ob fuel)).bind φdrawPackStack := by
  have h : GLps.fn 32 = some φdrawPackStack := by simp [GLps]
  unfold evCall
  rw [h]
  cases ps.mapM (reify false 0 ob fuel) <;> rfl
theorem GLps_33 (ob : Objs) (ps : List PV) : evCall GLps ob 33 ps = (ps.mapM (reify false 0 ob fuel)).bind φPackS := by
  have h : GLps.fn 33 = some φPackS := by simp [GLps]
  unfold evCall
  rw [h]
  cases ps.mapM (reify false 0 ob fuel) <;> rfl
theorem GLps_34 (ob : Objs) (ps : List PV) : evCall GLps ob 34 ps = (ps.mapM (reify false 0 ob fuel)).bind φPackS := by
  have h : GLps.fn 34 = some φPackS := by simp [GLps]
  unfold evCall
  rw [h]
  cases ps.mapM (reify false 0 ob fuel) <;> rfl
theorem GLps_18 (ob : Objs) (ps : List PV) : evCall GLps ob 18 ps = (ps.mapM (reify false 0 ob fuel)).bind φTrue := by
  have h : GLps.fn 18 = some φTrue := by simp [GLps]
  unfold evCall
  rw [h]
  cases ps.mapM (reify false 0 ob fuel) <;> rfl
theorem GLps_22 (ob : Objs) (ps : List PV) : evCall GLps ob 22 ps = (ps.mapM (reify false 0 ob fuel)).bind φBoxX := by
  have h : GLps.fn 22 = some φBoxX := by simp [GLps]
  unfold evCall
  rw [h]
  cases ps.mapM (reify false 0 ob fuel) <;> rfl
set_option maxHeartbeats 16000000 in
theorem lawStack_ok : Sound Try.prog 9 φLawFr := by
  refine sound_pq mixed GLps_ok Try.func9 rfl 124 rfl [.tmp 2] rfl (by kernel_rfl) fun ps r hr => ?_
  obtain ⟨code, rfl, hq⟩ := F1_some hr
  clear hr
  split at hq
  case isFalse => cases hq
  case isTrue hpre =>
  cases hq
  refine ⟨by simp, ?_⟩
  simp only [dIs, dUs, dSs, dI_e, dU_e, dB_e, dS_e, dFn_e, dL_e, dA2_e, dA3_e, dA4_e, dA5_e]
  have hbyte := bytes_ok hpre
  by_cases hlen : code.length ≤ 1048576
  · obtain ⟨l, e, hl, hb⟩ := drawPackStack_drw code hbyte hlen
    have apt := φTrue_ap
    have app := @φPackS_ap
    have apb := @φBoxX_ap
    clear hbyte hpre hb
    rcases packG_cases stackStep l with e1 | ⟨hbx, hfx, e1⟩
    · have glps_c32 := GLps_32; have glps_c33 := GLps_33; have glps_c34 := GLps_34; have glps_c18 := GLps_18; have glps_c22 := GLps_22
      repeat' (first | (with_reducible first | apply i_seq | apply i_block | apply i_skip | apply i_exit | apply i_ret | apply i_kS | apply i_kSx | apply i_kSr | apply i_kL | apply i_kLx | apply i_kLr | apply i_kB | apply i_kBr | apply i_kBs | apply i_nil) | ((with_reducible apply i_region); (focus (simp only [List.map_cons, List.map_nil] <;> exact rfl))) | ((with_reducible apply i_draw); (focus (simp only [List.map_cons, List.map_nil] <;> exact rfl)); (focus (decide +kernel))) | ((with_reducible apply i_kBo); (focus rfl)) | ((first | ((with_reducible apply i_V); (focus rfl); (focus rfl); (focus rfl)) | ((with_reducible apply i_E); (focus rfl); (focus (first | rfl | (simp only [push_cast, ↓reduceIte, effOk, touch, refsOf, List.flatMap_cons, List.flatMap_nil])))) | ((with_reducible apply i_S); (focus rfl); (focus (first | rfl | (simp only [push_cast, ↓reduceIte, effOk, touch, refsOf, List.flatMap_cons, List.flatMap_nil])))) | ((with_reducible apply i_Vq); (focus rfl); (focus rfl)) | ((with_reducible apply i_Vp); (focus rfl); (focus rfl); (focus rfl))); (focus (simp (disch := (first | omega | (simp only [push_cast]; done) | (simp only [push_cast]; omega) | ((try simp only [push_cast]); (with_reducible first | apply sel_lt | apply sel_ge); (focus decide); (focus (simp only [push_cast]; omega))))) only [push_cast, ↓reduceIte, Nat.reduceEqDiff, Nat.reduceBEq, Nat.reduceAdd, Nat.reduceSub, Int.reduceToNat, *] <;> with_reducible exact rfl))) | ((with_reducible first | apply i_Gb | apply i_cond); (focus (simp (disch := (first | omega | (simp only [push_cast]; done) | (simp only [push_cast]; omega) | ((try simp only [push_cast]); (with_reducible first | apply sel_lt | apply sel_ge); (focus decide); (focus (simp only [push_cast]; omega))))) only [push_cast, ↓reduceIte, Nat.reduceEqDiff, Nat.reduceBEq, Nat.reduceAdd, Nat.reduceSub, Int.reduceToNat, *] <;> with_reducible exact rfl)); all_goals (intro hX; first | (cases hX; done) | ((with_reducible first | have hX0 : true = true := hX | have hX0 : false = false := hX); clear hX0 hX) | ((try simp only [decide_eq_true_eq, decide_eq_false_iff_not, Bool.not_eq_true', Bool.not_eq_false'] at hX); (try have hXb := inB_iff.1 hX)))))
      all_goals (first | (exfalso; omega) | ((first | apply i_end | apply i_endN); simp (disch := (first | omega | (simp only [push_cast]; done) | (simp only [push_cast]; omega) | ((try simp only [push_cast]); (with_reducible first | apply sel_lt | apply sel_ge); (focus decide); (focus (simp only [push_cast]; omega))))) only [push_cast, ↓reduceIte, Nat.reduceEqDiff, Nat.reduceBEq, Nat.reduceAdd, Nat.reduceSub, Int.reduceToNat, *]) | skip)
    · have hq : boxQ (l.foldl stackStep i40).1 (l.foldl stackStep i40).2.1 (l.foldl stackStep i40).2.2.1 (l.foldl stackStep i40).2.2.2 = true := hfx
      have hm := (boxesX_mem hbx).1
      have hmem := (boxesX_mem hbx).2
      have bf := boxX_iff.1 hfx
      have hsum := foldS_sum l i40
      have app2 := @φPackS_ap2
      have glps_c32 := GLps_32; have glps_c33 := GLps_33; have glps_c34 := GLps_34; have glps_c18 := GLps_18; have glps_c22 := GLps_22
      repeat' (first | (with_reducible first | apply i_seq | apply i_block | apply i_skip | apply i_exit | apply i_ret | apply i_kS | apply i_kSx | apply i_kSr | apply i_kL | apply i_kLx | apply i_kLr | apply i_kB | apply i_kBr | apply i_kBs | apply i_nil) | ((with_reducible apply i_region); (focus (simp only [List.map_cons, List.map_nil] <;> exact rfl))) | ((with_reducible apply i_draw); (focus (simp only [List.map_cons, List.map_nil] <;> exact rfl)); (focus (decide +kernel))) | ((with_reducible apply i_kBo); (focus rfl)) | ((first | ((with_reducible apply i_V); (focus rfl); (focus rfl); (focus rfl)) | ((with_reducible apply i_E); (focus rfl); (focus (first | rfl | (simp only [push_cast, ↓reduceIte, effOk, touch, refsOf, List.flatMap_cons, List.flatMap_nil])))) | ((with_reducible apply i_S); (focus rfl); (focus (first | rfl | (simp only [push_cast, ↓reduceIte, effOk, touch, refsOf, List.flatMap_cons, List.flatMap_nil])))) | ((with_reducible apply i_Vq); (focus rfl); (focus rfl)) | ((with_reducible apply i_Vp); (focus rfl); (focus rfl); (focus rfl))); (focus (simp (disch := (first | omega | (simp only [push_cast]; done) | (simp only [push_cast]; omega) | ((try simp only [push_cast]); (with_reducible first | apply sel_lt | apply sel_ge); (focus decide); (focus (simp only [push_cast]; omega))))) only [push_cast, ↓reduceIte, Nat.reduceEqDiff, Nat.reduceBEq, Nat.reduceAdd, Nat.reduceSub, Int.reduceToNat, *] <;> with_reducible exact rfl))) | ((with_reducible first | apply i_Gb | apply i_cond); (focus (simp (disch := (first | omega | (simp only [push_cast]; done) | (simp only [push_cast]; omega) | ((try simp only [push_cast]); (with_reducible first | apply sel_lt | apply sel_ge); (focus decide); (focus (simp only [push_cast]; omega))))) only [push_cast, ↓reduceIte, Nat.reduceEqDiff, Nat.reduceBEq, Nat.reduceAdd, Nat.reduceSub, Int.reduceToNat, *] <;> with_reducible exact rfl)); all_goals (intro hX; first | (cases hX; done) | ((with_reducible first | have hX0 : true = true := hX | have hX0 : false = false := hX); clear hX0 hX) | ((try simp only [decide_eq_true_eq, decide_eq_false_iff_not, Bool.not_eq_true', Bool.not_eq_false'] at hX); (try have hXb := inB_iff.1 hX)))))
      all_goals (first | (exfalso; omega) | ((first | apply i_end | apply i_endN); simp (disch := (first | omega | (simp only [push_cast]; done) | (simp only [push_cast]; omega) | ((try simp only [push_cast]); (with_reducible first | apply sel_lt | apply sel_ge); (focus decide); (focus (simp only [push_cast]; omega))))) only [push_cast, ↓reduceIte, Nat.reduceEqDiff, Nat.reduceBEq, Nat.reduceAdd, Nat.reduceSub, Int.reduceToNat, *]) | skip)
      refine i_loop (α := Nat) mixed (fun k => [(3, .lst true 4 (l.map fun x => PV.agg [.val (.int .i64 x.1), .val (.int .i64 x.2.1), .val (.int .i64 x.2.2.1), .val (.int .i64 x.2.2.2)])), (4, .own 0 4 0 0), (8, iv (sumHD (l.take k))), (9, iv k)])
        (fun k => [(0, 29, 4, [pvB (l.foldl stackStep i40)])]) (fun k => 2)
        (fun k => k ≤ l.length) (fun k => l.length - k) (by kernel_rfl) 0 (Nat.zero_le _) ?_ ?_ rfl ?_
      · simp (disch := (first | omega | (simp only [push_cast]; done) | (simp only [push_cast]; omega) | ((try simp only [push_cast]); (with_reducible first | apply sel_lt | apply sel_ge); (focus decide); (focus (simp only [push_cast]; omega))))) only [push_cast, ↓reduceIte, Nat.reduceEqDiff, Nat.reduceBEq, Nat.reduceAdd, Nat.reduceSub, Int.reduceToNat, List.length_append, *]
        simp [sumHD]
      · simp (disch := (first | omega | (simp only [push_cast]; done) | (simp only [push_cast]; omega) | ((try simp only [push_cast]); (with_reducible first | apply sel_lt | apply sel_ge); (focus decide); (focus (simp only [push_cast]; omega))))) only [push_cast, ↓reduceIte, Nat.reduceEqDiff, Nat.reduceBEq, Nat.reduceAdd, Nat.reduceSub, Int.reduceToNat, List.length_append, *]
      intro k hk
      have hs := sumHD_bd (l := l.take k) fun b hb => hmem b (List.mem_of_mem_take hb)
      have hsl : (l.take k).length ≤ 20 := by simp; omega
      have hbk : k < l.length → (0 ≤ (l[k]?.getD i40).2.1 ∧ (l[k]?.getD i40).2.1 ≤ 10000) ∧ (0 ≤ (l[k]?.getD i40).2.2.1 ∧ (l[k]?.getD i40).2.2.1 ≤ 10000) := fun h => by
        have := boxX_iff.1 (hmem (l[k]?.getD i40) (by rw [List.getElem?_eq_getElem h]; exact List.getElem_mem h))
        exact ⟨this.2.1, this.2.2.1⟩
      by_cases hkl : k < l.length
      · have hst := sumHD_take hkl
        have hbk := hbk hkl
        clear hsum
        repeat' (first | (with_reducible first | apply i_seq | apply i_block | apply i_skip | apply i_exit | apply i_ret | apply i_kS | apply i_kSx | apply i_kSr | apply i_kL | apply i_kLx | apply i_kLr | apply i_kB | apply i_kBr | apply i_kBs | apply i_nil) | ((with_reducible apply i_region); (focus (simp only [List.map_cons, List.map_nil] <;> exact rfl))) | ((with_reducible apply i_draw); (focus (simp only [List.map_cons, List.map_nil] <;> exact rfl)); (focus (decide +kernel))) | ((with_reducible apply i_kBo); (focus rfl)) | ((first | ((with_reducible apply i_V); (focus rfl); (focus rfl); (focus rfl)) | ((with_reducible apply i_E); (focus rfl); (focus (first | rfl | (simp only [push_cast, ↓reduceIte, effOk, touch, refsOf, List.flatMap_cons, List.flatMap_nil])))) | ((with_reducible apply i_S); (focus rfl); (focus (first | rfl | (simp only [push_cast, ↓reduceIte, effOk, touch, refsOf, List.flatMap_cons, List.flatMap_nil])))) | ((with_reducible apply i_Vq); (focus rfl); (focus rfl)) | ((with_reducible apply i_Vp); (focus rfl); (focus rfl); (focus rfl))); (focus (simp (disch := (first | omega | (simp only [push_cast]; done) | (simp only [push_cast]; omega) | ((try simp only [push_cast]); (with_reducible first | apply sel_lt | apply sel_ge); (focus decide); (focus (simp only [push_cast]; omega))))) only [push_cast, ↓reduceIte, Nat.reduceEqDiff, Nat.reduceBEq, Nat.reduceAdd, Nat.reduceSub, Int.reduceToNat, *] <;> with_reducible exact rfl))) | ((with_reducible first | apply i_Gb | apply i_cond); (focus (simp (disch := (first | omega | (simp only [push_cast]; done) | (simp only [push_cast]; omega) | ((try simp only [push_cast]); (with_reducible first | apply sel_lt | apply sel_ge); (focus decide); (focus (simp only [push_cast]; omega))))) only [push_cast, ↓reduceIte, Nat.reduceEqDiff, Nat.reduceBEq, Nat.reduceAdd, Nat.reduceSub, Int.reduceToNat, *] <;> with_reducible exact rfl)); all_goals (intro hX; first | (cases hX; done) | ((with_reducible first | have hX0 : true = true := hX | have hX0 : false = false := hX); clear hX0 hX) | ((try simp only [decide_eq_true_eq, decide_eq_false_iff_not, Bool.not_eq_true', Bool.not_eq_false'] at hX); (try have hXb := inB_iff.1 hX)))))
        all_goals (first | (exfalso; omega) | ((first | apply i_end | apply i_endN); simp (disch := (first | omega | (simp only [push_cast]; done) | (simp only [push_cast]; omega) | ((try simp only [push_cast]); (with_reducible first | apply sel_lt | apply sel_ge); (focus decide); (focus (simp only [push_cast]; omega))))) only [push_cast, ↓reduceIte, Nat.reduceEqDiff, Nat.reduceBEq, Nat.reduceAdd, Nat.reduceSub, Int.reduceToNat, *]) | skip)
        refine ⟨k + 1, by omega, by dsimp only; omega, ?_, ?_, rfl⟩
        · simp (disch := (first | omega | (simp only [push_cast]; done) | (simp only [push_cast]; omega) | ((try simp only [push_cast]); (with_reducible first | apply sel_lt | apply sel_ge); (focus decide); (focus (simp only [push_cast]; omega))))) only [push_cast, ↓reduceIte, Nat.reduceEqDiff, Nat.reduceBEq, Nat.reduceAdd, Nat.reduceSub, Int.reduceToNat, List.length_append, *]
        · simp (disch := (first | omega | (simp only [push_cast]; done) | (simp only [push_cast]; omega) | ((try simp only [push_cast]); (with_reducible first | apply sel_lt | apply sel_ge); (focus decide); (focus (simp only [push_cast]; omega))))) only [push_cast, ↓reduceIte, Nat.reduceEqDiff, Nat.reduceBEq, Nat.reduceAdd, Nat.reduceSub, Int.reduceToNat, List.length_append, *]
      · have hkk : k = l.length := by omega
        subst hkk
        rw [List.take_length] at hs
        have hs2 : (l.foldl stackStep i40).2.1 + (l.foldl stackStep i40).2.2.1 = sumHD l := by rw [hsum]; simp only [i40]; omega
        clear hsum hbk hkl hsl
        have htake : l.take l.length = l := List.take_length
        repeat' (first | (with_reducible first | apply i_seq | apply i_block | apply i_skip | apply i_exit | apply i_ret | apply i_kS | apply i_kSx | apply i_kSr | apply i_kL | apply i_kLx | apply i_kLr | apply i_kB | apply i_kBr | apply i_kBs | apply i_nil) | ((with_reducible apply i_region); (focus (simp only [List.map_cons, List.map_nil] <;> exact rfl))) | ((with_reducible apply i_draw); (focus (simp only [List.map_cons, List.map_nil] <;> exact rfl)); (focus (decide +kernel))) | ((with_reducible apply i_kBo); (focus rfl)) | ((first | ((with_reducible apply i_V); (focus rfl); (focus rfl); (focus rfl)) | ((with_reducible apply i_E); (focus rfl); (focus (first | rfl | (simp only [push_cast, ↓reduceIte, effOk, touch, refsOf, List.flatMap_cons, List.flatMap_nil])))) | ((with_reducible apply i_S); (focus rfl); (focus (first | rfl | (simp only [push_cast, ↓reduceIte, effOk, touch, refsOf, List.flatMap_cons, List.flatMap_nil])))) | ((with_reducible apply i_Vq); (focus rfl); (focus rfl)) | ((with_reducible apply i_Vp); (focus rfl); (focus rfl); (focus rfl))); (focus (simp (disch := (first | omega | (simp only [push_cast]; done) | (simp only [push_cast]; omega) | ((try simp only [push_cast]); (with_reducible first | apply sel_lt | apply sel_ge); (focus decide); (focus (simp only [push_cast]; omega))))) only [push_cast, ↓reduceIte, Nat.reduceEqDiff, Nat.reduceBEq, Nat.reduceAdd, Nat.reduceSub, Int.reduceToNat, *] <;> with_reducible exact rfl))) | ((with_reducible first | apply i_Gb | apply i_cond); (focus (simp (disch := (first | omega | (simp only [push_cast]; done) | (simp only [push_cast]; omega) | ((try simp only [push_cast]); (with_reducible first | apply sel_lt | apply sel_ge); (focus decide); (focus (simp only [push_cast]; omega))))) only [push_cast, ↓reduceIte, Nat.reduceEqDiff, Nat.reduceBEq, Nat.reduceAdd, Nat.reduceSub, Int.reduceToNat, *] <;> with_reducible exact rfl)); all_goals (intro hX; first | (cases hX; done) | ((with_reducible first | have hX0 : true = true := hX | have hX0 : false = false := hX); clear hX0 hX) | ((try simp only [decide_eq_true_eq, decide_eq_false_iff_not, Bool.not_eq_true', Bool.not_eq_false'] at hX); (try have hXb := inB_iff.1 hX)))))
        all_goals (first | (exfalso; omega) | ((first | apply i_end | apply i_endN); simp (disch := (first | omega | (simp only [push_cast]; done) | (simp only [push_cast]; omega) | ((try simp only [push_cast]); (with_reducible first | apply sel_lt | apply sel_ge); (focus decide); (focus (simp only [push_cast]; omega))))) only [push_cast, ↓reduceIte, Nat.reduceEqDiff, Nat.reduceBEq, Nat.reduceAdd, Nat.reduceSub, Int.reduceToNat, *]) | skip)
        have htk : (l.drop (l.length / 2 : Int).toNat).take (l.length - (l.length / 2 : Int).toNat) = l.drop (l.length / 2 : Int).toNat := List.take_of_length_le (by simp)
        simp only [htk] at *
        have hb := @packS_both l (l.length / 2 : Int).toNat (by omega)
        generalize packG stackStep (l.take (l.length / 2 : Int).toNat) = T at *
        generalize packG stackStep (l.drop (l.length / 2 : Int).toNat) = D at *
        obtain ⟨⟨t1, t2, t3, t4⟩, tb⟩ := T
        obtain ⟨⟨d1, d2, d3, d4⟩, db⟩ := D
        dsimp only at *
        simp only [hb (by assumption) (by assumption) (by assumption), beq_self_eq_true, Bool.and_self]
  · have glps_c32 := GLps_32; have glps_c33 := GLps_33; have glps_c34 := GLps_34; have glps_c18 := GLps_18; have glps_c22 := GLps_22
    repeat' (first | (with_reducible first | apply i_seq | apply i_block | apply i_skip | apply i_exit | apply i_ret | apply i_kS | apply i_kSx | apply i_kSr | apply i_kL | apply i_kLx | apply i_kLr | apply i_kB | apply i_kBr | apply i_kBs | apply i_nil) | ((with_reducible apply i_region); (focus (simp only [List.map_cons, List.map_nil] <;> exact rfl))) | ((with_reducible apply i_draw); (focus (simp only [List.map_cons, List.map_nil] <;> exact rfl)); (focus (decide +kernel))) | ((with_reducible apply i_kBo); (focus rfl)) | ((first | ((with_reducible apply i_V); (focus rfl); (focus rfl); (focus rfl)) | ((with_reducible apply i_E); (focus rfl); (focus (first | rfl | (simp only [push_cast, ↓reduceIte, effOk, touch, refsOf, List.flatMap_cons, List.flatMap_nil])))) | ((with_reducible apply i_S); (focus rfl); (focus (first | rfl | (simp only [push_cast, ↓reduceIte, effOk, touch, refsOf, List.flatMap_cons, List.flatMap_nil])))) | ((with_reducible apply i_Vq); (focus rfl); (focus rfl)) | ((with_reducible apply i_Vp); (focus rfl); (focus rfl); (focus rfl))); (focus (simp (disch := (first | omega | (simp only [push_cast]; done) | (simp only [push_cast]; omega) | ((try simp only [push_cast]); (with_reducible first | apply sel_lt | apply sel_ge); (focus decide); (focus (simp only [push_cast]; omega))))) only [push_cast, ↓reduceIte, Nat.reduceEqDiff, Nat.reduceBEq, Nat.reduceAdd, Nat.reduceSub, Int.reduceToNat, *] <;> with_reducible exact rfl))) | ((with_reducible first | apply i_Gb | apply i_cond); (focus (simp (disch := (first | omega | (simp only [push_cast]; done) | (simp only [push_cast]; omega) | ((try simp only [push_cast]); (with_reducible first | apply sel_lt | apply sel_ge); (focus decide); (focus (simp only [push_cast]; omega))))) only [push_cast, ↓reduceIte, Nat.reduceEqDiff, Nat.reduceBEq, Nat.reduceAdd, Nat.reduceSub, Int.reduceToNat, *] <;> with_reducible exact rfl)); all_goals (intro hX; first | (cases hX; done) | ((with_reducible first | have hX0 : true = true := hX | have hX0 : false = false := hX); clear hX0 hX) | ((try simp only [decide_eq_true_eq, decide_eq_false_iff_not, Bool.not_eq_true', Bool.not_eq_false'] at hX); (try have hXb := inB_iff.1 hX)))))
    all_goals (first | (exfalso; omega) | ((first | apply i_end | apply i_endN); simp (disch := (first | omega | (simp only [push_cast]; done) | (simp only [push_cast]; omega) | ((try simp only [push_cast]); (with_reducible first | apply sel_lt | apply sel_ge); (focus decide); (focus (simp only [push_cast]; omega))))) only [push_cast, ↓reduceIte, Nat.reduceEqDiff, Nat.reduceBEq, Nat.reduceAdd, Nat.reduceSub, Int.reduceToNat, *]) | skip)
end Go.Proofs.Ytenhkmkajmnaaaa
