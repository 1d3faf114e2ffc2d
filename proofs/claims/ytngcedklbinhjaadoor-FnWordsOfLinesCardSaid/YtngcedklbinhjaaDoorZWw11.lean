/- What the proof rests on, part 11: contracts of functions. No condition beyond what each states. -/
import Derived.Test.YtngcedklbinhjaaDoorZWw10
namespace Go.Proofs.YtngcedklbinhjaaDoor
open Go.RowKit
set_option linter.all false
abbrev lsIt (l : List It) : PV := .lst false 7 (l.map pvIt)
theorem brkQ_raw (l : List It) (n : Nat) : brkQ l n = if (l[n]?.getD it0).1 = 2 then decide (0 < n ∧ (l[n - 1]?.getD it0).1 = 1) else decide ((l[n]?.getD it0).1 = 3 ∧ (l[n]?.getD it0).2.2.2.2.2.1 < 10000) := rfl
theorem forced_raw (x : It) : forced x = decide (x.1 = 3 ∧ x.2.2.2.2.2.1 = -10000) := rfl
noncomputable def φBq : Fun := F2 dIts dI fun l n => open Classical in if itemsB l = true ∧ 0 ≤ n ∧ n < l.length then some (bv (brkQ l n.toNat)) else none
theorem φBq_ap {l : List It} {n : Nat} (h : itemsB l = true) (h2 : n < l.length) : φBq [lsIt l, .val (.int .i64 n)] = some (.val (.bool (brkQ l n))) := (F2_ap (A := dIts) (B := dI) l n).trans (if_pos ⟨h, by omega, by omega⟩)
set_option maxHeartbeats 4000000 in
theorem specBq_ok : Sound Tryd.prog 40 φBq := by
  refine sound_pq mixed GE_ok Tryd.func40 rfl 36 rfl [.tmp 4] rfl (by kernel_rfl) fun ps r hr => ?_
  obtain ⟨l, n, rfl, hq⟩ := F2_some hr
  clear hr
  split at hq
  case isFalse => cases hq
  case isTrue hpre =>
  cases hq
  refine ⟨by simp, ?_⟩
  simp only [dIs, dUs, dSs, dI_e, dU_e, dB_e, dS_e, dFn_e, dL_e, dA2_e, dA3_e, dA4_e, dA5_e]
  obtain ⟨hB, hn0, hn1⟩ := hpre
  obtain ⟨m, rfl⟩ : ∃ m : Nat, n = m := ⟨n.toNat, by omega⟩
  have hl := items_len hB
  show pq _ _ _ _ _ (initS [lsIt l, .val (.int .i64 m)]).tm _ _
  have hm : m < l.length := by omega
  have e1 : 0 < m → ((m : Int) - 1).toNat = m - 1 := fun h => by omega
  rw [Int.toNat_natCast, brkQ_raw]
  clear hB
  by_cases h0 : 0 < m
  · have e1 := e1 h0
    generalize hx : l[m]?.getD it0 = x at *
    generalize hy : l[m - 1]?.getD it0 = y at *
    obtain ⟨a, b, c, d, e, f, g⟩ := x
    obtain ⟨a', b', c', d', e', f', g'⟩ := y
    dsimp only
    (repeat' (first | (with_reducible first | apply i_seq | apply i_block | apply i_skip | apply i_exit | apply i_ret | apply i_kS | apply i_kSx | apply i_kSr | apply i_kL | apply i_kLx | apply i_kLr | apply i_kB | apply i_kBr | apply i_kBs | apply i_nil) | ((with_reducible apply i_region); (simp only [List.map_cons, List.map_nil] <;> exact rfl)) | ((with_reducible apply i_draw); (simp only [List.map_cons, List.map_nil] <;> exact rfl); decide +kernel) | ((with_reducible apply i_kBo); rfl) | ((first | ((with_reducible apply i_V); rfl; rfl; rfl) | ((first | ((with_reducible apply i_E); rfl) | ((with_reducible apply i_S); rfl)); first | rfl | (simp only [push_cast, ↓reduceIte])) | ((with_reducible apply i_Vq); rfl; rfl) | ((with_reducible apply i_Vp); rfl; rfl; rfl) | (with_reducible first | apply i_Gb | apply i_cond)); (simp (disch := (first | omega | (simp only [push_cast]; first | done | omega))) only [push_cast, ↓reduceIte, Nat.reduceEqDiff, Nat.reduceBEq, Nat.reduceAdd, Nat.reduceSub, Int.reduceToNat, *] <;> with_reducible exact rfl); all_goals try (first | (with_reducible first | refine hyT ?_ | refine hyF ?_ | exact hyA | exact hyB) | (intro hX; first | (cases hX; done) | ((try simp only [decide_eq_true_eq, decide_eq_false_iff_not, Bool.not_eq_true', Bool.not_eq_false'] at hX); (try have hXb := inB_iff.1 hX))))))); all_goals try (exfalso; omega)
    all_goals ((first | apply i_end | apply i_endN); simp (disch := (first | omega | (simp only [push_cast]; first | done | omega))) only [push_cast, ↓reduceIte, Nat.reduceEqDiff, Nat.reduceBEq, Nat.reduceAdd, Nat.reduceSub, Int.reduceToNat, *])
    all_goals ((refine congrArg (fun z => some (PV.val (Value.bool z))) ?_); first | (simp_all; done) | (simp_all; omega))
  · generalize hx : l[m]?.getD it0 = x at *
    obtain ⟨a, b, c, d, e, f, g⟩ := x
    clear e1
    dsimp only
    (repeat' (first | (with_reducible first | apply i_seq | apply i_block | apply i_skip | apply i_exit | apply i_ret | apply i_kS | apply i_kSx | apply i_kSr | apply i_kL | apply i_kLx | apply i_kLr | apply i_kB | apply i_kBr | apply i_kBs | apply i_nil) | ((with_reducible apply i_region); (simp only [List.map_cons, List.map_nil] <;> exact rfl)) | ((with_reducible apply i_draw); (simp only [List.map_cons, List.map_nil] <;> exact rfl); decide +kernel) | ((with_reducible apply i_kBo); rfl) | ((first | ((with_reducible apply i_V); rfl; rfl; rfl) | ((first | ((with_reducible apply i_E); rfl) | ((with_reducible apply i_S); rfl)); first | rfl | (simp only [push_cast, ↓reduceIte])) | ((with_reducible apply i_Vq); rfl; rfl) | ((with_reducible apply i_Vp); rfl; rfl; rfl) | (with_reducible first | apply i_Gb | apply i_cond)); (simp (disch := (first | omega | (simp only [push_cast]; first | done | omega))) only [push_cast, ↓reduceIte, Nat.reduceEqDiff, Nat.reduceBEq, Nat.reduceAdd, Nat.reduceSub, Int.reduceToNat, *] <;> with_reducible exact rfl); all_goals try (first | (with_reducible first | refine hyT ?_ | refine hyF ?_ | exact hyA | exact hyB) | (intro hX; first | (cases hX; done) | ((try simp only [decide_eq_true_eq, decide_eq_false_iff_not, Bool.not_eq_true', Bool.not_eq_false'] at hX); (try have hXb := inB_iff.1 hX))))))); all_goals try (exfalso; omega)
    all_goals ((first | apply i_end | apply i_endN); simp (disch := (first | omega | (simp only [push_cast]; first | done | omega))) only [push_cast, ↓reduceIte, Nat.reduceEqDiff, Nat.reduceBEq, Nat.reduceAdd, Nat.reduceSub, Int.reduceToNat, *])
    all_goals ((refine congrArg (fun z => some (PV.val (Value.bool z))) ?_); first | (simp_all; done) | (simp_all; omega))
noncomputable def φSt : Fun := F2 dIts dI fun l n => open Classical in if itemsB l = true ∧ -1 ≤ n ∧ n < l.length then some (iv (startN l (n + 1).toNat)) else none
theorem φSt_ap {l : List It} {a : Nat} (h : itemsB l = true) (h2 : a ≤ l.length) : φSt [lsIt l, .val (.int .i64 ((a : Int) - 1))] = some (.val (.int .i64 (startN l a))) := (F2_ap (A := dIts) (B := dI) l ((a : Int) - 1)).trans ((if_pos ⟨h, by omega, by omega⟩).trans (by rw [show ((a : Int) - 1 + 1).toNat = a by omega]))
theorem stN_raw {l : List It} {a : Nat} : startN l a = if a < l.length ∧ ¬ (l[a]?.getD it0).1 = 1 ∧ ¬ ((l[a]?.getD it0).1 = 3 ∧ (l[a]?.getD it0).2.2.2.2.2.1 = -10000) then startN l (a + 1) else a := by
  split
  · rename_i h
    exact stN_go h.1 h.2.1 (decide_eq_false h.2.2)
  · rename_i h
    refine stN_stop fun q => h ⟨q.1, q.2.1, fun r => ?_⟩
    have := q.2.2
    rw [forced_raw, decide_eq_true r] at this
    cases this
set_option maxHeartbeats 8000000 in
theorem specSt_ok : Sound Tryd.prog 55 φSt := by
  refine sound_pq mixed GE_ok Tryd.func55 rfl 39 rfl [.tmp 4] rfl (by kernel_rfl) fun ps r hr => ?_
  obtain ⟨l, n, rfl, hq⟩ := F2_some hr
  clear hr
  split at hq
  case isFalse => cases hq
  case isTrue hpre =>
  cases hq
  refine ⟨by simp, ?_⟩
  simp only [dIs, dUs, dSs, dI_e, dU_e, dB_e, dS_e, dFn_e, dL_e, dA2_e, dA3_e, dA4_e, dA5_e]
  obtain ⟨hB, hn0, hn1⟩ := hpre
  obtain ⟨a, rfl⟩ : ∃ a : Nat, n = (a : Int) - 1 := ⟨(n + 1).toNat, by omega⟩
  have hl := items_len hB
  have hat := fun k hk => (items_at hB (k := k) hk).cost
  have ha : a ≤ l.length := by omega
  show pq _ _ _ _ _ (initS [lsIt l, .val (.int .i64 ((a : Int) - 1))]).tm _ _
  rw [show ((a : Int) - 1 + 1).toNat = a by omega]
  clear hB hn0 hn1
  generalize hR : startN l a = R
  replace hR := Lib.hid hR
  (refine wlk ?_; intros)
  refine i_loop (α := Nat) mixed (fun k => [(0, lsIt l), (5, iv k)]) (fun _ => []) (fun _ => 0)
    (fun k => k ≤ l.length ∧ startN l k = R) (fun k => l.length - k) (by kernel_rfl) a ⟨ha, hR.out⟩ ?_ ?_ rfl ?_
  · exact agi
  · exact agr
  rintro k ⟨hk, hI⟩
  rw [stN_raw] at hI
  clear hR ha
  by_cases h0 : k < l.length
  · have hc : (0 ≤ (l[k]?.getD it0).2.2.2.2.2.1 ∧ (l[k]?.getD it0).2.2.2.2.2.1 ≤ 10000) ∨ (l[k]?.getD it0).2.2.2.2.2.1 = -10000 := hat k h0
    clear hat
    generalize hx : l[k]?.getD it0 = x at *
    obtain ⟨kd, b, c, d, e, cost, g⟩ := x
    dsimp only at hI hc
    by_cases h1 : kd = 1
    · rw [if_neg (by omega)] at hI
      subst hI
      clear hc
      exact wlkF
    · by_cases h3 : kd = 3 ∧ cost = -10000
      · rw [if_neg (by omega)] at hI
        subst hI
        obtain ⟨h3, h4⟩ := h3
        subst h3
        subst h4
        clear hc h1
        exact wlkF
      · rw [if_pos ⟨h0, h1, h3⟩] at hI
        replace hI := Lib.hid hI
        by_cases h5 : kd = 3
        · have h6 : 0 ≤ cost := by omega
          clear hc h3 h1
          subst h5
          (refine wlk ?_; intros)
          refine ⟨k + 1, ⟨by omega, hI.out⟩, by dsimp only; omega, ?_, ?_, rfl⟩
          · exact agr
          · exact agr
        · clear hc h3
          (refine wlk ?_; intros)
          refine ⟨k + 1, ⟨by omega, hI.out⟩, by dsimp only; omega, ?_, ?_, rfl⟩
          · exact agr
          · exact agr
  · rw [if_neg (fun q => h0 q.1)] at hI
    subst hI
    clear hat
    exact wlkF
noncomputable def φNf : Fun := F3 dIts dI dI fun l n m => open Classical in if itemsB l = true ∧ -1 ≤ n ∧ n < m ∧ m < l.length then some (bv (noFc l (n + 1).toNat m.toNat)) else none
theorem φNf_ap {l : List It} {a b : Nat} (h : itemsB l = true) (h2 : a ≤ b) (h3 : b < l.length) : φNf [lsIt l, .val (.int .i64 ((a : Int) - 1)), .val (.int .i64 b)] = some (.val (.bool (noFc l a b))) := (F3_ap (A := dIts) (B := dI) (C := dI) l ((a : Int) - 1) b).trans ((if_pos ⟨h, by omega, by omega, by omega⟩).trans (by rw [show ((a : Int) - 1 + 1).toNat = a by omega, Int.toNat_natCast]))
set_option maxHeartbeats 8000000 in
theorem specNf_ok : Sound Tryd.prog 56 φNf := by
  refine sound_pq mixed GE_ok Tryd.func56 rfl 29 rfl [.tmp 6] rfl (by kernel_rfl) fun ps r hr => ?_
  obtain ⟨l, n, m, rfl, hq⟩ := F3_some hr
  clear hr
  split at hq
  case isFalse => cases hq
  case isTrue hpre =>
  cases hq
  refine ⟨by simp, ?_⟩
  simp only [dIs, dUs, dSs, dI_e, dU_e, dB_e, dS_e, dFn_e, dL_e, dA2_e, dA3_e, dA4_e, dA5_e]
  obtain ⟨hB, hn0, hn1, hn2⟩ := hpre
  obtain ⟨a, rfl⟩ : ∃ a : Nat, n = (a : Int) - 1 := ⟨(n + 1).toNat, by omega⟩
  obtain ⟨b, rfl⟩ : ∃ b : Nat, m = b := ⟨m.toNat, by omega⟩
  have hl := items_len hB
  have hab : a ≤ b := by omega
  have hbl : b < l.length := by omega
  show pq _ _ _ _ _ (initS [lsIt l, .val (.int .i64 ((a : Int) - 1)), .val (.int .i64 b)]).tm _ _
  rw [show ((a : Int) - 1 + 1).toNat = a by omega, Int.toNat_natCast]
  clear hB hn0 hn1 hn2
  (refine wlk ?_; intros)
  refine i_loop (α := Nat) mixed (fun k => [(0, lsIt l), (2, iv b), (7, iv k)]) (fun _ => []) (fun _ => 0)
    (fun k => (a ≤ k ∧ k ≤ b) ∧ noFc l a k = true) (fun k => b - k) (by kernel_rfl) a ⟨⟨Nat.le_refl _, hab⟩, noFc_nil (Nat.le_refl _)⟩ ?_ ?_ rfl ?_
  · exact agi
  · exact agr
  rintro k ⟨⟨hk1, hk2⟩, hI⟩
  by_cases h0 : k < b
  · have hs := noFc_succ (l := l) hk1
    rw [hI, Bool.true_and] at hs
    have hno := fun h => noFc_no (b := b) (l := l) h hk1 h0
    have hfr : forced (gI l k) = decide ((l[k]?.getD it0).1 = 3 ∧ (l[k]?.getD it0).2.2.2.2.2.1 = -10000) := rfl
    rw [hfr] at hs
    clear hI hfr
    generalize hx : l[k]?.getD it0 = x at *
    obtain ⟨kd, w9, c, d, e, cost, g⟩ := x
    dsimp only at hs
    by_cases h3 : kd = 3 ∧ cost = -10000
    · rw [decide_eq_true h3] at hs
      rw [hno hs]
      obtain ⟨h3, h4⟩ := h3
      subst h3
      subst h4
      clear hs hno
      exact wlkF
    · rw [decide_eq_false h3] at hs
      replace hs := Lib.hid hs
      clear hno
      by_cases h5 : kd = 3
      · have h6 : ¬ cost = -10000 := fun q => h3 ⟨h5, q⟩
        clear h3
        subst h5
        (refine wlk ?_; intros)
        refine ⟨k + 1, ⟨⟨by omega, by omega⟩, hs.out⟩, by dsimp only; omega, ?_, ?_, rfl⟩
        · exact agr
        · exact agr
      · clear h3
        (refine wlk ?_; intros)
        refine ⟨k + 1, ⟨⟨by omega, by omega⟩, hs.out⟩, by dsimp only; omega, ?_, ?_, rfl⟩
        · exact agr
        · exact agr
  · obtain rfl : k = b := by omega
    rw [hI]
    clear hI
    exact wlkF
noncomputable def φLq : Fun := F3 dIts dI dI fun l n m => open Classical in if itemsB l = true ∧ -1 ≤ n ∧ n < m ∧ m < l.length then some (bv (lineQ l (n + 1).toNat m.toNat)) else none
theorem φLq_ap {l : List It} {a b : Nat} (h : itemsB l = true) (h2 : a ≤ b) (h3 : b < l.length) : φLq [lsIt l, .val (.int .i64 ((a : Int) - 1)), .val (.int .i64 b)] = some (.val (.bool (lineQ l a b))) := (F3_ap (A := dIts) (B := dI) (C := dI) l ((a : Int) - 1) b).trans ((if_pos ⟨h, by omega, by omega, by omega⟩).trans (by rw [show ((a : Int) - 1 + 1).toNat = a by omega, Int.toNat_natCast]))
noncomputable def GLq : Ctx := { fn := fun f => if f = 39 then some φIn else if f = 40 then some φBq else if f = 55 then some φSt else if f = 56 then some φNf else none, io := fun f => none }
theorem GLq_ok : SoundΓ Tryd.prog GLq := ⟨(fun f φ h => by
  unfold GLq at h
  dsimp only at h
  split at h
  · rename_i hf; cases h; subst hf; exact ⟨⟨_, Tryd.func39, rfl, rfl⟩, l1In_ok⟩
  split at h
  · rename_i hf; cases h; subst hf; exact ⟨⟨_, Tryd.func40, rfl, rfl⟩, specBq_ok⟩
  split at h
  · rename_i hf; cases h; subst hf; exact ⟨⟨_, Tryd.func55, rfl, rfl⟩, specSt_ok⟩
  split at h
  · rename_i hf; cases h; subst hf; exact ⟨⟨_, Tryd.func56, rfl, rfl⟩, specNf_ok⟩
  cases h), (fun f φ h => by
  unfold GLq at h
  dsimp only at h
  cases h), rfl⟩
theorem GLq_39 (ob : Objs) (ps : List PV) : evCall GLq ob 39 ps = (ps.mapM (reify false 0 ob fuel)).bind φIn := by
  have h : GLq.fn 39 = some φIn := by simp [GLq]
  unfold evCall
  rw [h]
  cases ps.mapM (reify false 0 ob fuel) <;> rfl
theorem GLq_40 (ob : Objs) (ps : List PV) : evCall GLq ob 40 ps = (ps.mapM (reify false 0 ob fuel)).bind φBq := by
  have h : GLq.fn 40 = some φBq := by simp [GLq]
  unfold evCall
  rw [h]
  cases ps.mapM (reify false 0 ob fuel) <;> rfl
theorem GLq_55 (ob : Objs) (ps : List PV) : evCall GLq ob 55 ps = (ps.mapM (reify false 0 ob fuel)).bind φSt := by
  have h : GLq.fn 55 = some φSt := by simp [GLq]
  unfold evCall
  rw [h]
  cases ps.mapM (reify false 0 ob fuel) <;> rfl
theorem GLq_56 (ob : Objs) (ps : List PV) : evCall GLq ob 56 ps = (ps.mapM (reify false 0 ob fuel)).bind φNf := by
  have h : GLq.fn 56 = some φNf := by simp [GLq]
  unfold evCall
  rw [h]
  cases ps.mapM (reify false 0 ob fuel) <;> rfl
set_option maxHeartbeats 8000000 in
theorem specLq_ok : Sound Tryd.prog 41 φLq := by
  refine sound_pq mixed GLq_ok Tryd.func41 rfl 45 rfl [.tmp 6] rfl (by kernel_rfl) fun ps r hr => ?_
  obtain ⟨l, n, m, rfl, hq⟩ := F3_some hr
  clear hr
  split at hq
  case isFalse => cases hq
  case isTrue hpre =>
  cases hq
  refine ⟨by simp, ?_⟩
  simp only [dIs, dUs, dSs, dI_e, dU_e, dB_e, dS_e, dFn_e, dL_e, dA2_e, dA3_e, dA4_e, dA5_e]
  obtain ⟨hB, hn0, hn1, hn2⟩ := hpre
  obtain ⟨a, rfl⟩ : ∃ a : Nat, n = (a : Int) - 1 := ⟨(n + 1).toNat, by omega⟩
  obtain ⟨b, rfl⟩ : ∃ b : Nat, m = b := ⟨m.toNat, by omega⟩
  have hl := items_len hB
  have hab : a ≤ b := by omega
  have hbl : b < l.length := by omega
  show pq _ _ _ _ _ (initS [lsIt l, .val (.int .i64 ((a : Int) - 1)), .val (.int .i64 b)]).tm _ _
  rw [show ((a : Int) - 1 + 1).toNat = a by omega, Int.toNat_natCast]
  have ap1 : φIn [.val (.int .i64 ((a : Int) - 1)), .val (.int .i64 (-1)), .val (.int .i64 ((b : Int) - 1))] = some (.val (.bool true)) := (φIn_ap _ _ _).trans (by rw [inB_iff.2 ⟨by omega, by omega⟩])
  have ap2 : φIn [.val (.int .i64 b), .val (.int .i64 0), .val (.int .i64 ((l.length : Int) - 1))] = some (.val (.bool true)) := (φIn_ap _ _ _).trans (by rw [inB_iff.2 ⟨by omega, by omega⟩])
  have ap3 := φBq_ap hB hbl
  have ap5 := φSt_ap (a := a) hB (by omega)
  have ap6 := φNf_ap hB hab hbl
  have hE : lineQ l a b = (brkQ l b && ((decide (a = 0) || brkQ l (a - 1)) && (decide (startN l a ≤ b) && noFc l a b))) := by
    unfold lineQ
    rw [decide_eq_true ⟨hab, hbl⟩, Bool.true_and]
  rw [hE]
  clear hE hn0 hn1 hn2
  generalize brkQ l b = q1 at *
  generalize noFc l a b = q2 at *
  generalize startN l a = s9 at *
  by_cases h0 : a = 0
  · subst h0
    clear hB
    simp only [Int.natCast_zero, Int.zero_sub] at ap1 ap5 ap6 ⊢
    have glq_c39 := GLq_39; have glq_c40 := GLq_40; have glq_c55 := GLq_55; have glq_c56 := GLq_56
    (repeat' (first | (with_reducible first | apply i_seq | apply i_block | apply i_skip | apply i_exit | apply i_ret | apply i_kS | apply i_kSx | apply i_kSr | apply i_kL | apply i_kLx | apply i_kLr | apply i_kB | apply i_kBr | apply i_kBs | apply i_nil) | ((with_reducible apply i_region); (simp only [List.map_cons, List.map_nil] <;> exact rfl)) | ((with_reducible apply i_draw); (simp only [List.map_cons, List.map_nil] <;> exact rfl); decide +kernel) | ((with_reducible apply i_kBo); rfl) | ((first | ((with_reducible apply i_V); rfl; rfl; rfl) | ((first | ((with_reducible apply i_E); rfl) | ((with_reducible apply i_S); rfl)); first | rfl | (simp only [push_cast, ↓reduceIte])) | ((with_reducible apply i_Vq); rfl; rfl) | ((with_reducible apply i_Vp); rfl; rfl; rfl) | (with_reducible first | apply i_Gb | apply i_cond)); (simp (disch := (first | omega | (simp only [push_cast]; first | done | omega))) only [push_cast, ↓reduceIte, Nat.reduceEqDiff, Nat.reduceBEq, Nat.reduceAdd, Nat.reduceSub, Int.reduceToNat, *] <;> with_reducible exact rfl); all_goals try (first | (with_reducible first | refine hyT ?_ | refine hyF ?_ | exact hyA | exact hyB) | (intro hX; first | (cases hX; done) | ((try simp only [decide_eq_true_eq, decide_eq_false_iff_not, Bool.not_eq_true', Bool.not_eq_false'] at hX); (try have hXb := inB_iff.1 hX))))))); all_goals try (exfalso; omega)
    all_goals ((first | apply i_end | apply i_endN); simp (disch := (first | omega | (simp only [push_cast]; first | done | omega))) only [push_cast, ↓reduceIte, Nat.reduceEqDiff, Nat.reduceBEq, Nat.reduceAdd, Nat.reduceSub, Int.reduceToNat, *])
    all_goals ((refine congrArg (fun z => some (PV.val (Value.bool z))) ?_); first | (simp_all; done) | (simp_all; omega))
  · have ap4 := φBq_ap (n := a - 1) hB (by omega)
    rw [show ((a - 1 : Nat) : Int) = (a : Int) - 1 by omega] at ap4
    generalize brkQ l (a - 1) = q3 at *
    clear hB
    have glq_c39 := GLq_39; have glq_c40 := GLq_40; have glq_c55 := GLq_55; have glq_c56 := GLq_56
    (repeat' (first | (with_reducible first | apply i_seq | apply i_block | apply i_skip | apply i_exit | apply i_ret | apply i_kS | apply i_kSx | apply i_kSr | apply i_kL | apply i_kLx | apply i_kLr | apply i_kB | apply i_kBr | apply i_kBs | apply i_nil) | ((with_reducible apply i_region); (simp only [List.map_cons, List.map_nil] <;> exact rfl)) | ((with_reducible apply i_draw); (simp only [List.map_cons, List.map_nil] <;> exact rfl); decide +kernel) | ((with_reducible apply i_kBo); rfl) | ((first | ((with_reducible apply i_V); rfl; rfl; rfl) | ((first | ((with_reducible apply i_E); rfl) | ((with_reducible apply i_S); rfl)); first | rfl | (simp only [push_cast, ↓reduceIte])) | ((with_reducible apply i_Vq); rfl; rfl) | ((with_reducible apply i_Vp); rfl; rfl; rfl) | (with_reducible first | apply i_Gb | apply i_cond)); (simp (disch := (first | omega | (simp only [push_cast]; first | done | omega))) only [push_cast, ↓reduceIte, Nat.reduceEqDiff, Nat.reduceBEq, Nat.reduceAdd, Nat.reduceSub, Int.reduceToNat, *] <;> with_reducible exact rfl); all_goals try (first | (with_reducible first | refine hyT ?_ | refine hyF ?_ | exact hyA | exact hyB) | (intro hX; first | (cases hX; done) | ((try simp only [decide_eq_true_eq, decide_eq_false_iff_not, Bool.not_eq_true', Bool.not_eq_false'] at hX); (try have hXb := inB_iff.1 hX))))))); all_goals try (exfalso; omega)
    all_goals ((first | apply i_end | apply i_endN); simp (disch := (first | omega | (simp only [push_cast]; first | done | omega))) only [push_cast, ↓reduceIte, Nat.reduceEqDiff, Nat.reduceBEq, Nat.reduceAdd, Nat.reduceSub, Int.reduceToNat, *])
    all_goals ((refine congrArg (fun z => some (PV.val (Value.bool z))) ?_); first | (simp_all; done) | (simp_all; omega))
end Go.Proofs.YtngcedklbinhjaaDoor
namespace Go.Proofs.YtngcedklbinhjaaDoor
open Go.RowKit
set_option linter.all false
abbrev pvG (g : I4) : PV := .agg [.val (.int .i64 g.1), .val (.int .i64 g.2.1), .val (.int .i64 g.2.2.1), .val (.int .i64 g.2.2.2)]
theorem add4_raw (a b c d a' b' c' d' : Int) : add4 (a, b, c, d) (a', b', c', d') = (a + a', (if (if b = 0 then 0 else d) = max (if b = 0 then 0 else d) (if b' = 0 then 0 else d') then b else 0) + (if (if b' = 0 then 0 else d') = max (if b = 0 then 0 else d) (if b' = 0 then 0 else d') then b' else 0), c + c', max (if b = 0 then 0 else d) (if b' = 0 then 0 else d')) := rfl
abbrev okG4 (g : I4) : Prop := (0 ≤ g.1 ∧ g.1 ≤ 1000000) ∧ (0 ≤ g.2.1 ∧ g.2.1 ≤ 1000000) ∧ (0 ≤ g.2.2.1 ∧ g.2.2.1 ≤ 1000000) ∧ (g.2.2.2 = 0 ∨ g.2.2.2 = 1)
noncomputable def φAdd : Fun := F2 dI4 dI4 fun a b => open Classical in if okG4 a ∧ okG4 b then some (pvG (add4 a b)) else none
theorem φAdd_ap {a b : I4} (h : okG4 a) (h2 : okG4 b) : φAdd [pvG a, pvG b] = some (pvG (add4 a b)) := (F2_ap (A := dI4) (B := dI4) a b).trans (if_pos ⟨h, h2⟩)
set_option maxHeartbeats 8000000 in
theorem specAdd_ok : Sound Tryd.prog 69 φAdd := by
  refine sound_pq mixed GE_ok Tryd.func69 rfl 58 rfl [.cell 4 45] rfl (by kernel_rfl) fun ps r hr => ?_
  obtain ⟨⟨a, b, c, d⟩, ⟨a', b', c', d'⟩, rfl, hq⟩ := F2_some hr
  clear hr
  split at hq
  case isFalse => cases hq
  case isTrue hpre =>
  cases hq
  refine ⟨by simp, ?_⟩
  simp only [dIs, dUs, dSs, dI_e, dU_e, dB_e, dS_e, dFn_e, dL_e, dA2_e, dA3_e, dA4_e, dA5_e]
  obtain ⟨⟨h1, h2, h3, h4⟩, h5, h6, h7, h8⟩ := hpre
  dsimp only at h1 h2 h3 h4 h5 h6 h7 h8
  rw [add4_raw]
  have g00 : ¬ ((0 : Int) > 0) := by decide
  have g10 : (1 : Int) > 0 := by decide
  have g01 : ¬ ((0 : Int) > 1) := by decide
  have g11 : ¬ ((1 : Int) > 1) := by decide
  have n01 : ¬ ((0 : Int) = 1) := by decide
  have n10 : ¬ ((1 : Int) = 0) := by decide
  have m00 : max (0 : Int) 0 = 0 := by decide
  have m01 : max (0 : Int) 1 = 1 := by decide
  have m10 : max (1 : Int) 0 = 1 := by decide
  have m11 : max (1 : Int) 1 = 1 := by decide
  rcases h4 with rfl | rfl <;> rcases h8 with rfl | rfl <;>
  · by_cases hb : b = 0 <;> by_cases hb' : b' = 0 <;>
    · first | subst hb | skip
      first | subst hb' | skip
      simp only [if_true, if_false, m00, m01, m10, m11, n01, n10, *]
      (repeat' (first | (with_reducible first | apply i_seq | apply i_block | apply i_skip | apply i_exit | apply i_ret | apply i_kS | apply i_kSx | apply i_kSr | apply i_kL | apply i_kLx | apply i_kLr | apply i_kB | apply i_kBr | apply i_kBs | apply i_nil) | ((with_reducible apply i_region); (simp only [List.map_cons, List.map_nil] <;> exact rfl)) | ((with_reducible apply i_draw); (simp only [List.map_cons, List.map_nil] <;> exact rfl); decide +kernel) | ((with_reducible apply i_kBo); rfl) | ((first | ((with_reducible apply i_V); rfl; rfl; rfl) | ((first | ((with_reducible apply i_E); rfl) | ((with_reducible apply i_S); rfl)); first | rfl | (simp only [push_cast, ↓reduceIte])) | ((with_reducible apply i_Vq); rfl; rfl) | ((with_reducible apply i_Vp); rfl; rfl; rfl) | (with_reducible first | apply i_Gb | apply i_cond)); (simp (disch := (first | omega | (simp only [push_cast]; first | done | omega))) only [push_cast, ↓reduceIte, Nat.reduceEqDiff, Nat.reduceBEq, Nat.reduceAdd, Nat.reduceSub, Int.reduceToNat, *] <;> with_reducible exact rfl); all_goals try (first | (with_reducible first | refine hyT ?_ | refine hyF ?_ | exact hyA | exact hyB) | (intro hX; first | (cases hX; done) | ((try simp only [decide_eq_true_eq, decide_eq_false_iff_not, Bool.not_eq_true', Bool.not_eq_false'] at hX); (try have hXb := inB_iff.1 hX))))))); all_goals try (exfalso; omega)
      all_goals ((first | apply i_end | apply i_endN); simp (disch := (first | omega | (simp only [push_cast]; first | done | omega))) only [push_cast, ↓reduceIte, Nat.reduceEqDiff, Nat.reduceBEq, Nat.reduceAdd, Nat.reduceSub, Int.reduceToNat, *])
      all_goals (simp; try omega)
def gluesF (l : List It) (b en : Nat) : List I4 := ((idxL l b en).map fun n : Int => (gI l n.toNat).gl) ++ (if (gI l en).kd = 3 then [(gI l en).gl] else [])
def gls0 (l : List It) (b k : Nat) : List I4 := (idxL l b k).map fun n : Int => (gI l n.toNat).gl
theorem gls0_nil {l : List It} {b : Nat} : gls0 l b b = [] := by unfold gls0; rw [idxL_nil (Nat.le_refl _)]; rfl
theorem gls0_yes {l : List It} {b k : Nat} (h : b ≤ k) (hk : ¬ (gI l k).kd = 3) : gls0 l b (k + 1) = gls0 l b k ++ [(gI l k).gl] := by
  unfold gls0
  rw [idxL_yes h hk, List.map_append]
  rfl
theorem gls0_no {l : List It} {b k : Nat} (h : b ≤ k) (hk : (gI l k).kd = 3) : gls0 l b (k + 1) = gls0 l b k := by
  unfold gls0
  rw [idxL_no h hk]
theorem gls0_len (l : List It) (b k : Nat) : (gls0 l b k).length ≤ k - b := by
  unfold gls0
  rw [List.length_map]
  exact idxL_len l b k
theorem gls0_ok {l : List It} {b k : Nat} (hB : itemsB l = true) (hk : k ≤ l.length) : ∀ g ∈ gls0 l b k, GOk g := fun g hg => by
  obtain ⟨n, hn, rfl⟩ := List.mem_map.1 hg
  have := idxL_mem n hn
  exact (items_at hB (k := n.toNat) (by omega)).gl
theorem gluesF_ok {l : List It} {b en : Nat} (hB : itemsB l = true) (hk : en < l.length) : (∀ g ∈ gluesF l b en, GOk g) ∧ (gluesF l b en).length ≤ 60 := by
  have hl := items_len hB
  have h1 := gls0_len l b en
  unfold gluesF
  refine ⟨fun g hg => ?_, ?_⟩
  · rcases List.mem_append.1 hg with hg | hg
    · exact gls0_ok hB (by omega) g hg
    · split at hg
      · rw [List.mem_singleton.1 hg]
        exact (items_at hB hk).gl
      · simp at hg
  · unfold gls0 at h1
    rw [List.length_append]
    split
    · rw [List.length_singleton]; omega
    · rw [List.length_nil]; omega
theorem tot_ok {gs : List I4} (h : ∀ g ∈ gs, GOk g) (hl : gs.length ≤ 60) : okG4 (totR gs) ∧ (totR gs).1 ≤ 60000 ∧ (totR gs).2.1 ≤ 60000 ∧ (totR gs).2.2.1 ≤ 60000 := by
  obtain ⟨h1, h2, h3, h4⟩ := tot_rng gs h
  exact ⟨⟨⟨h1.1, by omega⟩, ⟨h2.1, by omega⟩, ⟨h3.1, by omega⟩, h4⟩, by omega, by omega, by omega⟩
noncomputable def φSum : Fun := F3 dIts dI dI fun l n m => open Classical in if itemsB l = true ∧ 0 ≤ n ∧ n ≤ m ∧ m < l.length then some (pvG (totR (gluesF l n.toNat m.toNat))) else none
theorem φSum_ap {l : List It} {b en : Nat} (h : itemsB l = true) (h2 : b ≤ en) (h3 : en < l.length) : φSum [lsIt l, .val (.int .i64 b), .val (.int .i64 en)] = some (pvG (totR (gluesF l b en))) := (F3_ap (A := dIts) (B := dI) (C := dI) l b en).trans (if_pos ⟨h, by omega, by omega, by omega⟩)
noncomputable def GSum : Ctx := { fn := fun f => if f = 69 then some φAdd else none, io := fun f => none }
theorem GSum_ok : SoundΓ Tryd.prog GSum := ⟨(fun f φ h => by
  unfold GSum at h
  dsimp only at h
  split at h
  · rename_i hf; cases h; subst hf; exact ⟨⟨_, Tryd.func69, rfl, rfl⟩, specAdd_ok⟩
  cases h), (fun f φ h => by
  unfold GSum at h
  dsimp only at h
  cases h), rfl⟩
theorem GSum_69 (ob : Objs) (ps : List PV) : evCall GSum ob 69 ps = (ps.mapM (reify false 0 ob fuel)).bind φAdd := by
  have h : GSum.fn 69 = some φAdd := by simp [GSum]
  unfold evCall
  rw [h]
  cases ps.mapM (reify false 0 ob fuel) <;> rfl
set_option maxHeartbeats 16000000 in
theorem specSum_ok : Sound Tryd.prog 57 φSum := by
  refine sound_pq mixed GSum_ok Tryd.func57 rfl 49 rfl [.cell 6 45] rfl (by kernel_rfl) fun ps r hr => ?_
  obtain ⟨l, n, m, rfl, hq⟩ := F3_some hr
  clear hr
  split at hq
  case isFalse => cases hq
  case isTrue hpre =>
  cases hq
  refine ⟨by simp, ?_⟩
  simp only [dIs, dUs, dSs, dI_e, dU_e, dB_e, dS_e, dFn_e, dL_e, dA2_e, dA3_e, dA4_e, dA5_e]
  obtain ⟨hB, hn0, hn1, hn2⟩ := hpre
  obtain ⟨b, rfl⟩ : ∃ b : Nat, n = b := ⟨n.toNat, by omega⟩
  obtain ⟨en, rfl⟩ : ∃ en : Nat, m = en := ⟨m.toNat, by omega⟩
  have hl := items_len hB
  have hbe : b ≤ en := by omega
  have hel : en < l.length := by omega
  show pq _ _ _ _ _ (initS [lsIt l, .val (.int .i64 b), .val (.int .i64 en)]).tm _ _
  rw [Int.toNat_natCast, Int.toNat_natCast]
  clear hn0 hn1 hn2
  have hgs : gluesF l b en = gls0 l b en ++ (if (gI l en).kd = 3 then [(gI l en).gl] else []) := rfl
  rw [hgs]
  have gsum_c69 := GSum_69
  (refine wlk ?_; intros)
  refine i_loop (α := Nat) mixed (fun k => [(0, lsIt l), (2, iv en), (6, .own 0 4 0 0), (7, .own 1 4 0 0), (8, iv k)])
    (fun k => [(0, 45, 4, [pvG g40]), (1, 45, 4, [pvG (totR (gls0 l b k))])]) (fun _ => 2)
    (fun k => b ≤ k ∧ k ≤ en) (fun k => en - k) (by kernel_rfl) b ⟨Nat.le_refl _, hbe⟩ ?_ ?_ rfl ?_
  · exact agr
  · simp (disch := (first | omega | (simp only [push_cast]; first | done | omega))) only [push_cast, ↓reduceIte, Nat.reduceEqDiff, Nat.reduceBEq, Nat.reduceAdd, Nat.reduceSub, Int.reduceToNat, gls0_nil, totR, List.foldl_nil, g40, *]
  rintro k ⟨hk1, hk2⟩
  obtain ⟨ho, -⟩ := tot_ok (gls0_ok (b := b) hB (show k ≤ l.length by omega)) (by have := gls0_len l b k; omega)
  by_cases h0 : k < en
  · have hx1 := (items_at hB (k := k) (by omega)).gl
    have hy := @gls0_yes l b k hk1
    have hno := @gls0_no l b k hk1
    have hkx : gI l k = l[k]?.getD it0 := rfl
    rw [hkx] at hy hno
    generalize hx : l[k]?.getD it0 = x at *
    obtain ⟨kd, w9, c, d, e, cost, g⟩ := x
    replace hy : ¬ kd = 3 → gls0 l b (k + 1) = gls0 l b k ++ [(w9, c, d, e)] := hy
    replace hno : kd = 3 → gls0 l b (k + 1) = gls0 l b k := hno
    obtain ⟨g1, g2, g3, g4⟩ := hx1
    dsimp only at g1 g2 g3 g4
    have apa := φAdd_ap ho (b := (w9, c, d, e)) ⟨⟨g1.1, by (try dsimp only); omega⟩, ⟨g2.1, by (try dsimp only); omega⟩, ⟨g3.1, by (try dsimp only); omega⟩, g4⟩
    by_cases h3 : kd = 3
    · have hs := hno h3
      replace hs := Lib.hid hs
      clear hno hy apa ho g1 g2 g3 g4 hgs hB hkx
      generalize ht9 : totR (gls0 l b k) = t at *
      obtain ⟨t1, t2, t3, t4⟩ := t
      subst h3
      (refine wlk ?_; intros)
      refine ⟨k + 1, ⟨by omega, by omega⟩, by dsimp only; omega, ?_, ?_, rfl⟩
      · exact agr
      · dsimp only
        rw [hs.out]
        simp (disch := (first | omega | (simp only [push_cast]; first | done | omega))) only [push_cast, ↓reduceIte, Nat.reduceEqDiff, Nat.reduceBEq, Nat.reduceAdd, Nat.reduceSub, Int.reduceToNat, *]
    · have hs := hy h3
      have ht : totR (gls0 l b (k + 1)) = add4 (totR (gls0 l b k)) (w9, c, d, e) := by rw [hs, totR_snoc]
      replace ht := Lib.hid ht
      clear hno hy hs ho g1 g2 g3 g4 hgs hB hkx
      generalize totR (gls0 l b k) = t at *
      generalize add4 t (w9, c, d, e) = u at *
      obtain ⟨t1, t2, t3, t4⟩ := t
      obtain ⟨u1, u2, u3, u4⟩ := u
      try dsimp only at apa
      (refine wlk ?_; intros)
      refine ⟨k + 1, ⟨by omega, by omega⟩, by dsimp only; omega, ?_, ?_, rfl⟩
      · exact agr
      · dsimp only
        rw [ht.out]
        exact agr
  · obtain rfl : k = en := by omega
    have hx1 : GOk (l[k]?.getD it0).gl := (items_at hB hel).gl
    have hkx : gI l k = l[k]?.getD it0 := rfl
    rw [hkx]
    generalize hx : l[k]?.getD it0 = x at *
    obtain ⟨kd, w9, c, d, e, cost, g⟩ := x
    obtain ⟨g1, g2, g3, g4⟩ := hx1
    dsimp only at g1 g2 g3 g4
    have apa := φAdd_ap ho (b := (w9, c, d, e)) ⟨⟨g1.1, by (try dsimp only); omega⟩, ⟨g2.1, by (try dsimp only); omega⟩, ⟨g3.1, by (try dsimp only); omega⟩, g4⟩
    by_cases h3 : kd = 3
    · have ht : totR (gls0 l b k ++ [(w9, c, d, e)]) = add4 (totR (gls0 l b k)) (w9, c, d, e) := totR_snoc _ _
      rw [if_pos (show It.kd (kd, w9, c, d, e, cost, g) = 3 from h3)]
      have hz : It.gl (kd, w9, c, d, e, cost, g) = (w9, c, d, e) := rfl
      rw [hz, ht]
      clear ho g1 g2 g3 g4 hgs hB hkx ht hz
      generalize totR (gls0 l b k) = t at *
      generalize add4 t (w9, c, d, e) = u at *
      obtain ⟨t1, t2, t3, t4⟩ := t
      obtain ⟨u1, u2, u3, u4⟩ := u
      try dsimp only at apa
      subst h3
      exact wlkF
    · rw [if_neg (show ¬ It.kd (kd, w9, c, d, e, cost, g) = 3 from h3), List.append_nil]
      clear ho g1 g2 g3 g4 hgs hB hkx apa
      generalize totR (gls0 l b k) = t at *
      obtain ⟨t1, t2, t3, t4⟩ := t
      exact wlkF
theorem cube_rng {need room : Int} (h : 0 ≤ need ∧ need ≤ 100000) (h2 : 0 < room ∧ room ≤ 100000) : (0 ≤ 100 * need * need ∧ 100 * need * need ≤ 1000000000000) ∧ (0 ≤ 100 * need * need * need ∧ 100 * need * need * need ≤ 100000000000000000) ∧ (0 < room * room ∧ room * room ≤ 10000000000) ∧ (0 < room * room * room ∧ room * room * room ≤ 1000000000000000) ∧ 0 ≤ 100 * need * need * need / (room * room * room) := by
  have a1 : 0 ≤ 100 * need * need := Int.mul_nonneg (by omega) h.1
  have a2 : 100 * need * need ≤ 10000000 * 100000 := Int.mul_le_mul (by omega) h.2 h.1 (by omega)
  have a3 : 0 ≤ 100 * need * need * need := Int.mul_nonneg a1 h.1
  have a4 : 100 * need * need * need ≤ 1000000000000 * 100000 := Int.mul_le_mul (by omega) h.2 h.1 (by omega)
  have b1 : 0 < room * room := Int.mul_pos h2.1 h2.1
  have b2 : room * room ≤ 100000 * 100000 := Int.mul_le_mul h2.2 h2.2 (by omega) (by omega)
  have b3 : 0 < room * room * room := Int.mul_pos b1 h2.1
  have b4 : room * room * room ≤ 10000000000 * 100000 := Int.mul_le_mul (by omega) h2.2 (by omega) (by omega)
  exact ⟨⟨a1, by omega⟩, ⟨a3, by omega⟩, ⟨b1, by omega⟩, ⟨b3, by omega⟩, Int.ediv_nonneg a3 (by omega)⟩
noncomputable def φBadn : Fun := F2 dI dI fun need room => open Classical in if (0 ≤ need ∧ need ≤ 100000) ∧ 0 ≤ room ∧ room ≤ 100000 then some (iv (badR need room)) else none
theorem φBadn_ap {need room : Int} (h : (0 ≤ need ∧ need ≤ 100000) ∧ 0 ≤ room ∧ room ≤ 100000) : φBadn [.val (.int .i64 need), .val (.int .i64 room)] = some (.val (.int .i64 (badR need room))) := (F2_ap (A := dI) (B := dI) need room).trans (if_pos h)
noncomputable def GBdS : Ctx := { fn := fun f => if f = 39 then some φIn else none, io := fun f => none }
theorem GBdS_ok : SoundΓ Tryd.prog GBdS := ⟨(fun f φ h => by
  unfold GBdS at h
  dsimp only at h
  split at h
  · rename_i hf; cases h; subst hf; exact ⟨⟨_, Tryd.func39, rfl, rfl⟩, l1In_ok⟩
  cases h), (fun f φ h => by
  unfold GBdS at h
  dsimp only at h
  cases h), rfl⟩
theorem GBdS_39 (ob : Objs) (ps : List PV) : evCall GBdS ob 39 ps = (ps.mapM (reify false 0 ob fuel)).bind φIn := by
  have h : GBdS.fn 39 = some φIn := by simp [GBdS]
  unfold evCall
  rw [h]
  cases ps.mapM (reify false 0 ob fuel) <;> rfl
set_option maxHeartbeats 8000000 in
theorem specBadn_ok : Sound Tryd.prog 58 φBadn := by
  refine sound_pq mixed GBdS_ok Tryd.func58 rfl 36 rfl [.tmp 4] rfl (by kernel_rfl) fun ps r hr => ?_
  obtain ⟨need, room, rfl, hq⟩ := F2_some hr
  clear hr
  split at hq
  case isFalse => cases hq
  case isTrue hpre =>
  cases hq
  refine ⟨by simp, ?_⟩
  simp only [dIs, dUs, dSs, dI_e, dU_e, dB_e, dS_e, dFn_e, dL_e, dA2_e, dA3_e, dA4_e, dA5_e]
  obtain ⟨h1, h2⟩ := hpre
  have ap1 : φIn [.val (.int .i64 need), .val (.int .i64 0), .val (.int .i64 100000)] = some (.val (.bool true)) := (φIn_ap _ _ _).trans (by rw [inB_iff.2 h1])
  have ap2 : φIn [.val (.int .i64 room), .val (.int .i64 0), .val (.int .i64 100000)] = some (.val (.bool true)) := (φIn_ap _ _ _).trans (by rw [inB_iff.2 h2])
  rw [badR_five h1.1 h2.1]
  by_cases hn : need = 0
  · subst hn
    have gbds_c39 := GBdS_39
    exact wlkF
  · rw [if_neg hn]
    by_cases hr : room = 0
    · subst hr
      have gbds_c39 := GBdS_39
      (repeat' (first | (with_reducible first | apply i_seq | apply i_block | apply i_skip | apply i_exit | apply i_ret | apply i_kS | apply i_kSx | apply i_kSr | apply i_kL | apply i_kLx | apply i_kLr | apply i_kB | apply i_kBr | apply i_kBs | apply i_nil) | ((with_reducible apply i_region); (simp only [List.map_cons, List.map_nil] <;> exact rfl)) | ((with_reducible apply i_draw); (simp only [List.map_cons, List.map_nil] <;> exact rfl); decide +kernel) | ((with_reducible apply i_kBo); rfl) | ((first | ((with_reducible apply i_V); rfl; rfl; rfl) | ((first | ((with_reducible apply i_E); rfl) | ((with_reducible apply i_S); rfl)); first | rfl | (simp only [push_cast, ↓reduceIte])) | ((with_reducible apply i_Vq); rfl; rfl) | ((with_reducible apply i_Vp); rfl; rfl; rfl) | (with_reducible first | apply i_Gb | apply i_cond)); (simp (disch := (first | omega | (simp only [push_cast]; first | done | omega))) only [push_cast, ↓reduceIte, Nat.reduceEqDiff, Nat.reduceBEq, Nat.reduceAdd, Nat.reduceSub, Int.reduceToNat, *] <;> with_reducible exact rfl); all_goals try (first | (with_reducible first | refine hyT ?_ | refine hyF ?_ | exact hyA | exact hyB) | (intro hX; first | (cases hX; done) | ((try simp only [decide_eq_true_eq, decide_eq_false_iff_not, Bool.not_eq_true', Bool.not_eq_false'] at hX); (try have hXb := inB_iff.1 hX))))))); all_goals try (exfalso; omega)
      all_goals ((first | apply i_end | apply i_endN); simp (disch := (first | omega | (simp only [push_cast]; first | done | omega))) only [push_cast, ↓reduceIte, Nat.reduceEqDiff, Nat.reduceBEq, Nat.reduceAdd, Nat.reduceSub, Int.reduceToNat, *])
      all_goals simp
    · obtain ⟨c1, c2, c3, c4, c5⟩ := cube_rng h1 (room := room) ⟨by omega, by omega⟩
      by_cases hb : 5 * room < need
      · rw [if_pos (.inr hb)]
        clear c1 c2 c3 c4 c5
        have gbds_c39 := GBdS_39
        exact wlkF
      · rw [if_neg (by omega)]
        have hz : ¬ room * room * room = 0 := by omega
        have w1 := wrap_id (n := 100 * need * need) (by omega) (by omega)
        have w2 := wrap_id (n := 100 * need * need * need) (by omega) (by omega)
        have w3 := wrap_id (n := room * room) (by omega) (by omega)
        have w4 := wrap_id (n := room * room * room) (by omega) (by omega)
        have c6 : 100 * need * need * need / (room * room * room) ≤ 100000000000000000 := by
          have := Int.ediv_le_self (room * room * room) c2.1
          omega
        have w5 := wrap_id (n := 100 * need * need * need / (room * room * room)) (by omega) (by omega)
        have gbds_c39 := GBdS_39
        (repeat' (first | (with_reducible first | apply i_seq | apply i_block | apply i_skip | apply i_exit | apply i_ret | apply i_kS | apply i_kSx | apply i_kSr | apply i_kL | apply i_kLx | apply i_kLr | apply i_kB | apply i_kBr | apply i_kBs | apply i_nil) | ((with_reducible apply i_region); (simp only [List.map_cons, List.map_nil] <;> exact rfl)) | ((with_reducible apply i_draw); (simp only [List.map_cons, List.map_nil] <;> exact rfl); decide +kernel) | ((with_reducible apply i_kBo); rfl) | ((first | ((with_reducible apply i_V); rfl; rfl; rfl) | ((first | ((with_reducible apply i_E); rfl) | ((with_reducible apply i_S); rfl)); first | rfl | (simp only [push_cast, ↓reduceIte])) | ((with_reducible apply i_Vq); rfl; rfl) | ((with_reducible apply i_Vp); rfl; rfl; rfl) | (with_reducible first | apply i_Gb | apply i_cond)); (simp (disch := (first | omega | (simp only [push_cast]; first | done | omega))) only [push_cast, ↓reduceIte, Nat.reduceEqDiff, Nat.reduceBEq, Nat.reduceAdd, Nat.reduceSub, Int.reduceToNat, *] <;> with_reducible exact rfl); all_goals try (first | (with_reducible first | refine hyT ?_ | refine hyF ?_ | exact hyA | exact hyB) | (intro hX; first | (cases hX; done) | ((try simp only [decide_eq_true_eq, decide_eq_false_iff_not, Bool.not_eq_true', Bool.not_eq_false'] at hX); (try have hXb := inB_iff.1 hX))))))); all_goals try (exfalso; omega)
        all_goals ((first | apply i_end | apply i_endN); simp (disch := (first | omega | (simp only [push_cast]; first | done | omega))) only [push_cast, ↓reduceIte, Nat.reduceEqDiff, Nat.reduceBEq, Nat.reduceAdd, Nat.reduceSub, Int.reduceToNat, *])
        all_goals ((refine congrArg (fun z => some (PV.val (Value.int IntKind.i64 z))) ?_); generalize 100 * need * need * need / (room * room * room) = q at *; (try (split)) <;> omega)
noncomputable def φLk : Fun := F2 dB dI fun s bad => open Classical in if 0 ≤ bad ∧ bad ≤ 10000 then some (iv (looksR s bad)) else none
theorem φLk_ap {s : Bool} {bad : Int} (h : 0 ≤ bad ∧ bad ≤ 10000) : φLk [.val (.bool s), .val (.int .i64 bad)] = some (.val (.int .i64 (looksR s bad))) := (F2_ap (A := dB) (B := dI) s bad).trans (if_pos h)
noncomputable def GLkS : Ctx := { fn := fun f => if f = 39 then some φIn else none, io := fun f => none }
theorem GLkS_ok : SoundΓ Tryd.prog GLkS := ⟨(fun f φ h => by
  unfold GLkS at h
  dsimp only at h
  split at h
  · rename_i hf; cases h; subst hf; exact ⟨⟨_, Tryd.func39, rfl, rfl⟩, l1In_ok⟩
  cases h), (fun f φ h => by
  unfold GLkS at h
  dsimp only at h
  cases h), rfl⟩
theorem GLkS_39 (ob : Objs) (ps : List PV) : evCall GLkS ob 39 ps = (ps.mapM (reify false 0 ob fuel)).bind φIn := by
  have h : GLkS.fn 39 = some φIn := by simp [GLkS]
  unfold evCall
  rw [h]
  cases ps.mapM (reify false 0 ob fuel) <;> rfl
theorem specLk_ok : Sound Tryd.prog 43 φLk := by
  refine sound_pq mixed GLkS_ok Tryd.func43 rfl 14 rfl [.tmp 4] rfl (by kernel_rfl) fun ps r hr => ?_
  obtain ⟨s, bad, rfl, hq⟩ := F2_some hr
  clear hr
  split at hq
  case isFalse => cases hq
  case isTrue hpre =>
  cases hq
  refine ⟨by simp, ?_⟩
  simp only [dIs, dUs, dSs, dI_e, dU_e, dB_e, dS_e, dFn_e, dL_e, dA2_e, dA3_e, dA4_e, dA5_e]
  have ap : φIn [.val (.int .i64 bad), .val (.int .i64 0), .val (.int .i64 10000)] = some (.val (.bool true)) := (φIn_ap _ _ _).trans (by rw [inB_iff.2 hpre])
  unfold looksR
  have glks_c39 := GLkS_39
  cases s <;>
  · (repeat' (first | (with_reducible first | apply i_seq | apply i_block | apply i_skip | apply i_exit | apply i_ret | apply i_kS | apply i_kSx | apply i_kSr | apply i_kL | apply i_kLx | apply i_kLr | apply i_kB | apply i_kBr | apply i_kBs | apply i_nil) | ((with_reducible apply i_region); (simp only [List.map_cons, List.map_nil] <;> exact rfl)) | ((with_reducible apply i_draw); (simp only [List.map_cons, List.map_nil] <;> exact rfl); decide +kernel) | ((with_reducible apply i_kBo); rfl) | ((first | ((with_reducible apply i_V); rfl; rfl; rfl) | ((first | ((with_reducible apply i_E); rfl) | ((with_reducible apply i_S); rfl)); first | rfl | (simp only [push_cast, ↓reduceIte])) | ((with_reducible apply i_Vq); rfl; rfl) | ((with_reducible apply i_Vp); rfl; rfl; rfl) | (with_reducible first | apply i_Gb | apply i_cond)); (simp (disch := (first | omega | (simp only [push_cast]; first | done | omega))) only [push_cast, ↓reduceIte, Nat.reduceEqDiff, Nat.reduceBEq, Nat.reduceAdd, Nat.reduceSub, Int.reduceToNat, *] <;> with_reducible exact rfl); all_goals try (first | (with_reducible first | refine hyT ?_ | refine hyF ?_ | exact hyA | exact hyB) | (intro hX; first | (cases hX; done) | ((try simp only [decide_eq_true_eq, decide_eq_false_iff_not, Bool.not_eq_true', Bool.not_eq_false'] at hX); (try have hXb := inB_iff.1 hX))))))); all_goals try (exfalso; omega)
    all_goals ((first | apply i_end | apply i_endN); simp (disch := (first | omega | (simp only [push_cast]; first | done | omega))) only [push_cast, ↓reduceIte, Nat.reduceEqDiff, Nat.reduceBEq, Nat.reduceAdd, Nat.reduceSub, Int.reduceToNat, *])
    all_goals ((refine congrArg (fun z => some (PV.val (Value.int IntKind.i64 z))) ?_); (repeat' split) <;> first | rfl | omega | (simp_all; done))
abbrev okCst (c : Int) : Prop := (0 ≤ c ∧ c ≤ 10000) ∨ c = -10000
noncomputable def φCo : Fun := F2 dI dI fun bad c => open Classical in if (0 ≤ bad ∧ bad ≤ 10000) ∧ okCst c then some (iv (costR bad c)) else none
theorem φCo_ap {bad c : Int} (h : 0 ≤ bad ∧ bad ≤ 10000) (h2 : okCst c) : φCo [.val (.int .i64 bad), .val (.int .i64 c)] = some (.val (.int .i64 (costR bad c))) := (F2_ap (A := dI) (B := dI) bad c).trans (if_pos ⟨h, h2⟩)
theorem sq_rng {bad : Int} (h : 0 ≤ bad ∧ bad ≤ 10010) : 0 ≤ bad * bad ∧ bad * bad ≤ 100200100 := by
  have h3 : 0 ≤ bad * bad := Int.mul_nonneg (by omega) (by omega)
  have h4 : bad * bad ≤ 10010 * 10010 := Int.mul_le_mul (by omega) (by omega) (by omega) (by omega)
  omega
noncomputable def GCoS : Ctx := { fn := fun f => if f = 39 then some φIn else none, io := fun f => none }
theorem GCoS_ok : SoundΓ Tryd.prog GCoS := ⟨(fun f φ h => by
  unfold GCoS at h
  dsimp only at h
  split at h
  · rename_i hf; cases h; subst hf; exact ⟨⟨_, Tryd.func39, rfl, rfl⟩, l1In_ok⟩
  cases h), (fun f φ h => by
  unfold GCoS at h
  dsimp only at h
  cases h), rfl⟩
theorem GCoS_39 (ob : Objs) (ps : List PV) : evCall GCoS ob 39 ps = (ps.mapM (reify false 0 ob fuel)).bind φIn := by
  have h : GCoS.fn 39 = some φIn := by simp [GCoS]
  unfold evCall
  rw [h]
  cases ps.mapM (reify false 0 ob fuel) <;> rfl
theorem specCo_ok : Sound Tryd.prog 44 φCo := by
  refine sound_pq mixed GCoS_ok Tryd.func44 rfl 31 rfl [.tmp 4] rfl (by kernel_rfl) fun ps r hr => ?_
  obtain ⟨bad, c, rfl, hq⟩ := F2_some hr
  clear hr
  split at hq
  case isFalse => cases hq
  case isTrue hpre =>
  cases hq
  refine ⟨by simp, ?_⟩
  simp only [dIs, dUs, dSs, dI_e, dU_e, dB_e, dS_e, dFn_e, dL_e, dA2_e, dA3_e, dA4_e, dA5_e]
  obtain ⟨h1, h2⟩ := hpre
  have ap : φIn [.val (.int .i64 bad), .val (.int .i64 0), .val (.int .i64 10000)] = some (.val (.bool true)) := (φIn_ap _ _ _).trans (by rw [inB_iff.2 h1])
  have s1 := sq_rng (bad := 10 + bad) ⟨by omega, by omega⟩
  have w1 := wrap_id (n := (10 + bad) * (10 + bad)) (by omega) (by omega)
  unfold costR
  have gcos_c39 := GCoS_39
  by_cases hc : c = -10000
  · have ap2 : φIn [.val (.int .i64 c), .val (.int .i64 0), .val (.int .i64 10000)] = some (.val (.bool false)) := (φIn_ap _ _ _).trans (by rw [show inB c 0 10000 = false from Bool.eq_false_iff.2 fun q => by have := inB_iff.1 q; omega])
    subst hc
    rw [if_pos rfl]
    clear h2
    (repeat' (first | (with_reducible first | apply i_seq | apply i_block | apply i_skip | apply i_exit | apply i_ret | apply i_kS | apply i_kSx | apply i_kSr | apply i_kL | apply i_kLx | apply i_kLr | apply i_kB | apply i_kBr | apply i_kBs | apply i_nil) | ((with_reducible apply i_region); (simp only [List.map_cons, List.map_nil] <;> exact rfl)) | ((with_reducible apply i_draw); (simp only [List.map_cons, List.map_nil] <;> exact rfl); decide +kernel) | ((with_reducible apply i_kBo); rfl) | ((first | ((with_reducible apply i_V); rfl; rfl; rfl) | ((first | ((with_reducible apply i_E); rfl) | ((with_reducible apply i_S); rfl)); first | rfl | (simp only [push_cast, ↓reduceIte])) | ((with_reducible apply i_Vq); rfl; rfl) | ((with_reducible apply i_Vp); rfl; rfl; rfl) | (with_reducible first | apply i_Gb | apply i_cond)); (simp (disch := (first | omega | (simp only [push_cast]; first | done | omega))) only [push_cast, ↓reduceIte, Nat.reduceEqDiff, Nat.reduceBEq, Nat.reduceAdd, Nat.reduceSub, Int.reduceToNat, *] <;> with_reducible exact rfl); all_goals try (first | (with_reducible first | refine hyT ?_ | refine hyF ?_ | exact hyA | exact hyB) | (intro hX; first | (cases hX; done) | ((try simp only [decide_eq_true_eq, decide_eq_false_iff_not, Bool.not_eq_true', Bool.not_eq_false'] at hX); (try have hXb := inB_iff.1 hX))))))); all_goals try (exfalso; omega)
    all_goals ((first | apply i_end | apply i_endN); simp (disch := (first | omega | (simp only [push_cast]; first | done | omega))) only [push_cast, ↓reduceIte, Nat.reduceEqDiff, Nat.reduceBEq, Nat.reduceAdd, Nat.reduceSub, Int.reduceToNat, *])
    all_goals ((refine congrArg (fun z => some (PV.val (Value.int IntKind.i64 z))) ?_); omega)
  · have h3 : 0 ≤ c ∧ c ≤ 10000 := by omega
    have ap2 : φIn [.val (.int .i64 c), .val (.int .i64 0), .val (.int .i64 10000)] = some (.val (.bool true)) := (φIn_ap _ _ _).trans (by rw [inB_iff.2 h3])
    have s2 := sq_rng (bad := c) ⟨by omega, by omega⟩
    have w2 := wrap_id (n := c * c) (by omega) (by omega)
    rw [if_neg hc]
    have w3 := wrap_id (n := (10 + bad) * (10 + bad) + c * c) (by omega) (by omega)
    clear h2
    by_cases h0 : c = 0
    · subst h0
      clear s2 w2 w3
      (repeat' (first | (with_reducible first | apply i_seq | apply i_block | apply i_skip | apply i_exit | apply i_ret | apply i_kS | apply i_kSx | apply i_kSr | apply i_kL | apply i_kLx | apply i_kLr | apply i_kB | apply i_kBr | apply i_kBs | apply i_nil) | ((with_reducible apply i_region); (simp only [List.map_cons, List.map_nil] <;> exact rfl)) | ((with_reducible apply i_draw); (simp only [List.map_cons, List.map_nil] <;> exact rfl); decide +kernel) | ((with_reducible apply i_kBo); rfl) | ((first | ((with_reducible apply i_V); rfl; rfl; rfl) | ((first | ((with_reducible apply i_E); rfl) | ((with_reducible apply i_S); rfl)); first | rfl | (simp only [push_cast, ↓reduceIte])) | ((with_reducible apply i_Vq); rfl; rfl) | ((with_reducible apply i_Vp); rfl; rfl; rfl) | (with_reducible first | apply i_Gb | apply i_cond)); (simp (disch := (first | omega | (simp only [push_cast]; first | done | omega))) only [push_cast, ↓reduceIte, Nat.reduceEqDiff, Nat.reduceBEq, Nat.reduceAdd, Nat.reduceSub, Int.reduceToNat, *] <;> with_reducible exact rfl); all_goals try (first | (with_reducible first | refine hyT ?_ | refine hyF ?_ | exact hyA | exact hyB) | (intro hX; first | (cases hX; done) | ((try simp only [decide_eq_true_eq, decide_eq_false_iff_not, Bool.not_eq_true', Bool.not_eq_false'] at hX); (try have hXb := inB_iff.1 hX))))))); all_goals try (exfalso; omega)
      all_goals ((first | apply i_end | apply i_endN); simp (disch := (first | omega | (simp only [push_cast]; first | done | omega))) only [push_cast, ↓reduceIte, Nat.reduceEqDiff, Nat.reduceBEq, Nat.reduceAdd, Nat.reduceSub, Int.reduceToNat, *])
      all_goals ((refine congrArg (fun z => some (PV.val (Value.int IntKind.i64 z))) ?_); omega)
    · exact wlkF
end Go.Proofs.YtngcedklbinhjaaDoor
namespace Go.Proofs.YtngcedklbinhjaaDoor
open Go.RowKit
set_option linter.all false
abbrev okLn (l : List It) (n m : Int) : Prop := itemsB l = true ∧ -1 ≤ n ∧ n < m ∧ m < l.length
section
variable {α β γ δ ε : Type} {A : Dec α} {B : Dec β} {C : Dec γ} {D : Dec δ} {E : Dec ε}
def F5 (A : Dec α) (B : Dec β) (C : Dec γ) (D : Dec δ) (E : Dec ε) (F : α → β → γ → δ → ε → Option PV) : Fun := fun ps => match ps with
  | [p, q, r, s, t] => (A.d p).bind fun a => (B.d q).bind fun b => (C.d r).bind fun c => (D.d s).bind fun d => (E.d t).bind fun e => F a b c d e
  | _ => none
theorem F5_some {F : α → β → γ → δ → ε → Option PV} {ps : List PV} {r : PV} (h : F5 A B C D E F ps = some r) : ∃ a b c d e, ps = [A.e a, B.e b, C.e c, D.e d, E.e e] ∧ F a b c d e = some r := by
  unfold F5 at h
  split at h
  · simp only [Option.bind_eq_some_iff] at h
    obtain ⟨a, h1, b, h2, c, h3, d, h4, e, h5, h6⟩ := h
    exact ⟨a, b, c, d, e, by rw [A.h _ _ h1, B.h _ _ h2, C.h _ _ h3, D.h _ _ h4, E.h _ _ h5], h6⟩
  · cases h
theorem F5_ap {F : α → β → γ → δ → ε → Option PV} (a : α) (b : β) (c : γ) (d : δ) (e : ε) : F5 A B C D E F [A.e a, B.e b, C.e c, D.e d, E.e e] = F a b c d e := by simp [F5, A.h', B.h', C.h', D.h', E.h']
end
noncomputable def φBd : Fun := F4 dIts dI dI dI fun l n m wd => open Classical in if okLn l n m ∧ (0 ≤ wd ∧ wd ≤ 1000) ∧ startN l (n + 1).toNat ≤ m.toNat then some (.tup [iv (badL l wd (n + 1).toNat m.toNat).1, bv (badL l wd (n + 1).toNat m.toNat).2]) else none
theorem φBd_ap {l : List It} {a en : Nat} {wd : Int} (h : itemsB l = true) (h2 : a ≤ en) (h3 : en < l.length) (h4 : 0 ≤ wd ∧ wd ≤ 1000) (h5 : startN l a ≤ en) : φBd [lsIt l, .val (.int .i64 ((a : Int) - 1)), .val (.int .i64 en), .val (.int .i64 wd)] = some (.tup [.val (.int .i64 (badL l wd a en).1), .val (.bool (badL l wd a en).2)]) :=
  (F4_ap (A := dIts) (B := dI) (C := dI) (D := dI) l ((a : Int) - 1) en wd).trans (by
    rw [show ((a : Int) - 1 + 1).toNat = a by omega, Int.toNat_natCast]
    exact if_pos ⟨⟨h, by omega, by omega, by omega⟩, h4, h5⟩)
noncomputable def GL7b : Ctx := { fn := fun f => if f = 55 then some φSt else if f = 57 then some φSum else if f = 58 then some φBadn else none, io := fun f => none }
theorem GL7b_ok : SoundΓ Tryd.prog GL7b := ⟨(fun f φ h => by
  unfold GL7b at h
  dsimp only at h
  split at h
  · rename_i hf; cases h; subst hf; exact ⟨⟨_, Tryd.func55, rfl, rfl⟩, specSt_ok⟩
  split at h
  · rename_i hf; cases h; subst hf; exact ⟨⟨_, Tryd.func57, rfl, rfl⟩, specSum_ok⟩
  split at h
  · rename_i hf; cases h; subst hf; exact ⟨⟨_, Tryd.func58, rfl, rfl⟩, specBadn_ok⟩
  cases h), (fun f φ h => by
  unfold GL7b at h
  dsimp only at h
  cases h), rfl⟩
theorem GL7b_55 (ob : Objs) (ps : List PV) : evCall GL7b ob 55 ps = (ps.mapM (reify false 0 ob fuel)).bind φSt := by
  have h : GL7b.fn 55 = some φSt := by simp [GL7b]
  unfold evCall
  rw [h]
  cases ps.mapM (reify false 0 ob fuel) <;> rfl
theorem GL7b_57 (ob : Objs) (ps : List PV) : evCall GL7b ob 57 ps = (ps.mapM (reify false 0 ob fuel)).bind φSum := by
  have h : GL7b.fn 57 = some φSum := by simp [GL7b]
  unfold evCall
  rw [h]
  cases ps.mapM (reify false 0 ob fuel) <;> rfl
theorem GL7b_58 (ob : Objs) (ps : List PV) : evCall GL7b ob 58 ps = (ps.mapM (reify false 0 ob fuel)).bind φBadn := by
  have h : GL7b.fn 58 = some φBadn := by simp [GL7b]
  unfold evCall
  rw [h]
  cases ps.mapM (reify false 0 ob fuel) <;> rfl
set_option maxHeartbeats 8000000 in
theorem specBd_ok : Sound Tryd.prog 42 φBd := by
  refine sound_pq mixed GL7b_ok Tryd.func42 rfl 45 rfl [.tmp 8, .tmp 9] rfl (by kernel_rfl) fun ps r hr => ?_
  obtain ⟨l, n, m, wd, rfl, hq⟩ := F4_some hr
  clear hr
  split at hq
  case isFalse => cases hq
  case isTrue hpre =>
  cases hq
  refine ⟨by simp, ?_⟩
  simp only [dIs, dUs, dSs, dI_e, dU_e, dB_e, dS_e, dFn_e, dL_e, dA2_e, dA3_e, dA4_e, dA5_e]
  obtain ⟨⟨hB, hn0, hn1, hn2⟩, hw, hst⟩ := hpre
  obtain ⟨a, rfl⟩ : ∃ a : Nat, n = (a : Int) - 1 := ⟨(n + 1).toNat, by omega⟩
  obtain ⟨en, rfl⟩ : ∃ en : Nat, m = en := ⟨m.toNat, by omega⟩
  show pq _ _ _ _ _ (initS [lsIt l, .val (.int .i64 ((a : Int) - 1)), .val (.int .i64 en), .val (.int .i64 wd)]).tm _ _
  rw [show ((a : Int) - 1 + 1).toNat = a by omega, Int.toNat_natCast] at hst ⊢
  have ap1 := φSt_ap (a := a) hB (by omega)
  have ap2 := φSum_ap hB hst (by omega)
  obtain ⟨g1, g2⟩ := gluesF_ok (b := startN l a) hB (show en < l.length by omega)
  obtain ⟨⟨o1, o2, o3, o4⟩, t1, t2, t3⟩ := tot_ok g1 g2
  have hE : badL l wd a en = badG (totR (gluesF l (startN l a) en)) wd := rfl
  rw [hE]
  have hl := items_len hB
  clear hB g1 g2 hE
  generalize startN l a = s9 at *
  generalize totR (gluesF l s9 en) = t at *
  obtain ⟨tw, ts, th, tod⟩ := t
  dsimp only at o1 o2 o3 o4 t1 t2 t3
  have hG : badG (tw, ts, th, tod) wd = if tw ≤ wd then (if tod = 1 then (0, true) else (badR (wd - tw) ts, true)) else if tw - wd ≤ th then (badR (tw - wd) th, false) else (-1, false) := rfl
  rw [hG]
  by_cases h1 : tw ≤ wd
  · have ap3 := φBadn_ap (need := wd - tw) (room := ts) ⟨⟨by omega, by omega⟩, by omega, by omega⟩
    rw [if_pos h1]
    by_cases h2 : tod = 1
    · rw [if_pos h2]
      subst h2
      have gl7b_c55 := GL7b_55; have gl7b_c57 := GL7b_57; have gl7b_c58 := GL7b_58
      exact wlkF
    · rw [if_neg h2]
      generalize badR (wd - tw) ts = bd at *
      have gl7b_c55 := GL7b_55; have gl7b_c57 := GL7b_57; have gl7b_c58 := GL7b_58
      exact wlkF
  · rw [if_neg h1]
    by_cases h2 : tw - wd ≤ th
    · have ap3 := φBadn_ap (need := tw - wd) (room := th) ⟨⟨by omega, by omega⟩, by omega, by omega⟩
      rw [if_pos h2]
      generalize badR (tw - wd) th = bd at *
      have gl7b_c55 := GL7b_55; have gl7b_c57 := GL7b_57; have gl7b_c58 := GL7b_58
      exact wlkF
    · rw [if_neg h2]
      have gl7b_c55 := GL7b_55; have gl7b_c57 := GL7b_57; have gl7b_c58 := GL7b_58
      exact wlkF
noncomputable def φBw : Fun := F5 dIts dI dI dI dI fun l n m be lk => open Classical in if okLn l n m ∧ (0 ≤ be ∧ be ≤ 3) ∧ 0 ≤ lk ∧ lk ≤ 3 then some (iv (betwR l (n + 1).toNat m.toNat be lk)) else none
theorem φBw_ap {l : List It} {a en : Nat} {be lk : Int} (h : itemsB l = true) (h2 : a ≤ en) (h3 : en < l.length) (h4 : 0 ≤ be ∧ be ≤ 3) (h5 : 0 ≤ lk ∧ lk ≤ 3) : φBw [lsIt l, .val (.int .i64 ((a : Int) - 1)), .val (.int .i64 en), .val (.int .i64 be), .val (.int .i64 lk)] = some (.val (.int .i64 (betwR l a en be lk))) :=
  (F5_ap (A := dIts) (B := dI) (C := dI) (D := dI) (E := dI) l ((a : Int) - 1) en be lk).trans (by
    rw [show ((a : Int) - 1 + 1).toNat = a by omega, Int.toNat_natCast]
    exact if_pos ⟨⟨h, by omega, by omega, by omega⟩, h4, h5⟩)
set_option maxHeartbeats 8000000 in
theorem specBw_ok : Sound Tryd.prog 45 φBw := by
  refine sound_pq mixed GE_ok Tryd.func45 rfl 45 rfl [.tmp 10] rfl (by kernel_rfl) fun ps r hr => ?_
  obtain ⟨l, n, m, be, lk, rfl, hq⟩ := F5_some hr
  clear hr
  split at hq
  case isFalse => cases hq
  case isTrue hpre =>
  cases hq
  refine ⟨by simp, ?_⟩
  simp only [dIs, dUs, dSs, dI_e, dU_e, dB_e, dS_e, dFn_e, dL_e, dA2_e, dA3_e, dA4_e, dA5_e]
  obtain ⟨⟨hB, hn0, hn1, hn2⟩, hbe, hlk⟩ := hpre
  obtain ⟨a, rfl⟩ : ∃ a : Nat, n = (a : Int) - 1 := ⟨(n + 1).toNat, by omega⟩
  obtain ⟨en, rfl⟩ : ∃ en : Nat, m = en := ⟨m.toNat, by omega⟩
  show pq _ _ _ _ _ (initS [lsIt l, .val (.int .i64 ((a : Int) - 1)), .val (.int .i64 en), .val (.int .i64 be), .val (.int .i64 lk)]).tm _ _
  rw [show ((a : Int) - 1 + 1).toNat = a by omega, Int.toNat_natCast]
  have hl := items_len hB
  have hE : betwR l a en be lk = (if 0 < a ∧ (l[a - 1]?.getD it0).2.2.2.2.2.2 = true ∧ (l[en]?.getD it0).2.2.2.2.2.2 = true then 3000 else 0) + (if 0 < a ∧ (1 < be - lk ∨ be - lk < -1) then 3000 else 0) := rfl
  rw [hE]
  have hti : 0 < a → ((a : Int) - 1).toNat = a - 1 := fun h => by omega
  clear hB hE
  by_cases h0 : 0 < a
  · have hti := hti h0
    generalize hx : l[a - 1]?.getD it0 = x at *
    generalize hy : l[en]?.getD it0 = y at *
    obtain ⟨x1, x2, x3, x4, x5, x6, x7⟩ := x
    obtain ⟨y1, y2, y3, y4, y5, y6, y7⟩ := y
    dsimp only
    have hd : be - lk = -3 ∨ be - lk = -2 ∨ be - lk = -1 ∨ be - lk = 0 ∨ be - lk = 1 ∨ be - lk = 2 ∨ be - lk = 3 := by omega
    have hd2 : (if lk - be > be - lk then lk - be else be - lk) > 1 ↔ (1 < be - lk ∨ be - lk < -1) := by split <;> omega
    clear hd
    cases x7 <;> cases y7 <;> by_cases hz : 1 < be - lk ∨ be - lk < -1 <;>
    · have hz2 := hz
      rw [← hd2] at hz2
      clear hd2
      (repeat' (first | (with_reducible first | apply i_seq | apply i_block | apply i_skip | apply i_exit | apply i_ret | apply i_kS | apply i_kSx | apply i_kSr | apply i_kL | apply i_kLx | apply i_kLr | apply i_kB | apply i_kBr | apply i_kBs | apply i_nil) | ((with_reducible apply i_region); (simp only [List.map_cons, List.map_nil] <;> exact rfl)) | ((with_reducible apply i_draw); (simp only [List.map_cons, List.map_nil] <;> exact rfl); decide +kernel) | ((with_reducible apply i_kBo); rfl) | ((first | ((with_reducible apply i_V); rfl; rfl; rfl) | ((first | ((with_reducible apply i_E); rfl) | ((with_reducible apply i_S); rfl)); first | rfl | (simp only [push_cast, ↓reduceIte])) | ((with_reducible apply i_Vq); rfl; rfl) | ((with_reducible apply i_Vp); rfl; rfl; rfl) | (with_reducible first | apply i_Gb | apply i_cond)); (simp (disch := (first | omega | (simp only [push_cast]; first | done | omega))) only [push_cast, ↓reduceIte, Nat.reduceEqDiff, Nat.reduceBEq, Nat.reduceAdd, Nat.reduceSub, Int.reduceToNat, *] <;> with_reducible exact rfl); all_goals try (first | (with_reducible first | refine hyT ?_ | refine hyF ?_ | exact hyA | exact hyB) | (intro hX; first | (cases hX; done) | ((try simp only [decide_eq_true_eq, decide_eq_false_iff_not, Bool.not_eq_true', Bool.not_eq_false'] at hX); (try have hXb := inB_iff.1 hX))))))); all_goals try (exfalso; omega)
      all_goals ((first | apply i_end | apply i_endN); simp (disch := (first | omega | (simp only [push_cast]; first | done | omega))) only [push_cast, ↓reduceIte, Nat.reduceEqDiff, Nat.reduceBEq, Nat.reduceAdd, Nat.reduceSub, Int.reduceToNat, *])
      all_goals (simp [h0]; try omega)
  · obtain rfl : a = 0 := by omega
    generalize hy : l[en]?.getD it0 = y at *
    obtain ⟨y1, y2, y3, y4, y5, y6, y7⟩ := y
    clear hti
    rw [if_neg (fun q => h0 q.1), if_neg (fun q => h0 q.1)]
    simp only [Int.natCast_zero, Int.zero_sub]
    (repeat' (first | (with_reducible first | apply i_seq | apply i_block | apply i_skip | apply i_exit | apply i_ret | apply i_kS | apply i_kSx | apply i_kSr | apply i_kL | apply i_kLx | apply i_kLr | apply i_kB | apply i_kBr | apply i_kBs | apply i_nil) | ((with_reducible apply i_region); (simp only [List.map_cons, List.map_nil] <;> exact rfl)) | ((with_reducible apply i_draw); (simp only [List.map_cons, List.map_nil] <;> exact rfl); decide +kernel) | ((with_reducible apply i_kBo); rfl) | ((first | ((with_reducible apply i_V); rfl; rfl; rfl) | ((first | ((with_reducible apply i_E); rfl) | ((with_reducible apply i_S); rfl)); first | rfl | (simp only [push_cast, ↓reduceIte])) | ((with_reducible apply i_Vq); rfl; rfl) | ((with_reducible apply i_Vp); rfl; rfl; rfl) | (with_reducible first | apply i_Gb | apply i_cond)); (simp (disch := (first | omega | (simp only [push_cast]; first | done | omega))) only [push_cast, ↓reduceIte, Nat.reduceEqDiff, Nat.reduceBEq, Nat.reduceAdd, Nat.reduceSub, Int.reduceToNat, *] <;> with_reducible exact rfl); all_goals try (first | (with_reducible first | refine hyT ?_ | refine hyF ?_ | exact hyA | exact hyB) | (intro hX; first | (cases hX; done) | ((try simp only [decide_eq_true_eq, decide_eq_false_iff_not, Bool.not_eq_true', Bool.not_eq_false'] at hX); (try have hXb := inB_iff.1 hX))))))); all_goals try (exfalso; omega)
    all_goals ((first | apply i_end | apply i_endN); simp (disch := (first | omega | (simp only [push_cast]; first | done | omega))) only [push_cast, ↓reduceIte, Nat.reduceEqDiff, Nat.reduceBEq, Nat.reduceAdd, Nat.reduceSub, Int.reduceToNat, *])
    all_goals simp
end Go.Proofs.YtngcedklbinhjaaDoor
namespace Go.Proofs.YtngcedklbinhjaaDoor
open Go.RowKit
set_option linter.all false
def rowT {α : Type} (f : Nat → Nat → α) (i : Nat) : List α := (List.range 4).map (f i)
def tab {α : Type} (n : Nat) (f : Nat → Nat → α) : List (List α) := (List.range (n + 1)).map (rowT f)
def updT {α : Type} (f : Nat → Nat → α) (i k : Nat) (v : α) : Nat → Nat → α := fun i' k' => if i' = i ∧ k' = k then v else f i' k'
abbrev pvBl (b : Bool) : PV := .val (.bool b)
abbrev pvRI (r : List Int) : PV := .agg (r.map pvN)
abbrev pvRB (r : List Bool) : PV := .agg (r.map pvBl)
theorem rowT_len {α : Type} (f : Nat → Nat → α) (i : Nat) : (rowT f i).length = 4 := by simp [rowT]
theorem tab_len {α : Type} (n : Nat) (f : Nat → Nat → α) : (tab n f).length = n + 1 := by simp [tab]
theorem rowT_get {α β : Type} {f : Nat → Nat → α} {g : α → β} {i k : Nat} (h : k < 4) : Option.map g (rowT f i)[k]? = some (g (f i k)) := by
  unfold rowT
  rw [List.getElem?_map, List.getElem?_range h]
  rfl
theorem tab_get {α β : Type} {f : Nat → Nat → α} {g : List α → β} {n i : Nat} (h : i ≤ n) : Option.map g (tab n f)[i]? = some (g (rowT f i)) := by
  unfold tab
  rw [List.getElem?_map, List.getElem?_range (by omega)]
  rfl
theorem rowT_upd {α : Type} {f : Nat → Nat → α} {i k : Nat} {v : α} : rowT (updT f i k v) i = (rowT f i).set k v := by
  rcases k with _ | _ | _ | _ | k <;> simp [rowT, updT, List.range_succ]
theorem rowT_ne {α : Type} {f : Nat → Nat → α} {i j k : Nat} {v : α} (h : ¬ j = i) : rowT (updT f i k v) j = rowT f j := by
  unfold rowT updT
  refine List.map_congr_left fun x _ => ?_
  rw [if_neg fun q => h q.1]
theorem tab_set {α : Type} {n i k : Nat} {f : Nat → Nat → α} {v : α} : (tab n f).set i ((rowT f i).set k v) = tab n (updT f i k v) := by
  apply List.ext_getElem?
  intro j
  rw [List.getElem?_set, tab_len]
  by_cases hj : j < n + 1
  · by_cases h : i = j
    · subst h
      rw [if_pos rfl, if_pos hj]
      unfold tab
      rw [List.getElem?_map, List.getElem?_range hj, Option.map_some, rowT_upd]
    · rw [if_neg h]
      unfold tab
      rw [List.getElem?_map, List.getElem?_map, List.getElem?_range hj, Option.map_some, Option.map_some, rowT_ne (fun q => h q.symm)]
  · rw [List.getElem?_eq_none (by rw [tab_len]; omega), List.getElem?_eq_none (by rw [tab_len]; omega)]
    split <;> (try split) <;> first | rfl | omega
theorem setL_map {α : Type} {g : α → PV} {l : List α} {k : Nat} {v : α} (h : k < l.length) : setL (l.map g) k [g v] = (l.set k v).map g := by
  unfold setL
  rw [List.map_set, List.set_eq_take_append_cons_drop, List.length_map, if_pos h]
  simp
theorem tab_setI {n i k : Nat} {f : Nat → Nat → Int} {v : Int} (h : k < 4) : ((tab n f).map pvRI).set i (.agg (setL ((rowT f i).map pvN) k [.val (.int .i64 v)])) = (tab n (updT f i k v)).map pvRI := by
  rw [← tab_set, List.map_set, setL_map (g := pvN) (v := v) (by rw [rowT_len]; exact h)]
theorem tab_setB {n i k : Nat} {f : Nat → Nat → Bool} {v : Bool} (h : k < 4) : ((tab n f).map pvRB).set i (.agg (setL ((rowT f i).map pvBl) k [.val (.bool v)])) = (tab n (updT f i k v)).map pvRB := by
  rw [← tab_set, List.map_set, setL_map (g := pvBl) (v := v) (by rw [rowT_len]; exact h)]
theorem tab_congr {α : Type} {n : Nat} {f f' : Nat → Nat → α} (h : ∀ i k, i ≤ n → k < 4 → f i k = f' i k) : tab n f = tab n f' := by
  unfold tab rowT
  refine List.map_congr_left fun i hi => List.map_congr_left fun k hk => ?_
  have h1 := List.mem_range.1 hi
  exact h i k (by omega) (List.mem_range.1 hk)
theorem cellsL_rI {l : List Int} : cellsL (.agg (l.map pvN)) = some (l.map pvN) := cellsL_agg (by simp [List.all_map, oneP, Value.oneCell'])
theorem cellsL_rB {l : List Bool} : cellsL (.agg (l.map pvBl)) = some (l.map pvBl) := cellsL_agg (by simp [List.all_map, oneP, Value.oneCell'])
theorem rep_tI {n : Nat} : List.replicate (n + 1) (PV.agg [.val (.int .i64 0), .val (.int .i64 0), .val (.int .i64 0), .val (.int .i64 0)]) = (tab n (fun _ _ => (0 : Int))).map pvRI := by
  unfold tab
  rw [List.map_map]
  symm
  rw [List.eq_replicate_iff]
  exact ⟨by rw [List.length_map, List.length_range], fun b hb => by obtain ⟨x, -, rfl⟩ := List.mem_map.1 hb; rfl⟩
theorem rep_tB {n : Nat} : List.replicate (n + 1) (PV.agg [.val (.bool false), .val (.bool false), .val (.bool false), .val (.bool false)]) = (tab n (fun _ _ => false)).map pvRB := by
  unfold tab
  rw [List.map_map]
  symm
  rw [List.eq_replicate_iff]
  exact ⟨by rw [List.length_map, List.length_range], fun b hb => by obtain ⟨x, -, rfl⟩ := List.mem_map.1 hb; rfl⟩
theorem all_rI {l : List Int} : (l.map pvN).all oneP = true := by simp [List.all_map, oneP, Value.oneCell']
theorem all_rB {l : List Bool} : (l.map pvBl).all oneP = true := by simp [List.all_map, oneP, Value.oneCell']
attribute [push_cast]
  all_rI all_rB rowT_len tab_len rowT_get tab_get tab_setI tab_setB cellsL_rI cellsL_rB rep_tI rep_tB
def tbA (l : List It) (wd most : Int) (m : Nat) : Nat → Nat → Option Ch := fun i k => if m ≤ i then bestA l wd most i k else none
def tbJ (l : List It) (wd most : Int) (a j : Nat) : Nat → Nat → Option Ch := fun i k => if i = a then bestTo l wd most a k (bestA l wd most) j else tbA l wd most (a + 1) i k
def tbK (l : List It) (wd most : Int) (a j b : Nat) : Nat → Nat → Option Ch := fun i k => if i = a then bestTo l wd most a k (bestA l wd most) (if k < b then j + 1 else j) else tbA l wd most (a + 1) i k
def cB (x : Option Ch) : Int := match x with | some c => c.1 | none => 0
def cN (x : Option Ch) : Int := match x with | some c => (c.2.1 : Int) | none => 0
def tB (f : Nat → Nat → Option Ch) : Nat → Nat → Int := fun i k => cB (f i k)
def tG (f : Nat → Nat → Option Ch) : Nat → Nat → Bool := fun i k => (f i k).isSome
def tN (f : Nat → Nat → Option Ch) : Nat → Nat → Int := fun i k => cN (f i k)
theorem tabs_congr {n : Nat} {f f' : Nat → Nat → Option Ch} (h : ∀ i k, i ≤ n → k < 4 → f i k = f' i k) : tab n (tB f) = tab n (tB f') ∧ tab n (tG f) = tab n (tG f') ∧ tab n (tN f) = tab n (tN f') :=
  ⟨tab_congr fun i k h1 h2 => by unfold tB; rw [h i k h1 h2], tab_congr fun i k h1 h2 => by unfold tG; rw [h i k h1 h2], tab_congr fun i k h1 h2 => by unfold tN; rw [h i k h1 h2]⟩
variable {l : List It} {wd most : Int}
theorem tbA_top : ∀ i k, i ≤ l.length → k < 4 → tbA l wd most l.length i k = if i = l.length then some (0, 0, 0) else none := fun i k h _ => by
  unfold tbA
  by_cases hi : i = l.length
  · rw [if_pos (by omega), if_pos hi, hi, bestA_end]
  · rw [if_neg (by omega), if_neg hi]
theorem tbA_skip {a : Nat} (ha : a < l.length) (h0 : 0 < a) (h : brkQ l (a - 1) = false) : ∀ i k, i ≤ l.length → k < 4 → tbA l wd most (a + 1) i k = tbA l wd most a i k := fun i k hi _ => by
  unfold tbA
  by_cases h1 : a + 1 ≤ i
  · rw [if_pos h1, if_pos (by omega)]
  · rw [if_neg h1]
    by_cases h2 : a ≤ i
    · obtain rfl : i = a := by omega
      rw [if_pos h2, bestA_nobreak ha h0 h]
    · rw [if_neg h2]
theorem tbJ_zero {a : Nat} : ∀ i k, i ≤ l.length → k < 4 → tbA l wd most (a + 1) i k = tbJ l wd most a 0 i k := fun i k hi _ => by
  unfold tbJ
  split
  · rename_i h
    subst h
    unfold tbA
    rw [if_neg (by omega)]
    rfl
  · rfl
theorem tbJ_end {a : Nat} (ha : a < l.length) : ∀ i k, i ≤ l.length → k < 4 → tbJ l wd most a (l.length - a) i k = tbA l wd most a i k := fun i k hi _ => by
  unfold tbJ tbA
  split
  · rename_i h
    subst h
    rw [if_pos (Nat.le_refl _), bestA_eq ha]
  · by_cases h1 : a + 1 ≤ i
    · rw [if_pos h1, if_pos (by omega)]
    · rw [if_neg h1, if_neg (by omega)]
theorem tbJ_same {a j : Nat} (h : ∀ k : Int, bestTo l wd most a k (bestA l wd most) (j + 1) = bestTo l wd most a k (bestA l wd most) j) : ∀ i k, i ≤ l.length → k < 4 → tbJ l wd most a j i k = tbJ l wd most a (j + 1) i k := fun i k hi _ => by
  unfold tbJ
  split
  · rw [h]
  · rfl
theorem tbK_zero {a j : Nat} : ∀ i k, i ≤ l.length → k < 4 → tbJ l wd most a j i k = tbK l wd most a j 0 i k := fun i k hi _ => by
  unfold tbJ tbK
  split
  · rw [if_neg (by omega)]
  · rfl
theorem tbK_end {a j : Nat} : ∀ i k, i ≤ l.length → k < 4 → tbK l wd most a j 4 i k = tbJ l wd most a (j + 1) i k := fun i k hi hk => by
  unfold tbJ tbK
  split
  · first | rfl | rw [if_pos hk]
  · rfl
theorem tbK_step {a j b : Nat} {x : Option Ch} (hx : bestTo l wd most a b (bestA l wd most) (j + 1) = x) : ∀ i k, i ≤ l.length → k < 4 → updT (tbK l wd most a j b) a b x i k = tbK l wd most a j (b + 1) i k := fun i k hi hk => by
  unfold updT tbK
  by_cases h : i = a ∧ k = b
  · obtain ⟨rfl, rfl⟩ := h
    rw [if_pos ⟨rfl, rfl⟩, if_pos rfl, if_pos (by omega), hx]
  · rw [if_neg h]
    split
    · have : ¬ k = b := fun q => h ⟨by assumption, q⟩
      by_cases h1 : k < b
      · rw [if_pos h1, if_pos (by omega)]
      · rw [if_neg h1, if_neg (by omega)]
    · rfl
theorem tbK_stay {a j b : Nat} (hx : bestTo l wd most a b (bestA l wd most) (j + 1) = bestTo l wd most a b (bestA l wd most) j) : ∀ i k, i ≤ l.length → k < 4 → tbK l wd most a j b i k = tbK l wd most a j (b + 1) i k := fun i k hi hk => by
  unfold tbK
  split
  · by_cases h : k = b
    · subst h
      rw [if_neg (by omega), if_pos (by omega), hx]
    · by_cases h1 : k < b
      · rw [if_pos h1, if_pos (by omega)]
      · rw [if_neg h1, if_neg (by omega)]
  · rfl
theorem tB_upd (f : Nat → Nat → Option Ch) (i k : Nat) (x : Ch) : updT (tB f) i k x.1 = tB (updT f i k (some x)) := by
  funext i' k'
  unfold tB updT
  split <;> rfl
theorem tG_upd (f : Nat → Nat → Option Ch) (i k : Nat) (x : Ch) : updT (tG f) i k true = tG (updT f i k (some x)) := by
  funext i' k'
  unfold tG updT
  split <;> rfl
theorem tN_upd (f : Nat → Nat → Option Ch) (i k : Nat) (x : Ch) : updT (tN f) i k (x.2.1 : Int) = tN (updT f i k (some x)) := by
  funext i' k'
  unfold tN updT
  split <;> rfl
theorem tbK_here {a j b : Nat} : tbK l wd most a j b a b = bestTo l wd most a b (bestA l wd most) j := by
  unfold tbK
  rw [if_pos rfl, if_neg (Nat.lt_irrefl _)]
theorem tbJ_above {a j i k : Nat} (h : a < i) : tbJ l wd most a j i k = bestA l wd most i k := by
  unfold tbJ tbA
  rw [if_neg (by omega), if_pos (by omega)]
theorem tbA_zero {i k : Nat} : tbA l wd most 0 i k = bestA l wd most i k := if_pos (Nat.zero_le _)
end Go.Proofs.YtngcedklbinhjaaDoor
namespace Go.Proofs.YtngcedklbinhjaaDoor
open Go.RowKit
set_option linter.all false
noncomputable def txK (ws pats : LS) : Nat → LS
  | 0 => []
  | k + 1 => txK ws pats k ++ partsV (ws[k]?.getD .empty) pats
noncomputable def txR (ws pats : LS) : LS := txK ws pats ws.length
theorem txK_len (ws pats : LS) : ∀ k, (txK ws pats k).length ≤ 21 * k
  | 0 => by simp [txK]
  | k + 1 => by
    have := txK_len ws pats k
    have h2 := partsV_len (ws[k]?.getD .empty) pats
    rw [txK, List.length_append]
    omega
theorem txK_word (ws pats : LS) : ∀ k, ∀ x ∈ txK ws pats k, wordB x = true
  | 0 => by simp [txK]
  | k + 1 => fun x hx => by
    rw [txK] at hx
    rcases List.mem_append.1 hx with hx | hx
    · exact txK_word ws pats k x hx
    · exact partsV_word x hx
theorem txR_at {ws pats : LS} {k : Nat} (h : k < (txR ws pats).length) : wordB ((txR ws pats)[k]?.getD .empty) = true := by
  rw [List.getElem?_eq_getElem h, Option.getD_some]
  exact txK_word ws pats _ _ (List.getElem_mem h)
def nb (l : List It) : Nat := (l.filter fun x => decide (x.kd = 1)).length
theorem nb_app (l l' : List It) : nb (l ++ l') = nb l + nb l' := by simp [nb]
theorem nb_wi (ps : LS) : ∀ k, nb (wiK ps k) = k
  | 0 => rfl
  | k + 1 => by
    have ih := nb_wi ps k
    rw [wiK, nb_app]
    have h1 : nb [((1 : Int), wordW (ps[k]?.getD .empty), (0 : Int), (0 : Int), (0 : Int), (0 : Int), false)] = 1 := by simp [nb, It.kd]
    rw [h1]
    split
    · rw [ih]
    · rw [nb_app, ih]
      have h2 : nb [((3 : Int), (3 : Int), (0 : Int), (0 : Int), (0 : Int), (50 : Int), true)] = 0 := by decide
      rw [h2]
theorem nb_pi (ws pats : LS) : ∀ k, nb (piK ws pats k) = (txK ws pats k).length
  | 0 => rfl
  | k + 1 => by
    have ih := nb_pi ws pats k
    rw [piK, nb_app, txK, List.length_append]
    have h1 : nb (wiR (ws[k]?.getD .empty) pats) = (partsV (ws[k]?.getD .empty) pats).length := nb_wi _ _
    rw [h1]
    split
    · rw [ih]
    · rw [nb_app, ih]
      have h2 : nb [((2 : Int), (4 : Int), (3 : Int), (1 : Int), (0 : Int), (0 : Int), false)] = 0 := by decide
      rw [h2, Nat.add_zero]
theorem nb_pr (ws pats : LS) : nb (piR ws pats) = (txR ws pats).length := by
  unfold piR
  rw [nb_app, nb_pi]
  have h2 : nb [((3 : Int), (0 : Int), (0 : Int), (0 : Int), (0 : Int), (10000 : Int), false), (2, 0, 1, 0, 1, 0, false), (3, 0, 0, 0, 0, -10000, false)] = 0 := by decide
  rw [h2]
  rfl
theorem nbX_le (l : List It) (n : Nat) : nbX l n ≤ nb l := by
  unfold nbX nb
  exact List.Sublist.length_le ((List.take_sublist n l).filter _)
theorem nbX_lt {l : List It} {n : Nat} (h : n < l.length) (hk : (gI l n).kd = 1) : nbX l n < nb l := by
  have h1 := nbX_yes h hk
  have h2 := nbX_le l (n + 1)
  omega
def frB (br : List Int) (k : Nat) : Nat := if k = 0 then 0 else (br[k - 1]?.getD 0).toNat + 1
def lnsK (l : List It) (tx : LS) (br : List Int) : Nat → LS
  | 0 => []
  | k + 1 => lnsK l tx br k ++ [lnR l tx (frB br k) (br[k]?.getD 0).toNat]
theorem lnsK_len (l : List It) (tx : LS) (br : List Int) : ∀ k, (lnsK l tx br k).length = k
  | 0 => rfl
  | k + 1 => by rw [lnsK, List.length_append, lnsK_len l tx br k]; rfl
theorem frB_succ (br : List Int) (k : Nat) : frB br (k + 1) = (br[k]?.getD 0).toNat + 1 := by
  unfold frB
  rw [if_neg (by omega)]
  rfl
def okBr (l : List It) (br : List Int) : Prop := br.length ≤ l.length ∧ ∀ k, k < br.length → 0 ≤ br[k]?.getD 0 ∧ lineQ l (frB br k) (br[k]?.getD 0).toNat = true
theorem bkF_ok {l : List It} {wd most : Int} (hl : itemsB l = true) (hm : most ≤ 10000) : ∀ (f a : Nat) (lk : Int), a ≤ l.length → ∀ k, k < (bkF l wd most f a lk).length → 0 ≤ (bkF l wd most f a lk)[k]?.getD 0 ∧ lineQ l (if k = 0 then a else ((bkF l wd most f a lk)[k - 1]?.getD 0).toNat + 1) ((bkF l wd most f a lk)[k]?.getD 0).toNat = true
  | 0, a, lk, _, k, hk => by simp [bkF] at hk
  | f + 1, a, lk, ha, k, hk => by
    by_cases h : a = l.length
    · subst h; rw [bkF_end] at hk; simp at hk
    · cases hr : bestA l wd most a lk with
      | none => rw [bkF, if_neg h, hr] at hk; simp at hk
      | some r =>
        obtain ⟨x, c0, hx, hL⟩ := bestA_next (by omega) hr
        obtain ⟨hq, -, -⟩ := lineR_some hL
        have h2 := (lineQ_iff.1 hq).1
        rw [bkF_step h hr] at hk ⊢
        have ih := bkF_ok (wd := wd) hl hm f (r.2.1 + 1) r.2.2 (by omega)
        generalize bkF l wd most f (r.2.1 + 1) r.2.2 = t at *
        cases k with
        | zero => exact ⟨by simp, by simpa using hq⟩
        | succ k =>
          rw [List.length_cons] at hk
          obtain ⟨i1, i2⟩ := ih k (by omega)
          refine ⟨by simpa using i1, ?_⟩
          rw [if_neg (by omega), List.getElem?_cons_succ, Nat.add_sub_cancel]
          cases k with
          | zero => simpa using i2
          | succ k =>
            rw [if_neg (by omega), Nat.add_sub_cancel] at i2
            rw [List.getElem?_cons_succ]
            exact i2
theorem brk_ok {l : List It} {wd most : Int} (hl : itemsB l = true) (hm : most ≤ 10000) : okBr l (brkList l wd most) :=
  ⟨bkF_len hl hm _ _ _ (Nat.zero_le _), fun k hk => bkF_ok hl hm _ _ _ (Nat.zero_le _) k hk⟩
theorem okBr.at_ {l : List It} {br : List Int} (h : okBr l br) {k : Nat} (hk : k < br.length) : 0 ≤ br[k]?.getD 0 ∧ frB br k ≤ (br[k]?.getD 0).toNat ∧ (br[k]?.getD 0).toNat < l.length ∧ ¬ (gI l (br[k]?.getD 0).toNat).kd = 1 := by
  obtain ⟨h1, h2⟩ := h.2 k hk
  obtain ⟨h3, h4, -⟩ := lineQ_iff.1 h2
  refine ⟨h1, h3.1, h3.2, fun q => ?_⟩
  unfold brkQ at h4
  rw [if_neg (by omega), decide_eq_true_eq] at h4
  omega
variable {l : List It} {tx : LS} {s : ByteArray} {n : Nat}
theorem ln_box (h : (gI l n).kd = 1) : lnStep l tx s n = s ++ tx[nbX l n]?.getD .empty := if_pos h
theorem ln_gap (h : (gI l n).kd = 2 ∧ 0 < (gI l n).wd ∧ ¬ s = ⟨#[]⟩) : lnStep l tx s n = s ++ ⟨#[32]⟩ := by
  unfold lnStep
  rw [if_neg (by omega), if_pos h]
theorem ln_no (h1 : ¬ (gI l n).kd = 1) (h : ¬ ((gI l n).kd = 2 ∧ 0 < (gI l n).wd ∧ ¬ s = ⟨#[]⟩)) : lnStep l tx s n = s := by
  unfold lnStep
  rw [if_neg h1, if_neg h]
theorem lnT_size {a : Nat} (h : ∀ k : Nat, (tx[k]?.getD ByteArray.empty).size ≤ 20) : ∀ j, (lnT l tx a j).size ≤ 20 * j
  | 0 => by simp [lnT, ByteArray.size]
  | j + 1 => by
    have ih := lnT_size (a := a) h j
    rw [lnT]
    unfold lnStep
    split
    · rw [ByteArray.size_append]
      have := h (nbX l (a + j))
      omega
    · split
      · rw [ByteArray.size_append, show (⟨#[32]⟩ : ByteArray).size = 1 from rfl]
        omega
      · omega
theorem tx_size {ws pats : LS} (k : Nat) : ((txR ws pats)[k]?.getD .empty).size ≤ 20 := by
  by_cases h : k < (txR ws pats).length
  · exact (wordB_letters (txR_at h)).2.2
  · rw [List.getElem?_eq_none (by omega)]
    decide
noncomputable def pglB (ws pats : LS) (wd most : Int) : Bool := prgB ws pats && brkOk (piV ws pats) wd most
noncomputable def pglV (ws pats : LS) (wd most : Int) : LS := if pglB ws pats wd most = true then lnsK (piR ws pats) (txR ws pats) (brkList (piR ws pats) wd most) (brkList (piR ws pats) wd most).length else []
end Go.Proofs.YtngcedklbinhjaaDoor
