/- What the proof rests on, part 13: contracts of functions. No condition beyond what each states. -/
import Derived.Test.YtngcedklbinhjaaZHf12
namespace Go.Proofs.Ytngcedklbinhjaa
open Go.RowKit
set_option linter.all false
abbrev pvG (g : I4) : PV := .agg [.val (.int .i64 g.1), .val (.int .i64 g.2.1), .val (.int .i64 g.2.2.1), .val (.int .i64 g.2.2.2)]
theorem add4_raw (a b c d a' b' c' d' : Int) : add4 (a, b, c, d) (a', b', c', d') = (a + a', (if (if b = 0 then 0 else d) = max (if b = 0 then 0 else d) (if b' = 0 then 0 else d') then b else 0) + (if (if b' = 0 then 0 else d') = max (if b = 0 then 0 else d) (if b' = 0 then 0 else d') then b' else 0), c + c', max (if b = 0 then 0 else d) (if b' = 0 then 0 else d')) := rfl
abbrev okG4 (g : I4) : Prop := (0 ≤ g.1 ∧ g.1 ≤ 1000000) ∧ (0 ≤ g.2.1 ∧ g.2.1 ≤ 1000000) ∧ (0 ≤ g.2.2.1 ∧ g.2.2.1 ≤ 1000000) ∧ (g.2.2.2 = 0 ∨ g.2.2.2 = 1)
noncomputable def φAdd : Fun := F2 dI4 dI4 fun a b => open Classical in if okG4 a ∧ okG4 b then some (pvG (add4 a b)) else none
theorem φAdd_ap {a b : I4} (h : okG4 a) (h2 : okG4 b) : φAdd [pvG a, pvG b] = some (pvG (add4 a b)) := (F2_ap (A := dI4) (B := dI4) a b).trans (if_pos ⟨h, h2⟩)
set_option maxHeartbeats 8000000 in
theorem specAdd_ok : Sound Try.prog 104 φAdd := by
  refine sound_pq mixed GE_ok Try.func104 rfl 58 rfl [.cell 4 57] rfl (by kernel_rfl) fun ps r hr => ?_
  obtain ⟨⟨a, b, c, d⟩, ⟨a', b', c', d'⟩, rfl, hq⟩ := F2_some hr
  clear hr
  split at hq
  case isFalse => cases hq
  case isTrue hpre =>
  cases hq
  refine ⟨by simp, ?_⟩
  simp only [dIs, dUs, dSs, dI_e, dU_e, dB_e, dS_e, dFn_e, dL_e, dA2_e, dA3_e, dA4_e, dA5_e]
  obtain ⟨⟨h1, h2, h3, h4⟩, h5, h6, h7, h8⟩ := hpre
  dsimp only at h1 h2 h3 h4 h5 h6 h7 h8
  rw [add4_raw]
  have g00 : ¬ ((0 : Int) > 0) := by decide
  have g10 : (1 : Int) > 0 := by decide
  have g01 : ¬ ((0 : Int) > 1) := by decide
  have g11 : ¬ ((1 : Int) > 1) := by decide
  have n01 : ¬ ((0 : Int) = 1) := by decide
  have n10 : ¬ ((1 : Int) = 0) := by decide
  have m00 : max (0 : Int) 0 = 0 := by decide
  have m01 : max (0 : Int) 1 = 1 := by decide
  have m10 : max (1 : Int) 0 = 1 := by decide
  have m11 : max (1 : Int) 1 = 1 := by decide
  rcases h4 with rfl | rfl <;> rcases h8 with rfl | rfl <;>
  · by_cases hb : b = 0 <;> by_cases hb' : b' = 0 <;>
    · first | subst hb | skip
      first | subst hb' | skip
      simp only [if_true, if_false, m00, m01, m10, m11, n01, n10, *]
      (repeat' (first | (with_reducible first | apply i_seq | apply i_block | apply i_skip | apply i_exit | apply i_ret | apply i_kS | apply i_kSx | apply i_kSr | apply i_kL | apply i_kLx | apply i_kLr | apply i_kB | apply i_kBr | apply i_kBs | apply i_nil) | ((with_reducible apply i_region); (simp only [List.map_cons, List.map_nil] <;> exact rfl)) | ((with_reducible apply i_draw); (simp only [List.map_cons, List.map_nil] <;> exact rfl); decide +kernel) | ((with_reducible apply i_kBo); rfl) | ((first | ((with_reducible apply i_V); rfl; rfl; rfl) | ((first | ((with_reducible apply i_E); rfl) | ((with_reducible apply i_S); rfl)); first | rfl | (simp only [push_cast, ↓reduceIte])) | ((with_reducible apply i_Vq); rfl; rfl) | ((with_reducible apply i_Vp); rfl; rfl; rfl) | (with_reducible first | apply i_Gb | apply i_cond)); (simp (disch := (first | omega | (simp only [push_cast]; first | done | omega))) only [push_cast, ↓reduceIte, Nat.reduceEqDiff, Nat.reduceBEq, Nat.reduceAdd, Nat.reduceSub, Int.reduceToNat, *] <;> with_reducible exact rfl); all_goals try (first | (with_reducible first | refine hyT ?_ | refine hyF ?_ | exact hyA | exact hyB) | (intro hX; first | (cases hX; done) | ((try simp only [decide_eq_true_eq, decide_eq_false_iff_not, Bool.not_eq_true', Bool.not_eq_false'] at hX); (try have hXb := inB_iff.1 hX))))))); all_goals try (exfalso; omega)
      all_goals ((first | apply i_end | apply i_endN); simp (disch := (first | omega | (simp only [push_cast]; first | done | omega))) only [push_cast, ↓reduceIte, Nat.reduceEqDiff, Nat.reduceBEq, Nat.reduceAdd, Nat.reduceSub, Int.reduceToNat, *])
      all_goals (simp; try omega)
def gluesF (l : List It) (b en : Nat) : List I4 := ((idxL l b en).map fun n : Int => (gI l n.toNat).gl) ++ (if (gI l en).kd = 3 then [(gI l en).gl] else [])
def gls0 (l : List It) (b k : Nat) : List I4 := (idxL l b k).map fun n : Int => (gI l n.toNat).gl
theorem gls0_nil {l : List It} {b : Nat} : gls0 l b b = [] := by unfold gls0; rw [idxL_nil (Nat.le_refl _)]; rfl
theorem gls0_yes {l : List It} {b k : Nat} (h : b ≤ k) (hk : ¬ (gI l k).kd = 3) : gls0 l b (k + 1) = gls0 l b k ++ [(gI l k).gl] := by
  unfold gls0
  rw [idxL_yes h hk, List.map_append]
  rfl
theorem gls0_no {l : List It} {b k : Nat} (h : b ≤ k) (hk : (gI l k).kd = 3) : gls0 l b (k + 1) = gls0 l b k := by
  unfold gls0
  rw [idxL_no h hk]
theorem gls0_len (l : List It) (b k : Nat) : (gls0 l b k).length ≤ k - b := by
  unfold gls0
  rw [List.length_map]
  exact idxL_len l b k
theorem gls0_ok {l : List It} {b k : Nat} (hB : itemsB l = true) (hk : k ≤ l.length) : ∀ g ∈ gls0 l b k, GOk g := fun g hg => by
  obtain ⟨n, hn, rfl⟩ := List.mem_map.1 hg
  have := idxL_mem n hn
  exact (items_at hB (k := n.toNat) (by omega)).gl
theorem gluesF_ok {l : List It} {b en : Nat} (hB : itemsB l = true) (hk : en < l.length) : (∀ g ∈ gluesF l b en, GOk g) ∧ (gluesF l b en).length ≤ 60 := by
  have hl := items_len hB
  have h1 := gls0_len l b en
  unfold gluesF
  refine ⟨fun g hg => ?_, ?_⟩
  · rcases List.mem_append.1 hg with hg | hg
    · exact gls0_ok hB (by omega) g hg
    · split at hg
      · rw [List.mem_singleton.1 hg]
        exact (items_at hB hk).gl
      · simp at hg
  · unfold gls0 at h1
    rw [List.length_append]
    split
    · rw [List.length_singleton]; omega
    · rw [List.length_nil]; omega
theorem tot_ok {gs : List I4} (h : ∀ g ∈ gs, GOk g) (hl : gs.length ≤ 60) : okG4 (totR gs) ∧ (totR gs).1 ≤ 60000 ∧ (totR gs).2.1 ≤ 60000 ∧ (totR gs).2.2.1 ≤ 60000 := by
  obtain ⟨h1, h2, h3, h4⟩ := tot_rng gs h
  exact ⟨⟨⟨h1.1, by omega⟩, ⟨h2.1, by omega⟩, ⟨h3.1, by omega⟩, h4⟩, by omega, by omega, by omega⟩
noncomputable def φSum : Fun := F3 dIts dI dI fun l n m => open Classical in if itemsB l = true ∧ 0 ≤ n ∧ n ≤ m ∧ m < l.length then some (pvG (totR (gluesF l n.toNat m.toNat))) else none
theorem φSum_ap {l : List It} {b en : Nat} (h : itemsB l = true) (h2 : b ≤ en) (h3 : en < l.length) : φSum [lsIt l, .val (.int .i64 b), .val (.int .i64 en)] = some (pvG (totR (gluesF l b en))) := (F3_ap (A := dIts) (B := dI) (C := dI) l b en).trans (if_pos ⟨h, by omega, by omega, by omega⟩)
noncomputable def GSum : Ctx := { fn := fun f => if f = 104 then some φAdd else none, io := fun f => none }
theorem GSum_ok : SoundΓ Try.prog GSum := ⟨(fun f φ h => by
  unfold GSum at h
  dsimp only at h
  split at h
  · rename_i hf; cases h; subst hf; exact ⟨⟨_, Try.func104, rfl, rfl⟩, specAdd_ok⟩
  cases h), (fun f φ h => by
  unfold GSum at h
  dsimp only at h
  cases h), rfl⟩
theorem GSum_104 (ob : Objs) (ps : List PV) : evCall GSum ob 104 ps = (ps.mapM (reify false 0 ob fuel)).bind φAdd := by
  have h : GSum.fn 104 = some φAdd := by simp [GSum]
  unfold evCall
  rw [h]
  cases ps.mapM (reify false 0 ob fuel) <;> rfl
set_option maxHeartbeats 16000000 in
theorem specSum_ok : Sound Try.prog 86 φSum := by
  refine sound_pq mixed GSum_ok Try.func86 rfl 49 rfl [.cell 6 57] rfl (by kernel_rfl) fun ps r hr => ?_
  obtain ⟨l, n, m, rfl, hq⟩ := F3_some hr
  clear hr
  split at hq
  case isFalse => cases hq
  case isTrue hpre =>
  cases hq
  refine ⟨by simp, ?_⟩
  simp only [dIs, dUs, dSs, dI_e, dU_e, dB_e, dS_e, dFn_e, dL_e, dA2_e, dA3_e, dA4_e, dA5_e]
  obtain ⟨hB, hn0, hn1, hn2⟩ := hpre
  obtain ⟨b, rfl⟩ : ∃ b : Nat, n = b := ⟨n.toNat, by omega⟩
  obtain ⟨en, rfl⟩ : ∃ en : Nat, m = en := ⟨m.toNat, by omega⟩
  have hl := items_len hB
  have hbe : b ≤ en := by omega
  have hel : en < l.length := by omega
  show pq _ _ _ _ _ (initS [lsIt l, .val (.int .i64 b), .val (.int .i64 en)]).tm _ _
  rw [Int.toNat_natCast, Int.toNat_natCast]
  clear hn0 hn1 hn2
  have hgs : gluesF l b en = gls0 l b en ++ (if (gI l en).kd = 3 then [(gI l en).gl] else []) := rfl
  rw [hgs]
  have gsum_c104 := GSum_104
  (refine wlk ?_; intros)
  refine i_loop (α := Nat) mixed (fun k => [(0, lsIt l), (2, iv en), (6, .own 0 4 0 0), (7, .own 1 4 0 0), (8, iv k)])
    (fun k => [(0, 57, 4, [pvG g40]), (1, 57, 4, [pvG (totR (gls0 l b k))])]) (fun _ => 2)
    (fun k => b ≤ k ∧ k ≤ en) (fun k => en - k) (by kernel_rfl) b ⟨Nat.le_refl _, hbe⟩ ?_ ?_ rfl ?_
  · exact agr
  · simp (disch := (first | omega | (simp only [push_cast]; first | done | omega))) only [push_cast, ↓reduceIte, Nat.reduceEqDiff, Nat.reduceBEq, Nat.reduceAdd, Nat.reduceSub, Int.reduceToNat, gls0_nil, totR, List.foldl_nil, g40, *]
  rintro k ⟨hk1, hk2⟩
  obtain ⟨ho, -⟩ := tot_ok (gls0_ok (b := b) hB (show k ≤ l.length by omega)) (by have := gls0_len l b k; omega)
  by_cases h0 : k < en
  · have hx1 := (items_at hB (k := k) (by omega)).gl
    have hy := @gls0_yes l b k hk1
    have hno := @gls0_no l b k hk1
    have hkx : gI l k = l[k]?.getD it0 := rfl
    rw [hkx] at hy hno
    generalize hx : l[k]?.getD it0 = x at *
    obtain ⟨kd, w9, c, d, e, cost, g⟩ := x
    replace hy : ¬ kd = 3 → gls0 l b (k + 1) = gls0 l b k ++ [(w9, c, d, e)] := hy
    replace hno : kd = 3 → gls0 l b (k + 1) = gls0 l b k := hno
    obtain ⟨g1, g2, g3, g4⟩ := hx1
    dsimp only at g1 g2 g3 g4
    have apa := φAdd_ap ho (b := (w9, c, d, e)) ⟨⟨g1.1, by (try dsimp only); omega⟩, ⟨g2.1, by (try dsimp only); omega⟩, ⟨g3.1, by (try dsimp only); omega⟩, g4⟩
    by_cases h3 : kd = 3
    · have hs := hno h3
      replace hs := Lib.hid hs
      clear hno hy apa ho g1 g2 g3 g4 hgs hB hkx
      generalize ht9 : totR (gls0 l b k) = t at *
      obtain ⟨t1, t2, t3, t4⟩ := t
      subst h3
      (refine wlk ?_; intros)
      refine ⟨k + 1, ⟨by omega, by omega⟩, by dsimp only; omega, ?_, ?_, rfl⟩
      · exact agr
      · dsimp only
        rw [hs.out]
        simp (disch := (first | omega | (simp only [push_cast]; first | done | omega))) only [push_cast, ↓reduceIte, Nat.reduceEqDiff, Nat.reduceBEq, Nat.reduceAdd, Nat.reduceSub, Int.reduceToNat, *]
    · have hs := hy h3
      have ht : totR (gls0 l b (k + 1)) = add4 (totR (gls0 l b k)) (w9, c, d, e) := by rw [hs, totR_snoc]
      replace ht := Lib.hid ht
      clear hno hy hs ho g1 g2 g3 g4 hgs hB hkx
      generalize totR (gls0 l b k) = t at *
      generalize add4 t (w9, c, d, e) = u at *
      obtain ⟨t1, t2, t3, t4⟩ := t
      obtain ⟨u1, u2, u3, u4⟩ := u
      try dsimp only at apa
      (refine wlk ?_; intros)
      refine ⟨k + 1, ⟨by omega, by omega⟩, by dsimp only; omega, ?_, ?_, rfl⟩
      · exact agr
      · dsimp only
        rw [ht.out]
        exact agr
  · obtain rfl : k = en := by omega
    have hx1 : GOk (l[k]?.getD it0).gl := (items_at hB hel).gl
    have hkx : gI l k = l[k]?.getD it0 := rfl
    rw [hkx]
    generalize hx : l[k]?.getD it0 = x at *
    obtain ⟨kd, w9, c, d, e, cost, g⟩ := x
    obtain ⟨g1, g2, g3, g4⟩ := hx1
    dsimp only at g1 g2 g3 g4
    have apa := φAdd_ap ho (b := (w9, c, d, e)) ⟨⟨g1.1, by (try dsimp only); omega⟩, ⟨g2.1, by (try dsimp only); omega⟩, ⟨g3.1, by (try dsimp only); omega⟩, g4⟩
    by_cases h3 : kd = 3
    · have ht : totR (gls0 l b k ++ [(w9, c, d, e)]) = add4 (totR (gls0 l b k)) (w9, c, d, e) := totR_snoc _ _
      rw [if_pos (show It.kd (kd, w9, c, d, e, cost, g) = 3 from h3)]
      have hz : It.gl (kd, w9, c, d, e, cost, g) = (w9, c, d, e) := rfl
      rw [hz, ht]
      clear ho g1 g2 g3 g4 hgs hB hkx ht hz
      generalize totR (gls0 l b k) = t at *
      generalize add4 t (w9, c, d, e) = u at *
      obtain ⟨t1, t2, t3, t4⟩ := t
      obtain ⟨u1, u2, u3, u4⟩ := u
      try dsimp only at apa
      subst h3
      exact wlkF
    · rw [if_neg (show ¬ It.kd (kd, w9, c, d, e, cost, g) = 3 from h3), List.append_nil]
      clear ho g1 g2 g3 g4 hgs hB hkx apa
      generalize totR (gls0 l b k) = t at *
      obtain ⟨t1, t2, t3, t4⟩ := t
      exact wlkF
theorem cube_rng {need room : Int} (h : 0 ≤ need ∧ need ≤ 100000) (h2 : 0 < room ∧ room ≤ 100000) : (0 ≤ 100 * need * need ∧ 100 * need * need ≤ 1000000000000) ∧ (0 ≤ 100 * need * need * need ∧ 100 * need * need * need ≤ 100000000000000000) ∧ (0 < room * room ∧ room * room ≤ 10000000000) ∧ (0 < room * room * room ∧ room * room * room ≤ 1000000000000000) ∧ 0 ≤ 100 * need * need * need / (room * room * room) := by
  have a1 : 0 ≤ 100 * need * need := Int.mul_nonneg (by omega) h.1
  have a2 : 100 * need * need ≤ 10000000 * 100000 := Int.mul_le_mul (by omega) h.2 h.1 (by omega)
  have a3 : 0 ≤ 100 * need * need * need := Int.mul_nonneg a1 h.1
  have a4 : 100 * need * need * need ≤ 1000000000000 * 100000 := Int.mul_le_mul (by omega) h.2 h.1 (by omega)
  have b1 : 0 < room * room := Int.mul_pos h2.1 h2.1
  have b2 : room * room ≤ 100000 * 100000 := Int.mul_le_mul h2.2 h2.2 (by omega) (by omega)
  have b3 : 0 < room * room * room := Int.mul_pos b1 h2.1
  have b4 : room * room * room ≤ 10000000000 * 100000 := Int.mul_le_mul (by omega) h2.2 (by omega) (by omega)
  exact ⟨⟨a1, by omega⟩, ⟨a3, by omega⟩, ⟨b1, by omega⟩, ⟨b3, by omega⟩, Int.ediv_nonneg a3 (by omega)⟩
noncomputable def φBadn : Fun := F2 dI dI fun need room => open Classical in if (0 ≤ need ∧ need ≤ 100000) ∧ 0 ≤ room ∧ room ≤ 100000 then some (iv (badR need room)) else none
theorem φBadn_ap {need room : Int} (h : (0 ≤ need ∧ need ≤ 100000) ∧ 0 ≤ room ∧ room ≤ 100000) : φBadn [.val (.int .i64 need), .val (.int .i64 room)] = some (.val (.int .i64 (badR need room))) := (F2_ap (A := dI) (B := dI) need room).trans (if_pos h)
set_option maxHeartbeats 8000000 in
theorem implBadn_ok : Sound Try.prog 121 φBadn := by
  refine sound_pq mixed GE_ok Try.func121 rfl 29 rfl [.tmp 4] rfl (by kernel_rfl) fun ps r hr => ?_
  obtain ⟨need, room, rfl, hq⟩ := F2_some hr
  clear hr
  split at hq
  case isFalse => cases hq
  case isTrue hpre =>
  cases hq
  refine ⟨by simp, ?_⟩
  simp only [dIs, dUs, dSs, dI_e, dU_e, dB_e, dS_e, dFn_e, dL_e, dA2_e, dA3_e, dA4_e, dA5_e]
  obtain ⟨h1, h2⟩ := hpre
  unfold badR
  by_cases hn : need = 0
  · subst hn
    exact wlkF
  · rw [if_neg hn]
    by_cases hr : room = 0
    · subst hr
      (repeat' (first | (with_reducible first | apply i_seq | apply i_block | apply i_skip | apply i_exit | apply i_ret | apply i_kS | apply i_kSx | apply i_kSr | apply i_kL | apply i_kLx | apply i_kLr | apply i_kB | apply i_kBr | apply i_kBs | apply i_nil) | ((with_reducible apply i_region); (simp only [List.map_cons, List.map_nil] <;> exact rfl)) | ((with_reducible apply i_draw); (simp only [List.map_cons, List.map_nil] <;> exact rfl); decide +kernel) | ((with_reducible apply i_kBo); rfl) | ((first | ((with_reducible apply i_V); rfl; rfl; rfl) | ((first | ((with_reducible apply i_E); rfl) | ((with_reducible apply i_S); rfl)); first | rfl | (simp only [push_cast, ↓reduceIte])) | ((with_reducible apply i_Vq); rfl; rfl) | ((with_reducible apply i_Vp); rfl; rfl; rfl) | (with_reducible first | apply i_Gb | apply i_cond)); (simp (disch := (first | omega | (simp only [push_cast]; first | done | omega))) only [push_cast, ↓reduceIte, Nat.reduceEqDiff, Nat.reduceBEq, Nat.reduceAdd, Nat.reduceSub, Int.reduceToNat, *] <;> with_reducible exact rfl); all_goals try (first | (with_reducible first | refine hyT ?_ | refine hyF ?_ | exact hyA | exact hyB) | (intro hX; first | (cases hX; done) | ((try simp only [decide_eq_true_eq, decide_eq_false_iff_not, Bool.not_eq_true', Bool.not_eq_false'] at hX); (try have hXb := inB_iff.1 hX))))))); all_goals try (exfalso; omega)
      all_goals ((first | apply i_end | apply i_endN); simp (disch := (first | omega | (simp only [push_cast]; first | done | omega))) only [push_cast, ↓reduceIte, Nat.reduceEqDiff, Nat.reduceBEq, Nat.reduceAdd, Nat.reduceSub, Int.reduceToNat, *])
      all_goals simp
    · obtain ⟨c1, c2, c3, c4, c5⟩ := cube_rng h1 (room := room) ⟨by omega, by omega⟩
      have hq : Int.tdiv (100 * need * need * need) (room * room * room) = 100 * need * need * need / (room * room * room) := Int.tdiv_eq_ediv_of_nonneg c2.1
      by_cases hb : 10 * room < need
      · rw [if_pos (.inr hb)]
        clear c1 c2 c3 c4 c5 hq
        exact wlkF
      · rw [if_neg (by omega)]
        have hz : ¬ room * room * room = 0 := by omega
        have w1 := wrap_id (n := 100 * need * need) (by omega) (by omega)
        have w2 := wrap_id (n := 100 * need * need * need) (by omega) (by omega)
        have w3 := wrap_id (n := room * room) (by omega) (by omega)
        have w4 := wrap_id (n := room * room * room) (by omega) (by omega)
        have c6 : 100 * need * need * need / (room * room * room) ≤ 100000000000000000 := by
          have := Int.ediv_le_self (room * room * room) c2.1
          omega
        have w5 := wrap_id (n := 100 * need * need * need / (room * room * room)) (by omega) (by omega)
        (repeat' (first | (with_reducible first | apply i_seq | apply i_block | apply i_skip | apply i_exit | apply i_ret | apply i_kS | apply i_kSx | apply i_kSr | apply i_kL | apply i_kLx | apply i_kLr | apply i_kB | apply i_kBr | apply i_kBs | apply i_nil) | ((with_reducible apply i_region); (simp only [List.map_cons, List.map_nil] <;> exact rfl)) | ((with_reducible apply i_draw); (simp only [List.map_cons, List.map_nil] <;> exact rfl); decide +kernel) | ((with_reducible apply i_kBo); rfl) | ((first | ((with_reducible apply i_V); rfl; rfl; rfl) | ((first | ((with_reducible apply i_E); rfl) | ((with_reducible apply i_S); rfl)); first | rfl | (simp only [push_cast, ↓reduceIte])) | ((with_reducible apply i_Vq); rfl; rfl) | ((with_reducible apply i_Vp); rfl; rfl; rfl) | (with_reducible first | apply i_Gb | apply i_cond)); (simp (disch := (first | omega | (simp only [push_cast]; first | done | omega))) only [push_cast, ↓reduceIte, Nat.reduceEqDiff, Nat.reduceBEq, Nat.reduceAdd, Nat.reduceSub, Int.reduceToNat, *] <;> with_reducible exact rfl); all_goals try (first | (with_reducible first | refine hyT ?_ | refine hyF ?_ | exact hyA | exact hyB) | (intro hX; first | (cases hX; done) | ((try simp only [decide_eq_true_eq, decide_eq_false_iff_not, Bool.not_eq_true', Bool.not_eq_false'] at hX); (try have hXb := inB_iff.1 hX))))))); all_goals try (exfalso; omega)
        all_goals ((first | apply i_end | apply i_endN); simp (disch := (first | omega | (simp only [push_cast]; first | done | omega))) only [push_cast, ↓reduceIte, Nat.reduceEqDiff, Nat.reduceBEq, Nat.reduceAdd, Nat.reduceSub, Int.reduceToNat, *])
        all_goals ((refine congrArg (fun z => some (PV.val (Value.int IntKind.i64 z))) ?_); generalize 100 * need * need * need / (room * room * room) = q at *; (try (split)) <;> omega)
noncomputable def GBdS : Ctx := { fn := fun f => if f = 62 then some φIn else none, io := fun f => none }
theorem GBdS_ok : SoundΓ Try.prog GBdS := ⟨(fun f φ h => by
  unfold GBdS at h
  dsimp only at h
  split at h
  · rename_i hf; cases h; subst hf; exact ⟨⟨_, Try.func62, rfl, rfl⟩, l1In_ok⟩
  cases h), (fun f φ h => by
  unfold GBdS at h
  dsimp only at h
  cases h), rfl⟩
theorem GBdS_62 (ob : Objs) (ps : List PV) : evCall GBdS ob 62 ps = (ps.mapM (reify false 0 ob fuel)).bind φIn := by
  have h : GBdS.fn 62 = some φIn := by simp [GBdS]
  unfold evCall
  rw [h]
  cases ps.mapM (reify false 0 ob fuel) <;> rfl
set_option maxHeartbeats 8000000 in
theorem specBadn_ok : Sound Try.prog 87 φBadn := by
  refine sound_pq mixed GBdS_ok Try.func87 rfl 36 rfl [.tmp 4] rfl (by kernel_rfl) fun ps r hr => ?_
  obtain ⟨need, room, rfl, hq⟩ := F2_some hr
  clear hr
  split at hq
  case isFalse => cases hq
  case isTrue hpre =>
  cases hq
  refine ⟨by simp, ?_⟩
  simp only [dIs, dUs, dSs, dI_e, dU_e, dB_e, dS_e, dFn_e, dL_e, dA2_e, dA3_e, dA4_e, dA5_e]
  obtain ⟨h1, h2⟩ := hpre
  have ap1 : φIn [.val (.int .i64 need), .val (.int .i64 0), .val (.int .i64 100000)] = some (.val (.bool true)) := (φIn_ap _ _ _).trans (by rw [inB_iff.2 h1])
  have ap2 : φIn [.val (.int .i64 room), .val (.int .i64 0), .val (.int .i64 100000)] = some (.val (.bool true)) := (φIn_ap _ _ _).trans (by rw [inB_iff.2 h2])
  rw [badR_five h1.1 h2.1]
  by_cases hn : need = 0
  · subst hn
    have gbds_c62 := GBdS_62
    exact wlkF
  · rw [if_neg hn]
    by_cases hr : room = 0
    · subst hr
      have gbds_c62 := GBdS_62
      (repeat' (first | (with_reducible first | apply i_seq | apply i_block | apply i_skip | apply i_exit | apply i_ret | apply i_kS | apply i_kSx | apply i_kSr | apply i_kL | apply i_kLx | apply i_kLr | apply i_kB | apply i_kBr | apply i_kBs | apply i_nil) | ((with_reducible apply i_region); (simp only [List.map_cons, List.map_nil] <;> exact rfl)) | ((with_reducible apply i_draw); (simp only [List.map_cons, List.map_nil] <;> exact rfl); decide +kernel) | ((with_reducible apply i_kBo); rfl) | ((first | ((with_reducible apply i_V); rfl; rfl; rfl) | ((first | ((with_reducible apply i_E); rfl) | ((with_reducible apply i_S); rfl)); first | rfl | (simp only [push_cast, ↓reduceIte])) | ((with_reducible apply i_Vq); rfl; rfl) | ((with_reducible apply i_Vp); rfl; rfl; rfl) | (with_reducible first | apply i_Gb | apply i_cond)); (simp (disch := (first | omega | (simp only [push_cast]; first | done | omega))) only [push_cast, ↓reduceIte, Nat.reduceEqDiff, Nat.reduceBEq, Nat.reduceAdd, Nat.reduceSub, Int.reduceToNat, *] <;> with_reducible exact rfl); all_goals try (first | (with_reducible first | refine hyT ?_ | refine hyF ?_ | exact hyA | exact hyB) | (intro hX; first | (cases hX; done) | ((try simp only [decide_eq_true_eq, decide_eq_false_iff_not, Bool.not_eq_true', Bool.not_eq_false'] at hX); (try have hXb := inB_iff.1 hX))))))); all_goals try (exfalso; omega)
      all_goals ((first | apply i_end | apply i_endN); simp (disch := (first | omega | (simp only [push_cast]; first | done | omega))) only [push_cast, ↓reduceIte, Nat.reduceEqDiff, Nat.reduceBEq, Nat.reduceAdd, Nat.reduceSub, Int.reduceToNat, *])
      all_goals simp
    · obtain ⟨c1, c2, c3, c4, c5⟩ := cube_rng h1 (room := room) ⟨by omega, by omega⟩
      by_cases hb : 5 * room < need
      · rw [if_pos (.inr hb)]
        clear c1 c2 c3 c4 c5
        have gbds_c62 := GBdS_62
        exact wlkF
      · rw [if_neg (by omega)]
        have hz : ¬ room * room * room = 0 := by omega
        have w1 := wrap_id (n := 100 * need * need) (by omega) (by omega)
        have w2 := wrap_id (n := 100 * need * need * need) (by omega) (by omega)
        have w3 := wrap_id (n := room * room) (by omega) (by omega)
        have w4 := wrap_id (n := room * room * room) (by omega) (by omega)
        have c6 : 100 * need * need * need / (room * room * room) ≤ 100000000000000000 := by
          have := Int.ediv_le_self (room * room * room) c2.1
          omega
        have w5 := wrap_id (n := 100 * need * need * need / (room * room * room)) (by omega) (by omega)
        have gbds_c62 := GBdS_62
        (repeat' (first | (with_reducible first | apply i_seq | apply i_block | apply i_skip | apply i_exit | apply i_ret | apply i_kS | apply i_kSx | apply i_kSr | apply i_kL | apply i_kLx | apply i_kLr | apply i_kB | apply i_kBr | apply i_kBs | apply i_nil) | ((with_reducible apply i_region); (simp only [List.map_cons, List.map_nil] <;> exact rfl)) | ((with_reducible apply i_draw); (simp only [List.map_cons, List.map_nil] <;> exact rfl); decide +kernel) | ((with_reducible apply i_kBo); rfl) | ((first | ((with_reducible apply i_V); rfl; rfl; rfl) | ((first | ((with_reducible apply i_E); rfl) | ((with_reducible apply i_S); rfl)); first | rfl | (simp only [push_cast, ↓reduceIte])) | ((with_reducible apply i_Vq); rfl; rfl) | ((with_reducible apply i_Vp); rfl; rfl; rfl) | (with_reducible first | apply i_Gb | apply i_cond)); (simp (disch := (first | omega | (simp only [push_cast]; first | done | omega))) only [push_cast, ↓reduceIte, Nat.reduceEqDiff, Nat.reduceBEq, Nat.reduceAdd, Nat.reduceSub, Int.reduceToNat, *] <;> with_reducible exact rfl); all_goals try (first | (with_reducible first | refine hyT ?_ | refine hyF ?_ | exact hyA | exact hyB) | (intro hX; first | (cases hX; done) | ((try simp only [decide_eq_true_eq, decide_eq_false_iff_not, Bool.not_eq_true', Bool.not_eq_false'] at hX); (try have hXb := inB_iff.1 hX))))))); all_goals try (exfalso; omega)
        all_goals ((first | apply i_end | apply i_endN); simp (disch := (first | omega | (simp only [push_cast]; first | done | omega))) only [push_cast, ↓reduceIte, Nat.reduceEqDiff, Nat.reduceBEq, Nat.reduceAdd, Nat.reduceSub, Int.reduceToNat, *])
        all_goals ((refine congrArg (fun z => some (PV.val (Value.int IntKind.i64 z))) ?_); generalize 100 * need * need * need / (room * room * room) = q at *; (try (split)) <;> omega)
noncomputable def φLk : Fun := F2 dB dI fun s bad => open Classical in if 0 ≤ bad ∧ bad ≤ 10000 then some (iv (looksR s bad)) else none
theorem φLk_ap {s : Bool} {bad : Int} (h : 0 ≤ bad ∧ bad ≤ 10000) : φLk [.val (.bool s), .val (.int .i64 bad)] = some (.val (.int .i64 (looksR s bad))) := (F2_ap (A := dB) (B := dI) s bad).trans (if_pos h)
noncomputable def GLkI : Ctx := { fn := fun f => if f = 80 then some φBad else none, io := fun f => none }
theorem GLkI_ok : SoundΓ Try.prog GLkI := ⟨(fun f φ h => by
  unfold GLkI at h
  dsimp only at h
  split at h
  · rename_i hf; cases h; subst hf; exact ⟨⟨_, Try.func80, rfl, rfl⟩, isBad_ok⟩
  cases h), (fun f φ h => by
  unfold GLkI at h
  dsimp only at h
  cases h), rfl⟩
theorem GLkI_80 (ob : Objs) (ps : List PV) : evCall GLkI ob 80 ps = (ps.mapM (reify false 0 ob fuel)).bind φBad := by
  have h : GLkI.fn 80 = some φBad := by simp [GLkI]
  unfold evCall
  rw [h]
  cases ps.mapM (reify false 0 ob fuel) <;> rfl
theorem implLk_ok : Sound Try.prog 114 φLk := by
  refine sound_pq mixed GLkI_ok Try.func114 rfl 18 rfl [.tmp 4] rfl (by kernel_rfl) fun ps r hr => ?_
  obtain ⟨s, bad, rfl, hq⟩ := F2_some hr
  clear hr
  split at hq
  case isFalse => cases hq
  case isTrue hpre =>
  cases hq
  refine ⟨by simp, ?_⟩
  simp only [dIs, dUs, dSs, dI_e, dU_e, dB_e, dS_e, dFn_e, dL_e, dA2_e, dA3_e, dA4_e, dA5_e]
  have ap : φBad [.val (.int .i64 bad)] = some (.val (.bool true)) := (φBad_ap bad).trans (by rw [inB_iff.2 hpre])
  unfold looksR
  have glki_c80 := GLkI_80
  cases s <;>
  · (repeat' (first | (with_reducible first | apply i_seq | apply i_block | apply i_skip | apply i_exit | apply i_ret | apply i_kS | apply i_kSx | apply i_kSr | apply i_kL | apply i_kLx | apply i_kLr | apply i_kB | apply i_kBr | apply i_kBs | apply i_nil) | ((with_reducible apply i_region); (simp only [List.map_cons, List.map_nil] <;> exact rfl)) | ((with_reducible apply i_draw); (simp only [List.map_cons, List.map_nil] <;> exact rfl); decide +kernel) | ((with_reducible apply i_kBo); rfl) | ((first | ((with_reducible apply i_V); rfl; rfl; rfl) | ((first | ((with_reducible apply i_E); rfl) | ((with_reducible apply i_S); rfl)); first | rfl | (simp only [push_cast, ↓reduceIte])) | ((with_reducible apply i_Vq); rfl; rfl) | ((with_reducible apply i_Vp); rfl; rfl; rfl) | (with_reducible first | apply i_Gb | apply i_cond)); (simp (disch := (first | omega | (simp only [push_cast]; first | done | omega))) only [push_cast, ↓reduceIte, Nat.reduceEqDiff, Nat.reduceBEq, Nat.reduceAdd, Nat.reduceSub, Int.reduceToNat, *] <;> with_reducible exact rfl); all_goals try (first | (with_reducible first | refine hyT ?_ | refine hyF ?_ | exact hyA | exact hyB) | (intro hX; first | (cases hX; done) | ((try simp only [decide_eq_true_eq, decide_eq_false_iff_not, Bool.not_eq_true', Bool.not_eq_false'] at hX); (try have hXb := inB_iff.1 hX))))))); all_goals try (exfalso; omega)
    all_goals ((first | apply i_end | apply i_endN); simp (disch := (first | omega | (simp only [push_cast]; first | done | omega))) only [push_cast, ↓reduceIte, Nat.reduceEqDiff, Nat.reduceBEq, Nat.reduceAdd, Nat.reduceSub, Int.reduceToNat, *])
    all_goals ((refine congrArg (fun z => some (PV.val (Value.int IntKind.i64 z))) ?_); (repeat' split) <;> first | rfl | omega | (simp_all; done))
noncomputable def GLkS : Ctx := { fn := fun f => if f = 62 then some φIn else none, io := fun f => none }
theorem GLkS_ok : SoundΓ Try.prog GLkS := ⟨(fun f φ h => by
  unfold GLkS at h
  dsimp only at h
  split at h
  · rename_i hf; cases h; subst hf; exact ⟨⟨_, Try.func62, rfl, rfl⟩, l1In_ok⟩
  cases h), (fun f φ h => by
  unfold GLkS at h
  dsimp only at h
  cases h), rfl⟩
theorem GLkS_62 (ob : Objs) (ps : List PV) : evCall GLkS ob 62 ps = (ps.mapM (reify false 0 ob fuel)).bind φIn := by
  have h : GLkS.fn 62 = some φIn := by simp [GLkS]
  unfold evCall
  rw [h]
  cases ps.mapM (reify false 0 ob fuel) <;> rfl
theorem specLk_ok : Sound Try.prog 66 φLk := by
  refine sound_pq mixed GLkS_ok Try.func66 rfl 14 rfl [.tmp 4] rfl (by kernel_rfl) fun ps r hr => ?_
  obtain ⟨s, bad, rfl, hq⟩ := F2_some hr
  clear hr
  split at hq
  case isFalse => cases hq
  case isTrue hpre =>
  cases hq
  refine ⟨by simp, ?_⟩
  simp only [dIs, dUs, dSs, dI_e, dU_e, dB_e, dS_e, dFn_e, dL_e, dA2_e, dA3_e, dA4_e, dA5_e]
  have ap : φIn [.val (.int .i64 bad), .val (.int .i64 0), .val (.int .i64 10000)] = some (.val (.bool true)) := (φIn_ap _ _ _).trans (by rw [inB_iff.2 hpre])
  unfold looksR
  have glks_c62 := GLkS_62
  cases s <;>
  · (repeat' (first | (with_reducible first | apply i_seq | apply i_block | apply i_skip | apply i_exit | apply i_ret | apply i_kS | apply i_kSx | apply i_kSr | apply i_kL | apply i_kLx | apply i_kLr | apply i_kB | apply i_kBr | apply i_kBs | apply i_nil) | ((with_reducible apply i_region); (simp only [List.map_cons, List.map_nil] <;> exact rfl)) | ((with_reducible apply i_draw); (simp only [List.map_cons, List.map_nil] <;> exact rfl); decide +kernel) | ((with_reducible apply i_kBo); rfl) | ((first | ((with_reducible apply i_V); rfl; rfl; rfl) | ((first | ((with_reducible apply i_E); rfl) | ((with_reducible apply i_S); rfl)); first | rfl | (simp only [push_cast, ↓reduceIte])) | ((with_reducible apply i_Vq); rfl; rfl) | ((with_reducible apply i_Vp); rfl; rfl; rfl) | (with_reducible first | apply i_Gb | apply i_cond)); (simp (disch := (first | omega | (simp only [push_cast]; first | done | omega))) only [push_cast, ↓reduceIte, Nat.reduceEqDiff, Nat.reduceBEq, Nat.reduceAdd, Nat.reduceSub, Int.reduceToNat, *] <;> with_reducible exact rfl); all_goals try (first | (with_reducible first | refine hyT ?_ | refine hyF ?_ | exact hyA | exact hyB) | (intro hX; first | (cases hX; done) | ((try simp only [decide_eq_true_eq, decide_eq_false_iff_not, Bool.not_eq_true', Bool.not_eq_false'] at hX); (try have hXb := inB_iff.1 hX))))))); all_goals try (exfalso; omega)
    all_goals ((first | apply i_end | apply i_endN); simp (disch := (first | omega | (simp only [push_cast]; first | done | omega))) only [push_cast, ↓reduceIte, Nat.reduceEqDiff, Nat.reduceBEq, Nat.reduceAdd, Nat.reduceSub, Int.reduceToNat, *])
    all_goals ((refine congrArg (fun z => some (PV.val (Value.int IntKind.i64 z))) ?_); (repeat' split) <;> first | rfl | omega | (simp_all; done))
abbrev okCst (c : Int) : Prop := (0 ≤ c ∧ c ≤ 10000) ∨ c = -10000
noncomputable def φCo : Fun := F2 dI dI fun bad c => open Classical in if (0 ≤ bad ∧ bad ≤ 10000) ∧ okCst c then some (iv (costR bad c)) else none
theorem φCo_ap {bad c : Int} (h : 0 ≤ bad ∧ bad ≤ 10000) (h2 : okCst c) : φCo [.val (.int .i64 bad), .val (.int .i64 c)] = some (.val (.int .i64 (costR bad c))) := (F2_ap (A := dI) (B := dI) bad c).trans (if_pos ⟨h, h2⟩)
theorem sq_rng {bad : Int} (h : 0 ≤ bad ∧ bad ≤ 10010) : 0 ≤ bad * bad ∧ bad * bad ≤ 100200100 := by
  have h3 : 0 ≤ bad * bad := Int.mul_nonneg (by omega) (by omega)
  have h4 : bad * bad ≤ 10010 * 10010 := Int.mul_le_mul (by omega) (by omega) (by omega) (by omega)
  omega
noncomputable def GCoI : Ctx := { fn := fun f => if f = 80 then some φBad else if f = 119 then some φCost else none, io := fun f => none }
theorem GCoI_ok : SoundΓ Try.prog GCoI := ⟨(fun f φ h => by
  unfold GCoI at h
  dsimp only at h
  split at h
  · rename_i hf; cases h; subst hf; exact ⟨⟨_, Try.func80, rfl, rfl⟩, isBad_ok⟩
  split at h
  · rename_i hf; cases h; subst hf; exact ⟨⟨_, Try.func119, rfl, rfl⟩, isCost_ok⟩
  cases h), (fun f φ h => by
  unfold GCoI at h
  dsimp only at h
  cases h), rfl⟩
theorem GCoI_80 (ob : Objs) (ps : List PV) : evCall GCoI ob 80 ps = (ps.mapM (reify false 0 ob fuel)).bind φBad := by
  have h : GCoI.fn 80 = some φBad := by simp [GCoI]
  unfold evCall
  rw [h]
  cases ps.mapM (reify false 0 ob fuel) <;> rfl
theorem GCoI_119 (ob : Objs) (ps : List PV) : evCall GCoI ob 119 ps = (ps.mapM (reify false 0 ob fuel)).bind φCost := by
  have h : GCoI.fn 119 = some φCost := by simp [GCoI]
  unfold evCall
  rw [h]
  cases ps.mapM (reify false 0 ob fuel) <;> rfl
theorem implCo_ok : Sound Try.prog 115 φCo := by
  refine sound_pq mixed GCoI_ok Try.func115 rfl 27 rfl [.tmp 4] rfl (by kernel_rfl) fun ps r hr => ?_
  obtain ⟨bad, c, rfl, hq⟩ := F2_some hr
  clear hr
  split at hq
  case isFalse => cases hq
  case isTrue hpre =>
  cases hq
  refine ⟨by simp, ?_⟩
  simp only [dIs, dUs, dSs, dI_e, dU_e, dB_e, dS_e, dFn_e, dL_e, dA2_e, dA3_e, dA4_e, dA5_e]
  obtain ⟨h1, h2⟩ := hpre
  have ap : φBad [.val (.int .i64 bad)] = some (.val (.bool true)) := (φBad_ap bad).trans (by rw [inB_iff.2 h1])
  have ap2 : φCost [.val (.int .i64 c)] = some (.val (.bool true)) := (φCost_ap c).trans (by
    have : costB c = true := by
      unfold costB
      rcases h2 with h2 | h2
      · rw [inB_iff.2 h2]; rfl
      · rw [decide_eq_true h2, Bool.or_true]
    rw [this])
  have s1 := sq_rng (bad := 10 + bad) ⟨by omega, by omega⟩
  have w1 := wrap_id (n := (10 + bad) * (10 + bad)) (by omega) (by omega)
  unfold costR
  have gcoi_c80 := GCoI_80; have gcoi_c119 := GCoI_119
  by_cases hc : c = -10000
  · subst hc
    rw [if_pos rfl]
    clear h2
    (repeat' (first | (with_reducible first | apply i_seq | apply i_block | apply i_skip | apply i_exit | apply i_ret | apply i_kS | apply i_kSx | apply i_kSr | apply i_kL | apply i_kLx | apply i_kLr | apply i_kB | apply i_kBr | apply i_kBs | apply i_nil) | ((with_reducible apply i_region); (simp only [List.map_cons, List.map_nil] <;> exact rfl)) | ((with_reducible apply i_draw); (simp only [List.map_cons, List.map_nil] <;> exact rfl); decide +kernel) | ((with_reducible apply i_kBo); rfl) | ((first | ((with_reducible apply i_V); rfl; rfl; rfl) | ((first | ((with_reducible apply i_E); rfl) | ((with_reducible apply i_S); rfl)); first | rfl | (simp only [push_cast, ↓reduceIte])) | ((with_reducible apply i_Vq); rfl; rfl) | ((with_reducible apply i_Vp); rfl; rfl; rfl) | (with_reducible first | apply i_Gb | apply i_cond)); (simp (disch := (first | omega | (simp only [push_cast]; first | done | omega))) only [push_cast, ↓reduceIte, Nat.reduceEqDiff, Nat.reduceBEq, Nat.reduceAdd, Nat.reduceSub, Int.reduceToNat, *] <;> with_reducible exact rfl); all_goals try (first | (with_reducible first | refine hyT ?_ | refine hyF ?_ | exact hyA | exact hyB) | (intro hX; first | (cases hX; done) | ((try simp only [decide_eq_true_eq, decide_eq_false_iff_not, Bool.not_eq_true', Bool.not_eq_false'] at hX); (try have hXb := inB_iff.1 hX))))))); all_goals try (exfalso; omega)
    all_goals ((first | apply i_end | apply i_endN); simp (disch := (first | omega | (simp only [push_cast]; first | done | omega))) only [push_cast, ↓reduceIte, Nat.reduceEqDiff, Nat.reduceBEq, Nat.reduceAdd, Nat.reduceSub, Int.reduceToNat, *])
    all_goals ((refine congrArg (fun z => some (PV.val (Value.int IntKind.i64 z))) ?_); omega)
  · have s2 := sq_rng (bad := c) ⟨by omega, by omega⟩
    have w2 := wrap_id (n := c * c) (by omega) (by omega)
    rw [if_neg hc]
    have w3 := wrap_id (n := (10 + bad) * (10 + bad) + c * c) (by omega) (by omega)
    clear h2
    exact wlkF
noncomputable def GCoS : Ctx := { fn := fun f => if f = 62 then some φIn else none, io := fun f => none }
theorem GCoS_ok : SoundΓ Try.prog GCoS := ⟨(fun f φ h => by
  unfold GCoS at h
  dsimp only at h
  split at h
  · rename_i hf; cases h; subst hf; exact ⟨⟨_, Try.func62, rfl, rfl⟩, l1In_ok⟩
  cases h), (fun f φ h => by
  unfold GCoS at h
  dsimp only at h
  cases h), rfl⟩
theorem GCoS_62 (ob : Objs) (ps : List PV) : evCall GCoS ob 62 ps = (ps.mapM (reify false 0 ob fuel)).bind φIn := by
  have h : GCoS.fn 62 = some φIn := by simp [GCoS]
  unfold evCall
  rw [h]
  cases ps.mapM (reify false 0 ob fuel) <;> rfl
theorem specCo_ok : Sound Try.prog 67 φCo := by
  refine sound_pq mixed GCoS_ok Try.func67 rfl 31 rfl [.tmp 4] rfl (by kernel_rfl) fun ps r hr => ?_
  obtain ⟨bad, c, rfl, hq⟩ := F2_some hr
  clear hr
  split at hq
  case isFalse => cases hq
  case isTrue hpre =>
  cases hq
  refine ⟨by simp, ?_⟩
  simp only [dIs, dUs, dSs, dI_e, dU_e, dB_e, dS_e, dFn_e, dL_e, dA2_e, dA3_e, dA4_e, dA5_e]
  obtain ⟨h1, h2⟩ := hpre
  have ap : φIn [.val (.int .i64 bad), .val (.int .i64 0), .val (.int .i64 10000)] = some (.val (.bool true)) := (φIn_ap _ _ _).trans (by rw [inB_iff.2 h1])
  have s1 := sq_rng (bad := 10 + bad) ⟨by omega, by omega⟩
  have w1 := wrap_id (n := (10 + bad) * (10 + bad)) (by omega) (by omega)
  unfold costR
  have gcos_c62 := GCoS_62
  by_cases hc : c = -10000
  · have ap2 : φIn [.val (.int .i64 c), .val (.int .i64 0), .val (.int .i64 10000)] = some (.val (.bool false)) := (φIn_ap _ _ _).trans (by rw [show inB c 0 10000 = false from Bool.eq_false_iff.2 fun q => by have := inB_iff.1 q; omega])
    subst hc
    rw [if_pos rfl]
    clear h2
    (repeat' (first | (with_reducible first | apply i_seq | apply i_block | apply i_skip | apply i_exit | apply i_ret | apply i_kS | apply i_kSx | apply i_kSr | apply i_kL | apply i_kLx | apply i_kLr | apply i_kB | apply i_kBr | apply i_kBs | apply i_nil) | ((with_reducible apply i_region); (simp only [List.map_cons, List.map_nil] <;> exact rfl)) | ((with_reducible apply i_draw); (simp only [List.map_cons, List.map_nil] <;> exact rfl); decide +kernel) | ((with_reducible apply i_kBo); rfl) | ((first | ((with_reducible apply i_V); rfl; rfl; rfl) | ((first | ((with_reducible apply i_E); rfl) | ((with_reducible apply i_S); rfl)); first | rfl | (simp only [push_cast, ↓reduceIte])) | ((with_reducible apply i_Vq); rfl; rfl) | ((with_reducible apply i_Vp); rfl; rfl; rfl) | (with_reducible first | apply i_Gb | apply i_cond)); (simp (disch := (first | omega | (simp only [push_cast]; first | done | omega))) only [push_cast, ↓reduceIte, Nat.reduceEqDiff, Nat.reduceBEq, Nat.reduceAdd, Nat.reduceSub, Int.reduceToNat, *] <;> with_reducible exact rfl); all_goals try (first | (with_reducible first | refine hyT ?_ | refine hyF ?_ | exact hyA | exact hyB) | (intro hX; first | (cases hX; done) | ((try simp only [decide_eq_true_eq, decide_eq_false_iff_not, Bool.not_eq_true', Bool.not_eq_false'] at hX); (try have hXb := inB_iff.1 hX))))))); all_goals try (exfalso; omega)
    all_goals ((first | apply i_end | apply i_endN); simp (disch := (first | omega | (simp only [push_cast]; first | done | omega))) only [push_cast, ↓reduceIte, Nat.reduceEqDiff, Nat.reduceBEq, Nat.reduceAdd, Nat.reduceSub, Int.reduceToNat, *])
    all_goals ((refine congrArg (fun z => some (PV.val (Value.int IntKind.i64 z))) ?_); omega)
  · have h3 : 0 ≤ c ∧ c ≤ 10000 := by omega
    have ap2 : φIn [.val (.int .i64 c), .val (.int .i64 0), .val (.int .i64 10000)] = some (.val (.bool true)) := (φIn_ap _ _ _).trans (by rw [inB_iff.2 h3])
    have s2 := sq_rng (bad := c) ⟨by omega, by omega⟩
    have w2 := wrap_id (n := c * c) (by omega) (by omega)
    rw [if_neg hc]
    have w3 := wrap_id (n := (10 + bad) * (10 + bad) + c * c) (by omega) (by omega)
    clear h2
    by_cases h0 : c = 0
    · subst h0
      clear s2 w2 w3
      (repeat' (first | (with_reducible first | apply i_seq | apply i_block | apply i_skip | apply i_exit | apply i_ret | apply i_kS | apply i_kSx | apply i_kSr | apply i_kL | apply i_kLx | apply i_kLr | apply i_kB | apply i_kBr | apply i_kBs | apply i_nil) | ((with_reducible apply i_region); (simp only [List.map_cons, List.map_nil] <;> exact rfl)) | ((with_reducible apply i_draw); (simp only [List.map_cons, List.map_nil] <;> exact rfl); decide +kernel) | ((with_reducible apply i_kBo); rfl) | ((first | ((with_reducible apply i_V); rfl; rfl; rfl) | ((first | ((with_reducible apply i_E); rfl) | ((with_reducible apply i_S); rfl)); first | rfl | (simp only [push_cast, ↓reduceIte])) | ((with_reducible apply i_Vq); rfl; rfl) | ((with_reducible apply i_Vp); rfl; rfl; rfl) | (with_reducible first | apply i_Gb | apply i_cond)); (simp (disch := (first | omega | (simp only [push_cast]; first | done | omega))) only [push_cast, ↓reduceIte, Nat.reduceEqDiff, Nat.reduceBEq, Nat.reduceAdd, Nat.reduceSub, Int.reduceToNat, *] <;> with_reducible exact rfl); all_goals try (first | (with_reducible first | refine hyT ?_ | refine hyF ?_ | exact hyA | exact hyB) | (intro hX; first | (cases hX; done) | ((try simp only [decide_eq_true_eq, decide_eq_false_iff_not, Bool.not_eq_true', Bool.not_eq_false'] at hX); (try have hXb := inB_iff.1 hX))))))); all_goals try (exfalso; omega)
      all_goals ((first | apply i_end | apply i_endN); simp (disch := (first | omega | (simp only [push_cast]; first | done | omega))) only [push_cast, ↓reduceIte, Nat.reduceEqDiff, Nat.reduceBEq, Nat.reduceAdd, Nat.reduceSub, Int.reduceToNat, *])
      all_goals ((refine congrArg (fun z => some (PV.val (Value.int IntKind.i64 z))) ?_); omega)
    · exact wlkF
end Go.Proofs.Ytngcedklbinhjaa
namespace Go.Proofs.Ytngcedklbinhjaa
open Go.RowKit
set_option linter.all false
abbrev okLn (l : List It) (n m : Int) : Prop := itemsB l = true ∧ -1 ≤ n ∧ n < m ∧ m < l.length
section
variable {α β γ δ ε : Type} {A : Dec α} {B : Dec β} {C : Dec γ} {D : Dec δ} {E : Dec ε}
def F5 (A : Dec α) (B : Dec β) (C : Dec γ) (D : Dec δ) (E : Dec ε) (F : α → β → γ → δ → ε → Option PV) : Fun := fun ps => match ps with
  | [p, q, r, s, t] => (A.d p).bind fun a => (B.d q).bind fun b => (C.d r).bind fun c => (D.d s).bind fun d => (E.d t).bind fun e => F a b c d e
  | _ => none
theorem F5_some {F : α → β → γ → δ → ε → Option PV} {ps : List PV} {r : PV} (h : F5 A B C D E F ps = some r) : ∃ a b c d e, ps = [A.e a, B.e b, C.e c, D.e d, E.e e] ∧ F a b c d e = some r := by
  unfold F5 at h
  split at h
  · simp only [Option.bind_eq_some_iff] at h
    obtain ⟨a, h1, b, h2, c, h3, d, h4, e, h5, h6⟩ := h
    exact ⟨a, b, c, d, e, by rw [A.h _ _ h1, B.h _ _ h2, C.h _ _ h3, D.h _ _ h4, E.h _ _ h5], h6⟩
  · cases h
theorem F5_ap {F : α → β → γ → δ → ε → Option PV} (a : α) (b : β) (c : γ) (d : δ) (e : ε) : F5 A B C D E F [A.e a, B.e b, C.e c, D.e d, E.e e] = F a b c d e := by simp [F5, A.h', B.h', C.h', D.h', E.h']
end
noncomputable def φBd : Fun := F4 dIts dI dI dI fun l n m wd => open Classical in if okLn l n m ∧ (0 ≤ wd ∧ wd ≤ 1000) ∧ startN l (n + 1).toNat ≤ m.toNat then some (.tup [iv (badL l wd (n + 1).toNat m.toNat).1, bv (badL l wd (n + 1).toNat m.toNat).2]) else none
theorem φBd_ap {l : List It} {a en : Nat} {wd : Int} (h : itemsB l = true) (h2 : a ≤ en) (h3 : en < l.length) (h4 : 0 ≤ wd ∧ wd ≤ 1000) (h5 : startN l a ≤ en) : φBd [lsIt l, .val (.int .i64 ((a : Int) - 1)), .val (.int .i64 en), .val (.int .i64 wd)] = some (.tup [.val (.int .i64 (badL l wd a en).1), .val (.bool (badL l wd a en).2)]) :=
  (F4_ap (A := dIts) (B := dI) (C := dI) (D := dI) l ((a : Int) - 1) en wd).trans (by
    rw [show ((a : Int) - 1 + 1).toNat = a by omega, Int.toNat_natCast]
    exact if_pos ⟨⟨h, by omega, by omega, by omega⟩, h4, h5⟩)
noncomputable def GL7b : Ctx := { fn := fun f => if f = 84 then some φSt else if f = 86 then some φSum else if f = 87 then some φBadn else none, io := fun f => none }
theorem GL7b_ok : SoundΓ Try.prog GL7b := ⟨(fun f φ h => by
  unfold GL7b at h
  dsimp only at h
  split at h
  · rename_i hf; cases h; subst hf; exact ⟨⟨_, Try.func84, rfl, rfl⟩, specSt_ok⟩
  split at h
  · rename_i hf; cases h; subst hf; exact ⟨⟨_, Try.func86, rfl, rfl⟩, specSum_ok⟩
  split at h
  · rename_i hf; cases h; subst hf; exact ⟨⟨_, Try.func87, rfl, rfl⟩, specBadn_ok⟩
  cases h), (fun f φ h => by
  unfold GL7b at h
  dsimp only at h
  cases h), rfl⟩
theorem GL7b_84 (ob : Objs) (ps : List PV) : evCall GL7b ob 84 ps = (ps.mapM (reify false 0 ob fuel)).bind φSt := by
  have h : GL7b.fn 84 = some φSt := by simp [GL7b]
  unfold evCall
  rw [h]
  cases ps.mapM (reify false 0 ob fuel) <;> rfl
theorem GL7b_86 (ob : Objs) (ps : List PV) : evCall GL7b ob 86 ps = (ps.mapM (reify false 0 ob fuel)).bind φSum := by
  have h : GL7b.fn 86 = some φSum := by simp [GL7b]
  unfold evCall
  rw [h]
  cases ps.mapM (reify false 0 ob fuel) <;> rfl
theorem GL7b_87 (ob : Objs) (ps : List PV) : evCall GL7b ob 87 ps = (ps.mapM (reify false 0 ob fuel)).bind φBadn := by
  have h : GL7b.fn 87 = some φBadn := by simp [GL7b]
  unfold evCall
  rw [h]
  cases ps.mapM (reify false 0 ob fuel) <;> rfl
set_option maxHeartbeats 8000000 in
theorem specBd_ok : Sound Try.prog 65 φBd := by
  refine sound_pq mixed GL7b_ok Try.func65 rfl 45 rfl [.tmp 8, .tmp 9] rfl (by kernel_rfl) fun ps r hr => ?_
  obtain ⟨l, n, m, wd, rfl, hq⟩ := F4_some hr
  clear hr
  split at hq
  case isFalse => cases hq
  case isTrue hpre =>
  cases hq
  refine ⟨by simp, ?_⟩
  simp only [dIs, dUs, dSs, dI_e, dU_e, dB_e, dS_e, dFn_e, dL_e, dA2_e, dA3_e, dA4_e, dA5_e]
  obtain ⟨⟨hB, hn0, hn1, hn2⟩, hw, hst⟩ := hpre
  obtain ⟨a, rfl⟩ : ∃ a : Nat, n = (a : Int) - 1 := ⟨(n + 1).toNat, by omega⟩
  obtain ⟨en, rfl⟩ : ∃ en : Nat, m = en := ⟨m.toNat, by omega⟩
  show pq _ _ _ _ _ (initS [lsIt l, .val (.int .i64 ((a : Int) - 1)), .val (.int .i64 en), .val (.int .i64 wd)]).tm _ _
  rw [show ((a : Int) - 1 + 1).toNat = a by omega, Int.toNat_natCast] at hst ⊢
  have ap1 := φSt_ap (a := a) hB (by omega)
  have ap2 := φSum_ap hB hst (by omega)
  obtain ⟨g1, g2⟩ := gluesF_ok (b := startN l a) hB (show en < l.length by omega)
  obtain ⟨⟨o1, o2, o3, o4⟩, t1, t2, t3⟩ := tot_ok g1 g2
  have hE : badL l wd a en = badG (totR (gluesF l (startN l a) en)) wd := rfl
  rw [hE]
  have hl := items_len hB
  clear hB g1 g2 hE
  generalize startN l a = s9 at *
  generalize totR (gluesF l s9 en) = t at *
  obtain ⟨tw, ts, th, tod⟩ := t
  dsimp only at o1 o2 o3 o4 t1 t2 t3
  have hG : badG (tw, ts, th, tod) wd = if tw ≤ wd then (if tod = 1 then (0, true) else (badR (wd - tw) ts, true)) else if tw - wd ≤ th then (badR (tw - wd) th, false) else (-1, false) := rfl
  rw [hG]
  by_cases h1 : tw ≤ wd
  · have ap3 := φBadn_ap (need := wd - tw) (room := ts) ⟨⟨by omega, by omega⟩, by omega, by omega⟩
    rw [if_pos h1]
    by_cases h2 : tod = 1
    · rw [if_pos h2]
      subst h2
      have gl7b_c84 := GL7b_84; have gl7b_c86 := GL7b_86; have gl7b_c87 := GL7b_87
      exact wlkF
    · rw [if_neg h2]
      generalize badR (wd - tw) ts = bd at *
      have gl7b_c84 := GL7b_84; have gl7b_c86 := GL7b_86; have gl7b_c87 := GL7b_87
      exact wlkF
  · rw [if_neg h1]
    by_cases h2 : tw - wd ≤ th
    · have ap3 := φBadn_ap (need := tw - wd) (room := th) ⟨⟨by omega, by omega⟩, by omega, by omega⟩
      rw [if_pos h2]
      generalize badR (tw - wd) th = bd at *
      have gl7b_c84 := GL7b_84; have gl7b_c86 := GL7b_86; have gl7b_c87 := GL7b_87
      exact wlkF
    · rw [if_neg h2]
      have gl7b_c84 := GL7b_84; have gl7b_c86 := GL7b_86; have gl7b_c87 := GL7b_87
      exact wlkF
noncomputable def φBw : Fun := F5 dIts dI dI dI dI fun l n m be lk => open Classical in if okLn l n m ∧ (0 ≤ be ∧ be ≤ 3) ∧ 0 ≤ lk ∧ lk ≤ 3 then some (iv (betwR l (n + 1).toNat m.toNat be lk)) else none
theorem φBw_ap {l : List It} {a en : Nat} {be lk : Int} (h : itemsB l = true) (h2 : a ≤ en) (h3 : en < l.length) (h4 : 0 ≤ be ∧ be ≤ 3) (h5 : 0 ≤ lk ∧ lk ≤ 3) : φBw [lsIt l, .val (.int .i64 ((a : Int) - 1)), .val (.int .i64 en), .val (.int .i64 be), .val (.int .i64 lk)] = some (.val (.int .i64 (betwR l a en be lk))) :=
  (F5_ap (A := dIts) (B := dI) (C := dI) (D := dI) (E := dI) l ((a : Int) - 1) en be lk).trans (by
    rw [show ((a : Int) - 1 + 1).toNat = a by omega, Int.toNat_natCast]
    exact if_pos ⟨⟨h, by omega, by omega, by omega⟩, h4, h5⟩)
set_option maxHeartbeats 8000000 in
theorem specBw_ok : Sound Try.prog 68 φBw := by
  refine sound_pq mixed GE_ok Try.func68 rfl 45 rfl [.tmp 10] rfl (by kernel_rfl) fun ps r hr => ?_
  obtain ⟨l, n, m, be, lk, rfl, hq⟩ := F5_some hr
  clear hr
  split at hq
  case isFalse => cases hq
  case isTrue hpre =>
  cases hq
  refine ⟨by simp, ?_⟩
  simp only [dIs, dUs, dSs, dI_e, dU_e, dB_e, dS_e, dFn_e, dL_e, dA2_e, dA3_e, dA4_e, dA5_e]
  obtain ⟨⟨hB, hn0, hn1, hn2⟩, hbe, hlk⟩ := hpre
  obtain ⟨a, rfl⟩ : ∃ a : Nat, n = (a : Int) - 1 := ⟨(n + 1).toNat, by omega⟩
  obtain ⟨en, rfl⟩ : ∃ en : Nat, m = en := ⟨m.toNat, by omega⟩
  show pq _ _ _ _ _ (initS [lsIt l, .val (.int .i64 ((a : Int) - 1)), .val (.int .i64 en), .val (.int .i64 be), .val (.int .i64 lk)]).tm _ _
  rw [show ((a : Int) - 1 + 1).toNat = a by omega, Int.toNat_natCast]
  have hl := items_len hB
  have hE : betwR l a en be lk = (if 0 < a ∧ (l[a - 1]?.getD it0).2.2.2.2.2.2 = true ∧ (l[en]?.getD it0).2.2.2.2.2.2 = true then 3000 else 0) + (if 0 < a ∧ (1 < be - lk ∨ be - lk < -1) then 3000 else 0) := rfl
  rw [hE]
  have hti : 0 < a → ((a : Int) - 1).toNat = a - 1 := fun h => by omega
  clear hB hE
  by_cases h0 : 0 < a
  · have hti := hti h0
    generalize hx : l[a - 1]?.getD it0 = x at *
    generalize hy : l[en]?.getD it0 = y at *
    obtain ⟨x1, x2, x3, x4, x5, x6, x7⟩ := x
    obtain ⟨y1, y2, y3, y4, y5, y6, y7⟩ := y
    dsimp only
    have hd : be - lk = -3 ∨ be - lk = -2 ∨ be - lk = -1 ∨ be - lk = 0 ∨ be - lk = 1 ∨ be - lk = 2 ∨ be - lk = 3 := by omega
    have hd2 : (if lk - be > be - lk then lk - be else be - lk) > 1 ↔ (1 < be - lk ∨ be - lk < -1) := by split <;> omega
    clear hd
    cases x7 <;> cases y7 <;> by_cases hz : 1 < be - lk ∨ be - lk < -1 <;>
    · have hz2 := hz
      rw [← hd2] at hz2
      clear hd2
      (repeat' (first | (with_reducible first | apply i_seq | apply i_block | apply i_skip | apply i_exit | apply i_ret | apply i_kS | apply i_kSx | apply i_kSr | apply i_kL | apply i_kLx | apply i_kLr | apply i_kB | apply i_kBr | apply i_kBs | apply i_nil) | ((with_reducible apply i_region); (simp only [List.map_cons, List.map_nil] <;> exact rfl)) | ((with_reducible apply i_draw); (simp only [List.map_cons, List.map_nil] <;> exact rfl); decide +kernel) | ((with_reducible apply i_kBo); rfl) | ((first | ((with_reducible apply i_V); rfl; rfl; rfl) | ((first | ((with_reducible apply i_E); rfl) | ((with_reducible apply i_S); rfl)); first | rfl | (simp only [push_cast, ↓reduceIte])) | ((with_reducible apply i_Vq); rfl; rfl) | ((with_reducible apply i_Vp); rfl; rfl; rfl) | (with_reducible first | apply i_Gb | apply i_cond)); (simp (disch := (first | omega | (simp only [push_cast]; first | done | omega))) only [push_cast, ↓reduceIte, Nat.reduceEqDiff, Nat.reduceBEq, Nat.reduceAdd, Nat.reduceSub, Int.reduceToNat, *] <;> with_reducible exact rfl); all_goals try (first | (with_reducible first | refine hyT ?_ | refine hyF ?_ | exact hyA | exact hyB) | (intro hX; first | (cases hX; done) | ((try simp only [decide_eq_true_eq, decide_eq_false_iff_not, Bool.not_eq_true', Bool.not_eq_false'] at hX); (try have hXb := inB_iff.1 hX))))))); all_goals try (exfalso; omega)
      all_goals ((first | apply i_end | apply i_endN); simp (disch := (first | omega | (simp only [push_cast]; first | done | omega))) only [push_cast, ↓reduceIte, Nat.reduceEqDiff, Nat.reduceBEq, Nat.reduceAdd, Nat.reduceSub, Int.reduceToNat, *])
      all_goals (simp [h0]; try omega)
  · obtain rfl : a = 0 := by omega
    generalize hy : l[en]?.getD it0 = y at *
    obtain ⟨y1, y2, y3, y4, y5, y6, y7⟩ := y
    clear hti
    rw [if_neg (fun q => h0 q.1), if_neg (fun q => h0 q.1)]
    simp only [Int.natCast_zero, Int.zero_sub]
    (repeat' (first | (with_reducible first | apply i_seq | apply i_block | apply i_skip | apply i_exit | apply i_ret | apply i_kS | apply i_kSx | apply i_kSr | apply i_kL | apply i_kLx | apply i_kLr | apply i_kB | apply i_kBr | apply i_kBs | apply i_nil) | ((with_reducible apply i_region); (simp only [List.map_cons, List.map_nil] <;> exact rfl)) | ((with_reducible apply i_draw); (simp only [List.map_cons, List.map_nil] <;> exact rfl); decide +kernel) | ((with_reducible apply i_kBo); rfl) | ((first | ((with_reducible apply i_V); rfl; rfl; rfl) | ((first | ((with_reducible apply i_E); rfl) | ((with_reducible apply i_S); rfl)); first | rfl | (simp only [push_cast, ↓reduceIte])) | ((with_reducible apply i_Vq); rfl; rfl) | ((with_reducible apply i_Vp); rfl; rfl; rfl) | (with_reducible first | apply i_Gb | apply i_cond)); (simp (disch := (first | omega | (simp only [push_cast]; first | done | omega))) only [push_cast, ↓reduceIte, Nat.reduceEqDiff, Nat.reduceBEq, Nat.reduceAdd, Nat.reduceSub, Int.reduceToNat, *] <;> with_reducible exact rfl); all_goals try (first | (with_reducible first | refine hyT ?_ | refine hyF ?_ | exact hyA | exact hyB) | (intro hX; first | (cases hX; done) | ((try simp only [decide_eq_true_eq, decide_eq_false_iff_not, Bool.not_eq_true', Bool.not_eq_false'] at hX); (try have hXb := inB_iff.1 hX))))))); all_goals try (exfalso; omega)
    all_goals ((first | apply i_end | apply i_endN); simp (disch := (first | omega | (simp only [push_cast]; first | done | omega))) only [push_cast, ↓reduceIte, Nat.reduceEqDiff, Nat.reduceBEq, Nat.reduceAdd, Nat.reduceSub, Int.reduceToNat, *])
    all_goals simp
noncomputable def φLi : Fun := F3 dIts dI dI fun l n m => open Classical in if okLn l n m then some (.tup [.lst true 1 ((if lineQ l (n + 1).toNat m.toNat = true then idxL l (startN l (n + 1).toNat) m.toNat else []).map fun n => .val (.int .i64 n)), bv (lineQ l (n + 1).toNat m.toNat)]) else none
theorem φLi_ap {l : List It} {a en : Nat} (h : itemsB l = true) (h2 : a ≤ en) (h3 : en < l.length) : φLi [lsIt l, .val (.int .i64 ((a : Int) - 1)), .val (.int .i64 en)] = some (.tup [.lst true 1 ((if lineQ l a en = true then idxL l (startN l a) en else []).map fun n => .val (.int .i64 n)), .val (.bool (lineQ l a en))]) :=
  (F3_ap (A := dIts) (B := dI) (C := dI) l ((a : Int) - 1) en).trans ((if_pos ⟨h, by omega, by omega, by omega⟩).trans (by rw [show ((a : Int) - 1 + 1).toNat = a by omega, Int.toNat_natCast]))
theorem tup_nil {b : Bool} : (PV.tup [.val (.slice none 0 0), .val (.bool b)]).le (.tup [.lst true 1 [], .val (.bool b)]) := tup_le ⟨nil_le _ _, PV.le_refl _, trivial⟩
noncomputable def GLi : Ctx := { fn := fun f => if f = 95 then some φIts else if f = 97 then some φMb else if f = 98 then some φSt else if f = 99 then some φFc else none, io := fun f => none }
theorem GLi_ok : SoundΓ Try.prog GLi := ⟨(fun f φ h => by
  unfold GLi at h
  dsimp only at h
  split at h
  · rename_i hf; cases h; subst hf; exact ⟨⟨_, Try.func95, rfl, rfl⟩, implIts_ok⟩
  split at h
  · rename_i hf; cases h; subst hf; exact ⟨⟨_, Try.func97, rfl, rfl⟩, implMb_ok⟩
  split at h
  · rename_i hf; cases h; subst hf; exact ⟨⟨_, Try.func98, rfl, rfl⟩, implSt_ok⟩
  split at h
  · rename_i hf; cases h; subst hf; exact ⟨⟨_, Try.func99, rfl, rfl⟩, implFc_ok⟩
  cases h), (fun f φ h => by
  unfold GLi at h
  dsimp only at h
  cases h), rfl⟩
theorem GLi_95 (ob : Objs) (ps : List PV) : evCall GLi ob 95 ps = (ps.mapM (reify false 0 ob fuel)).bind φIts := by
  have h : GLi.fn 95 = some φIts := by simp [GLi]
  unfold evCall
  rw [h]
  cases ps.mapM (reify false 0 ob fuel) <;> rfl
theorem GLi_97 (ob : Objs) (ps : List PV) : evCall GLi ob 97 ps = (ps.mapM (reify false 0 ob fuel)).bind φMb := by
  have h : GLi.fn 97 = some φMb := by simp [GLi]
  unfold evCall
  rw [h]
  cases ps.mapM (reify false 0 ob fuel) <;> rfl
theorem GLi_98 (ob : Objs) (ps : List PV) : evCall GLi ob 98 ps = (ps.mapM (reify false 0 ob fuel)).bind φSt := by
  have h : GLi.fn 98 = some φSt := by simp [GLi]
  unfold evCall
  rw [h]
  cases ps.mapM (reify false 0 ob fuel) <;> rfl
theorem GLi_99 (ob : Objs) (ps : List PV) : evCall GLi ob 99 ps = (ps.mapM (reify false 0 ob fuel)).bind φFc := by
  have h : GLi.fn 99 = some φFc := by simp [GLi]
  unfold evCall
  rw [h]
  cases ps.mapM (reify false 0 ob fuel) <;> rfl
set_option maxHeartbeats 16000000 in
theorem implLi_ok : Sound Try.prog 77 φLi := by
  refine sound_pqW mixed GLi_ok Try.func77 rfl 73 rfl [.tmp 6, .tmp 7] rfl (by kernel_rfl) fun ps r hr => ?_
  obtain ⟨l, n, m, rfl, hq⟩ := F3_some hr
  clear hr
  split at hq
  case isFalse => cases hq
  case isTrue hpre =>
  cases hq
  refine ⟨by simp, ?_⟩
  simp only [dIs, dUs, dSs, dI_e, dU_e, dB_e, dS_e, dFn_e, dL_e, dA2_e, dA3_e, dA4_e, dA5_e]
  obtain ⟨hB, hn0, hn1, hn2⟩ := hpre
  obtain ⟨a, rfl⟩ : ∃ a : Nat, n = (a : Int) - 1 := ⟨(n + 1).toNat, by omega⟩
  obtain ⟨en, rfl⟩ : ∃ en : Nat, m = en := ⟨m.toNat, by omega⟩
  have hl := items_len hB
  have hae : a ≤ en := by omega
  have hel : en < l.length := by omega
  show pq _ _ _ _ _ (initS [lsIt l, .val (.int .i64 ((a : Int) - 1)), .val (.int .i64 en)]).tm _ _
  rw [show ((a : Int) - 1 + 1).toNat = a by omega, Int.toNat_natCast]
  have ap1 := φIts_ap (l := l) (by omega)
  rw [hB] at ap1
  have ap2 := φMb_ap (n := en) hB ⟨by omega, by omega⟩
  rw [decide_eq_true (show (0 : Int) ≤ en ∧ (en : Int) < l.length by omega), Bool.true_and, Int.toNat_natCast] at ap2
  have ap3 := φSt_ap (a := a) hB (by omega)
  have hE : lineQ l a en = (brkQ l en && ((decide (a = 0) || brkQ l (a - 1)) && (decide (startN l a ≤ en) && noFc l a en))) := by
    unfold lineQ
    rw [decide_eq_true ⟨hae, hel⟩, Bool.true_and]
  have ap4 : 0 < a → φMb [lsIt l, .val (.int .i64 ((a : Int) - 1))] = some (.val (.bool (brkQ l (a - 1)))) := fun h => by
    have := φMb_ap (n := (a : Int) - 1) hB ⟨by omega, by omega⟩
    rw [decide_eq_true (show (0 : Int) ≤ (a : Int) - 1 ∧ (a : Int) - 1 < l.length by omega), Bool.true_and, show ((a : Int) - 1).toNat = a - 1 by omega] at this
    exact this
  have apf := @φFc_ap
  have hsr := (@startN_rng l a).1
  rw [hE]
  clear hE hn0 hn1 hn2 hB
  by_cases hc : brkQ l en = true ∧ (a = 0 ∨ brkQ l (a - 1) = true) ∧ startN l a ≤ en
  · obtain ⟨c1, c2, c3⟩ := hc
    rw [c1] at ap2
    have hE : (brkQ l en && ((decide (a = 0) || brkQ l (a - 1)) && (decide (startN l a ≤ en) && noFc l a en))) = noFc l a en := by
      rw [c1, decide_eq_true c3]
      rcases c2 with c2 | c2
      · rw [decide_eq_true c2]; simp
      · rw [c2]; simp
    rw [hE]
    rcases Nat.eq_zero_or_pos a with h9 | h9
    · subst h9
      replace ap4 : True := trivial
      simp only [Int.natCast_zero, Int.zero_sub] at ap3 ⊢
      clear hE c1 c2
      have hq := fun k => noFc_succ (l := l) (a := 0) (b := k)
      have hno := fun k h1 h2 h3 => noFc_no (l := l) (a := 0) (b := en) (k := k) h1 h2 h3
      have hz0 : noFc l 0 0 = true := noFc_nil (Nat.le_refl _)
      have hiy := fun k => @idxL_yes l (startN l 0) k
      have hin := fun k => @idxL_no l (startN l 0) k
      have hi0 : idxL l (startN l 0) (startN l 0) = [] := idxL_nil (Nat.le_refl _)
      have hil := idxL_len l (startN l 0)
      generalize startN l 0 = s9 at *
      have gli_c95 := GLi_95; have gli_c97 := GLi_97; have gli_c98 := GLi_98; have gli_c99 := GLi_99
      (refine wlk ?_; intros)
      refine i_loop (α := Nat) mixed (fun k => [(0, lsIt l), (1, iv (-1)), (2, iv en), (8, iv k)]) (fun _ => []) (fun _ => 0)
        (fun k => (0 ≤ k ∧ k ≤ en) ∧ noFc l 0 k = true) (fun k => en - k) (by kernel_rfl) 0 ⟨⟨Nat.le_refl _, hae⟩, hz0⟩ ?_ ?_ rfl ?_
      · exact agi
      · exact agr
      rintro k ⟨⟨hk1, hk2⟩, hI⟩
      clear hz0
      by_cases h0 : k < en
      · have hfr : forced (gI l k) = forced (l[k]?.getD it0) := rfl
        have hs := hq k hk1
        rw [hI, Bool.true_and, hfr] at hs
        have hno := fun h => hno k h hk1 h0
        clear hfr hq hI hiy hin hi0 hil ap4 ap3 ap2
        generalize hx : l[k]?.getD it0 = x at *
        obtain ⟨kd, w9, c, d, e, cost, g⟩ := x
        cases hf : forced (kd, w9, c, d, e, cost, g) with
        | true =>
          rw [hf] at hs
          rw [hno hs]
          clear hs hno
          (refine wlk ?_; intros)
          all_goals ((with_reducible apply i_endW (by first | exact .inl rfl | exact .inr rfl)); (simp (disch := (first | omega | (simp only [push_cast]; first | done | omega))) only [push_cast, ↓reduceIte, Nat.reduceEqDiff, Nat.reduceBEq, Nat.reduceAdd, Nat.reduceSub, Int.reduceToNat, *] <;> with_reducible exact rfl))
          all_goals exact tup_nil
        | false =>
          rw [hf] at hs
          replace hs := Lib.hid hs
          clear hno
          (refine wlk ?_; intros)
          refine ⟨k + 1, ⟨⟨by omega, by omega⟩, hs.out⟩, by dsimp only; omega, ?_, ?_, rfl⟩
          · exact agr
          · exact agr
      · obtain rfl : k = en := by omega
        rw [hI, if_pos rfl]
        clear hI hq hno ap4
        (refine wlk ?_; intros)
        refine i_loop (α := Nat × LI × Nat × Nat) mixed (fun z => [(0, lsIt l), (2, iv k), (9, nP 1 (z.2.1.map pvN) z.2.2.1), (10, iv z.1)])
          (fun z => nO 3 1 (z.2.1.map pvN) z.2.2.1) (fun z => z.2.2.2)
          (fun z => (s9 ≤ z.1 ∧ z.1 ≤ k) ∧ z.2.1 = idxL l s9 z.1 ∧ (0 < z.2.1.length → z.2.2.1 < z.2.2.2)) (fun z => k - z.1) (by kernel_rfl) (s9, [], 0, 0) ⟨⟨Nat.le_refl _, c3⟩, hi0.symm, by simp⟩ ?_ ?_ rfl ?_
        · exact agr
        · exact agr
        rintro ⟨j, out, x, y⟩ ⟨⟨hj1, hj2⟩, hI, hxy⟩
        dsimp only at hj1 hj2 hI hxy
        have hol : out.length ≤ 60 := by rw [hI]; have := hil j; omega
        clear hil hi0 ap3 ap2
        by_cases h1 : j < k
        · have hiy := hiy j hj1
          have hin := hin j hj1
          have hkx : (gI l j).kd = (l[j]?.getD it0).1 := rfl
          rw [hkx] at hiy hin
          clear hkx
          generalize hx : l[j]?.getD it0 = z9 at *
          obtain ⟨kd, w9, c, d, e, cost, g⟩ := z9
          dsimp only at hiy hin
          by_cases h3 : kd = 3
          · have hI2 : out = idxL l s9 (j + 1) := by rw [hin h3, ← hI]
            replace hI2 := Lib.hid hI2
            clear hI hiy hin
            (refine wlk ?_; intros)
            refine ⟨(j + 1, out, x, y), ⟨⟨by dsimp only; omega, by dsimp only; omega⟩, hI2.out, hxy⟩, by dsimp only; omega, ?_, agreeO_n2, rfl⟩
            · exact agr
          · have hI2 : out ++ [(j : Int)] = idxL l s9 (j + 1) := by rw [hiy h3, ← hI]
            replace hI2 := Lib.hid hI2
            clear hI hiy hin
            by_cases hz : out.length = 0
            · obtain rfl : out = [] := List.eq_nil_of_length_eq_zero hz
              (refine wlk ?_; intros)
              refine ⟨(j + 1, [] ++ [(j : Int)], y + 1, y + 2), ⟨⟨by dsimp only; omega, by dsimp only; omega⟩, hI2.out, fun _ => by dsimp only; omega⟩, by dsimp only; omega, ?_, ?_, rfl⟩
              · exact agr
              · exact agr
            · have hxy := hxy (by omega)
              have hap : 0 < (out.map pvN).length := by rw [List.length_map]; omega
              clear hz
              have hap3 : 0 < ((out ++ [(j : Int)]).map pvN).length := by simp
              simp only [nP_pos hap, nO_pos hap, List.length_map]
              (refine wlk ?_; intros)
              refine ⟨(j + 1, out ++ [(j : Int)], y + 1, y + 2), ⟨⟨by dsimp only; omega, by dsimp only; omega⟩, hI2.out, fun _ => by dsimp only; omega⟩, by dsimp only; omega, ?_, ?_, rfl⟩
              · simp (disch := (first | omega | (simp only [push_cast]; first | done | omega))) only [push_cast, ↓reduceIte, Nat.reduceEqDiff, Nat.reduceBEq, Nat.reduceAdd, Nat.reduceSub, Int.reduceToNat, nP_pos hap3, List.length_append, *]
              · simp (disch := (first | omega | (simp only [push_cast]; first | done | omega))) only [push_cast, ↓reduceIte, Nat.reduceEqDiff, Nat.reduceBEq, Nat.reduceAdd, Nat.reduceSub, Int.reduceToNat, nO_pos hap3, *]
        · obtain rfl : j = k := by omega
          rw [← hI]
          clear hI hiy hin
          by_cases hz : out.length = 0
          · obtain rfl : out = [] := List.eq_nil_of_length_eq_zero hz
            (refine wlk ?_; intros)
            all_goals ((with_reducible apply i_endW (by first | exact .inl rfl | exact .inr rfl)); (simp (disch := (first | omega | (simp only [push_cast]; first | done | omega))) only [push_cast, ↓reduceIte, Nat.reduceEqDiff, Nat.reduceBEq, Nat.reduceAdd, Nat.reduceSub, Int.reduceToNat, *] <;> with_reducible exact rfl))
            all_goals exact tup_nil
          · have hxy := hxy (by omega)
            have hap : 0 < (out.map pvN).length := by rw [List.length_map]; omega
            clear hz
            simp only [nP_pos hap, nO_pos hap, List.length_map]
            (refine wlk ?_; intros)
            all_goals ((with_reducible apply i_endW (by first | exact .inl rfl | exact .inr rfl)); (simp (disch := (first | omega | (simp only [push_cast]; first | done | omega))) only [push_cast, ↓reduceIte, Nat.reduceEqDiff, Nat.reduceBEq, Nat.reduceAdd, Nat.reduceSub, Int.reduceToNat, *] <;> with_reducible exact rfl))
            all_goals exact PV.le_refl _
    · replace ap4 : φMb [lsIt l, .val (.int .i64 ((a : Int) - 1))] = some (.val (.bool true)) := by
        have := ap4 h9
        rcases c2 with c2 | c2
        · omega
        · rwa [c2] at this
      clear hE c1 c2
      have hq := fun k => noFc_succ (l := l) (a := a) (b := k)
      have hno := fun k h1 h2 h3 => noFc_no (l := l) (a := a) (b := en) (k := k) h1 h2 h3
      have hz0 : noFc l a a = true := noFc_nil (Nat.le_refl _)
      have hiy := fun k => @idxL_yes l (startN l a) k
      have hin := fun k => @idxL_no l (startN l a) k
      have hi0 : idxL l (startN l a) (startN l a) = [] := idxL_nil (Nat.le_refl _)
      have hil := idxL_len l (startN l a)
      generalize startN l a = s9 at *
      have gli_c95 := GLi_95; have gli_c97 := GLi_97; have gli_c98 := GLi_98; have gli_c99 := GLi_99
      (refine wlk ?_; intros)
      refine i_loop (α := Nat) mixed (fun k => [(0, lsIt l), (1, iv ((a : Int) - 1)), (2, iv en), (8, iv k)]) (fun _ => []) (fun _ => 0)
        (fun k => (a ≤ k ∧ k ≤ en) ∧ noFc l a k = true) (fun k => en - k) (by kernel_rfl) a ⟨⟨Nat.le_refl _, hae⟩, hz0⟩ ?_ ?_ rfl ?_
      · exact agi
      · exact agr
      rintro k ⟨⟨hk1, hk2⟩, hI⟩
      clear hz0
      by_cases h0 : k < en
      · have hfr : forced (gI l k) = forced (l[k]?.getD it0) := rfl
        have hs := hq k hk1
        rw [hI, Bool.true_and, hfr] at hs
        have hno := fun h => hno k h hk1 h0
        clear hfr hq hI hiy hin hi0 hil ap4 ap3 ap2
        generalize hx : l[k]?.getD it0 = x at *
        obtain ⟨kd, w9, c, d, e, cost, g⟩ := x
        cases hf : forced (kd, w9, c, d, e, cost, g) with
        | true =>
          rw [hf] at hs
          rw [hno hs]
          clear hs hno
          (refine wlk ?_; intros)
          all_goals ((with_reducible apply i_endW (by first | exact .inl rfl | exact .inr rfl)); (simp (disch := (first | omega | (simp only [push_cast]; first | done | omega))) only [push_cast, ↓reduceIte, Nat.reduceEqDiff, Nat.reduceBEq, Nat.reduceAdd, Nat.reduceSub, Int.reduceToNat, *] <;> with_reducible exact rfl))
          all_goals exact tup_nil
        | false =>
          rw [hf] at hs
          replace hs := Lib.hid hs
          clear hno
          (refine wlk ?_; intros)
          refine ⟨k + 1, ⟨⟨by omega, by omega⟩, hs.out⟩, by dsimp only; omega, ?_, ?_, rfl⟩
          · exact agr
          · exact agr
      · obtain rfl : k = en := by omega
        rw [hI, if_pos rfl]
        clear hI hq hno ap4
        (refine wlk ?_; intros)
        refine i_loop (α := Nat × LI × Nat × Nat) mixed (fun z => [(0, lsIt l), (2, iv k), (9, nP 1 (z.2.1.map pvN) z.2.2.1), (10, iv z.1)])
          (fun z => nO 3 1 (z.2.1.map pvN) z.2.2.1) (fun z => z.2.2.2)
          (fun z => (s9 ≤ z.1 ∧ z.1 ≤ k) ∧ z.2.1 = idxL l s9 z.1 ∧ (0 < z.2.1.length → z.2.2.1 < z.2.2.2)) (fun z => k - z.1) (by kernel_rfl) (s9, [], 0, 0) ⟨⟨Nat.le_refl _, c3⟩, hi0.symm, by simp⟩ ?_ ?_ rfl ?_
        · exact agr
        · exact agr
        rintro ⟨j, out, x, y⟩ ⟨⟨hj1, hj2⟩, hI, hxy⟩
        dsimp only at hj1 hj2 hI hxy
        have hol : out.length ≤ 60 := by rw [hI]; have := hil j; omega
        clear hil hi0 ap3 ap2
        by_cases h1 : j < k
        · have hiy := hiy j hj1
          have hin := hin j hj1
          have hkx : (gI l j).kd = (l[j]?.getD it0).1 := rfl
          rw [hkx] at hiy hin
          clear hkx
          generalize hx : l[j]?.getD it0 = z9 at *
          obtain ⟨kd, w9, c, d, e, cost, g⟩ := z9
          dsimp only at hiy hin
          by_cases h3 : kd = 3
          · have hI2 : out = idxL l s9 (j + 1) := by rw [hin h3, ← hI]
            replace hI2 := Lib.hid hI2
            clear hI hiy hin
            (refine wlk ?_; intros)
            refine ⟨(j + 1, out, x, y), ⟨⟨by dsimp only; omega, by dsimp only; omega⟩, hI2.out, hxy⟩, by dsimp only; omega, ?_, agreeO_n2, rfl⟩
            · exact agr
          · have hI2 : out ++ [(j : Int)] = idxL l s9 (j + 1) := by rw [hiy h3, ← hI]
            replace hI2 := Lib.hid hI2
            clear hI hiy hin
            by_cases hz : out.length = 0
            · obtain rfl : out = [] := List.eq_nil_of_length_eq_zero hz
              (refine wlk ?_; intros)
              refine ⟨(j + 1, [] ++ [(j : Int)], y + 1, y + 2), ⟨⟨by dsimp only; omega, by dsimp only; omega⟩, hI2.out, fun _ => by dsimp only; omega⟩, by dsimp only; omega, ?_, ?_, rfl⟩
              · exact agr
              · exact agr
            · have hxy := hxy (by omega)
              have hap : 0 < (out.map pvN).length := by rw [List.length_map]; omega
              clear hz
              have hap3 : 0 < ((out ++ [(j : Int)]).map pvN).length := by simp
              simp only [nP_pos hap, nO_pos hap, List.length_map]
              (refine wlk ?_; intros)
              refine ⟨(j + 1, out ++ [(j : Int)], y + 1, y + 2), ⟨⟨by dsimp only; omega, by dsimp only; omega⟩, hI2.out, fun _ => by dsimp only; omega⟩, by dsimp only; omega, ?_, ?_, rfl⟩
              · simp (disch := (first | omega | (simp only [push_cast]; first | done | omega))) only [push_cast, ↓reduceIte, Nat.reduceEqDiff, Nat.reduceBEq, Nat.reduceAdd, Nat.reduceSub, Int.reduceToNat, nP_pos hap3, List.length_append, *]
              · simp (disch := (first | omega | (simp only [push_cast]; first | done | omega))) only [push_cast, ↓reduceIte, Nat.reduceEqDiff, Nat.reduceBEq, Nat.reduceAdd, Nat.reduceSub, Int.reduceToNat, nO_pos hap3, *]
        · obtain rfl : j = k := by omega
          rw [← hI]
          clear hI hiy hin
          by_cases hz : out.length = 0
          · obtain rfl : out = [] := List.eq_nil_of_length_eq_zero hz
            (refine wlk ?_; intros)
            all_goals ((with_reducible apply i_endW (by first | exact .inl rfl | exact .inr rfl)); (simp (disch := (first | omega | (simp only [push_cast]; first | done | omega))) only [push_cast, ↓reduceIte, Nat.reduceEqDiff, Nat.reduceBEq, Nat.reduceAdd, Nat.reduceSub, Int.reduceToNat, *] <;> with_reducible exact rfl))
            all_goals exact tup_nil
          · have hxy := hxy (by omega)
            have hap : 0 < (out.map pvN).length := by rw [List.length_map]; omega
            clear hz
            simp only [nP_pos hap, nO_pos hap, List.length_map]
            (refine wlk ?_; intros)
            all_goals ((with_reducible apply i_endW (by first | exact .inl rfl | exact .inr rfl)); (simp (disch := (first | omega | (simp only [push_cast]; first | done | omega))) only [push_cast, ↓reduceIte, Nat.reduceEqDiff, Nat.reduceBEq, Nat.reduceAdd, Nat.reduceSub, Int.reduceToNat, *] <;> with_reducible exact rfl))
            all_goals exact PV.le_refl _
  · have hE : (brkQ l en && ((decide (a = 0) || brkQ l (a - 1)) && (decide (startN l a ≤ en) && noFc l a en))) = false := by
      rw [Bool.eq_false_iff]
      intro q
      simp only [Bool.and_eq_true, Bool.or_eq_true, decide_eq_true_eq] at q
      exact hc ⟨q.1, q.2.1, q.2.2.1⟩
    rw [hE, if_neg (by decide)]
    clear hE
    generalize startN l a = s9 at *
    generalize brkQ l en = q1 at *
    generalize brkQ l (a - 1) = q2 at *
    have hq1 : q1 = false ∨ (q1 = true ∧ (s9 ≤ en → 0 < a ∧ q2 = false)) := by
      cases q1 with
      | false => exact .inl rfl
      | true =>
        refine .inr ⟨rfl, fun hs => ?_⟩
        rcases Nat.eq_zero_or_pos a with h | h
        · exact absurd ⟨rfl, .inl h, hs⟩ hc
        · refine ⟨h, ?_⟩
          cases q2 with
          | false => rfl
          | true => exact absurd ⟨rfl, .inr rfl, hs⟩ hc
    clear hc
    rcases Nat.eq_zero_or_pos a with h9 | h9
    · subst h9
      clear ap4
      simp only [Int.natCast_zero, Int.zero_sub] at ap3 ⊢
      have hq2 : q1 = false ∨ (q1 = true ∧ ¬ s9 ≤ en) := hq1.imp id fun h => ⟨h.1, fun hs => absurd (h.2 hs).1 (by omega)⟩
      clear hq1
      rcases hq2 with rfl | ⟨rfl, hs⟩ <;>
      · have gli_c95 := GLi_95; have gli_c97 := GLi_97; have gli_c98 := GLi_98; have gli_c99 := GLi_99
        (refine wlk ?_; intros)
        all_goals ((with_reducible apply i_endW (by first | exact .inl rfl | exact .inr rfl)); (simp (disch := (first | omega | (simp only [push_cast]; first | done | omega))) only [push_cast, ↓reduceIte, Nat.reduceEqDiff, Nat.reduceBEq, Nat.reduceAdd, Nat.reduceSub, Int.reduceToNat, *] <;> with_reducible exact rfl))
        all_goals exact tup_nil
    · have ap4 := ap4 h9
      rcases hq1 with rfl | ⟨rfl, hs⟩
      · cases q2 <;>
        · have gli_c95 := GLi_95; have gli_c97 := GLi_97; have gli_c98 := GLi_98; have gli_c99 := GLi_99
          (refine wlk ?_; intros)
          all_goals ((with_reducible apply i_endW (by first | exact .inl rfl | exact .inr rfl)); (simp (disch := (first | omega | (simp only [push_cast]; first | done | omega))) only [push_cast, ↓reduceIte, Nat.reduceEqDiff, Nat.reduceBEq, Nat.reduceAdd, Nat.reduceSub, Int.reduceToNat, *] <;> with_reducible exact rfl))
          all_goals exact tup_nil
      · by_cases h8 : s9 ≤ en
        · obtain ⟨-, rfl⟩ := hs h8
          clear hs
          have gli_c95 := GLi_95; have gli_c97 := GLi_97; have gli_c98 := GLi_98; have gli_c99 := GLi_99
          (refine wlk ?_; intros)
          all_goals ((with_reducible apply i_endW (by first | exact .inl rfl | exact .inr rfl)); (simp (disch := (first | omega | (simp only [push_cast]; first | done | omega))) only [push_cast, ↓reduceIte, Nat.reduceEqDiff, Nat.reduceBEq, Nat.reduceAdd, Nat.reduceSub, Int.reduceToNat, *] <;> with_reducible exact rfl))
          all_goals exact tup_nil
        · clear hs
          cases q2 <;>
          · have gli_c95 := GLi_95; have gli_c97 := GLi_97; have gli_c98 := GLi_98; have gli_c99 := GLi_99
            (refine wlk ?_; intros)
            all_goals ((with_reducible apply i_endW (by first | exact .inl rfl | exact .inr rfl)); (simp (disch := (first | omega | (simp only [push_cast]; first | done | omega))) only [push_cast, ↓reduceIte, Nat.reduceEqDiff, Nat.reduceBEq, Nat.reduceAdd, Nat.reduceSub, Int.reduceToNat, *] <;> with_reducible exact rfl))
            all_goals exact tup_nil
end Go.Proofs.Ytngcedklbinhjaa
namespace Go.Proofs.Ytngcedklbinhjaa
open Go.RowKit
set_option linter.all false
def rowT {α : Type} (f : Nat → Nat → α) (i : Nat) : List α := (List.range 4).map (f i)
def tab {α : Type} (n : Nat) (f : Nat → Nat → α) : List (List α) := (List.range (n + 1)).map (rowT f)
def updT {α : Type} (f : Nat → Nat → α) (i k : Nat) (v : α) : Nat → Nat → α := fun i' k' => if i' = i ∧ k' = k then v else f i' k'
abbrev pvBl (b : Bool) : PV := .val (.bool b)
abbrev pvRI (r : List Int) : PV := .agg (r.map pvN)
abbrev pvRB (r : List Bool) : PV := .agg (r.map pvBl)
theorem rowT_len {α : Type} (f : Nat → Nat → α) (i : Nat) : (rowT f i).length = 4 := by simp [rowT]
theorem tab_len {α : Type} (n : Nat) (f : Nat → Nat → α) : (tab n f).length = n + 1 := by simp [tab]
theorem rowT_get {α β : Type} {f : Nat → Nat → α} {g : α → β} {i k : Nat} (h : k < 4) : Option.map g (rowT f i)[k]? = some (g (f i k)) := by
  unfold rowT
  rw [List.getElem?_map, List.getElem?_range h]
  rfl
theorem tab_get {α β : Type} {f : Nat → Nat → α} {g : List α → β} {n i : Nat} (h : i ≤ n) : Option.map g (tab n f)[i]? = some (g (rowT f i)) := by
  unfold tab
  rw [List.getElem?_map, List.getElem?_range (by omega)]
  rfl
theorem rowT_upd {α : Type} {f : Nat → Nat → α} {i k : Nat} {v : α} : rowT (updT f i k v) i = (rowT f i).set k v := by
  rcases k with _ | _ | _ | _ | k <;> simp [rowT, updT, List.range_succ]
theorem rowT_ne {α : Type} {f : Nat → Nat → α} {i j k : Nat} {v : α} (h : ¬ j = i) : rowT (updT f i k v) j = rowT f j := by
  unfold rowT updT
  refine List.map_congr_left fun x _ => ?_
  rw [if_neg fun q => h q.1]
theorem tab_set {α : Type} {n i k : Nat} {f : Nat → Nat → α} {v : α} : (tab n f).set i ((rowT f i).set k v) = tab n (updT f i k v) := by
  apply List.ext_getElem?
  intro j
  rw [List.getElem?_set, tab_len]
  by_cases hj : j < n + 1
  · by_cases h : i = j
    · subst h
      rw [if_pos rfl, if_pos hj]
      unfold tab
      rw [List.getElem?_map, List.getElem?_range hj, Option.map_some, rowT_upd]
    · rw [if_neg h]
      unfold tab
      rw [List.getElem?_map, List.getElem?_map, List.getElem?_range hj, Option.map_some, Option.map_some, rowT_ne (fun q => h q.symm)]
  · rw [List.getElem?_eq_none (by rw [tab_len]; omega), List.getElem?_eq_none (by rw [tab_len]; omega)]
    split <;> (try split) <;> first | rfl | omega
theorem setL_map {α : Type} {g : α → PV} {l : List α} {k : Nat} {v : α} (h : k < l.length) : setL (l.map g) k [g v] = (l.set k v).map g := by
  unfold setL
  rw [List.map_set, List.set_eq_take_append_cons_drop, List.length_map, if_pos h]
  simp
theorem tab_setI {n i k : Nat} {f : Nat → Nat → Int} {v : Int} (h : k < 4) : ((tab n f).map pvRI).set i (.agg (setL ((rowT f i).map pvN) k [.val (.int .i64 v)])) = (tab n (updT f i k v)).map pvRI := by
  rw [← tab_set, List.map_set, setL_map (g := pvN) (v := v) (by rw [rowT_len]; exact h)]
theorem tab_setB {n i k : Nat} {f : Nat → Nat → Bool} {v : Bool} (h : k < 4) : ((tab n f).map pvRB).set i (.agg (setL ((rowT f i).map pvBl) k [.val (.bool v)])) = (tab n (updT f i k v)).map pvRB := by
  rw [← tab_set, List.map_set, setL_map (g := pvBl) (v := v) (by rw [rowT_len]; exact h)]
theorem tab_congr {α : Type} {n : Nat} {f f' : Nat → Nat → α} (h : ∀ i k, i ≤ n → k < 4 → f i k = f' i k) : tab n f = tab n f' := by
  unfold tab rowT
  refine List.map_congr_left fun i hi => List.map_congr_left fun k hk => ?_
  have h1 := List.mem_range.1 hi
  exact h i k (by omega) (List.mem_range.1 hk)
theorem cellsL_rI {l : List Int} : cellsL (.agg (l.map pvN)) = some (l.map pvN) := cellsL_agg (by simp [List.all_map, oneP, Value.oneCell'])
theorem cellsL_rB {l : List Bool} : cellsL (.agg (l.map pvBl)) = some (l.map pvBl) := cellsL_agg (by simp [List.all_map, oneP, Value.oneCell'])
theorem rep_tI {n : Nat} : List.replicate (n + 1) (PV.agg [.val (.int .i64 0), .val (.int .i64 0), .val (.int .i64 0), .val (.int .i64 0)]) = (tab n (fun _ _ => (0 : Int))).map pvRI := by
  unfold tab
  rw [List.map_map]
  symm
  rw [List.eq_replicate_iff]
  exact ⟨by rw [List.length_map, List.length_range], fun b hb => by obtain ⟨x, -, rfl⟩ := List.mem_map.1 hb; rfl⟩
theorem rep_tB {n : Nat} : List.replicate (n + 1) (PV.agg [.val (.bool false), .val (.bool false), .val (.bool false), .val (.bool false)]) = (tab n (fun _ _ => false)).map pvRB := by
  unfold tab
  rw [List.map_map]
  symm
  rw [List.eq_replicate_iff]
  exact ⟨by rw [List.length_map, List.length_range], fun b hb => by obtain ⟨x, -, rfl⟩ := List.mem_map.1 hb; rfl⟩
theorem all_rI {l : List Int} : (l.map pvN).all oneP = true := by simp [List.all_map, oneP, Value.oneCell']
theorem all_rB {l : List Bool} : (l.map pvBl).all oneP = true := by simp [List.all_map, oneP, Value.oneCell']
attribute [push_cast]
  all_rI all_rB rowT_len tab_len rowT_get tab_get tab_setI tab_setB cellsL_rI cellsL_rB rep_tI rep_tB
def tbA (l : List It) (wd most : Int) (m : Nat) : Nat → Nat → Option Ch := fun i k => if m ≤ i then bestA l wd most i k else none
def tbJ (l : List It) (wd most : Int) (a j : Nat) : Nat → Nat → Option Ch := fun i k => if i = a then bestTo l wd most a k (bestA l wd most) j else tbA l wd most (a + 1) i k
def tbK (l : List It) (wd most : Int) (a j b : Nat) : Nat → Nat → Option Ch := fun i k => if i = a then bestTo l wd most a k (bestA l wd most) (if k < b then j + 1 else j) else tbA l wd most (a + 1) i k
def cB (x : Option Ch) : Int := match x with | some c => c.1 | none => 0
def cN (x : Option Ch) : Int := match x with | some c => (c.2.1 : Int) | none => 0
def tB (f : Nat → Nat → Option Ch) : Nat → Nat → Int := fun i k => cB (f i k)
def tG (f : Nat → Nat → Option Ch) : Nat → Nat → Bool := fun i k => (f i k).isSome
def tN (f : Nat → Nat → Option Ch) : Nat → Nat → Int := fun i k => cN (f i k)
theorem tabs_congr {n : Nat} {f f' : Nat → Nat → Option Ch} (h : ∀ i k, i ≤ n → k < 4 → f i k = f' i k) : tab n (tB f) = tab n (tB f') ∧ tab n (tG f) = tab n (tG f') ∧ tab n (tN f) = tab n (tN f') :=
  ⟨tab_congr fun i k h1 h2 => by unfold tB; rw [h i k h1 h2], tab_congr fun i k h1 h2 => by unfold tG; rw [h i k h1 h2], tab_congr fun i k h1 h2 => by unfold tN; rw [h i k h1 h2]⟩
variable {l : List It} {wd most : Int}
theorem tbA_top : ∀ i k, i ≤ l.length → k < 4 → tbA l wd most l.length i k = if i = l.length then some (0, 0, 0) else none := fun i k h _ => by
  unfold tbA
  by_cases hi : i = l.length
  · rw [if_pos (by omega), if_pos hi, hi, bestA_end]
  · rw [if_neg (by omega), if_neg hi]
theorem tbA_skip {a : Nat} (ha : a < l.length) (h0 : 0 < a) (h : brkQ l (a - 1) = false) : ∀ i k, i ≤ l.length → k < 4 → tbA l wd most (a + 1) i k = tbA l wd most a i k := fun i k hi _ => by
  unfold tbA
  by_cases h1 : a + 1 ≤ i
  · rw [if_pos h1, if_pos (by omega)]
  · rw [if_neg h1]
    by_cases h2 : a ≤ i
    · obtain rfl : i = a := by omega
      rw [if_pos h2, bestA_nobreak ha h0 h]
    · rw [if_neg h2]
theorem tbJ_zero {a : Nat} : ∀ i k, i ≤ l.length → k < 4 → tbA l wd most (a + 1) i k = tbJ l wd most a 0 i k := fun i k hi _ => by
  unfold tbJ
  split
  · rename_i h
    subst h
    unfold tbA
    rw [if_neg (by omega)]
    rfl
  · rfl
theorem tbJ_end {a : Nat} (ha : a < l.length) : ∀ i k, i ≤ l.length → k < 4 → tbJ l wd most a (l.length - a) i k = tbA l wd most a i k := fun i k hi _ => by
  unfold tbJ tbA
  split
  · rename_i h
    subst h
    rw [if_pos (Nat.le_refl _), bestA_eq ha]
  · by_cases h1 : a + 1 ≤ i
    · rw [if_pos h1, if_pos (by omega)]
    · rw [if_neg h1, if_neg (by omega)]
theorem tbJ_same {a j : Nat} (h : ∀ k : Int, bestTo l wd most a k (bestA l wd most) (j + 1) = bestTo l wd most a k (bestA l wd most) j) : ∀ i k, i ≤ l.length → k < 4 → tbJ l wd most a j i k = tbJ l wd most a (j + 1) i k := fun i k hi _ => by
  unfold tbJ
  split
  · rw [h]
  · rfl
theorem tbK_zero {a j : Nat} : ∀ i k, i ≤ l.length → k < 4 → tbJ l wd most a j i k = tbK l wd most a j 0 i k := fun i k hi _ => by
  unfold tbJ tbK
  split
  · rw [if_neg (by omega)]
  · rfl
theorem tbK_end {a j : Nat} : ∀ i k, i ≤ l.length → k < 4 → tbK l wd most a j 4 i k = tbJ l wd most a (j + 1) i k := fun i k hi hk => by
  unfold tbJ tbK
  split
  · first | rfl | rw [if_pos hk]
  · rfl
theorem tbK_step {a j b : Nat} {x : Option Ch} (hx : bestTo l wd most a b (bestA l wd most) (j + 1) = x) : ∀ i k, i ≤ l.length → k < 4 → updT (tbK l wd most a j b) a b x i k = tbK l wd most a j (b + 1) i k := fun i k hi hk => by
  unfold updT tbK
  by_cases h : i = a ∧ k = b
  · obtain ⟨rfl, rfl⟩ := h
    rw [if_pos ⟨rfl, rfl⟩, if_pos rfl, if_pos (by omega), hx]
  · rw [if_neg h]
    split
    · have : ¬ k = b := fun q => h ⟨by assumption, q⟩
      by_cases h1 : k < b
      · rw [if_pos h1, if_pos (by omega)]
      · rw [if_neg h1, if_neg (by omega)]
    · rfl
theorem tbK_stay {a j b : Nat} (hx : bestTo l wd most a b (bestA l wd most) (j + 1) = bestTo l wd most a b (bestA l wd most) j) : ∀ i k, i ≤ l.length → k < 4 → tbK l wd most a j b i k = tbK l wd most a j (b + 1) i k := fun i k hi hk => by
  unfold tbK
  split
  · by_cases h : k = b
    · subst h
      rw [if_neg (by omega), if_pos (by omega), hx]
    · by_cases h1 : k < b
      · rw [if_pos h1, if_pos (by omega)]
      · rw [if_neg h1, if_neg (by omega)]
  · rfl
theorem tB_upd (f : Nat → Nat → Option Ch) (i k : Nat) (x : Ch) : updT (tB f) i k x.1 = tB (updT f i k (some x)) := by
  funext i' k'
  unfold tB updT
  split <;> rfl
theorem tG_upd (f : Nat → Nat → Option Ch) (i k : Nat) (x : Ch) : updT (tG f) i k true = tG (updT f i k (some x)) := by
  funext i' k'
  unfold tG updT
  split <;> rfl
theorem tN_upd (f : Nat → Nat → Option Ch) (i k : Nat) (x : Ch) : updT (tN f) i k (x.2.1 : Int) = tN (updT f i k (some x)) := by
  funext i' k'
  unfold tN updT
  split <;> rfl
theorem tbK_here {a j b : Nat} : tbK l wd most a j b a b = bestTo l wd most a b (bestA l wd most) j := by
  unfold tbK
  rw [if_pos rfl, if_neg (Nat.lt_irrefl _)]
theorem tbJ_above {a j i k : Nat} (h : a < i) : tbJ l wd most a j i k = bestA l wd most i k := by
  unfold tbJ tbA
  rw [if_neg (by omega), if_pos (by omega)]
theorem tbA_zero {i k : Nat} : tbA l wd most 0 i k = bestA l wd most i k := if_pos (Nat.zero_le _)
end Go.Proofs.Ytngcedklbinhjaa
