/- What the proof rests on, part 16: contracts of functions. No condition beyond what each states. -/
import Derived.Test.YtngcedklbinhjaaZBp15
namespace Go.Proofs.Ytngcedklbinhjaa
open Go.RowKit
set_option linter.all false
noncomputable def φBb : Fun := F3 dIts dI dI fun l wd most => if okIts l then some (.tup [.lst true 1 ((brkR l wd most).map fun n => .val (.int .i64 n)), bv (brkOk l wd most)]) else none
theorem φBb_ap {l : List It} {wd most : Int} (h : okIts l) : φBb [lsIt l, .val (.int .i64 wd), .val (.int .i64 most)] = some (.tup [.lst true 1 ((brkR l wd most).map fun n => .val (.int .i64 n)), .val (.bool (brkOk l wd most))]) := (F3_ap (A := dIts) (B := dI) (C := dI) l wd most).trans (if_pos h)
theorem bestTo_skip {l : List It} {wd most : Int} {a j en : Nat} (he : l.length - (j + 1) = en) (h : lineR l wd most a en = none) (k : Int) : bestTo l wd most a k (bestA l wd most) (j + 1) = bestTo l wd most a k (bestA l wd most) j := by
  rw [bestTo, he, bestStep_none h]
theorem bestTo_dead {l : List It} {wd most : Int} {a j en : Nat} {x : Int × Int} (he : l.length - (j + 1) = en) (h : lineR l wd most a en = some x) (h2 : bestA l wd most (en + 1) x.2 = none) (k : Int) : bestTo l wd most a k (bestA l wd most) (j + 1) = bestTo l wd most a k (bestA l wd most) j := by
  rw [bestTo, he, bestStep_dead h h2]
theorem bestTo_live {l : List It} {wd most : Int} {a j en : Nat} {x : Int × Int} {r : Ch} (he : l.length - (j + 1) = en) (h : lineR l wd most a en = some x) (h2 : bestA l wd most (en + 1) x.2 = some r) (k : Int) :
    bestTo l wd most a k (bestA l wd most) (j + 1) = if (bestTo l wd most a k (bestA l wd most) j).all (fun y => decide (x.1 + betwR l a en k x.2 + r.1 < y.1)) = true then some (x.1 + betwR l a en k x.2 + r.1, en, x.2) else bestTo l wd most a k (bestA l wd most) j := by
  rw [bestTo, he, bestStep_some h h2]
theorem lineR_yes {l : List It} {wd most : Int} {a en : Nat} (h : lineQ l a en = true) (h2 : 0 ≤ (badL l wd a en).1 ∧ (badL l wd a en).1 ≤ most) : lineR l wd most a en = some (costR (badL l wd a en).1 (gI l en).cost, looksR (badL l wd a en).2 (badL l wd a en).1) := if_pos ⟨h, h2⟩
def g0 (n k : Nat) : Nat → Nat → Bool := fun i j => decide (i = n ∧ j < k)
theorem g0_zero (n : Nat) : tab n (g0 n 0) = tab n (fun _ _ => false) := tab_congr fun i j _ _ => by simp [g0]
theorem g0_step (n k : Nat) : tab n (updT (g0 n k) n k true) = tab n (g0 n (k + 1)) := tab_congr fun i j _ _ => by
  unfold updT g0
  by_cases h : i = n ∧ j = k
  · rw [if_pos h, decide_eq_true (by omega)]
  · rw [if_neg h]
    congr 1
    apply propext
    omega
theorem tab0 (l : List It) (wd most : Int) : tab l.length (tB (tbA l wd most l.length)) = tab l.length (fun _ _ => 0) ∧ tab l.length (tG (tbA l wd most l.length)) = tab l.length (g0 l.length 4) ∧ tab l.length (tN (tbA l wd most l.length)) = tab l.length (fun _ _ => 0) :=
  ⟨tab_congr fun i k h1 h2 => by
      unfold tB
      rw [tbA_top i k h1 h2]
      split <;> rfl,
    tab_congr fun i k h1 h2 => by
      unfold tG
      rw [tbA_top i k h1 h2]
      unfold g0
      split
      · rw [decide_eq_true (by omega)]; rfl
      · rw [decide_eq_false (by omega)]; rfl,
    tab_congr fun i k h1 h2 => by
      unfold tN
      rw [tbA_top i k h1 h2]
      split <;> rfl⟩
theorem lineR_noQ {l : List It} {wd most : Int} {a en : Nat} (h : lineQ l a en = false) : lineR l wd most a en = none := if_neg fun q => by rw [h] at q; cases q.1
theorem lineR_noB {l : List It} {wd most : Int} {a en : Nat} (h : ¬ (0 ≤ (badL l wd a en).1 ∧ (badL l wd a en).1 ≤ most)) : lineR l wd most a en = none := if_neg fun q => h q.2
noncomputable def GBb : Ctx := { fn := fun f => if f = 61 then some φIts else if f = 62 then some φIn else if f = 63 then some φBq else if f = 64 then some φLq else if f = 65 then some φBd else if f = 66 then some φLk else if f = 67 then some φCo else if f = 68 then some φBw else none, io := fun f => none }
theorem GBb_ok : SoundΓ Try.prog GBb := ⟨(fun f φ h => by
  unfold GBb at h
  dsimp only at h
  split at h
  · rename_i hf; cases h; subst hf; exact ⟨⟨_, Try.func61, rfl, rfl⟩, specIts_ok⟩
  split at h
  · rename_i hf; cases h; subst hf; exact ⟨⟨_, Try.func62, rfl, rfl⟩, l1In_ok⟩
  split at h
  · rename_i hf; cases h; subst hf; exact ⟨⟨_, Try.func63, rfl, rfl⟩, specBq_ok⟩
  split at h
  · rename_i hf; cases h; subst hf; exact ⟨⟨_, Try.func64, rfl, rfl⟩, specLq_ok⟩
  split at h
  · rename_i hf; cases h; subst hf; exact ⟨⟨_, Try.func65, rfl, rfl⟩, specBd_ok⟩
  split at h
  · rename_i hf; cases h; subst hf; exact ⟨⟨_, Try.func66, rfl, rfl⟩, specLk_ok⟩
  split at h
  · rename_i hf; cases h; subst hf; exact ⟨⟨_, Try.func67, rfl, rfl⟩, specCo_ok⟩
  split at h
  · rename_i hf; cases h; subst hf; exact ⟨⟨_, Try.func68, rfl, rfl⟩, specBw_ok⟩
  cases h), (fun f φ h => by
  unfold GBb at h
  dsimp only at h
  cases h), rfl⟩
theorem GBb_61 (ob : Objs) (ps : List PV) : evCall GBb ob 61 ps = (ps.mapM (reify false 0 ob fuel)).bind φIts := by
  have h : GBb.fn 61 = some φIts := by simp [GBb]
  unfold evCall
  rw [h]
  cases ps.mapM (reify false 0 ob fuel) <;> rfl
theorem GBb_62 (ob : Objs) (ps : List PV) : evCall GBb ob 62 ps = (ps.mapM (reify false 0 ob fuel)).bind φIn := by
  have h : GBb.fn 62 = some φIn := by simp [GBb]
  unfold evCall
  rw [h]
  cases ps.mapM (reify false 0 ob fuel) <;> rfl
theorem GBb_63 (ob : Objs) (ps : List PV) : evCall GBb ob 63 ps = (ps.mapM (reify false 0 ob fuel)).bind φBq := by
  have h : GBb.fn 63 = some φBq := by simp [GBb]
  unfold evCall
  rw [h]
  cases ps.mapM (reify false 0 ob fuel) <;> rfl
theorem GBb_64 (ob : Objs) (ps : List PV) : evCall GBb ob 64 ps = (ps.mapM (reify false 0 ob fuel)).bind φLq := by
  have h : GBb.fn 64 = some φLq := by simp [GBb]
  unfold evCall
  rw [h]
  cases ps.mapM (reify false 0 ob fuel) <;> rfl
theorem GBb_65 (ob : Objs) (ps : List PV) : evCall GBb ob 65 ps = (ps.mapM (reify false 0 ob fuel)).bind φBd := by
  have h : GBb.fn 65 = some φBd := by simp [GBb]
  unfold evCall
  rw [h]
  cases ps.mapM (reify false 0 ob fuel) <;> rfl
theorem GBb_66 (ob : Objs) (ps : List PV) : evCall GBb ob 66 ps = (ps.mapM (reify false 0 ob fuel)).bind φLk := by
  have h : GBb.fn 66 = some φLk := by simp [GBb]
  unfold evCall
  rw [h]
  cases ps.mapM (reify false 0 ob fuel) <;> rfl
theorem GBb_67 (ob : Objs) (ps : List PV) : evCall GBb ob 67 ps = (ps.mapM (reify false 0 ob fuel)).bind φCo := by
  have h : GBb.fn 67 = some φCo := by simp [GBb]
  unfold evCall
  rw [h]
  cases ps.mapM (reify false 0 ob fuel) <;> rfl
theorem GBb_68 (ob : Objs) (ps : List PV) : evCall GBb ob 68 ps = (ps.mapM (reify false 0 ob fuel)).bind φBw := by
  have h : GBb.fn 68 = some φBw := by simp [GBb]
  unfold evCall
  rw [h]
  cases ps.mapM (reify false 0 ob fuel) <;> rfl
set_option maxHeartbeats 32000000 in
theorem specBb_ok : Sound Try.prog 37 φBb := by
  refine sound_pq mixed GBb_ok Try.func37 rfl 218 rfl [.tmp 6, .tmp 7] rfl (by kernel_rfl) fun ps r hr => ?_
  obtain ⟨l, wd, most, rfl, hq⟩ := F3_some hr
  clear hr
  split at hq
  case isFalse => cases hq
  case isTrue hpre =>
  cases hq
  refine ⟨by simp, ?_⟩
  simp only [dIs, dUs, dSs, dI_e, dU_e, dB_e, dS_e, dFn_e, dL_e, dA2_e, dA3_e, dA4_e, dA5_e]
  have apv := φIts_ap hpre
  have api := φIn_ap
  have hl0 : l.length ≤ 1000 := hpre
  show pq _ _ _ _ _ (initS [lsIt l, .val (.int .i64 wd), .val (.int .i64 most)]).tm _ _
  unfold brkR
  by_cases hg : itemsB l = true ∧ 0 < l.length ∧ (0 ≤ wd ∧ wd ≤ 1000) ∧ (0 ≤ most ∧ most ≤ 10000)
  · obtain ⟨hB, hn, hw, hm⟩ := hg
    have hl := items_len hB
    have hok : brkOk l wd most = (bestA l wd most 0 1).isSome := by
      unfold brkOk
      rw [hB, decide_eq_true hn, inB_iff.2 hw, inB_iff.2 hm]
      rfl
    rw [hok]
    clear hok hpre
    rw [hB] at apv
    have api1 : inB wd 0 1000 = true := inB_iff.2 hw
    have api2 : inB most 0 10000 = true := inB_iff.2 hm
    have gbb_c61 := GBb_61; have gbb_c62 := GBb_62; have gbb_c63 := GBb_63; have gbb_c64 := GBb_64; have gbb_c65 := GBb_65; have gbb_c66 := GBb_66; have gbb_c67 := GBb_67; have gbb_c68 := GBb_68
    (refine wlk ?_; intros)
    obtain ⟨t1, t2, t3⟩ := tab0 l wd most
    refine i_loop (α := Nat) mixed (fun k => [(0, lsIt l), (1, iv wd), (2, iv most), (8, .row 0 1 0 0), (9, iv l.length), (10, .row 1 4 0 (l.length + 1)), (11, .row 2 4 0 (l.length + 1)), (12, .row 3 4 0 (l.length + 1)), (13, iv k)])
      (fun k => [(0, 3, 1, []), (1, 95, 4, (tab l.length fun _ _ => 0).map pvRI), (2, 88, 4, (tab l.length (g0 l.length k)).map pvRB), (3, 95, 4, (tab l.length fun _ _ => 0).map pvRI)]) (fun _ => 4)
      (fun k => k ≤ 4) (fun k => 4 - k) (by kernel_rfl) 0 (Nat.zero_le _) ?_ ?_ rfl ?_
    · exact agr
    · simp (disch := (first | omega | (simp only [push_cast]; first | done | omega))) only [push_cast, ↓reduceIte, Nat.reduceEqDiff, Nat.reduceBEq, Nat.reduceAdd, Nat.reduceSub, Int.reduceToNat, g0_zero, *]
    intro k hk
    by_cases hk4 : k < 4
    · have hs := g0_step l.length k
      clear t1 t2 t3
      (refine wlk ?_; intros)
      refine ⟨k + 1, by omega, by dsimp only; omega, ?_, ?_, rfl⟩
      · exact agr
      · exact agr
    obtain rfl : k = 4 := by omega
    (refine wlk ?_; intros)
    refine i_loop (α := Nat × Int) mixed (fun z => [(0, lsIt l), (1, iv wd), (2, iv most), (8, .row 0 1 0 0), (9, iv l.length), (10, .row 1 4 0 (l.length + 1)), (11, .row 2 4 0 (l.length + 1)), (12, .row 3 4 0 (l.length + 1)), (14, iv z.2)])
      (fun z => [(0, 3, 1, []), (1, 95, 4, (tab l.length (tB (tbA l wd most z.1))).map pvRI), (2, 88, 4, (tab l.length (tG (tbA l wd most z.1))).map pvRB), (3, 95, 4, (tab l.length (tN (tbA l wd most z.1))).map pvRI)]) (fun _ => 4)
      (fun z => z.1 ≤ l.length ∧ z.2 = (z.1 : Int) - 2) (fun z => z.1) (by kernel_rfl) (l.length, (l.length : Int) - 2) ⟨Nat.le_refl _, rfl⟩ ?_ ?_ rfl ?_
    · exact agr
    · exact agr
    clear t1 t2 t3 hk hk4
    rintro ⟨m, v⟩ ⟨hml, hv⟩
    dsimp only at hml hv
    by_cases h1 : 1 ≤ m
    · obtain ⟨a, rfl⟩ : ∃ a, m = a + 1 := ⟨m - 1, by omega⟩
      obtain rfl : v = (a : Int) - 1 := by omega
      clear hv h1
      have hal : a < l.length := by omega
      have hcan : (a : Int) - 1 + 1 = a := by omega
      by_cases hskip : 0 < a ∧ brkQ l (a - 1) = false
      · obtain ⟨ha0, hbq⟩ := hskip
        have apq := φBq_ap (n := a - 1) hB (by omega)
        rw [hbq, show ((a - 1 : Nat) : Int) = (a : Int) - 1 by omega] at apq
        have hE := Lib.hid (tabs_congr (tbA_skip (wd := wd) (most := most) hal ha0 hbq))
        clear hbq
        (refine wlk ?_; intros)
        refine ⟨(a, (a : Int) - 1 - 1), ⟨by dsimp only; omega, by dsimp only; omega⟩, by dsimp only; omega, ?_, ?_, rfl⟩
        · exact agr
        · obtain ⟨e1, e2, e3⟩ := hE.out
          exact agr
      · have hgo : 0 < a → φBq [lsIt l, .val (.int .i64 ((a : Int) - 1))] = some (.val (.bool true)) := fun ha0 => by
          have apq := φBq_ap (n := a - 1) hB (by omega)
          rw [show ((a - 1 : Nat) : Int) = (a : Int) - 1 by omega] at apq
          rw [apq]
          cases hb : brkQ l (a - 1) with
          | true => rfl
          | false => exact absurd ⟨ha0, hb⟩ hskip
        clear hskip
        by_cases ha0 : 0 < a
        · have apq := hgo ha0
          clear hgo
          (refine wlk ?_; intros)
          refine i_loop (α := Nat × Int) mixed (fun z => [(0, lsIt l), (1, iv wd), (2, iv most), (8, .row 0 1 0 0), (9, iv l.length), (10, .row 1 4 0 (l.length + 1)), (11, .row 2 4 0 (l.length + 1)), (12, .row 3 4 0 (l.length + 1)), (14, iv ((a : Int) - 1)), (15, iv z.2)])
            (fun z => [(0, 3, 1, []), (1, 95, 4, (tab l.length (tB (tbJ l wd most a z.1))).map pvRI), (2, 88, 4, (tab l.length (tG (tbJ l wd most a z.1))).map pvRB), (3, 95, 4, (tab l.length (tN (tbJ l wd most a z.1))).map pvRI)]) (fun _ => 4)
            (fun z => z.1 + a ≤ l.length ∧ z.2 = (l.length : Int) - 1 - z.1) (fun z => l.length - z.1) (by kernel_rfl) (0, (l.length : Int) - 1) ⟨by dsimp only; omega, by simp⟩ ?_ ?_ rfl ?_
          · exact agr
          · obtain ⟨e1, e2, e3⟩ := tabs_congr (tbJ_zero (l := l) (wd := wd) (most := most) (a := a))
            exact agr
          rintro ⟨j, u⟩ ⟨hj, hu⟩
          dsimp only at hj hu
          by_cases h2 : j + a < l.length
          · obtain ⟨en, rfl⟩ : ∃ en : Nat, u = en := ⟨u.toNat, by omega⟩
            have he : l.length - (j + 1) = en := by omega
            have hu1 : (en : Int) ≤ l.length - 1 - j := by omega
            have hu2 : (l.length : Int) - 1 - j ≤ en := by omega
            replace he := Lib.hid he
            clear hu
            have hae : a ≤ en := by omega
            have hel : en < l.length := by omega
            have apl := φLq_ap hB hae hel
            have hskip : (∀ k : Int, bestTo l wd most a k (bestA l wd most) (j + 1) = bestTo l wd most a k (bestA l wd most) j) → tab l.length (tB (tbJ l wd most a j)) = tab l.length (tB (tbJ l wd most a (j + 1))) ∧ tab l.length (tG (tbJ l wd most a j)) = tab l.length (tG (tbJ l wd most a (j + 1))) ∧ tab l.length (tN (tbJ l wd most a j)) = tab l.length (tN (tbJ l wd most a (j + 1))) := fun h => tabs_congr (tbJ_same h)
            cases hq : lineQ l a en with
            | false =>
              rw [hq] at apl
              have hE := Lib.hid (hskip (bestTo_skip he.out (lineR_noQ hq)))
              clear hskip hq
              (refine wlk ?_; intros)
              refine ⟨(j + 1, (en : Int) - 1), ⟨by dsimp only; omega, by dsimp only; omega⟩, by dsimp only; omega, ?_, ?_, rfl⟩
              · exact agr
              · obtain ⟨e1, e2, e3⟩ := hE.out
                exact agr
            | true =>
            rw [hq] at apl
            have hst := (lineQ_iff.1 hq).2.2.2.1
            have apb := φBd_ap hB hae hel hw hst
            by_cases hb : 0 ≤ (badL l wd a en).1 ∧ (badL l wd a en).1 ≤ most
            · have hcst : okCst (l[en]?.getD it0).2.2.2.2.2.1 := (items_at hB hel).cost
              have hL : lineR l wd most a en = some (costR (badL l wd a en).1 (l[en]?.getD it0).2.2.2.2.2.1, looksR (badL l wd a en).2 (badL l wd a en).1) := lineR_yes hq hb
              clear hq hst
              generalize badL l wd a en = bd at *
              obtain ⟨bad, st⟩ := bd
              dsimp only at hb hL apb
              have apk := φLk_ap (s := st) (bad := bad) ⟨hb.1, by omega⟩
              have apc := φCo_ap (bad := bad) ⟨hb.1, by omega⟩ hcst
              have hcr := costR_rng (bad := bad) ⟨hb.1, by omega⟩ hcst
              have hkr := looksR_rng st bad
              obtain ⟨kk, hkk⟩ : ∃ kk : Nat, looksR st bad = kk := ⟨(looksR st bad).toNat, by omega⟩
              rw [hkk] at hL apk hkr
              clear hkk hcst
              cases hr : bestA l wd most (en + 1) kk with
              | none =>
                have hG : tG (tbJ l wd most a j) (en + 1) kk = false := by unfold tG; rw [tbJ_above (by omega), hr]; rfl
                have hE := Lib.hid (hskip (bestTo_dead he.out hL hr))
                clear hskip hL hr
                (refine wlk ?_; intros)
                refine ⟨(j + 1, (en : Int) - 1), ⟨by dsimp only; omega, by dsimp only; omega⟩, by dsimp only; omega, ?_, ?_, rfl⟩
                · exact agr
                · obtain ⟨e1, e2, e3⟩ := hE.out
                  exact agr
              | some r =>
                have hG : tG (tbJ l wd most a j) (en + 1) kk = true := by unfold tG; rw [tbJ_above (by omega), hr]; rfl
                have hBv : tB (tbJ l wd most a j) (en + 1) kk = r.1 := by unfold tB; rw [tbJ_above (by omega), hr]; rfl
                have hrr := (bestA_bound hB hm.2 (by omega) hr).1
                have hlive := fun k => bestTo_live he.out hL hr k
                clear hskip hL hr
                generalize hyy : l[en]?.getD it0 = yy at *
                obtain ⟨y1, y2, y3, y4, y5, y6, y7⟩ := yy
                dsimp only at apc hcr hlive
                generalize costR bad y6 = co at *
                obtain ⟨rc, rn, rk⟩ := r
                dsimp only at hBv hrr hlive
                replace hlive := Lib.hid hlive
                (refine wlk ?_; intros)
                refine i_loop (α := Nat) mixed (fun b => [(0, lsIt l), (1, iv wd), (2, iv most), (8, .row 0 1 0 0), (9, iv l.length), (10, .row 1 4 0 (l.length + 1)), (11, .row 2 4 0 (l.length + 1)), (12, .row 3 4 0 (l.length + 1)), (14, iv ((a : Int) - 1)), (15, iv en), (18, iv kk), (19, iv (co + rc)), (20, iv b)])
                  (fun b => [(0, 3, 1, []), (1, 95, 4, (tab l.length (tB (tbK l wd most a j b))).map pvRI), (2, 88, 4, (tab l.length (tG (tbK l wd most a j b))).map pvRB), (3, 95, 4, (tab l.length (tN (tbK l wd most a j b))).map pvRI)]) (fun _ => 4)
                  (fun b => b ≤ 4) (fun b => 4 - b) (by kernel_rfl) 0 (Nat.zero_le _) ?_ ?_ rfl ?_
                · exact agr
                · obtain ⟨e1, e2, e3⟩ := tabs_congr (tbK_zero (l := l) (wd := wd) (most := most) (a := a) (j := j))
                  exact agr
                clear hG hBv apc apk apb apl
                intro b hb4
                by_cases hb3 : b < 4
                · have apw := φBw_ap (be := (b : Int)) (lk := (kk : Int)) hB hae hel ⟨by omega, by omega⟩ ⟨by omega, by omega⟩
                  have hbw := betwR_rng l a en b kk
                  have hx := hlive.out (b : Int)
                  generalize betwR l a en b kk = bw at *
                  cases hacc : bestTo l wd most a b (bestA l wd most) j with
                  | none =>
                    rw [hacc] at hx
                    replace hx : _ = some _ := hx
                    have hG : tG (tbK l wd most a j b) a b = false := by unfold tG; rw [tbK_here, hacc]; rfl
                    have hE := Lib.hid (tabs_congr (tbK_step hx))
                    clear hx hacc
                    (refine wlk ?_; intros)
                    refine ⟨b + 1, by omega, by dsimp only; omega, ?_, ?_, rfl⟩
                    · exact agr
                    · have hE2 := hE.out
                      rw [← tB_upd, ← tG_upd, ← tN_upd] at hE2
                      obtain ⟨e1, e2, e3⟩ := hE2
                      dsimp only at e1 e2 e3
                      rw [show co + bw + rc = co + rc + bw by omega] at e1
                      exact agr
                  | some y =>
                    rw [hacc] at hx
                    have hG : tG (tbK l wd most a j b) a b = true := by unfold tG; rw [tbK_here, hacc]; rfl
                    have hB2 : tB (tbK l wd most a j b) a b = y.1 := by unfold tB; rw [tbK_here, hacc]; rfl
                    have hyr := (bestTo_rng hB hm.2 hal hacc).1
                    by_cases hlt : co + rc + bw < y.1
                    · rw [if_pos (show (some y).all (fun y => decide (co + bw + rc < y.1)) = true from decide_eq_true (show co + bw + rc < y.1 by omega))] at hx
                      have hE := Lib.hid (tabs_congr (tbK_step hx))
                      clear hx hacc
                      generalize y.1 = yc at *
                      (refine wlk ?_; intros)
                      refine ⟨b + 1, by omega, by dsimp only; omega, ?_, ?_, rfl⟩
                      · exact agr
                      · have hE2 := hE.out
                        rw [← tB_upd, ← tG_upd, ← tN_upd] at hE2
                        obtain ⟨e1, e2, e3⟩ := hE2
                        dsimp only at e1 e2 e3
                        rw [show co + bw + rc = co + rc + bw by omega] at e1
                        exact agr
                    · rw [if_neg (show ¬ (some y).all (fun y => decide (co + bw + rc < y.1)) = true from fun q => hlt (by have := of_decide_eq_true (show decide (co + bw + rc < y.1) = true from q); omega))] at hx
                      have hE := Lib.hid (tabs_congr (tbK_stay (hx.trans hacc.symm)))
                      clear hx hacc
                      generalize y.1 = yc at *
                      (refine wlk ?_; intros)
                      refine ⟨b + 1, by omega, by dsimp only; omega, ?_, ?_, rfl⟩
                      · exact agr
                      · obtain ⟨e1, e2, e3⟩ := hE.out
                        exact agr
                · obtain rfl : b = 4 := by omega
                  have hE := Lib.hid (tabs_congr (tbK_end (l := l) (wd := wd) (most := most) (a := a) (j := j)))
                  clear hlive
                  (refine wlk ?_; intros)
                  refine ⟨(j + 1, (en : Int) - 1), ⟨by dsimp only; omega, by dsimp only; omega⟩, by dsimp only; omega, ?_, ?_, rfl⟩
                  · exact agr
                  · obtain ⟨e1, e2, e3⟩ := hE.out
                    exact agr
            · have hE := Lib.hid (hskip (bestTo_skip he.out (lineR_noB hb)))
              clear hskip hq
              generalize badL l wd a en = bd at *
              obtain ⟨bad, st⟩ := bd
              dsimp only at hb apb
              by_cases hb0 : bad < 0
              · clear hb
                (refine wlk ?_; intros)
                refine ⟨(j + 1, (en : Int) - 1), ⟨by dsimp only; omega, by dsimp only; omega⟩, by dsimp only; omega, ?_, ?_, rfl⟩
                · exact agr
                · obtain ⟨e1, e2, e3⟩ := hE.out
                  exact agr
              · have hb1 : most < bad := by omega
                clear hb
                (refine wlk ?_; intros)
                refine ⟨(j + 1, (en : Int) - 1), ⟨by dsimp only; omega, by dsimp only; omega⟩, by dsimp only; omega, ?_, ?_, rfl⟩
                · exact agr
                · obtain ⟨e1, e2, e3⟩ := hE.out
                  exact agr
          · obtain rfl : j = l.length - a := by omega
            have hE := Lib.hid (tabs_congr (tbJ_end (wd := wd) (most := most) hal))
            (refine wlk ?_; intros)
            refine ⟨(a, (a : Int) - 1 - 1), ⟨by dsimp only; omega, by dsimp only; omega⟩, by dsimp only; omega, ?_, ?_, rfl⟩
            · exact agr
            · obtain ⟨e1, e2, e3⟩ := hE.out
              exact agr
        · clear hgo
          (refine wlk ?_; intros)
          refine i_loop (α := Nat × Int) mixed (fun z => [(0, lsIt l), (1, iv wd), (2, iv most), (8, .row 0 1 0 0), (9, iv l.length), (10, .row 1 4 0 (l.length + 1)), (11, .row 2 4 0 (l.length + 1)), (12, .row 3 4 0 (l.length + 1)), (14, iv ((a : Int) - 1)), (15, iv z.2)])
            (fun z => [(0, 3, 1, []), (1, 95, 4, (tab l.length (tB (tbJ l wd most a z.1))).map pvRI), (2, 88, 4, (tab l.length (tG (tbJ l wd most a z.1))).map pvRB), (3, 95, 4, (tab l.length (tN (tbJ l wd most a z.1))).map pvRI)]) (fun _ => 4)
            (fun z => z.1 + a ≤ l.length ∧ z.2 = (l.length : Int) - 1 - z.1) (fun z => l.length - z.1) (by kernel_rfl) (0, (l.length : Int) - 1) ⟨by dsimp only; omega, by simp⟩ ?_ ?_ rfl ?_
          · exact agr
          · obtain ⟨e1, e2, e3⟩ := tabs_congr (tbJ_zero (l := l) (wd := wd) (most := most) (a := a))
            exact agr
          rintro ⟨j, u⟩ ⟨hj, hu⟩
          dsimp only at hj hu
          by_cases h2 : j + a < l.length
          · obtain ⟨en, rfl⟩ : ∃ en : Nat, u = en := ⟨u.toNat, by omega⟩
            have he : l.length - (j + 1) = en := by omega
            have hu1 : (en : Int) ≤ l.length - 1 - j := by omega
            have hu2 : (l.length : Int) - 1 - j ≤ en := by omega
            replace he := Lib.hid he
            clear hu
            have hae : a ≤ en := by omega
            have hel : en < l.length := by omega
            have apl := φLq_ap hB hae hel
            have hskip : (∀ k : Int, bestTo l wd most a k (bestA l wd most) (j + 1) = bestTo l wd most a k (bestA l wd most) j) → tab l.length (tB (tbJ l wd most a j)) = tab l.length (tB (tbJ l wd most a (j + 1))) ∧ tab l.length (tG (tbJ l wd most a j)) = tab l.length (tG (tbJ l wd most a (j + 1))) ∧ tab l.length (tN (tbJ l wd most a j)) = tab l.length (tN (tbJ l wd most a (j + 1))) := fun h => tabs_congr (tbJ_same h)
            cases hq : lineQ l a en with
            | false =>
              rw [hq] at apl
              have hE := Lib.hid (hskip (bestTo_skip he.out (lineR_noQ hq)))
              clear hskip hq
              (refine wlk ?_; intros)
              refine ⟨(j + 1, (en : Int) - 1), ⟨by dsimp only; omega, by dsimp only; omega⟩, by dsimp only; omega, ?_, ?_, rfl⟩
              · exact agr
              · obtain ⟨e1, e2, e3⟩ := hE.out
                exact agr
            | true =>
            rw [hq] at apl
            have hst := (lineQ_iff.1 hq).2.2.2.1
            have apb := φBd_ap hB hae hel hw hst
            by_cases hb : 0 ≤ (badL l wd a en).1 ∧ (badL l wd a en).1 ≤ most
            · have hcst : okCst (l[en]?.getD it0).2.2.2.2.2.1 := (items_at hB hel).cost
              have hL : lineR l wd most a en = some (costR (badL l wd a en).1 (l[en]?.getD it0).2.2.2.2.2.1, looksR (badL l wd a en).2 (badL l wd a en).1) := lineR_yes hq hb
              clear hq hst
              generalize badL l wd a en = bd at *
              obtain ⟨bad, st⟩ := bd
              dsimp only at hb hL apb
              have apk := φLk_ap (s := st) (bad := bad) ⟨hb.1, by omega⟩
              have apc := φCo_ap (bad := bad) ⟨hb.1, by omega⟩ hcst
              have hcr := costR_rng (bad := bad) ⟨hb.1, by omega⟩ hcst
              have hkr := looksR_rng st bad
              obtain ⟨kk, hkk⟩ : ∃ kk : Nat, looksR st bad = kk := ⟨(looksR st bad).toNat, by omega⟩
              rw [hkk] at hL apk hkr
              clear hkk hcst
              cases hr : bestA l wd most (en + 1) kk with
              | none =>
                have hG : tG (tbJ l wd most a j) (en + 1) kk = false := by unfold tG; rw [tbJ_above (by omega), hr]; rfl
                have hE := Lib.hid (hskip (bestTo_dead he.out hL hr))
                clear hskip hL hr
                (refine wlk ?_; intros)
                refine ⟨(j + 1, (en : Int) - 1), ⟨by dsimp only; omega, by dsimp only; omega⟩, by dsimp only; omega, ?_, ?_, rfl⟩
                · exact agr
                · obtain ⟨e1, e2, e3⟩ := hE.out
                  exact agr
              | some r =>
                have hG : tG (tbJ l wd most a j) (en + 1) kk = true := by unfold tG; rw [tbJ_above (by omega), hr]; rfl
                have hBv : tB (tbJ l wd most a j) (en + 1) kk = r.1 := by unfold tB; rw [tbJ_above (by omega), hr]; rfl
                have hrr := (bestA_bound hB hm.2 (by omega) hr).1
                have hlive := fun k => bestTo_live he.out hL hr k
                clear hskip hL hr
                generalize hyy : l[en]?.getD it0 = yy at *
                obtain ⟨y1, y2, y3, y4, y5, y6, y7⟩ := yy
                dsimp only at apc hcr hlive
                generalize costR bad y6 = co at *
                obtain ⟨rc, rn, rk⟩ := r
                dsimp only at hBv hrr hlive
                replace hlive := Lib.hid hlive
                (refine wlk ?_; intros)
                refine i_loop (α := Nat) mixed (fun b => [(0, lsIt l), (1, iv wd), (2, iv most), (8, .row 0 1 0 0), (9, iv l.length), (10, .row 1 4 0 (l.length + 1)), (11, .row 2 4 0 (l.length + 1)), (12, .row 3 4 0 (l.length + 1)), (14, iv ((a : Int) - 1)), (15, iv en), (18, iv kk), (19, iv (co + rc)), (20, iv b)])
                  (fun b => [(0, 3, 1, []), (1, 95, 4, (tab l.length (tB (tbK l wd most a j b))).map pvRI), (2, 88, 4, (tab l.length (tG (tbK l wd most a j b))).map pvRB), (3, 95, 4, (tab l.length (tN (tbK l wd most a j b))).map pvRI)]) (fun _ => 4)
                  (fun b => b ≤ 4) (fun b => 4 - b) (by kernel_rfl) 0 (Nat.zero_le _) ?_ ?_ rfl ?_
                · exact agr
                · obtain ⟨e1, e2, e3⟩ := tabs_congr (tbK_zero (l := l) (wd := wd) (most := most) (a := a) (j := j))
                  exact agr
                clear hG hBv apc apk apb apl
                intro b hb4
                by_cases hb3 : b < 4
                · have apw := φBw_ap (be := (b : Int)) (lk := (kk : Int)) hB hae hel ⟨by omega, by omega⟩ ⟨by omega, by omega⟩
                  have hbw := betwR_rng l a en b kk
                  have hx := hlive.out (b : Int)
                  generalize betwR l a en b kk = bw at *
                  cases hacc : bestTo l wd most a b (bestA l wd most) j with
                  | none =>
                    rw [hacc] at hx
                    replace hx : _ = some _ := hx
                    have hG : tG (tbK l wd most a j b) a b = false := by unfold tG; rw [tbK_here, hacc]; rfl
                    have hE := Lib.hid (tabs_congr (tbK_step hx))
                    clear hx hacc
                    (refine wlk ?_; intros)
                    refine ⟨b + 1, by omega, by dsimp only; omega, ?_, ?_, rfl⟩
                    · exact agr
                    · have hE2 := hE.out
                      rw [← tB_upd, ← tG_upd, ← tN_upd] at hE2
                      obtain ⟨e1, e2, e3⟩ := hE2
                      dsimp only at e1 e2 e3
                      rw [show co + bw + rc = co + rc + bw by omega] at e1
                      exact agr
                  | some y =>
                    rw [hacc] at hx
                    have hG : tG (tbK l wd most a j b) a b = true := by unfold tG; rw [tbK_here, hacc]; rfl
                    have hB2 : tB (tbK l wd most a j b) a b = y.1 := by unfold tB; rw [tbK_here, hacc]; rfl
                    have hyr := (bestTo_rng hB hm.2 hal hacc).1
                    by_cases hlt : co + rc + bw < y.1
                    · rw [if_pos (show (some y).all (fun y => decide (co + bw + rc < y.1)) = true from decide_eq_true (show co + bw + rc < y.1 by omega))] at hx
                      have hE := Lib.hid (tabs_congr (tbK_step hx))
                      clear hx hacc
                      generalize y.1 = yc at *
                      (refine wlk ?_; intros)
                      refine ⟨b + 1, by omega, by dsimp only; omega, ?_, ?_, rfl⟩
                      · exact agr
                      · have hE2 := hE.out
                        rw [← tB_upd, ← tG_upd, ← tN_upd] at hE2
                        obtain ⟨e1, e2, e3⟩ := hE2
                        dsimp only at e1 e2 e3
                        rw [show co + bw + rc = co + rc + bw by omega] at e1
                        exact agr
                    · rw [if_neg (show ¬ (some y).all (fun y => decide (co + bw + rc < y.1)) = true from fun q => hlt (by have := of_decide_eq_true (show decide (co + bw + rc < y.1) = true from q); omega))] at hx
                      have hE := Lib.hid (tabs_congr (tbK_stay (hx.trans hacc.symm)))
                      clear hx hacc
                      generalize y.1 = yc at *
                      (refine wlk ?_; intros)
                      refine ⟨b + 1, by omega, by dsimp only; omega, ?_, ?_, rfl⟩
                      · exact agr
                      · obtain ⟨e1, e2, e3⟩ := hE.out
                        exact agr
                · obtain rfl : b = 4 := by omega
                  have hE := Lib.hid (tabs_congr (tbK_end (l := l) (wd := wd) (most := most) (a := a) (j := j)))
                  clear hlive
                  (refine wlk ?_; intros)
                  refine ⟨(j + 1, (en : Int) - 1), ⟨by dsimp only; omega, by dsimp only; omega⟩, by dsimp only; omega, ?_, ?_, rfl⟩
                  · exact agr
                  · obtain ⟨e1, e2, e3⟩ := hE.out
                    exact agr
            · have hE := Lib.hid (hskip (bestTo_skip he.out (lineR_noB hb)))
              clear hskip hq
              generalize badL l wd a en = bd at *
              obtain ⟨bad, st⟩ := bd
              dsimp only at hb apb
              by_cases hb0 : bad < 0
              · clear hb
                (refine wlk ?_; intros)
                refine ⟨(j + 1, (en : Int) - 1), ⟨by dsimp only; omega, by dsimp only; omega⟩, by dsimp only; omega, ?_, ?_, rfl⟩
                · exact agr
                · obtain ⟨e1, e2, e3⟩ := hE.out
                  exact agr
              · have hb1 : most < bad := by omega
                clear hb
                (refine wlk ?_; intros)
                refine ⟨(j + 1, (en : Int) - 1), ⟨by dsimp only; omega, by dsimp only; omega⟩, by dsimp only; omega, ?_, ?_, rfl⟩
                · exact agr
                · obtain ⟨e1, e2, e3⟩ := hE.out
                  exact agr
          · obtain rfl : j = l.length - a := by omega
            have hE := Lib.hid (tabs_congr (tbJ_end (wd := wd) (most := most) hal))
            (refine wlk ?_; intros)
            refine ⟨(a, (a : Int) - 1 - 1), ⟨by dsimp only; omega, by dsimp only; omega⟩, by dsimp only; omega, ?_, ?_, rfl⟩
            · exact agr
            · obtain ⟨e1, e2, e3⟩ := hE.out
              exact agr
    · obtain rfl : m = 0 := by omega
      have hG : tG (tbA l wd most 0) 0 1 = (bestA l wd most 0 1).isSome := by unfold tG; rw [tbA_zero]; rfl
      have hbl : (brkList l wd most).length ≤ l.length := bkF_len hB hm.2 _ _ _ (Nat.zero_le _)
      have hb0 : brkList l wd most = [] ++ bkF l wd most (l.length + 1) 0 ((1 : Nat) : Int) := rfl
      cases hs : bestA l wd most 0 1 with
      | none =>
        rw [hs] at hG
        simp only [Option.isSome_none] at hG ⊢
        rw [if_neg (by decide)]
        clear hb0 hbl
        exact wlkF
      | some r0 =>
        rw [hs] at hG
        simp only [Option.isSome_some] at hG ⊢
        rw [show (if True then brkList l wd most else []) = brkList l wd most from if_pos trivial]
        generalize brkList l wd most = res at *
        replace hb0 := Lib.hid hb0
        have hs0 : (bestA l wd most 0 ((1 : Nat) : Int)).isSome = true := by
          show (bestA l wd most 0 1).isSome = true
          rw [hs]; rfl
        replace hs0 := Lib.hid hs0
        clear hs
        (refine wlk ?_; intros)
        clear hG
        refine i_loop (α := Nat × Int × Nat × LI × Nat × Nat × Nat) mixed (fun z => [(0, lsIt l), (1, iv wd), (2, iv most), (8, .row z.2.2.2.2.1 1 0 z.2.2.2.1.length), (9, iv l.length), (12, .row 3 4 0 (l.length + 1)), (22, iv z.2.1), (23, iv z.2.2.1)])
          (fun z => [(3, 95, 4, (tab l.length (tN (tbA l wd most 0))).map pvRI), (z.2.2.2.2.1, 3, 1, z.2.2.2.1.map pvN)]) (fun z => z.2.2.2.2.2.1)
          (fun z => z.1 ≤ l.length ∧ z.2.1 = (z.1 : Int) - 1 ∧ z.2.2.1 < 4 ∧ (bestA l wd most z.1 (z.2.2.1 : Int)).isSome = true ∧ z.2.2.2.1.length ≤ z.1 ∧ (¬ z.2.2.2.2.1 = 3 ∧ z.2.2.2.2.1 < z.2.2.2.2.2.1 ∧ 4 ≤ z.2.2.2.2.2.1) ∧ l.length + 1 ≤ z.2.2.2.2.2.2 + z.1 ∧ res = z.2.2.2.1 ++ bkF l wd most z.2.2.2.2.2.2 z.1 (z.2.2.1 : Int)) (fun z => l.length - z.1) (by kernel_rfl)
          (0, -1, 1, [], 0, 4, l.length + 1) ⟨Nat.zero_le _, rfl, by simp, hs0.out, Nat.le_refl _, by simp, by simp, hb0.out⟩ ?_ ?_ rfl ?_
        · exact agi
        · exact agr
        rintro ⟨a, v, kk, out, x, y, f⟩ ⟨hal, hv, hkk, hs, hol, ⟨hx3, hxy, hy4⟩, hf, hres⟩
        dsimp only at hal hv hkk hs hol hx3 hxy hy4 hf hres
        have hx3' : ¬ 3 = x := fun q => hx3 q.symm
        subst hv
        clear hs0 hb0
        by_cases hlt : a < l.length
        · obtain ⟨r, hr⟩ : ∃ r, bestA l wd most a (kk : Int) = some r := Option.isSome_iff_exists.1 hs
          obtain ⟨f', rfl⟩ : ∃ f', f = f' + 1 := ⟨f - 1, by omega⟩
          rw [bkF_step (by omega) hr] at hres
          have hN : tN (tbA l wd most 0) a kk = (r.2.1 : Int) := by unfold tN; rw [tbA_zero, hr]; rfl
          obtain ⟨-, hb2⟩ := bestA_bound hB hm.2 hal hr
          obtain ⟨⟨ha1, ha2⟩, hk0, hk3⟩ := hb2 hlt
          obtain ⟨x', c0, hx', hL⟩ := bestA_next hlt hr
          obtain ⟨hq, hbd, hpair⟩ := lineR_some hL
          have hlk : r.2.2 = looksR (badL l wd a r.2.1).2 (badL l wd a r.2.1).1 := congrArg Prod.snd hpair
          obtain ⟨-, -, -, hst, -⟩ := lineQ_iff.1 hq
          have apb := φBd_ap hB ha1 ha2 hw hst
          have apk := φLk_ap (s := (badL l wd a r.2.1).2) (bad := (badL l wd a r.2.1).1) ⟨hbd.1, by omega⟩
          rw [← hlk] at apk
          clear hL hpair hlk hq hst hr hs hb2
          obtain ⟨rc, en, rk⟩ := r
          dsimp only at hres hN ha1 ha2 hk0 hk3 hx' hbd apb apk
          obtain ⟨k2, rfl⟩ : ∃ k2 : Nat, rk = k2 := ⟨rk.toNat, by omega⟩
          generalize badL l wd a en = bd at *
          obtain ⟨bad, st⟩ := bd
          dsimp only at hbd apb apk
          have hcan : (a : Int) - 1 + 1 = a := by omega
          replace hres := Lib.hid hres
          replace hx' := Lib.hid hx'
          have hkk2 : k2 < 4 := by omega
          (refine wlk ?_; intros)
          refine ⟨(en + 1, (en : Int), k2, out ++ [(en : Int)], y + 1, y + 2, f'), ⟨by dsimp only; omega, by dsimp only; omega, hkk2, by dsimp only; rw [hx'.out]; rfl, by simp; omega, ⟨by dsimp only; omega, by dsimp only; omega, by dsimp only; omega⟩, by dsimp only; omega, by dsimp only; rw [hres.out]; simp⟩, by dsimp only; omega, ?_, ?_, rfl⟩
          · exact agr
          · exact agr
        · obtain rfl : a = l.length := by omega
          rw [bkF_end, List.append_nil] at hres
          subst hres
          clear hs
          exact wlkF
  · have hok : brkOk l wd most = false := Bool.eq_false_iff.2 fun q => by
      obtain ⟨q1, q2, q3, q4, -⟩ := brkOk_iff.1 q
      exact hg ⟨q1, q2, q3, q4⟩
    rw [hok, if_neg (by decide)]
    clear hok hpre
    cases hB : itemsB l with
    | false =>
      rw [hB] at apv
      clear hg hB
      have gbb_c61 := GBb_61; have gbb_c62 := GBb_62; have gbb_c63 := GBb_63; have gbb_c64 := GBb_64; have gbb_c65 := GBb_65; have gbb_c66 := GBb_66; have gbb_c67 := GBb_67; have gbb_c68 := GBb_68
      exact wlkF
    | true =>
    rw [hB] at apv
    by_cases hw : 0 ≤ wd ∧ wd ≤ 1000
    · have api1 : inB wd 0 1000 = true := inB_iff.2 hw
      by_cases hm : 0 ≤ most ∧ most ≤ 10000
      · have api2 : inB most 0 10000 = true := inB_iff.2 hm
        have hl0 : l.length < 1 := by
          by_cases h : l.length < 1
          · exact h
          · exact absurd ⟨hB, by omega, hw, hm⟩ hg
        clear hg hB
        have gbb_c61 := GBb_61; have gbb_c62 := GBb_62; have gbb_c63 := GBb_63; have gbb_c64 := GBb_64; have gbb_c65 := GBb_65; have gbb_c66 := GBb_66; have gbb_c67 := GBb_67; have gbb_c68 := GBb_68
        exact wlkF
      · have api2 : inB most 0 10000 = false := Bool.eq_false_iff.2 fun q => hm (inB_iff.1 q)
        clear hg hB hm
        have gbb_c61 := GBb_61; have gbb_c62 := GBb_62; have gbb_c63 := GBb_63; have gbb_c64 := GBb_64; have gbb_c65 := GBb_65; have gbb_c66 := GBb_66; have gbb_c67 := GBb_67; have gbb_c68 := GBb_68
        exact wlkF
    · have api1 : inB wd 0 1000 = false := Bool.eq_false_iff.2 fun q => hw (inB_iff.1 q)
      clear hg hB hw
      have gbb_c61 := GBb_61; have gbb_c62 := GBb_62; have gbb_c63 := GBb_63; have gbb_c64 := GBb_64; have gbb_c65 := GBb_65; have gbb_c66 := GBb_66; have gbb_c67 := GBb_67; have gbb_c68 := GBb_68
      exact wlkF
end Go.Proofs.Ytngcedklbinhjaa
namespace Go.Proofs.Ytngcedklbinhjaa
open Go.RowKit
set_option linter.all false
structure BkI (l : List It) (wd most : Int) (a : Nat) (lk : Int) (br : List Int) : Prop where
  le : a ≤ l.length
  lk0 : 0 ≤ lk ∧ lk ≤ 3
  len : br.length ≤ a
  pos : 0 < a → 0 < br.length
  ok : (bestA l wd most a lk).isSome = (bestA l wd most 0 1).isSome
  go : (bestA l wd most 0 1).isSome = true → brkList l wd most = br ++ bkF l wd most (l.length + 1 - br.length) a lk
theorem BkI.start (l : List It) (wd most : Int) : BkI l wd most 0 0 [] := ⟨Nat.zero_le _, by decide, Nat.le_refl _, fun h => by omega, by rw [bestA_first 0 1], fun _ => by
  show brkList l wd most = bkF l wd most (l.length + 1) 0 0
  unfold brkList
  rw [bkF, bkF, bestA_first 1 0]⟩
theorem BkI.next {l : List It} {wd most : Int} {a : Nat} {lk : Int} {br : List Int} {r : Ch} (h : BkI l wd most a lk br) (hl : itemsB l = true) (hm : most ≤ 10000) (ha : a < l.length) (hr : bestA l wd most a lk = some r) : BkI l wd most (r.2.1 + 1) r.2.2 (br ++ [(r.2.1 : Int)]) := by
  obtain ⟨h1, h2⟩ := bestA_bound hl hm h.le hr
  obtain ⟨h3, h4⟩ := h2 ha
  obtain ⟨x, c0, h5, h6⟩ := bestA_next ha hr
  have hok := h.ok
  rw [hr] at hok
  have h7 := h.len
  refine ⟨by omega, h4, by rw [List.length_append, List.length_singleton]; omega, fun _ => by simp, by rw [h5, ← hok]; rfl, fun hs => ?_⟩
  rw [h.go hs, show l.length + 1 - br.length = (l.length - br.length) + 1 by omega, bkF_step (by omega) hr]
  simp
theorem BkI.last {l : List It} {wd most : Int} {lk : Int} {br : List Int} (h : BkI l wd most l.length lk br) : (bestA l wd most 0 1).isSome = true ∧ brkList l wd most = br := by
  have h1 := h.ok
  rw [bestA_end] at h1
  have h2 : (bestA l wd most 0 1).isSome = true := h1.symm
  refine ⟨h2, ?_⟩
  rw [h.go h2, bkF_end, List.append_nil]
theorem ze_103 : zeroOf Try.prog 103 = some (.agg #[.slice none 0 0, .int .i64 0, .int .i64 0, .map none]) := by kernel_rfl
theorem pl_103 : structPlaces Try.prog 103 = some #[(0, 1), (1, 1), (2, 1), (3, 1)] := by kernel_rfl
theorem bl_103 (ps : List (Nat × PV)) : evBuild Try.prog 103 ps = (fillP (plF [(0, 1), (1, 1), (2, 1), (3, 1)]) [.val (.slice none 0 0), .val (.int .i64 0), .val (.int .i64 0), .val (.map none)] ps).map .agg := bl_of ze_103 rfl pl_103 ps
theorem reify_chO {ob : Objs} {l : List It} {wd most : Int} {b : Nat} (h : ob 0 = some (103, 4, [.agg [lsIt l, iv wd, iv most, .val (.map (some b))]])) : reify false 0 ob 8 (.own 0 4 0 0) = some (chsP l wd most b) := by
  have h1 : reify false 0 ob 6 (lsIt l) = some (lsIt l) := by (simp (disch := (first | omega | (simp only [push_cast]; first | done | omega))) only [push_cast, ↓reduceIte, Nat.reduceEqDiff, Nat.reduceBEq, Nat.reduceAdd, Nat.reduceSub, Int.reduceToNat, *] <;> with_reducible exact rfl)
  have h2 : reify false 0 ob 7 (.agg [lsIt l, iv wd, iv most, .val (.map (some b))]) = some (.agg [lsIt l, iv wd, iv most, .val (.map (some b))]) := by
    show ([lsIt l, iv wd, iv most, .val (.map (some b))].mapM (reify false 0 ob 6)).map PV.agg = _
    simp only [List.mapM_cons, List.mapM_nil, h1]
    rfl
  show (if false = true ∧ 0 < 0 then none else match ob 0 with
      | some (_, sz', es) => if 4 = sz' then (es[0]?).bind fun e => (reify false 0 ob 7 e).map (PV.ptr false · 0) else none
      | none => none) = _
  rw [if_neg (by decide), h]
  dsimp only
  rw [if_pos rfl]
  show (reify false 0 ob 7 (.agg [lsIt l, iv wd, iv most, .val (.map (some b))])).map (PV.ptr false · 0) = _
  rw [h2]
  rfl
theorem cl_map (m : Option Nat) : cellsL (.val (.map m)) = some [.val (.map m)] := rfl
attribute [push_cast]
  bl_103 cl_map
noncomputable def GBki : Ctx := { fn := fun f => if f = 75 then some φLa else none, io := fun f => none }
theorem GBki_ok : SoundΓ Try.prog GBki := ⟨(fun f φ h => by
  unfold GBki at h
  dsimp only at h
  split at h
  · rename_i hf; cases h; subst hf; exact ⟨⟨_, Try.func75, rfl, rfl⟩, implLa_ok⟩
  cases h), (fun f φ h => by
  unfold GBki at h
  dsimp only at h
  cases h), rfl⟩
theorem GBki_75 (ob : Objs) (ps : List PV) : evCall GBki ob 75 ps = (ps.mapM (reify false 0 ob fuel)).bind φLa := by
  have h : GBki.fn 75 = some φLa := by simp [GBki]
  unfold evCall
  rw [h]
  cases ps.mapM (reify false 0 ob fuel) <;> rfl
set_option maxHeartbeats 16000000 in
set_option maxRecDepth 100000 in
theorem implBk_ok : Sound Try.prog 40 φBb := by
  refine HY.sound (k := 105) (N := 44) (rs := [.tmp 6, .tmp 7]) Try.func40 rfl rfl rfl fun ps r hr => ?_
  obtain ⟨l, wd, most, rfl, hq⟩ := F3_some hr
  clear hr
  split at hq
  case isFalse => cases hq
  case isTrue hpre =>
  cases hq
  refine ⟨by simp, ?_⟩
  simp only [dIs, dUs, dSs, dI_e, dU_e, dB_e, dS_e, dFn_e, dL_e, dA2_e, dA3_e, dA4_e, dA5_e]
  intro B w00
  show HY _ _ _ _ _ _ _ (initS [lsIt l, .val (.int .i64 wd), .val (.int .i64 most)]) _
  refine HY.start ?_
  have apa := φLa_ap (wd := wd) (most := most) hpre
  have hl0 : l.length ≤ 1000 := hpre
  clear hpre
  have hll : ((l.map pvIt).length : Int) = (l.length : Int) := by simp
  unfold brkR
  refine HY.seq (HY.eng mixed GBki_ok (by kernel_rfl) ?_)
  by_cases hg : itemsB l = true ∧ 0 < l.length ∧ (0 ≤ wd ∧ wd ≤ 1000) ∧ (0 ≤ most ∧ most ≤ 10000)
  · obtain ⟨hB, hpos, hw, hm⟩ := hg
    have hok : brkOk l wd most = (bestA l wd most 0 1).isSome := by
      unfold brkOk
      rw [hB, decide_eq_true hpos, inB_iff.2 hw, inB_iff.2 hm]
      simp
    rw [hok]
    rw [hB, decide_eq_true hpos, inB_iff.2 hw, inB_iff.2 hm] at apa
    simp only [Bool.and_self] at apa
    clear hok
    have gbki_c75 := GBki_75
    (refine wlk ?_; intros)
    refine HY.seq (HY.eng mixed GBki_ok (by kernel_rfl) ?_)
    dsimp only
    (refine wlk ?_; intros)
    refine HY.seq (HY.each (HO.pre (imm := ⟨[], [], []⟩) 3 GBki_ok (by kernel_rfl) (by simp only [List.take_succ_cons, List.take_zero] <;> exact rfl) (by simp only [List.drop_succ_cons, List.drop_zero] <;> exact rfl) (by simp only [List.map_cons, List.map_nil] <;> exact rfl) ?_))
    dsimp only
    (refine wlk ?_; intros)
    refine HO.make rfl rfl (by decide) rfl fun b hb => ?_
    dsimp only [AS.put]
    refine HO.pre (imm := ⟨[], [], []⟩) 3 GBki_ok (by kernel_rfl) (by simp only [List.take_succ_cons, List.take_zero] <;> exact rfl) (by simp only [List.drop_succ_cons, List.drop_zero] <;> exact rfl) (by simp only [List.map_cons, List.map_nil] <;> exact rfl) ?_
    dsimp only
    (refine wlk ?_; intros)
    refine HO.nil ?_
    refine HY.seq (HY.eng mixed GBki_ok (by kernel_rfl) ?_)
    (try dsimp only)
    (refine wlk ?_; intros)
    refine HY.seq (HY.eng mixed GBki_ok (by kernel_rfl) ?_)
    (try dsimp only)
    (refine wlk ?_; intros)
    (try dsimp only)
    refine HY.seq (HY.block (HY.loopA (α := Nat × Int × List Int × Nat × Nat) (fun i => [(0, lsIt l), (8, .own 0 4 0 0), (9, .own 1 3 0 0), (10, nP 1 (i.2.2.1.map pvN) i.2.2.2.1)])
      (fun i => [(0, 103, 4, [.agg [lsIt l, iv wd, iv most, .val (.map (some b))]]), (1, 105, 3, [.agg [iv ((i.1 : Int) - 1), bv (mkA l i.1), iv i.2.1]])] ++ nO 3 1 (i.2.2.1.map pvN) i.2.2.2.1)
      (fun i => i.2.2.2.2) (fun i σ => BkI l wd most i.1 i.2.1 i.2.2.1 ∧ (2 ≤ i.2.2.2.2 ∧ (i.2.2.1 ≠ [] → 2 ≤ i.2.2.2.1 ∧ i.2.2.2.1 < i.2.2.2.2)) ∧ ∃ L', σ = some (b, L') ∧ GoodL l wd most L') (fun i => l.length - i.1) (0, 0, [], 0, 2) ⟨BkI.start l wd most, ⟨by decide, fun h => absurd rfl h⟩, [], rfl, fun p hp => by cases hp⟩ ?_ ?_ rfl ?_))
    · dsimp only
      exact agi
    · dsimp only
      rw [show ((0 : Nat) : Int) - 1 = -1 from rfl, show mkA l 0 = false from rfl]
      simp (disch := (first | omega | (simp only [push_cast]; first | done | omega))) only [push_cast, ↓reduceIte, Nat.reduceEqDiff, Nat.reduceBEq, Nat.reduceAdd, Nat.reduceSub, Int.reduceToNat, List.map_nil, List.append_nil, *]
    rintro ⟨a, lk, br, x, y⟩ σ ⟨hI, ⟨hy, hx⟩, L', rfl, hG⟩
    dsimp only at hI hy hx
    have HI := Lib.hid hI
    have HG := Lib.hid hG
    have hle := hI.le
    have hlk := hI.lk0
    have hbl := hI.len
    clear hI hG
    have ih := fun (h : a ≤ l.length) => best_any hB hpos hw hm (l.length - a) a lk rfl h hlk b L' HG.out
    have IH := Lib.hid (ih hle)
    clear ih
    dsimp only
    refine HY.seq (HY.eng mixed GBki_ok (by kernel_rfl) ?_)
    by_cases hal : a < l.length
    · by_cases hnil : br = []
      · skip
        subst hnil
        simp only [List.map_nil, nP_nil, nO_nil, List.append_nil]
        (refine wlk ?_; intros)
        refine HY.block (HY.seq (HY.each (HO.pre (imm := ⟨[], [], []⟩) 2 GBki_ok (by kernel_rfl) (by simp only [List.take_succ_cons, List.take_zero] <;> exact rfl) (by simp only [List.drop_succ_cons, List.drop_zero] <;> exact rfl) (by simp only [List.map_cons, List.map_nil] <;> exact rfl) ?_)))
        (try dsimp only)
        (refine wlk ?_; intros)
        refine HO.call (ps := [chsP l wd most b, .agg [iv ((a : Int) - 1), bv (mkA l a), iv lk]]) (R := fun p L' => p = chP l a (bestA l wd most a lk) ∧ GoodL l wd most L') rfl rfl ⟨_, Try.func76, rfl, rfl⟩ rfl ?_ ?_ IH.out ?_
        · intro x e
          cases e
          decide
        · (try dsimp only)
          simp (disch := (first | omega | (simp only [push_cast]; first | done | omega))) only [push_cast, ↓reduceIte, Nat.reduceEqDiff, Nat.reduceBEq, Nat.reduceAdd, Nat.reduceSub, Int.reduceToNat, reify_chO (l := l) (wd := wd) (most := most) (b := b), *]
        rintro p L3 ⟨rfl, hL3⟩
        rw [chP_ne (show ¬ a = l.length by omega)]
        have HL3 := Lib.hid hL3
        clear hL3
        cases hr : bestA l wd most a lk with
        | none =>
          have hno : (bestA l wd most 0 1).isSome = false := by rw [← HI.out.ok, hr]; rfl
          rw [hno, if_neg (by decide)]
          dsimp only [aC, aN, aM, aK, AS.put]
          refine HO.pre (imm := ⟨[], [], []⟩) 2 GBki_ok (by kernel_rfl) (by simp only [List.take_succ_cons, List.take_zero] <;> exact rfl) (by simp only [List.drop_succ_cons, List.drop_zero] <;> exact rfl) (by simp only [List.map_cons, List.map_nil] <;> exact rfl) ?_
          (try dsimp only)
          (refine wlk ?_; intros)
          refine HO.nil ?_
          refine HY.seq (HY.eng mixed GBki_ok (by kernel_rfl) ?_)
          (try dsimp only)
          (refine wlk ?_; intros)
          refine ⟨by simp, ⟨_, tup_le (ps := [.val (.slice none 0 0), bv false]) ⟨nil_le _ _, PV.le_refl _, trivial⟩, ?_⟩, fun b2 L2 e => by cases e; exact hb⟩
          (simp (disch := (first | omega | (simp only [push_cast]; first | done | omega))) only [push_cast, ↓reduceIte, Nat.reduceEqDiff, Nat.reduceBEq, Nat.reduceAdd, Nat.reduceSub, Int.reduceToNat, *] <;> with_reducible exact rfl)
        | some r =>
          have hn := HI.out.next hB hm.2 hal hr
          replace hn := Lib.hid hn
          have hr1 := (bestA_bound hB hm.2 hle hr).1
          have hr2 := ((bestA_bound hB hm.2 hle hr).2 hal).1
          clear hr
          obtain ⟨r1, r2, r3⟩ := r
          dsimp only at hr1 hr2
          dsimp only [aC, aN, aM, aK, AS.put]
          refine HO.pre (imm := ⟨[], [], []⟩) 2 GBki_ok (by kernel_rfl) (by simp only [List.take_succ_cons, List.take_zero] <;> exact rfl) (by simp only [List.drop_succ_cons, List.drop_zero] <;> exact rfl) (by simp only [List.map_cons, List.map_nil] <;> exact rfl) ?_
          (try dsimp only)
          (refine wlk ?_; intros)
          refine HO.nil ?_
          refine HY.seq (HY.eng mixed GBki_ok (by kernel_rfl) ?_)
          (try dsimp only)
          (refine wlk ?_; intros)
          refine HY.eng mixed GBki_ok (by kernel_rfl) ?_
          (try dsimp only)
          (refine wlk ?_; intros)
          (try dsimp only)
          show ∃ j : Nat × Int × List Int × Nat × Nat, _
          refine ⟨(r2 + 1, r3, [(r2 : Int)], y + 2, y + 3), ⟨hn.out, ⟨by dsimp only; omega, fun _ => ⟨by dsimp only; omega, by dsimp only; omega⟩⟩, L3, rfl, HL3.out⟩, by dsimp only; omega, ?_, ?_, rfl⟩
          · dsimp only
            rw [nP_pos (by simp)]
            exact agi
          · dsimp only
            rw [nO_pos (by simp), show mkA l (r2 + 1) = (gI l r2).2.2.2.2.2.2 from rfl]
            simp (disch := (first | omega | (simp only [push_cast]; first | done | omega))) only [push_cast, ↓reduceIte, Nat.reduceEqDiff, Nat.reduceBEq, Nat.reduceAdd, Nat.reduceSub, Int.reduceToNat, List.cons_append, List.nil_append, *]
      · skip
        have hbp : 0 < (br.map pvN).length := by rw [List.length_map]; exact List.length_pos_iff.2 hnil
        obtain ⟨hx2, hxy⟩ := hx hnil
        rw [nP_pos hbp, nO_pos hbp, List.length_map]
        simp only [List.cons_append, List.nil_append]
        have hx0 : ¬ x = 0 := by omega
        have hx1 : ¬ x = 1 := by omega
        have hxy2 : ¬ x = y := by omega
        have hyx : ¬ y = x := by omega
        (refine wlk ?_; intros)
        refine HY.block (HY.seq (HY.each (HO.pre (imm := ⟨[], [], []⟩) 2 GBki_ok (by kernel_rfl) (by simp only [List.take_succ_cons, List.take_zero] <;> exact rfl) (by simp only [List.drop_succ_cons, List.drop_zero] <;> exact rfl) (by simp only [List.map_cons, List.map_nil] <;> exact rfl) ?_)))
        (try dsimp only)
        (refine wlk ?_; intros)
        refine HO.call (ps := [chsP l wd most b, .agg [iv ((a : Int) - 1), bv (mkA l a), iv lk]]) (R := fun p L' => p = chP l a (bestA l wd most a lk) ∧ GoodL l wd most L') rfl rfl ⟨_, Try.func76, rfl, rfl⟩ rfl ?_ ?_ IH.out ?_
        · intro x e
          cases e
          decide
        · (try dsimp only)
          simp (disch := (first | omega | (simp only [push_cast]; first | done | omega))) only [push_cast, ↓reduceIte, Nat.reduceEqDiff, Nat.reduceBEq, Nat.reduceAdd, Nat.reduceSub, Int.reduceToNat, reify_chO (l := l) (wd := wd) (most := most) (b := b), *]
        rintro p L3 ⟨rfl, hL3⟩
        rw [chP_ne (show ¬ a = l.length by omega)]
        have HL3 := Lib.hid hL3
        clear hL3
        cases hr : bestA l wd most a lk with
        | none =>
          have hno : (bestA l wd most 0 1).isSome = false := by rw [← HI.out.ok, hr]; rfl
          rw [hno, if_neg (by decide)]
          dsimp only [aC, aN, aM, aK, AS.put]
          refine HO.pre (imm := ⟨[], [], []⟩) 2 GBki_ok (by kernel_rfl) (by simp only [List.take_succ_cons, List.take_zero] <;> exact rfl) (by simp only [List.drop_succ_cons, List.drop_zero] <;> exact rfl) (by simp only [List.map_cons, List.map_nil] <;> exact rfl) ?_
          (try dsimp only)
          (refine wlk ?_; intros)
          refine HO.nil ?_
          refine HY.seq (HY.eng mixed GBki_ok (by kernel_rfl) ?_)
          (try dsimp only)
          (refine wlk ?_; intros)
          refine ⟨by simp, ⟨_, tup_le (ps := [.val (.slice none 0 0), bv false]) ⟨nil_le _ _, PV.le_refl _, trivial⟩, ?_⟩, fun b2 L2 e => by cases e; exact hb⟩
          (simp (disch := (first | omega | (simp only [push_cast]; first | done | omega))) only [push_cast, ↓reduceIte, Nat.reduceEqDiff, Nat.reduceBEq, Nat.reduceAdd, Nat.reduceSub, Int.reduceToNat, *] <;> with_reducible exact rfl)
        | some r =>
          have hn := HI.out.next hB hm.2 hal hr
          replace hn := Lib.hid hn
          have hr1 := (bestA_bound hB hm.2 hle hr).1
          have hr2 := ((bestA_bound hB hm.2 hle hr).2 hal).1
          clear hr
          obtain ⟨r1, r2, r3⟩ := r
          dsimp only at hr1 hr2
          dsimp only [aC, aN, aM, aK, AS.put]
          refine HO.pre (imm := ⟨[], [], []⟩) 2 GBki_ok (by kernel_rfl) (by simp only [List.take_succ_cons, List.take_zero] <;> exact rfl) (by simp only [List.drop_succ_cons, List.drop_zero] <;> exact rfl) (by simp only [List.map_cons, List.map_nil] <;> exact rfl) ?_
          (try dsimp only)
          (refine wlk ?_; intros)
          refine HO.nil ?_
          refine HY.seq (HY.eng mixed GBki_ok (by kernel_rfl) ?_)
          (try dsimp only)
          (refine wlk ?_; intros)
          refine HY.eng mixed GBki_ok (by kernel_rfl) ?_
          (try dsimp only)
          (refine wlk ?_; intros)
          (try dsimp only)
          show ∃ j : Nat × Int × List Int × Nat × Nat, _
          refine ⟨(r2 + 1, r3, br ++ [(r2 : Int)], y + 2, y + 3), ⟨hn.out, ⟨by dsimp only; omega, fun _ => ⟨by dsimp only; omega, by dsimp only; omega⟩⟩, L3, rfl, HL3.out⟩, by dsimp only; omega, ?_, ?_, rfl⟩
          · dsimp only
            rw [nP_pos (by simp)]
            exact agi
          · dsimp only
            rw [nO_pos (by simp), show mkA l (r2 + 1) = (gI l r2).2.2.2.2.2.2 from rfl]
            simp (disch := (first | omega | (simp only [push_cast]; first | done | omega))) only [push_cast, ↓reduceIte, Nat.reduceEqDiff, Nat.reduceBEq, Nat.reduceAdd, Nat.reduceSub, Int.reduceToNat, List.cons_append, List.nil_append, *]
    · obtain rfl : a = l.length := by omega
      obtain ⟨hs, hbr⟩ := HI.out.last
      rw [hs, if_pos rfl, hbr]
      have hne : br ≠ [] := fun h => by
        have := HI.out.pos hpos
        rw [h] at this
        simp at this
      have hbp : 0 < (br.map pvN).length := by rw [List.length_map]; exact List.length_pos_iff.2 hne
      obtain ⟨hx2, hxy⟩ := hx hne
      rw [nP_pos hbp, nO_pos hbp, List.length_map]
      simp only [List.cons_append, List.nil_append]
      have hx0 : ¬ x = 0 := by omega
      have hx1 : ¬ x = 1 := by omega
      clear hbr hs
      (refine wlk ?_; intros)
      refine HY.seq (HY.eng mixed GBki_ok (by kernel_rfl) ?_)
      (try dsimp only)
      (refine wlk ?_; intros)
      refine HY.ret ?_
      refine ⟨by simp, ⟨_, PV.le_refl _, ?_⟩, fun b2 L2 e => by cases e; exact hb⟩
      (try dsimp only)
      (simp (disch := (first | omega | (simp only [push_cast]; first | done | omega))) only [push_cast, ↓reduceIte, Nat.reduceEqDiff, Nat.reduceBEq, Nat.reduceAdd, Nat.reduceSub, Int.reduceToNat, *] <;> with_reducible exact rfl)
  · have hno : brkOk l wd most = false := by
      cases h : brkOk l wd most with
      | false => rfl
      | true =>
        obtain ⟨h1, h2, h3, h4, -⟩ := brkOk_iff.1 h
        exact absurd ⟨h1, h2, h3, h4⟩ hg
    have hno2 : (itemsB l && (decide (0 < l.length) && (inB wd 0 1000 && inB most 0 10000))) = false := by
      cases h : (itemsB l && (decide (0 < l.length) && (inB wd 0 1000 && inB most 0 10000))) with
      | false => rfl
      | true =>
        simp only [Bool.and_eq_true, decide_eq_true_eq, inB_iff] at h
        exact absurd h hg
    rw [hno, if_neg (by decide)]
    rw [hno2] at apa
    clear hno hno2 hg
    have gbki_c75 := GBki_75
    (refine wlk ?_; intros)
    refine HY.seq (HY.eng mixed GBki_ok (by kernel_rfl) ?_)
    (try dsimp only)
    (refine wlk ?_; intros)
    refine ⟨by simp, ⟨_, tup_le (ps := [.val (.slice none 0 0), bv false]) ⟨nil_le _ _, PV.le_refl _, trivial⟩, ?_⟩, fun b2 L2 e => by cases e⟩
    (simp (disch := (first | omega | (simp only [push_cast]; first | done | omega))) only [push_cast, ↓reduceIte, Nat.reduceEqDiff, Nat.reduceBEq, Nat.reduceAdd, Nat.reduceSub, Int.reduceToNat, *] <;> with_reducible exact rfl)
end Go.Proofs.Ytngcedklbinhjaa
namespace Go.Proofs.Ytngcedklbinhjaa
open Go.RowKit
set_option linter.all false
noncomputable def prgA (ws pats : LS) : Bool := allWords ws && (allPats pats && decide (0 < ws.length))
noncomputable def φPiT : Fun := F2 dSs dSs fun ws pats => if okSs ws ∧ okSs pats then some (.tup [.lst true 7 ((if prgA ws pats = true then piR ws pats else []).map pvIt), .lst true 1 ((if prgA ws pats = true then txR ws pats else []).map fun s => .val (.string s)), bv (prgB ws pats)]) else none
theorem φPiT_ap {ws pats : LS} (h : okSs ws ∧ okSs pats) : φPiT [.lst false 1 (ws.map fun s => .val (.string s)), .lst false 1 (pats.map fun s => .val (.string s))] = some (.tup [.lst true 7 ((if prgA ws pats = true then piR ws pats else []).map pvIt), .lst true 1 ((if prgA ws pats = true then txR ws pats else []).map fun s => .val (.string s)), .val (.bool (prgB ws pats))]) := (F2_ap (A := dSs) (B := dSs) ws pats).trans (if_pos h)
theorem parts_pos {w : ByteArray} {pats : LS} (h1 : wordB w = true) (h2 : allPats pats = true) : 0 < (partsV w pats).length := by
  unfold partsV
  rw [if_pos (hypB_iff.2 ⟨h1, h2⟩)]
  unfold partsR
  rw [ptR_len]
  omega
theorem txK_pos {ws pats : LS} (h1 : allWords ws = true) (h2 : allPats pats = true) : ∀ k, k ≤ ws.length → 0 < k → 0 < (txK ws pats k).length
  | 0, _, h => by omega
  | k + 1, hk, _ => by
    have := parts_pos (pats := pats) (words_at h1 (k := k) (by omega)) h2
    rw [txK, List.length_append]
    omega
theorem piK_pos {ws pats : LS} (h1 : allWords ws = true) (h2 : allPats pats = true) {k : Nat} (hk : k ≤ ws.length) (h : 0 < k) : 0 < (piK ws pats k).length := by
  have h3 := txK_pos h1 h2 k hk h
  rw [← nb_pi] at h3
  exact Nat.lt_of_lt_of_le h3 (List.length_filter_le _ _)
end Go.Proofs.Ytngcedklbinhjaa
