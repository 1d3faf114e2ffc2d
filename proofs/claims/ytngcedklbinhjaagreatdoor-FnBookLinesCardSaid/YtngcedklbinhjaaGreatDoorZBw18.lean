/- What the proof rests on, part 18: contracts of functions. No condition beyond what each states. -/
import Derived.Test.YtngcedklbinhjaaGreatDoorZBw17
namespace Go.Proofs.YtngcedklbinhjaaGreatDoor
open Go.RowKit
set_option linter.all false
theorem wO {l : LS} {k : Nat} (h : k < l.length) : l.take (k + 1) = l.take k ++ [l[k]?.getD .empty] := by
 rw [List.take_succ_eq_append_getElem h, List.getElem?_eq_getElem h]
 rfl
theorem agM (ps : LS) : ∀ {k : Nat}, 0 < k → 0 < (wiK ps k).length
 | 0, h => by omega
 | k + 1, _ => by
  rw [wiK, List.length_append, List.length_singleton]
  omega
noncomputable def acr : Ctx := { fn := fun f => if f = 42 then some gQ else if f = 43 then some fB else if f = 44 then some φPr else if f = 45 then some φWw else none, io := fun f => none }
theorem arn : aA Tryz.prog acr := ⟨(fun f φ h => by
 unfold acr at h
 dsimp only at h
 split at h
 ·rename_i hf; cases h; subst hf; exact ⟨⟨_, Tryz.func42, rfl, rfl⟩, j5⟩
 split at h
 ·rename_i hf; cases h; subst hf; exact ⟨⟨_, Tryz.func43, rfl, rfl⟩, eZ⟩
 split at h
 ·rename_i hf; cases h; subst hf; exact ⟨⟨_, Tryz.func44, rfl, rfl⟩, ahD⟩
 split at h
 ·rename_i hf; cases h; subst hf; exact ⟨⟨_, Tryz.func45, rfl, rfl⟩, ai6⟩
 cases h), (fun f φ h => by
 unfold acr at h
 dsimp only at h
 cases h), rfl⟩
theorem xP (ob : aF) (ps : List PV) : ah acr ob 42 ps = (ps.mapM (reify false 0 ob fuel)).bind gQ := by
 have h : acr.fn 42 = some gQ := by simp [acr]
 unfold ah
 rw [h]
 cases ps.mapM (reify false 0 ob fuel) <;> rfl
theorem xK (ob : aF) (ps : List PV) : ah acr ob 43 ps = (ps.mapM (reify false 0 ob fuel)).bind fB := by
 have h : acr.fn 43 = some fB := by simp [acr]
 unfold ah
 rw [h]
 cases ps.mapM (reify false 0 ob fuel) <;> rfl
theorem yP (ob : aF) (ps : List PV) : ah acr ob 44 ps = (ps.mapM (reify false 0 ob fuel)).bind φPr := by
 have h : acr.fn 44 = some φPr := by simp [acr]
 unfold ah
 rw [h]
 cases ps.mapM (reify false 0 ob fuel) <;> rfl
theorem xZ (ob : aF) (ps : List PV) : ah acr ob 45 ps = (ps.mapM (reify false 0 ob fuel)).bind φWw := by
 have h : acr.fn 45 = some φWw := by simp [acr]
 unfold ah
 rw [h]
 cases ps.mapM (reify false 0 ob fuel) <;> rfl
set_option maxHeartbeats 16000000 in
theorem aeS : Sound Tryz.prog 23 aj6 := by
 refine l7 mixed arn Tryz.func23 rfl 81 rfl [.tmp 4, .tmp 5, .tmp 6] rfl (by kernel_rfl) fun ps r hr => ?_
 obtain ⟨ws, pats, rfl, hq⟩ := dA hr
 clear hr
 split at hq
 case isFalse => cases hq
 case isTrue hpre =>
 cases hq
 refine ⟨by simp, ?_⟩
 simp only [dIs, dUs, dSs, eX, fq, eT, fE, bS, fA, bO, bP, bR, bQ]
 have ap1 := mW hpre.1
 have ap2 := iK hpre.2
 have hwl0 := hpre.1.1
 cases hw : bX ws with
 | false =>
  have hA : aa6 ws pats = false := by unfold aa6; rw [hw]; rfl
  have hB : qC ws pats = false := by unfold qC; rw [hw]; rfl
  rw [hw] at ap1
  rw [hB, hA]
  simp only [Bool.false_eq_true, if_false, List.map_nil]
  clear hpre hw hB hA
  have gpit_c42 := xP; have gpit_c43 := xK; have gpit_c44 := yP; have gpit_c45 := xZ
  (refine wlk ?_; intros)
  all_goals ((with_reducible apply fP (by first | exact .inl rfl | exact .inr rfl)); (simp (disch := (first | omega | (simp only [push_cast]; first | done | omega))) only [push_cast, ↓reduceIte, Nat.reduceEqDiff, Nat.reduceBEq, Nat.reduceAdd, Nat.reduceSub, Int.reduceToNat, *] <;> with_reducible exact rfl))
  all_goals exact tQ ⟨nil_le _ _, nil_le _ _, PV.le_refl _, trivial⟩
 | true =>
 cases hp : bT pats with
 | false =>
  have hA : aa6 ws pats = false := by unfold aa6; rw [hw, hp]; rfl
  have hB : qC ws pats = false := by unfold qC; rw [hw, hp]; rfl
  rw [hw] at ap1
  rw [hp] at ap2
  rw [hB, hA]
  simp only [Bool.false_eq_true, if_false, List.map_nil]
  clear hpre hw hp hB hA
  have gpit_c42 := xP; have gpit_c43 := xK; have gpit_c44 := yP; have gpit_c45 := xZ
  (refine wlk ?_; intros)
  all_goals ((with_reducible apply fP (by first | exact .inl rfl | exact .inr rfl)); (simp (disch := (first | omega | (simp only [push_cast]; first | done | omega))) only [push_cast, ↓reduceIte, Nat.reduceEqDiff, Nat.reduceBEq, Nat.reduceAdd, Nat.reduceSub, Int.reduceToNat, *] <;> with_reducible exact rfl))
  all_goals exact tQ ⟨nil_le _ _, nil_le _ _, PV.le_refl _, trivial⟩
 | true =>
 by_cases hz : ws.length = 0
 ·have hA : aa6 ws pats = false := by unfold aa6; rw [hw, hp, hz]; rfl
  have hB : qC ws pats = false := by unfold qC; rw [hw, hp, hz]; rfl
  rw [hw] at ap1
  rw [hp] at ap2
  rw [hB, hA]
  simp only [Bool.false_eq_true, if_false, List.map_nil]
  clear hpre hw hp hB hA
  have gpit_c42 := xP; have gpit_c43 := xK; have gpit_c44 := yP; have gpit_c45 := xZ
  (refine wlk ?_; intros)
  all_goals ((with_reducible apply fP (by first | exact .inl rfl | exact .inr rfl)); (simp (disch := (first | omega | (simp only [push_cast]; first | done | omega))) only [push_cast, ↓reduceIte, Nat.reduceEqDiff, Nat.reduceBEq, Nat.reduceAdd, Nat.reduceSub, Int.reduceToNat, *] <;> with_reducible exact rfl))
  all_goals exact tQ ⟨nil_le _ _, nil_le _ _, PV.le_refl _, trivial⟩
 ·have hB : qC ws pats = decide ((piR ws pats).length ≤ 60) := by
   unfold qC
   rw [hw, hp, decide_eq_true (show 0 < ws.length by omega)]
   rfl
  have hA : aa6 ws pats = true := by
   unfold aa6
   rw [hw, hp, decide_eq_true (show 0 < ws.length by omega)]
   rfl
  have hwl := uD hw
  have hap : ∀ k, k < ws.length → φPr [.val (.string (ws[k]?.getD .empty)), .lst false 1 (pats.map fun s => .val (.string s))] = some (.lst true 1 ((dD (ws[k]?.getD .empty) pats).map fun s => .val (.string s))) := fun k hk => aa9 ⟨hpre.1.2 k, hpre.2⟩
  have hpp : ∀ k : Nat, k < ws.length → 0 < (dD (ws[k]?.getD ByteArray.empty) pats).length := fun k hk => vo (mX hw hk) hp
  have hpw : ∀ k j : Nat, j < (dD (ws[k]?.getD ByteArray.empty) pats).length → ((dD (ws[k]?.getD ByteArray.empty) pats)[j]?.getD .empty).size ≤ 1048576 := fun k j hj => by
   have := (aW (aaz hj)).2.2
   omega
  have hpl : ∀ k : Nat, (dD (ws[k]?.getD ByteArray.empty) pats).length ≤ 21 := fun k => kg _ _
  have htp := fun k hk h0 => agK hw hp k hk h0
  have hip := fun k hk h0 => aqb (k := k) hw hp hk h0
  have htl := ab3 ws pats
  have hil := ac1 ws pats
  rw [hw] at ap1
  rw [hp] at ap2
  rw [hB, hA]
  simp only [if_true]
  have hR : piR ws pats = piK ws pats ws.length ++ [(3, 0, 0, 0, 0, 10000, false), (2, 0, 1, 0, 1, 0, false), (3, 0, 0, 0, 0, -10000, false)] := rfl
  have hT : txR ws pats = txK ws pats ws.length := rfl
  rw [hR, hT]
  clear hpre hw hp hB hA hR hT
  have gpit_c42 := xP; have gpit_c43 := xK; have gpit_c44 := yP; have gpit_c45 := xZ
  (refine wlk ?_; intros)
  refine aT (α := Nat × Nat × Nat × Nat) mixed (fun z => [(1, .lst false 1 (pats.map pvS)), (7, nP 7 ((piK ws pats z.1).map gJ) z.2.1), (8, nP 1 ((txK ws pats z.1).map pvS) z.2.2.1), (26, .lst false 1 (ws.map pvS)), (27, iv ws.length), (28, iv z.1)])
   (fun z => nO 56 7 ((piK ws pats z.1).map gJ) z.2.1 ++ nO 9 1 ((txK ws pats z.1).map pvS) z.2.2.1) (fun z => z.2.2.2)
   (fun z => z.1 ≤ ws.length ∧ (0 < z.1 → z.2.1 < z.2.2.2 ∧ z.2.2.1 < z.2.2.2 ∧ ¬ z.2.1 = z.2.2.1)) (fun z => ws.length - z.1) (by kernel_rfl) (0, 0, 0, 0) ⟨Nat.zero_le _, by simp⟩ ?_ ?_ rfl ?_
  ·simp (disch := (first | omega | (simp only [push_cast]; first | done | omega))) only [push_cast, ↓reduceIte, Nat.reduceEqDiff, Nat.reduceBEq, Nat.reduceAdd, Nat.reduceSub, Int.reduceToNat, piK, txK, List.map_nil, *]
  ·simp (disch := (first | omega | (simp only [push_cast]; first | done | omega))) only [push_cast, ↓reduceIte, Nat.reduceEqDiff, Nat.reduceBEq, Nat.reduceAdd, Nat.reduceSub, Int.reduceToNat, piK, txK, List.map_nil, List.append_nil, *]
  rintro ⟨k, x, xt, y⟩ ⟨hk, hxy⟩
  dsimp only at hk hxy
  by_cases h0 : k < ws.length
  ·have apr := hap k h0
   have hps := hpw k
   have hpl2 := hpl k
   have hpp2 := hpp k h0
   have hKI0 : piK ws pats (k + 1) = (if k = 0 then piK ws pats k else piK ws pats k ++ [(2, 4, 3, 1, 0, 0, false)]) ++ wiK (dD (ws[k]?.getD .empty) pats) (dD (ws[k]?.getD .empty) pats).length := rfl
   have hKT : txK ws pats (k + 1) = txK ws pats k ++ dD (ws[k]?.getD .empty) pats := rfl
   have hpos := Lib.hid (And.intro (hip (k + 1) (by omega) (by omega)) (htp (k + 1) (by omega) (by omega)))
   have hlk := hil k
   have hlt := htl k
   generalize dD (ws[k]?.getD .empty) pats = ps at *
   have hwk := xY ps
   by_cases hk0 : k = 0
   ·rw [if_pos hk0] at hKI0
    have hI0 : piK ws pats k = [] := by rw [hk0]; rfl
    have hT0 : txK ws pats k = [] := by rw [hk0]; rfl
    obtain ⟨A, hA⟩ : ∃ A, A = piK ws pats k := ⟨_, rfl⟩
    obtain ⟨T, hT⟩ : ∃ T, T = txK ws pats k := ⟨_, rfl⟩
    have hAT : (0 < A.length ∧ 0 < T.length) ∨ (A.length = 0 ∧ T.length = 0) := .inr (by rw [hA, hT, hI0, hT0]; exact ⟨rfl, rfl⟩)
    rw [← hA] at hKI0 hlk
    rw [← hT] at hKT hlt
    have hAe : A = [] := hA.trans hI0
    have hTe : T = [] := hT.trans hT0
    rw [hI0, hT0]
    replace hAe := Lib.hid hAe
    replace hTe := Lib.hid hTe
    have hKI := Lib.hid hKI0
    replace hKT := Lib.hid hKT
    replace hI0 := Lib.hid hI0
    replace hk0 : k < 1 := by omega
    clear hKI0 hA hT hT0 hxy hap hpp hpw hpl hil htl hip htp
    (refine wlk ?_; intros)
    refine aT (α := Nat × Nat × Nat × Nat) mixed (fun z => [(1, .lst false 1 (pats.map pvS)), (7, nP 7 ((A ++ wiK ps z.1).map gJ) z.2.1), (8, nP 1 ((T ++ ps.take z.1).map pvS) z.2.2.1), (26, .lst false 1 (ws.map pvS)), (27, iv ws.length), (28, iv k), (42, .lst true 1 (ps.map pvS)), (43, iv ps.length), (44, iv z.1)])
     (fun z => nO 56 7 ((A ++ wiK ps z.1).map gJ) z.2.1 ++ nO 9 1 ((T ++ ps.take z.1).map pvS) z.2.2.1) (fun z => z.2.2.2)
     (fun z => z.1 ≤ ps.length ∧ (0 < (A ++ wiK ps z.1).length → z.2.1 < z.2.2.2 ∧ z.2.2.1 < z.2.2.2 ∧ ¬ z.2.1 = z.2.2.1)) (fun z => ps.length - z.1) (by kernel_rfl) (0, x, xt, y) ⟨Nat.zero_le _, fun h => by rw [hAe.out] at h; simp [wiK] at h⟩ ?_ ?_ rfl ?_
    ·simp (disch := (first | omega | (simp only [push_cast]; first | done | omega))) only [push_cast, ↓reduceIte, Nat.reduceEqDiff, Nat.reduceBEq, Nat.reduceAdd, Nat.reduceSub, Int.reduceToNat, wiK, List.take_zero, List.append_nil, hAe.out, hTe.out, List.map_nil, *]
    ·simp (disch := (first | omega | (simp only [push_cast]; first | done | omega))) only [push_cast, ↓reduceIte, Nat.reduceEqDiff, Nat.reduceBEq, Nat.reduceAdd, Nat.reduceSub, Int.reduceToNat, wiK, List.take_zero, List.append_nil, hAe.out, hTe.out, List.map_nil, *]
    clear hI0
    rintro ⟨j, x2, xt2, y2⟩ ⟨hj, hx2⟩
    dsimp only at hj hx2
    have hwj := hwk j
    by_cases hjl : j < ps.length
    ·have hn : A ++ wiK ps (j + 1) = (if j = 0 then A ++ wiK ps j else (A ++ wiK ps j) ++ [(3, 3, 0, 0, 0, 50, true)]) ++ [(1, nR (ps[j]?.getD .empty), 0, 0, 0, 0, false)] := by
      rw [wiK]
      split <;> simp
     have ht : T ++ ps.take (j + 1) = (T ++ ps.take j) ++ [ps[j]?.getD .empty] := by rw [wO hjl, List.append_assoc]
     have h3 : (0 < (A ++ wiK ps j).length ∧ 0 < (T ++ ps.take j).length) ∨ ((A ++ wiK ps j) = [] ∧ (T ++ ps.take j) = [] ∧ j < 1) := by
      by_cases hj0 : j = 0
      ·subst hj0
       rcases hAT with h | h
       ·exact .inl ⟨by rw [List.length_append]; omega, by rw [List.length_append]; omega⟩
       ·exact .inr ⟨by rw [List.eq_nil_of_length_eq_zero h.1]; rfl, by rw [List.eq_nil_of_length_eq_zero h.2]; rfl, by omega⟩
      ·refine .inl ⟨by rw [List.length_append]; have := agM ps (k := j) (by omega); omega, by rw [List.length_append, List.length_take]; omega⟩
     have hil2 : (A ++ wiK ps j).length ≤ 700 := by rw [List.length_append]; omega
     have htl2 : (T ++ ps.take j).length ≤ 400 := by rw [List.length_append, List.length_take]; omega
     have apw := abm (hps j hjl)
     have hnx : 0 < (A ++ wiK ps (j + 1)).length ∧ 0 < (T ++ ps.take (j + 1)).length := ⟨by rw [hn, List.length_append, List.length_singleton]; omega, by rw [ht, List.length_append, List.length_singleton]; omega⟩
     replace hnx := Lib.hid hnx
     replace hn := Lib.hid hn
     replace ht := Lib.hid ht
     generalize A ++ wiK ps j = its at *
     generalize T ++ ps.take j = tx at *
     clear hwj hwk hps
     rcases h3 with ⟨hi0, ht0⟩ | ⟨rfl, rfl, hj1⟩
     ·obtain ⟨x3, x4, x5⟩ := hx2 hi0
      have hap : 0 < (its.map gJ).length := by rw [List.length_map]; omega
      have hbp : 0 < (tx.map pvS).length := by rw [List.length_map]; omega
      have x6 : ¬ xt2 = x2 := fun q => x5 q.symm
      clear hx2
      simp only [aS hap, aS hbp, aU hap, aU hbp, List.length_map, List.cons_append, List.nil_append]
      by_cases hj0 : j = 0
      ·have hn2 := hn.out
       rw [if_pos hj0] at hn2
       replace hn2 := Lib.hid hn2
       replace hj0 : j < 1 := by omega
       (refine wlk ?_; intros)
       refine ⟨(j + 1, y2 + 1, y2 + 3, y2 + 4), ⟨by dsimp only; omega, fun _ => by dsimp only; omega⟩, by dsimp only; omega, ?_, ?_, rfl⟩
       ·have h1 := hnx.out
        have hap3 : 0 < ((A ++ wiK ps (j + 1)).map gJ).length := by rw [List.length_map]; exact h1.1
        have hbp3 : 0 < ((T ++ ps.take (j + 1)).map pvS).length := by rw [List.length_map]; exact h1.2
        dsimp only
        rw [aS hap3, aS hbp3, hn2.out, ht.out]
        exact agr
       ·have h1 := hnx.out
        have hap3 : 0 < ((A ++ wiK ps (j + 1)).map gJ).length := by rw [List.length_map]; exact h1.1
        have hbp3 : 0 < ((T ++ ps.take (j + 1)).map pvS).length := by rw [List.length_map]; exact h1.2
        dsimp only
        rw [aU hap3, aU hbp3, hn2.out, ht.out]
        simp (disch := (first | omega | (simp only [push_cast]; first | done | omega))) only [push_cast, ↓reduceIte, Nat.reduceEqDiff, Nat.reduceBEq, Nat.reduceAdd, Nat.reduceSub, Int.reduceToNat, List.cons_append, List.nil_append, *]
      ·have hn2 := hn.out
       rw [if_neg hj0] at hn2
       replace hn2 := Lib.hid hn2
       (refine wlk ?_; intros)
       refine ⟨(j + 1, y2 + 3, y2 + 5, y2 + 6), ⟨by dsimp only; omega, fun _ => by dsimp only; omega⟩, by dsimp only; omega, ?_, ?_, rfl⟩
       ·have h1 := hnx.out
        have hap3 : 0 < ((A ++ wiK ps (j + 1)).map gJ).length := by rw [List.length_map]; exact h1.1
        have hbp3 : 0 < ((T ++ ps.take (j + 1)).map pvS).length := by rw [List.length_map]; exact h1.2
        dsimp only
        rw [aS hap3, aS hbp3, hn2.out, ht.out]
        exact agr
       ·have h1 := hnx.out
        have hap3 : 0 < ((A ++ wiK ps (j + 1)).map gJ).length := by rw [List.length_map]; exact h1.1
        have hbp3 : 0 < ((T ++ ps.take (j + 1)).map pvS).length := by rw [List.length_map]; exact h1.2
        dsimp only
        rw [aU hap3, aU hbp3, hn2.out, ht.out]
        simp (disch := (first | omega | (simp only [push_cast]; first | done | omega))) only [push_cast, ↓reduceIte, Nat.reduceEqDiff, Nat.reduceBEq, Nat.reduceAdd, Nat.reduceSub, Int.reduceToNat, List.cons_append, List.nil_append, *]
     ·have hn2 := hn.out
      rw [if_pos (show j = 0 by omega)] at hn2
      replace hn2 := Lib.hid hn2
      clear hx2
      (refine wlk ?_; intros)
      refine ⟨(j + 1, y2 + 1, y2 + 3, y2 + 4), ⟨by dsimp only; omega, fun _ => by dsimp only; omega⟩, by dsimp only; omega, ?_, ?_, rfl⟩
      ·have h1 := hnx.out
       have hap3 : 0 < ((A ++ wiK ps (j + 1)).map gJ).length := by rw [List.length_map]; exact h1.1
       have hbp3 : 0 < ((T ++ ps.take (j + 1)).map pvS).length := by rw [List.length_map]; exact h1.2
       dsimp only
       rw [aS hap3, aS hbp3, hn2.out, ht.out]
       exact agr
      ·have h1 := hnx.out
       have hap3 : 0 < ((A ++ wiK ps (j + 1)).map gJ).length := by rw [List.length_map]; exact h1.1
       have hbp3 : 0 < ((T ++ ps.take (j + 1)).map pvS).length := by rw [List.length_map]; exact h1.2
       dsimp only
       rw [aU hap3, aU hbp3, hn2.out, ht.out]
       simp (disch := (first | omega | (simp only [push_cast]; first | done | omega))) only [push_cast, ↓reduceIte, Nat.reduceEqDiff, Nat.reduceBEq, Nat.reduceAdd, Nat.reduceSub, Int.reduceToNat, List.cons_append, List.nil_append, *]
    ·obtain rfl : j = ps.length := by omega
     rw [List.take_length] at *
     rw [← hKI.out, ← hKT.out] at *
     obtain ⟨hi2, ht2⟩ := hpos.out
     obtain ⟨x3, x4, x5⟩ := hx2 hi2
     have x6 : ¬ xt2 = x2 := fun q => x5 q.symm
     have hap : 0 < ((piK ws pats (k + 1)).map gJ).length := by rw [List.length_map]; omega
     have hbp : 0 < ((txK ws pats (k + 1)).map pvS).length := by rw [List.length_map]; omega
     clear hx2 hwk hps
     simp only [aS hap, aS hbp, aU hap, aU hbp, List.length_map, List.cons_append, List.nil_append]
     (refine wlk ?_; intros)
     refine ⟨(k + 1, x2, xt2, y2), ⟨by dsimp only; omega, fun _ => ⟨x3, x4, x5⟩⟩, by dsimp only; omega, ?_, ?_, rfl⟩
     ·simp (disch := (first | omega | (simp only [push_cast]; first | done | omega))) only [push_cast, ↓reduceIte, Nat.reduceEqDiff, Nat.reduceBEq, Nat.reduceAdd, Nat.reduceSub, Int.reduceToNat, aS hap, aS hbp, *]
     ·simp (disch := (first | omega | (simp only [push_cast]; first | done | omega))) only [push_cast, ↓reduceIte, Nat.reduceEqDiff, Nat.reduceBEq, Nat.reduceAdd, Nat.reduceSub, Int.reduceToNat, aU hap, aU hbp, List.cons_append, List.nil_append, *]
   ·rw [if_neg hk0] at hKI0
    have hi0 := hip k hk (by omega)
    have ht0 := htp k hk (by omega)
    obtain ⟨x3, x4, x5⟩ := hxy (by omega)
    have x6 : ¬ xt = x := fun q => x5 q.symm
    obtain ⟨A, hA⟩ : ∃ A, A = piK ws pats k ++ [(2, 4, 3, 1, 0, 0, false)] := ⟨_, rfl⟩
    rw [← hA] at hKI0
    have hAl : A.length = (piK ws pats k).length + 1 := by rw [hA]; simp
    generalize piK ws pats k = P at *
    generalize txK ws pats k = T at *
    have hAT : (0 < A.length ∧ 0 < T.length) ∨ (A.length = 0 ∧ T.length = 0) := .inl ⟨by omega, ht0⟩
    have hap1 : 0 < (P.map gJ).length := by rw [List.length_map]; omega
    have hbp1 : 0 < (T.map pvS).length := by rw [List.length_map]; omega
    have hap2 : 0 < ((A ++ wiK ps 0).map gJ).length := by rw [List.length_map, List.length_append]; omega
    have hbp2 : 0 < ((T ++ ps.take 0).map pvS).length := by rw [List.length_map, List.length_append]; omega
    simp only [aS hap1, aS hbp1, aU hap1, aU hbp1, List.length_map, List.cons_append, List.nil_append]
    have hlkP : P.length ≤ 600 := by omega
    replace hlk : A.length ≤ 43 * k + 1 := by omega
    have hA1 : A ++ wiK ps 0 = P ++ [(2, 4, 3, 1, 0, 0, false)] := by rw [hA]; exact List.append_nil _
    have hT1 : T ++ ps.take 0 = T := List.append_nil _
    have hI0 := Lib.hid (And.intro hA1 hT1)
    have hKI := Lib.hid hKI0
    replace hKT := Lib.hid hKT
    replace hA := Lib.hid hA
    replace hAl := Lib.hid hAl
    clear hKI0 hxy hap hpp hpw hpl hil htl hip htp hA1 hT1
    replace hk0 : 0 < k := by omega
    (refine wlk ?_; intros)
    refine aT (α := Nat × Nat × Nat × Nat) mixed (fun z => [(1, .lst false 1 (pats.map pvS)), (7, nP 7 ((A ++ wiK ps z.1).map gJ) z.2.1), (8, nP 1 ((T ++ ps.take z.1).map pvS) z.2.2.1), (26, .lst false 1 (ws.map pvS)), (27, iv ws.length), (28, iv k), (42, .lst true 1 (ps.map pvS)), (43, iv ps.length), (44, iv z.1)])
     (fun z => nO 56 7 ((A ++ wiK ps z.1).map gJ) z.2.1 ++ nO 9 1 ((T ++ ps.take z.1).map pvS) z.2.2.1) (fun z => z.2.2.2)
     (fun z => z.1 ≤ ps.length ∧ (0 < (A ++ wiK ps z.1).length → z.2.1 < z.2.2.2 ∧ z.2.2.1 < z.2.2.2 ∧ ¬ z.2.1 = z.2.2.1)) (fun z => ps.length - z.1) (by kernel_rfl) (0, y + 1, xt, y + 2) ⟨Nat.zero_le _, fun _ => by dsimp only; omega⟩ ?_ ?_ rfl ?_
    ·dsimp only; rw [aS hap2, aS hbp2, hI0.out.1, hI0.out.2]; exact agr
    ·dsimp only; rw [aU hap2, aU hbp2, hI0.out.1, hI0.out.2]; simp (disch := (first | omega | (simp only [push_cast]; first | done | omega))) only [push_cast, ↓reduceIte, Nat.reduceEqDiff, Nat.reduceBEq, Nat.reduceAdd, Nat.reduceSub, Int.reduceToNat, List.cons_append, List.nil_append, *]
    clear hI0
    rintro ⟨j, x2, xt2, y2⟩ ⟨hj, hx2⟩
    dsimp only at hj hx2
    have hwj := hwk j
    by_cases hjl : j < ps.length
    ·have hn : A ++ wiK ps (j + 1) = (if j = 0 then A ++ wiK ps j else (A ++ wiK ps j) ++ [(3, 3, 0, 0, 0, 50, true)]) ++ [(1, nR (ps[j]?.getD .empty), 0, 0, 0, 0, false)] := by
      rw [wiK]
      split <;> simp
     have ht : T ++ ps.take (j + 1) = (T ++ ps.take j) ++ [ps[j]?.getD .empty] := by rw [wO hjl, List.append_assoc]
     have h3 : (0 < (A ++ wiK ps j).length ∧ 0 < (T ++ ps.take j).length) ∨ ((A ++ wiK ps j) = [] ∧ (T ++ ps.take j) = [] ∧ j < 1) := by
      by_cases hj0 : j = 0
      ·subst hj0
       rcases hAT with h | h
       ·exact .inl ⟨by rw [List.length_append]; omega, by rw [List.length_append]; omega⟩
       ·exact .inr ⟨by rw [List.eq_nil_of_length_eq_zero h.1]; rfl, by rw [List.eq_nil_of_length_eq_zero h.2]; rfl, by omega⟩
      ·refine .inl ⟨by rw [List.length_append]; have := agM ps (k := j) (by omega); omega, by rw [List.length_append, List.length_take]; omega⟩
     have hil2 : (A ++ wiK ps j).length ≤ 700 := by rw [List.length_append]; omega
     have htl2 : (T ++ ps.take j).length ≤ 400 := by rw [List.length_append, List.length_take]; omega
     have apw := abm (hps j hjl)
     have hnx : 0 < (A ++ wiK ps (j + 1)).length ∧ 0 < (T ++ ps.take (j + 1)).length := ⟨by rw [hn, List.length_append, List.length_singleton]; omega, by rw [ht, List.length_append, List.length_singleton]; omega⟩
     replace hnx := Lib.hid hnx
     replace hn := Lib.hid hn
     replace ht := Lib.hid ht
     generalize A ++ wiK ps j = its at *
     generalize T ++ ps.take j = tx at *
     clear hwj hwk hps
     rcases h3 with ⟨hi0, ht0⟩ | ⟨rfl, rfl, hj1⟩
     ·obtain ⟨x3, x4, x5⟩ := hx2 hi0
      have hap : 0 < (its.map gJ).length := by rw [List.length_map]; omega
      have hbp : 0 < (tx.map pvS).length := by rw [List.length_map]; omega
      have x6 : ¬ xt2 = x2 := fun q => x5 q.symm
      clear hx2
      simp only [aS hap, aS hbp, aU hap, aU hbp, List.length_map, List.cons_append, List.nil_append]
      by_cases hj0 : j = 0
      ·have hn2 := hn.out
       rw [if_pos hj0] at hn2
       replace hn2 := Lib.hid hn2
       replace hj0 : j < 1 := by omega
       (refine wlk ?_; intros)
       refine ⟨(j + 1, y2 + 1, y2 + 3, y2 + 4), ⟨by dsimp only; omega, fun _ => by dsimp only; omega⟩, by dsimp only; omega, ?_, ?_, rfl⟩
       ·have h1 := hnx.out
        have hap3 : 0 < ((A ++ wiK ps (j + 1)).map gJ).length := by rw [List.length_map]; exact h1.1
        have hbp3 : 0 < ((T ++ ps.take (j + 1)).map pvS).length := by rw [List.length_map]; exact h1.2
        dsimp only
        rw [aS hap3, aS hbp3, hn2.out, ht.out]
        exact agr
       ·have h1 := hnx.out
        have hap3 : 0 < ((A ++ wiK ps (j + 1)).map gJ).length := by rw [List.length_map]; exact h1.1
        have hbp3 : 0 < ((T ++ ps.take (j + 1)).map pvS).length := by rw [List.length_map]; exact h1.2
        dsimp only
        rw [aU hap3, aU hbp3, hn2.out, ht.out]
        simp (disch := (first | omega | (simp only [push_cast]; first | done | omega))) only [push_cast, ↓reduceIte, Nat.reduceEqDiff, Nat.reduceBEq, Nat.reduceAdd, Nat.reduceSub, Int.reduceToNat, List.cons_append, List.nil_append, *]
      ·have hn2 := hn.out
       rw [if_neg hj0] at hn2
       replace hn2 := Lib.hid hn2
       (refine wlk ?_; intros)
       refine ⟨(j + 1, y2 + 3, y2 + 5, y2 + 6), ⟨by dsimp only; omega, fun _ => by dsimp only; omega⟩, by dsimp only; omega, ?_, ?_, rfl⟩
       ·have h1 := hnx.out
        have hap3 : 0 < ((A ++ wiK ps (j + 1)).map gJ).length := by rw [List.length_map]; exact h1.1
        have hbp3 : 0 < ((T ++ ps.take (j + 1)).map pvS).length := by rw [List.length_map]; exact h1.2
        dsimp only
        rw [aS hap3, aS hbp3, hn2.out, ht.out]
        exact agr
       ·have h1 := hnx.out
        have hap3 : 0 < ((A ++ wiK ps (j + 1)).map gJ).length := by rw [List.length_map]; exact h1.1
        have hbp3 : 0 < ((T ++ ps.take (j + 1)).map pvS).length := by rw [List.length_map]; exact h1.2
        dsimp only
        rw [aU hap3, aU hbp3, hn2.out, ht.out]
        simp (disch := (first | omega | (simp only [push_cast]; first | done | omega))) only [push_cast, ↓reduceIte, Nat.reduceEqDiff, Nat.reduceBEq, Nat.reduceAdd, Nat.reduceSub, Int.reduceToNat, List.cons_append, List.nil_append, *]
     ·have hn2 := hn.out
      rw [if_pos (show j = 0 by omega)] at hn2
      replace hn2 := Lib.hid hn2
      clear hx2
      (refine wlk ?_; intros)
      refine ⟨(j + 1, y2 + 1, y2 + 3, y2 + 4), ⟨by dsimp only; omega, fun _ => by dsimp only; omega⟩, by dsimp only; omega, ?_, ?_, rfl⟩
      ·have h1 := hnx.out
       have hap3 : 0 < ((A ++ wiK ps (j + 1)).map gJ).length := by rw [List.length_map]; exact h1.1
       have hbp3 : 0 < ((T ++ ps.take (j + 1)).map pvS).length := by rw [List.length_map]; exact h1.2
       dsimp only
       rw [aS hap3, aS hbp3, hn2.out, ht.out]
       exact agr
      ·have h1 := hnx.out
       have hap3 : 0 < ((A ++ wiK ps (j + 1)).map gJ).length := by rw [List.length_map]; exact h1.1
       have hbp3 : 0 < ((T ++ ps.take (j + 1)).map pvS).length := by rw [List.length_map]; exact h1.2
       dsimp only
       rw [aU hap3, aU hbp3, hn2.out, ht.out]
       simp (disch := (first | omega | (simp only [push_cast]; first | done | omega))) only [push_cast, ↓reduceIte, Nat.reduceEqDiff, Nat.reduceBEq, Nat.reduceAdd, Nat.reduceSub, Int.reduceToNat, List.cons_append, List.nil_append, *]
    ·obtain rfl : j = ps.length := by omega
     rw [List.take_length] at *
     rw [← hKI.out, ← hKT.out] at *
     obtain ⟨hi2, ht2⟩ := hpos.out
     obtain ⟨x3, x4, x5⟩ := hx2 hi2
     have x6 : ¬ xt2 = x2 := fun q => x5 q.symm
     have hap : 0 < ((piK ws pats (k + 1)).map gJ).length := by rw [List.length_map]; omega
     have hbp : 0 < ((txK ws pats (k + 1)).map pvS).length := by rw [List.length_map]; omega
     clear hx2 hwk hps
     simp only [aS hap, aS hbp, aU hap, aU hbp, List.length_map, List.cons_append, List.nil_append]
     (refine wlk ?_; intros)
     refine ⟨(k + 1, x2, xt2, y2), ⟨by dsimp only; omega, fun _ => ⟨x3, x4, x5⟩⟩, by dsimp only; omega, ?_, ?_, rfl⟩
     ·simp (disch := (first | omega | (simp only [push_cast]; first | done | omega))) only [push_cast, ↓reduceIte, Nat.reduceEqDiff, Nat.reduceBEq, Nat.reduceAdd, Nat.reduceSub, Int.reduceToNat, aS hap, aS hbp, *]
     ·simp (disch := (first | omega | (simp only [push_cast]; first | done | omega))) only [push_cast, ↓reduceIte, Nat.reduceEqDiff, Nat.reduceBEq, Nat.reduceAdd, Nat.reduceSub, Int.reduceToNat, aU hap, aU hbp, List.cons_append, List.nil_append, *]
  ·obtain rfl : k = ws.length := by omega
   have hi0 := hip _ (Nat.le_refl _) (by omega)
   have ht0 := htp _ (Nat.le_refl _) (by omega)
   obtain ⟨x3, x4, x5⟩ := hxy (by omega)
   have x6 : ¬ xt = x := fun q => x5 q.symm
   have hlk := hil ws.length
   have hlt := htl ws.length
   generalize piK ws pats ws.length = P at *
   generalize txK ws pats ws.length = T at *
   have hap1 : 0 < (P.map gJ).length := by rw [List.length_map]; omega
   have hbp1 : 0 < (T.map pvS).length := by rw [List.length_map]; omega
   simp only [aS hap1, aS hbp1, aU hap1, aU hbp1, List.length_map, List.cons_append, List.nil_append]
   clear hap hpp hpw hpl hil htl hip htp hxy
   by_cases h60 : P.length + 3 ≤ 60
   ·rw [decide_eq_true (by simpa using h60)]
    (refine wlk ?_; intros)
    all_goals ((with_reducible apply fP (by first | exact .inl rfl | exact .inr rfl)); (simp (disch := (first | omega | (simp only [push_cast]; first | done | omega))) only [push_cast, ↓reduceIte, Nat.reduceEqDiff, Nat.reduceBEq, Nat.reduceAdd, Nat.reduceSub, Int.reduceToNat, *] <;> with_reducible exact rfl))
    all_goals (rw [show decide ((P.length : Int) + 1 + 1 + 1 ≤ 60) = true from decide_eq_true (by omega)]; exact PV.le_refl _)
   ·rw [decide_eq_false (by simpa using h60)]
    (refine wlk ?_; intros)
    all_goals ((with_reducible apply fP (by first | exact .inl rfl | exact .inr rfl)); (simp (disch := (first | omega | (simp only [push_cast]; first | done | omega))) only [push_cast, ↓reduceIte, Nat.reduceEqDiff, Nat.reduceBEq, Nat.reduceAdd, Nat.reduceSub, Int.reduceToNat, *] <;> with_reducible exact rfl))
    all_goals (rw [show decide ((P.length : Int) + 1 + 1 + 1 ≤ 60) = false from decide_eq_false (by omega)]; exact PV.le_refl _)
end Go.Proofs.YtngcedklbinhjaaGreatDoor
namespace Go.Proofs.YtngcedklbinhjaaGreatDoor
open Go.RowKit
set_option linter.all false
noncomputable def ay8 : ahb := G4 dSs dSs dI dI fun ws pats wd most => if qF ws ∧ qF pats then some (.tup [nP 1 ((nQ ws pats wd most).map fun s => .val (.string s)) 0, bv (lC ws pats wd most)], nC 9 1 ((nQ ws pats wd most).map fun s => .val (.string s))) else none
theorem aoQ (es : List PV) (b : Bool) : oU id fuel (.tup [nP 1 es 0, bv b]) = some (.tup [nP 1 es 0, bv b]) := by cases es <;> rfl
theorem apD {T : Nat} (l : LS) : (nC T 1 (l.map fun s => PV.val (.string s))).mapM (ae1 id fuel) = some (nC T 1 (l.map fun s => PV.val (.string s))) := by
 cases l with
 | nil => rfl
 | cons s l =>
  show [(T, 1, (s :: l).map fun s => PV.val (.string s))].mapM (ae1 id fuel) = _
  rw [mapM_cons', mapM_nil', af8]
  rfl
theorem yC {l : List It} {wd most lk : Int} {f a : Nat} (ha : a < l.length) (h : (aX l wd most a lk).isSome = true) : 0 < (bkF l wd most (f + 1) a lk).length := by
 obtain ⟨r, hr⟩ := Option.isSome_iff_exists.1 h
 rw [mQ (by omega) hr]
 simp
theorem arv : Tryz.prog.underlying 52 = some (.map 3 9) := by kernel_rfl
theorem ag6 : Go.Maps.Keyed Tryz.prog 3 := Go.Maps.int_keyed Tryz.underlying3
theorem av4 {n : Int} (h : okI n) : keyOf Tryz.prog 3 (.int .i64 n) = some (.int .i64 n) := Go.Maps.keyOf_int_mk Tryz.underlying3 (by
 show (decide (-9223372036854775808 ≤ n) && decide (n ≤ 9223372036854775807)) = true
 simp [h.1, h.2])
theorem av6 : aR Tryz.prog 52 = some 1 := by kernel_rfl
theorem avw : eu Tryz.prog 52 = some false := by kernel_rfl
attribute [push_cast]
 av6 avw
noncomputable def aei : Ctx := { fn := fun f => if f = 23 then some aj6 else if f = 11 then some φBb else if f = 24 then some aeA else none, io := fun f => none }
theorem dO : aA Tryz.prog aei := ⟨(fun f φ h => by
 unfold aei at h
 dsimp only at h
 split at h
 ·rename_i hf; cases h; subst hf; exact ⟨⟨_, Tryz.func23, rfl, rfl⟩, aeS⟩
 split at h
 ·rename_i hf; cases h; subst hf; exact ⟨⟨_, Tryz.func11, rfl, rfl⟩, ag2⟩
 split at h
 ·rename_i hf; cases h; subst hf; exact ⟨⟨_, Tryz.func24, rfl, rfl⟩, afO⟩
 cases h), (fun f φ h => by
 unfold aei at h
 dsimp only at h
 cases h), rfl⟩
theorem acv (ob : aF) (ps : List PV) : ah aei ob 23 ps = (ps.mapM (reify false 0 ob fuel)).bind aj6 := by
 have h : aei.fn 23 = some aj6 := by simp [aei]
 unfold ah
 rw [h]
 cases ps.mapM (reify false 0 ob fuel) <;> rfl
theorem abd (ob : aF) (ps : List PV) : ah aei ob 11 ps = (ps.mapM (reify false 0 ob fuel)).bind φBb := by
 have h : aei.fn 11 = some φBb := by simp [aei]
 unfold ah
 rw [h]
 cases ps.mapM (reify false 0 ob fuel) <;> rfl
theorem yR (ob : aF) (ps : List PV) : ah aei ob 24 ps = (ps.mapM (reify false 0 ob fuel)).bind aeA := by
 have h : aei.fn 24 = some aeA := by simp [aei]
 unfold ah
 rw [h]
 cases ps.mapM (reify false 0 ob fuel) <;> rfl
set_option maxHeartbeats 32000000 in
set_option maxRecDepth 100000 in
theorem alZ : nH Tryz.prog 6 ay8 := by
 refine HY.auh (k := 3) (N := 113) (rs := [.tmp 8, .tmp 9]) Tryz.func6 rfl rfl rfl (fun ps r cs' hr => ?_) (fun ps r cs' hr => ?_)
 ·obtain ⟨ws, pats, wd, most, rfl, hq⟩ := abe hr
  clear hr
  split at hq
  case isFalse => cases hq
  case isTrue hpre =>
  cases hq
  refine ⟨?_, aoQ _ _, apD _⟩
  simp only [dIs, dUs, dSs, eX, fq, eT, fE, bS, fA, bO, bP, bR, bQ]
  (simp (disch := (first | omega | (simp only [push_cast]; first | done | omega))) only [push_cast, ↓reduceIte, Nat.reduceEqDiff, Nat.reduceBEq, Nat.reduceAdd, Nat.reduceSub, Int.reduceToNat, *] <;> with_reducible exact rfl)
 obtain ⟨ws, pats, wd, most, rfl, hq⟩ := abe hr
 clear hr
 split at hq
 case isFalse => cases hq
 case isTrue hpre =>
 cases hq
 refine ⟨by simp, fun B w00 => HY.start ?_⟩
 simp only [dIs, dUs, dSs, eX, fq, eT, fE, bS, fA, bO, bP, bR, bQ]
 have api := ak2 hpre
 unfold nQ lC
 cases hp : qC ws pats with
 | false =>
  rw [hp] at api
  simp only [Bool.false_and]
  rw [if_neg (by decide)]
  generalize (if aa6 ws pats = true then piR ws pats else []) = l at *
  generalize (if aa6 ws pats = true then txR ws pats else []) = tx at *
  clear hp
  have gpgi_c23 := acv; have gpgi_c11 := abd; have gpgi_c24 := yR
  refine HY.seq (HY.eng mixed dO (by kernel_rfl) ?_)
  (try dsimp only)
  (refine wlk ?_; intros)
  refine HY.seq (HY.eng mixed dO (by kernel_rfl) ?_)
  (try dsimp only)
  (refine wlk ?_; intros)
  refine HY.seq (HY.eng mixed dO (by kernel_rfl) ?_)
  (try dsimp only)
  (refine wlk ?_; intros)
  refine ⟨?_, fun b L e => by cases e⟩
  rw [List.map_nil, lK, anC]
  ((with_reducible apply qA (by first | exact .inl rfl | exact .inr rfl)); (simp (disch := (first | omega | (simp only [push_cast]; first | done | omega))) only [push_cast, ↓reduceIte, Nat.reduceEqDiff, Nat.reduceBEq, Nat.reduceAdd, Nat.reduceSub, Int.reduceToNat, *] <;> with_reducible exact rfl))
 | true =>
 have hB := an0 hp
 have hV : piV ws pats = piR ws pats := if_pos hp
 have hA : aa6 ws pats = true := by
  obtain ⟨h1, h2, h3, -⟩ := pJ.1 hp
  unfold aa6
  rw [h1, h2, decide_eq_true h3]
  rfl
 rw [hp, hA, if_pos rfl, if_pos rfl] at api
 simp only [Bool.true_and]
 rw [hV] at hB
 have hl := cK hB
 have apb := ajR (l := piR ws pats) (wd := wd) (most := most) (show (piR ws pats).length ≤ 1000 by omega)
 have hnb := asU ws pats
 rw [hV]
 have htz : ∀ k : Nat, ((txR ws pats)[k]?.getD ByteArray.empty).size ≤ 20 := acz
 have htp : ∀ k : Nat, k < nb (piR ws pats) → 1 ≤ ((txR ws pats)[k]?.getD ByteArray.empty).size := fun k hk => anp (by rw [← hnb]; exact hk)
 have htl : (txR ws pats).length ≤ 60 := by
  rw [← hnb]
  exact Nat.le_trans (List.length_filter_le _ _) hl
 have hob : jO (piR ws pats) wd most = true → ao9 (piR ws pats) (dN (piR ws pats) wd most) := fun h => aea hB (gu.1 h).2.2.2.1.2
 have hrr : jO (piR ws pats) wd most = true → apK (piR ws pats) wd most = dN (piR ws pats) wd most := fun h => if_pos h
 have hbp : jO (piR ws pats) wd most = true → 0 < (dN (piR ws pats) wd most).length := fun h => yC (gu.1 h).2.1 (gu.1 h).2.2.2.2
 clear hp hA hV hpre
 generalize piR ws pats = l at *
 generalize txR ws pats = tx at *
 cases hb : jO l wd most with
 | false =>
  rw [hb] at apb
  rw [if_neg (by decide)]
  clear hob hrr hnb htz htp hb hbp
  generalize apK l wd most = br at *
  have gpgi_c23 := acv; have gpgi_c11 := abd; have gpgi_c24 := yR
  refine HY.seq (HY.eng mixed dO (by kernel_rfl) ?_)
  (try dsimp only)
  (refine wlk ?_; intros)
  refine HY.seq (HY.eng mixed dO (by kernel_rfl) ?_)
  (try dsimp only)
  (refine wlk ?_; intros)
  refine HY.seq (HY.eng mixed dO (by kernel_rfl) ?_)
  (try dsimp only)
  (refine wlk ?_; intros)
  refine HY.seq (HY.eng mixed dO (by kernel_rfl) ?_)
  (try dsimp only)
  (refine wlk ?_; intros)
  refine HY.seq (HY.eng mixed dO (by kernel_rfl) ?_)
  (try dsimp only)
  (refine wlk ?_; intros)
  refine ⟨?_, fun b L e => by cases e⟩
  rw [List.map_nil, lK, anC]
  ((with_reducible apply qA (by first | exact .inl rfl | exact .inr rfl)); (simp (disch := (first | omega | (simp only [push_cast]; first | done | omega))) only [push_cast, ↓reduceIte, Nat.reduceEqDiff, Nat.reduceBEq, Nat.reduceAdd, Nat.reduceSub, Int.reduceToNat, *] <;> with_reducible exact rfl))
 | true =>
  have hbr := hob hb
  have hbp0 := hbp hb
  rw [hb, hrr hb] at apb
  rw [if_pos rfl]
  clear hob hrr hb hbp
  generalize dN l wd most = br at *
  have gpgi_c23 := acv; have gpgi_c11 := abd; have gpgi_c24 := yR
  refine HY.seq (HY.eng mixed dO (by kernel_rfl) ?_)
  (try dsimp only)
  (refine wlk ?_; intros)
  refine HY.seq (HY.eng mixed dO (by kernel_rfl) ?_)
  (try dsimp only)
  (refine wlk ?_; intros)
  refine HY.seq (HY.eng mixed dO (by kernel_rfl) ?_)
  (try dsimp only)
  (refine wlk ?_; intros)
  refine HY.seq (HY.eng mixed dO (by kernel_rfl) ?_)
  (try dsimp only)
  (refine wlk ?_; intros)
  refine HY.seq (HY.eng mixed dO (by kernel_rfl) ?_)
  (try dsimp only)
  (refine wlk ?_; intros)
  refine HY.seq (HY.each (HO.make rfl rfl (by decide) rfl fun b hbB => ?_))
  dsimp only [AS.put]
  refine HO.pre (imm := ⟨[], [], []⟩) 1 dO (by kernel_rfl) (by simp only [List.take_succ_cons, List.take_zero] <;> exact rfl) (by simp only [List.drop_succ_cons, List.drop_zero] <;> exact rfl) (by simp only [List.map_cons, List.map_nil] <;> exact rfl) ?_
  (try dsimp only)
  (refine wlk ?_; intros)
  refine HO.nil ?_
  refine HY.seq (HY.seq (HY.eng mixed dO (by kernel_rfl) ?_))
  (try dsimp only)
  (refine wlk ?_; intros)
  (try dsimp only)
  have hll : ((l.map gJ).length : Int) = (l.length : Int) := by simp
  refine HY.block (HY.asQ (α := Nat × Nat) (fun i => [(10, .lst true 7 (l.map gJ)), (11, .lst true 1 (tx.map pvS)), (13, .lst true 1 (br.map pvN)), (14, .val (.map (some b))), (43, .lst true 7 (l.map gJ)), (44, iv l.length), (45, iv i.1)])
    (fun i => []) (fun i => i.2) (fun i σ => i.1 ≤ l.length ∧ σ = some (b, bxL l tx i.1)) (fun i => l.length - i.1) (0, 0) ⟨Nat.zero_le _, rfl⟩ ?_ ?_ rfl ?_)
  ·(try dsimp only)
   exact agi
  ·(try dsimp only)
   exact agr
  rintro ⟨k, y⟩ σ ⟨hk, rfl⟩
  dsimp only at hk ⊢
  refine HY.seq (HY.eng mixed dO (by kernel_rfl) ?_)
  by_cases hkl : k < l.length
  ·have hn1 := aiw l k
   have hbl := aiJ (tx := tx) hk
   have hnew := aoW (l := l) (tx := tx) (k := k)
   have hyes := fun h => ajG (l := l) (tx := tx) (k := k) h
   have hno := fun h => anI (l := l) (tx := tx) (k := k) h
   have hlt := fun h => ado (l := l) (n := k) hkl h
   rw [hnb] at hlt hn1
   replace hnew := Lib.hid hnew
   replace hyes := Lib.hid hyes
   replace hno := Lib.hid hno
   replace hlt := Lib.hid hlt
   replace hbl := Lib.hid hbl
   clear hnb htz htp hbr
   (refine wlk ?_; intros)
   refine HY.seq (HY.eng mixed dO (by kernel_rfl) ?_)
   (try dsimp only)
   (refine wlk ?_; intros)
   (try dsimp only)
   refine HY.seq (HY.block (HY.seq (HY.eng mixed dO (by kernel_rfl) ?_)))
   (try dsimp only)
   (refine wlk ?_; intros)
   refine HY.seq (HY.eng mixed dO (by kernel_rfl) ?_)
   (try dsimp only)
   (refine wlk ?_; intros)
   refine HY.cond (b := decide ((l[k]?.getD it0).1 = 1)) (by (simp (disch := (first | omega | (simp only [push_cast]; first | done | omega))) only [push_cast, ↓reduceIte, Nat.reduceEqDiff, Nat.reduceBEq, Nat.reduceAdd, Nat.reduceSub, Int.reduceToNat, *] <;> with_reducible exact rfl)) (fun hc => ?_) (fun hc => ?_)
   ·have hc1 : (l[k]?.getD it0).1 = 1 := of_decide_eq_true hc
    have h9 := hlt.out hc1
    have hy9 := hyes.out hc1
    replace hy9 := Lib.hid hy9
    have hb9 := hbl.out
    clear hc hyes hno hlt hbl
    generalize hnn : nbX l k = nn at *
    replace hnn := Lib.hid hnn
    generalize hLL : bxL l tx k = LL at *
    replace hLL := Lib.hid hLL
    replace hb9 := Lib.hid hb9
    refine HY.each (HO.pre (imm := ⟨[], [], []⟩) 4 dO (by kernel_rfl) (by simp only [List.take_succ_cons, List.take_zero] <;> exact rfl) (by simp only [List.drop_succ_cons, List.drop_zero] <;> exact rfl) (by simp only [List.map_cons, List.map_nil] <;> exact rfl) ?_)
    (try dsimp only)
    (refine wlk ?_; intros)
    refine HO.aDQ arv rfl rfl rfl (by decide) (by (simp (disch := (first | omega | (simp only [push_cast]; first | done | omega))) only [push_cast, ↓reduceIte, Nat.reduceEqDiff, Nat.reduceBEq, Nat.reduceAdd, Nat.reduceSub, Int.reduceToNat, *] <;> with_reducible exact rfl)) ?_
    dsimp only [AS.put]
    rw [hb9.out]
    refine HO.pre (imm := ⟨[], [], []⟩) 2 dO (by kernel_rfl) (by simp only [List.take_succ_cons, List.take_zero] <;> exact rfl) (by simp only [List.drop_succ_cons, List.drop_zero] <;> exact rfl) (by simp only [List.map_cons, List.map_nil] <;> exact rfl) ?_
    (try dsimp only)
    (refine wlk ?_; intros)
    refine HO.upd ag6 arv rfl rfl rfl (by (try dsimp only); (simp (disch := (first | omega | (simp only [push_cast]; first | done | omega))) only [push_cast, ↓reduceIte, Nat.reduceEqDiff, Nat.reduceBEq, Nat.reduceAdd, Nat.reduceSub, Int.reduceToNat, *] <;> with_reducible exact rfl)) (key := .int .i64 k) (val := .string (tx[nn]?.getD .empty)) (congrArg toVal (show _ = PV.val (.int .i64 k) by (try dsimp only); (simp (disch := (first | omega | (simp only [push_cast]; first | done | omega))) only [push_cast, ↓reduceIte, Nat.reduceEqDiff, Nat.reduceBEq, Nat.reduceAdd, Nat.reduceSub, Int.reduceToNat, *] <;> with_reducible exact rfl))) (congrArg toVal (show _ = PV.val (.string (tx[nn]?.getD .empty)) by (try dsimp only); (simp (disch := (first | omega | (simp only [push_cast]; first | done | omega))) only [push_cast, ↓reduceIte, Nat.reduceEqDiff, Nat.reduceBEq, Nat.reduceAdd, Nat.reduceSub, Int.reduceToNat, *] <;> with_reducible exact rfl))) (av4 (by omega)) fun L' hu => ?_
    have hL' : L' = bxL l tx (k + 1) := by
     rw [hy9.out]
     cases hu with
     | new _ => rfl
     | old h => exact absurd rfl (hnew.out (_, _) (by rw [h]; exact List.mem_append.2 (.inr List.mem_cons_self)))
    refine HO.nil ?_
    refine HY.eng mixed dO (by kernel_rfl) ?_
    (try dsimp only)
    (refine wlk ?_; intros)
    (try dsimp only)
    refine ⟨(k + 1, y + 1), ⟨by dsimp only; omega, congrArg some (Prod.ext rfl hL')⟩, by dsimp only; omega, ?_, ?_, rfl⟩
    ·(try dsimp only)
     exact agi
    ·(try dsimp only)
     exact agr
   ·have hc1 : ¬ (l[k]?.getD it0).1 = 1 := of_decide_eq_false hc
    have hn9 := hno.out hc1
    clear hc hyes hno hlt hbl hnew
    refine HY.skip ?_
    refine HY.eng mixed dO (by kernel_rfl) ?_
    (try dsimp only)
    (refine wlk ?_; intros)
    (try dsimp only)
    refine ⟨(k + 1, y + 1), ⟨by dsimp only; omega, congrArg some (Prod.ext rfl hn9.symm)⟩, by dsimp only; omega, ?_, ?_, rfl⟩
    ·(try dsimp only)
     exact agi
    ·(try dsimp only)
     exact agr
  ·obtain rfl : k = l.length := by omega
   have hlook : ∀ n : Nat, n < l.length → (l[n]?.getD it0).1 = 1 → lkP (aei.see ⟨52, b, anA (bxL l tx l.length)⟩).mp 52 (.val (.map (some b))) (some (.int .i64 (n : Int))) false = some (.val (.string (tx[nbX l n]?.getD .empty))) := fun n h1 h2 => by
    have := alG (ajV (l := l) (tx := tx) l.length) (ap8 (tx := tx) h1 h2)
    simpa [Ctx.see, lkP] using this
   have hcall : ∀ (ob : aF) (ps : List PV), ah (aei.see ⟨52, b, anA (bxL l tx l.length)⟩) ob 24 ps = (ps.mapM (reify false 0 ob fuel)).bind aeA := yR
   (refine wlk ?_; intros)
   refine HY.seq (HY.eng mixed dO (by kernel_rfl) ?_)
   (try dsimp only)
   (refine wlk ?_; intros)
   (try dsimp only)
   refine HY.see (M := ⟨52, b, anA (bxL l tx l.length)⟩) mixed dO rfl (fun key c p hp w1 g1 hM1 => ?_) (by kernel_rfl) ?_
   ·obtain ⟨rfl, v, hv, rfl⟩ := ahN hp
    obtain ⟨n, hn, hkey⟩ := aiz hv
    dsimp only at hkey
    subst hkey
    exact ⟨v, hM1.adW ag6 arv false (av4 (by omega)) hv, by simp [Rep]⟩
   generalize anA (bxL l tx l.length) = A9 at *
   clear api apb
   have htz2 := htz
   have hlnk := oZ l tx br
   have hbat := fun k hk => hbr.at_ (k := k) hk
   have hbq := fun k hk => (hbr.2 k hk).2
   have hbl := hbr.1
   clear hbr
   (try dsimp only)
   (refine wlk ?_; intros)
   refine aT (α := Nat × Nat × Nat) mixed (fun z => [(10, .lst true 7 (l.map gJ)), (11, .lst true 1 (tx.map pvS)), (13, .lst true 1 (br.map pvN)), (14, .val (.map (some b))), (17, nP 1 ((nk l tx br z.1).map pvS) z.2.1), (18, iv ((frB br z.1 : Int) - 1)), (61, .lst true 1 (br.map pvN)), (62, iv br.length), (63, iv z.1)])
    (fun z => nO 9 1 ((nk l tx br z.1).map pvS) z.2.1) (fun z => z.2.2) (fun z => z.1 ≤ br.length ∧ (0 < z.1 → z.2.1 < z.2.2)) (fun z => br.length - z.1) (by kernel_rfl) (0, 0, y) ⟨Nat.zero_le _, fun h => absurd h (Nat.lt_irrefl 0)⟩ ?_ ?_ rfl ?_
   ·have hf0 : frB br 0 = 0 := rfl
    dsimp only
    rw [hf0, show nk l tx br 0 = [] from rfl, List.map_nil, lK]
    exact agi
   ·dsimp only
    rw [show nk l tx br 0 = [] from rfl, List.map_nil, lg]
    exact agr
   rintro ⟨k, x, y⟩ ⟨hk, hxy⟩
   dsimp only at hk hxy ⊢
   have hlk0 := hlnk k
   by_cases hkb : k < br.length
   ·by_cases hk0 : k = 0
    ·skip
     subst hk0
     rw [show nk l tx br 0 = [] from rfl, List.map_nil, lK, lg]
     obtain ⟨b1, b2, b3, b4⟩ := hbat 0 hkb
     have hq := hbq 0 hkb
     have hn0 : nk l tx br (0 + 1) = nk l tx br 0 ++ [lnR l tx (frB br 0) (br[0]?.getD 0).toNat] := rfl
     have hfs := rX br 0
     have hlk9 : (nk l tx br 0).length = 0 := rfl
     rw [show nk l tx br 0 = [] from rfl, List.nil_append] at hn0
     generalize frB br 0 = a at *
     obtain ⟨en, hen⟩ : ∃ en : Nat, br[0]?.getD 0 = (en : Int) := ⟨(br[0]?.getD 0).toNat, by omega⟩
     rw [hen, Int.toNat_natCast] at hn0 hfs b2 b3 b4 hq
     rw [hen] at b1
     have hline := aj9 (tx := tx) hB hq htp
     have hmk : lnR l tx a en = if (l[en]?.getD it0).2.2.2.2.2.2 = true then lnT l tx a (en - a) ++ ⟨#[45]⟩ else lnT l tx a (en - a) := rfl
     rw [← hline] at hmk
     have api := adl (l := l) (a := a) (en := en) hB b2 b3
     rw [hq, if_pos rfl] at api
     have hil := oN l (aH l a) en
     have him := fun x hx => rU (l := l) (b := aH l a) (c := en) x hx
     generalize hI : mZ l (aH l a) en = is at *
     have hit := fun j hj => xG (l := l) (tx := tx) (is := is) (j := j) hj
     have his := fun j hj => xO (l := l) (tx := tx) htz is j hj
     have hfull : is.take is.length = is := List.take_of_length_le (Nat.le_refl _)
     replace hit := Lib.hid hit
     replace him := Lib.hid him
     replace hmk := Lib.hid hmk
     replace hn0 := Lib.hid hn0
     replace hfull := Lib.hid hfull
     replace hlook := Lib.hid hlook
     have HFS := Lib.hid hfs
     have hfe := Lib.hid (show (frB br (0 + 1) : Int) - 1 = (en : Int) by rw [hfs]; omega)
     clear hline hq hI hlnk hbat hbq hnb htp hfs
     have h45 : (⟨#[45]⟩ : ByteArray).size = 1 := rfl
     have h32 : (⟨#[32]⟩ : ByteArray).size = 1 := rfl
     have hill : ((is.map pvN).length : Int) = (is.length : Int) := by simp
     (refine wlk ?_; intros)
     refine aT (α := Nat) mixed (fun j => [(10, .lst true 7 (l.map gJ)), (11, .lst true 1 (tx.map pvS)), (13, .lst true 1 (br.map pvN)), (14, .val (.map (some b))), (17, .val (.slice none 0 0)), (18, iv ((a : Int) - 1)), (20, iv en), (21, .val (.string (liF l tx (is.take j)))), (61, .lst true 1 (br.map pvN)), (62, iv br.length), (63, iv (0 : Nat)), (70, .lst true 1 (is.map pvN)), (71, iv is.length), (72, iv j)])
      (fun _ => []) (fun _ => y) (fun j => j ≤ is.length) (fun j => is.length - j) (by kernel_rfl) 0 (Nat.zero_le _) ?_ ?_ rfl ?_
     ·have hl0 : liF l tx (is.take 0) = ⟨#[]⟩ := rfl
      (try dsimp only)
      rw [hl0]
      exact agi
     ·(try dsimp only)
      exact agr
     intro j hj
     have hsz := his j hj
     by_cases hjl : j < is.length
     ·have hxm := him.out (is[j]?.getD 0) (by rw [List.getElem?_eq_getElem hjl]; exact List.getElem_mem hjl)
      have ht := hit.out j hjl
      obtain ⟨n, hnn⟩ : ∃ n : Nat, is[j]?.getD 0 = n := ⟨(is[j]?.getD 0).toNat, by omega⟩
      rw [hnn, Int.toNat_natCast] at hxm
      rw [hnn, Int.toNat_natCast] at ht
      obtain ⟨hn1, hn2, hn3⟩ := hxm
      have hnl : n < l.length := by omega
      have hk3 : ¬ (l[n]?.getD it0).1 = 3 := hn3
      have hS : qW l tx (liF l tx (is.take j)) n = if (l[n]?.getD it0).1 = 1 then liF l tx (is.take j) ++ (tx[nbX l n]?.getD .empty) else if 0 < (l[n]?.getD it0).2.1 then liF l tx (is.take j) ++ ⟨#[32]⟩ else liF l tx (is.take j) := rfl
      rw [hS] at ht
      have hlk9 := hlook.out n hnl
      have hz9 := htz2 (nbX l n)
      clear hS hn3 his
      generalize hs2 : liF l tx (is.take (j + 1)) = s2 at *
      replace hs2 := Lib.hid hs2
      generalize liF l tx (is.take j) = s at *
      generalize nbX l n = nn at *
      generalize tx[nn]?.getD ByteArray.empty = tn at *
      generalize hyy : l[n]?.getD it0 = yy at *
      obtain ⟨y1, y2', y3, y4, y5, y6, y7⟩ := yy
      dsimp only at ht hk3 hlk9
      by_cases k1 : y1 = 1
      ·rw [if_pos k1] at ht
       have hf := Lib.hid ht
       have hlk8 := hlk9 k1
       clear ht hlk9
       subst k1
       (refine wlk ?_; intros)
       refine ⟨j + 1, by dsimp only; omega, by dsimp only; omega, ?_, ?_, rfl⟩
       ·dsimp only
        rw [hs2.out, hf.out]
        exact agi
       ·dsimp only
        exact agr
      ·rw [if_neg k1] at ht
       by_cases k2 : 0 < y2'
       ·rw [if_pos k2] at ht
        have hf := Lib.hid ht
        clear ht hlk9
        (refine wlk ?_; intros)
        refine ⟨j + 1, by dsimp only; omega, by dsimp only; omega, ?_, ?_, rfl⟩
        ·dsimp only
         rw [hs2.out, hf.out]
         exact agi
        ·dsimp only
         exact agr
       ·rw [if_neg k2] at ht
        have hf := Lib.hid ht
        clear ht hlk9
        (refine wlk ?_; intros)
        refine ⟨j + 1, by dsimp only; omega, by dsimp only; omega, ?_, ?_, rfl⟩
        ·dsimp only
         rw [hs2.out, hf.out]
         exact agi
        ·dsimp only
         exact agr
     ·obtain rfl : j = is.length := by omega
      rw [hfull.out] at *
      generalize hSS : liF l tx is = s at *
      clear his hSS
      generalize hyy : l[en]?.getD it0 = yy at *
      obtain ⟨y1, y2', y3, y4, y5, y6, y7⟩ := yy
      have hmk2 := hmk.out
      clear hmk
      dsimp only at hmk2
      cases y7 with
      | true =>
       rw [if_pos rfl] at hmk2
       have hn := hn0.out
       rw [hmk2] at hn
       replace hn := Lib.hid hn
       clear hmk2 hn0
       (refine wlk ?_; intros)
       refine ⟨(0 + 1, y + 1, y + 2), ⟨by dsimp only; omega, fun _ => by dsimp only; omega⟩, by dsimp only; omega, ?_, ?_, rfl⟩
       ·dsimp only
        rw [hn.out, hfe.out, aS (by simp)]
        exact agi
       ·dsimp only
        rw [hn.out, aU (by simp)]
        exact agr
      | false =>
       rw [if_neg (by decide)] at hmk2
       have hn := hn0.out
       rw [hmk2] at hn
       replace hn := Lib.hid hn
       clear hmk2 hn0
       (refine wlk ?_; intros)
       refine ⟨(0 + 1, y + 1, y + 2), ⟨by dsimp only; omega, fun _ => by dsimp only; omega⟩, by dsimp only; omega, ?_, ?_, rfl⟩
       ·dsimp only
        rw [hn.out, hfe.out, aS (by simp)]
        exact agi
       ·dsimp only
        rw [hn.out, aU (by simp)]
        exact agr
    ·skip
     have hnp : 0 < ((nk l tx br k).map pvS).length := by rw [List.length_map]; omega
     have hxy2 := hxy (by omega)
     rw [aS hnp, aU hnp, List.length_map, hlk0]
     have hxne : ¬ x = y := by omega
     have hyne : ¬ y = x := by omega
     obtain ⟨b1, b2, b3, b4⟩ := hbat k hkb
     have hq := hbq k hkb
     have hn0 : nk l tx br (k + 1) = nk l tx br k ++ [lnR l tx (frB br k) (br[k]?.getD 0).toNat] := rfl
     have hfs := rX br k
     generalize nk l tx br k = out at *
     generalize frB br k = a at *
     obtain ⟨en, hen⟩ : ∃ en : Nat, br[k]?.getD 0 = (en : Int) := ⟨(br[k]?.getD 0).toNat, by omega⟩
     rw [hen, Int.toNat_natCast] at hn0 hfs b2 b3 b4 hq
     rw [hen] at b1
     have hline := aj9 (tx := tx) hB hq htp
     have hmk : lnR l tx a en = if (l[en]?.getD it0).2.2.2.2.2.2 = true then lnT l tx a (en - a) ++ ⟨#[45]⟩ else lnT l tx a (en - a) := rfl
     rw [← hline] at hmk
     have api := adl (l := l) (a := a) (en := en) hB b2 b3
     rw [hq, if_pos rfl] at api
     have hil := oN l (aH l a) en
     have him := fun x hx => rU (l := l) (b := aH l a) (c := en) x hx
     generalize hI : mZ l (aH l a) en = is at *
     have hit := fun j hj => xG (l := l) (tx := tx) (is := is) (j := j) hj
     have his := fun j hj => xO (l := l) (tx := tx) htz is j hj
     have hfull : is.take is.length = is := List.take_of_length_le (Nat.le_refl _)
     replace hit := Lib.hid hit
     replace him := Lib.hid him
     replace hmk := Lib.hid hmk
     replace hn0 := Lib.hid hn0
     replace hfull := Lib.hid hfull
     replace hlook := Lib.hid hlook
     have HFS := Lib.hid hfs
     have hfe := Lib.hid (show (frB br (k + 1) : Int) - 1 = (en : Int) by rw [hfs]; omega)
     clear hline hq hI hlnk hbat hbq hnb htp hfs
     have h45 : (⟨#[45]⟩ : ByteArray).size = 1 := rfl
     have h32 : (⟨#[32]⟩ : ByteArray).size = 1 := rfl
     have hill : ((is.map pvN).length : Int) = (is.length : Int) := by simp
     (refine wlk ?_; intros)
     refine aT (α := Nat) mixed (fun j => [(10, .lst true 7 (l.map gJ)), (11, .lst true 1 (tx.map pvS)), (13, .lst true 1 (br.map pvN)), (14, .val (.map (some b))), (17, .row x 1 0 k), (18, iv ((a : Int) - 1)), (20, iv en), (21, .val (.string (liF l tx (is.take j)))), (61, .lst true 1 (br.map pvN)), (62, iv br.length), (63, iv (k : Nat)), (70, .lst true 1 (is.map pvN)), (71, iv is.length), (72, iv j)])
      (fun _ => [(x, 9, 1, out.map pvS)]) (fun _ => y) (fun j => j ≤ is.length) (fun j => is.length - j) (by kernel_rfl) 0 (Nat.zero_le _) ?_ ?_ rfl ?_
     ·have hl0 : liF l tx (is.take 0) = ⟨#[]⟩ := rfl
      (try dsimp only)
      rw [hl0]
      exact agi
     ·(try dsimp only)
      exact agr
     intro j hj
     have hsz := his j hj
     by_cases hjl : j < is.length
     ·have hxm := him.out (is[j]?.getD 0) (by rw [List.getElem?_eq_getElem hjl]; exact List.getElem_mem hjl)
      have ht := hit.out j hjl
      obtain ⟨n, hnn⟩ : ∃ n : Nat, is[j]?.getD 0 = n := ⟨(is[j]?.getD 0).toNat, by omega⟩
      rw [hnn, Int.toNat_natCast] at hxm
      rw [hnn, Int.toNat_natCast] at ht
      obtain ⟨hn1, hn2, hn3⟩ := hxm
      have hnl : n < l.length := by omega
      have hk3 : ¬ (l[n]?.getD it0).1 = 3 := hn3
      have hS : qW l tx (liF l tx (is.take j)) n = if (l[n]?.getD it0).1 = 1 then liF l tx (is.take j) ++ (tx[nbX l n]?.getD .empty) else if 0 < (l[n]?.getD it0).2.1 then liF l tx (is.take j) ++ ⟨#[32]⟩ else liF l tx (is.take j) := rfl
      rw [hS] at ht
      have hlk9 := hlook.out n hnl
      have hz9 := htz2 (nbX l n)
      clear hS hn3 his
      generalize hs2 : liF l tx (is.take (j + 1)) = s2 at *
      replace hs2 := Lib.hid hs2
      generalize liF l tx (is.take j) = s at *
      generalize nbX l n = nn at *
      generalize tx[nn]?.getD ByteArray.empty = tn at *
      generalize hyy : l[n]?.getD it0 = yy at *
      obtain ⟨y1, y2', y3, y4, y5, y6, y7⟩ := yy
      dsimp only at ht hk3 hlk9
      by_cases k1 : y1 = 1
      ·rw [if_pos k1] at ht
       have hf := Lib.hid ht
       have hlk8 := hlk9 k1
       clear ht hlk9
       subst k1
       (refine wlk ?_; intros)
       refine ⟨j + 1, by dsimp only; omega, by dsimp only; omega, ?_, ?_, rfl⟩
       ·dsimp only
        rw [hs2.out, hf.out]
        exact agi
       ·dsimp only
        exact agr
      ·rw [if_neg k1] at ht
       by_cases k2 : 0 < y2'
       ·rw [if_pos k2] at ht
        have hf := Lib.hid ht
        clear ht hlk9
        (refine wlk ?_; intros)
        refine ⟨j + 1, by dsimp only; omega, by dsimp only; omega, ?_, ?_, rfl⟩
        ·dsimp only
         rw [hs2.out, hf.out]
         exact agi
        ·dsimp only
         exact agr
       ·rw [if_neg k2] at ht
        have hf := Lib.hid ht
        clear ht hlk9
        (refine wlk ?_; intros)
        refine ⟨j + 1, by dsimp only; omega, by dsimp only; omega, ?_, ?_, rfl⟩
        ·dsimp only
         rw [hs2.out, hf.out]
         exact agi
        ·dsimp only
         exact agr
     ·obtain rfl : j = is.length := by omega
      rw [hfull.out] at *
      generalize hSS : liF l tx is = s at *
      clear his hSS
      generalize hyy : l[en]?.getD it0 = yy at *
      obtain ⟨y1, y2', y3, y4, y5, y6, y7⟩ := yy
      have hmk2 := hmk.out
      clear hmk
      dsimp only at hmk2
      cases y7 with
      | true =>
       rw [if_pos rfl] at hmk2
       have hn := hn0.out
       rw [hmk2] at hn
       replace hn := Lib.hid hn
       clear hmk2 hn0
       (refine wlk ?_; intros)
       refine ⟨(k + 1, y + 1, y + 2), ⟨by dsimp only; omega, fun _ => by dsimp only; omega⟩, by dsimp only; omega, ?_, ?_, rfl⟩
       ·dsimp only
        rw [hn.out, hfe.out, aS (by simp)]
        exact agi
       ·dsimp only
        rw [hn.out, aU (by simp)]
        exact agr
      | false =>
       rw [if_neg (by decide)] at hmk2
       have hn := hn0.out
       rw [hmk2] at hn
       replace hn := Lib.hid hn
       clear hmk2 hn0
       (refine wlk ?_; intros)
       refine ⟨(k + 1, y + 1, y + 2), ⟨by dsimp only; omega, fun _ => by dsimp only; omega⟩, by dsimp only; omega, ?_, ?_, rfl⟩
       ·dsimp only
        rw [hn.out, hfe.out, aS (by simp)]
        exact agi
       ·dsimp only
        rw [hn.out, aU (by simp)]
        exact agr
   ·obtain rfl : k = br.length := by omega
    have hnp : 0 < ((nk l tx br br.length).map pvS).length := by rw [List.length_map]; omega
    have hxy2 := hxy (by omega)
    rw [aS hnp, aU hnp, aS hnp, aeo hnp]
    generalize nk l tx br br.length = out at *
    simp only [List.length_map, hlk0]
    (refine wlk ?_; intros)
    refine ⟨?_, fun b2 L2 e => by cases e; exact hbB⟩
    ((with_reducible apply qj (x) (by first | exact .inl rfl | exact .inr rfl)); (focus (simp (disch := (first | omega | (simp only [push_cast]; first | done | omega))) only [push_cast, ↓reduceIte, Nat.reduceEqDiff, Nat.reduceBEq, Nat.reduceAdd, Nat.reduceSub, Int.reduceToNat, *] <;> with_reducible exact rfl)); (focus (simp (disch := (first | omega | (simp only [push_cast]; first | done | omega))) only [push_cast, ↓reduceIte, Nat.reduceEqDiff, Nat.reduceBEq, Nat.reduceAdd, Nat.reduceSub, Int.reduceToNat, *] <;> with_reducible exact rfl)))
end Go.Proofs.YtngcedklbinhjaaGreatDoor
namespace Go.Proofs.YtngcedklbinhjaaGreatDoor
open Go.RowKit
set_option linter.all false
noncomputable def blK (p : List LS) (q : LS) (x y : Int) : Nat → LS
 | 0 => []
 | k + 1 => blK p q x y k ++ nQ (p[k]?.getD []) q x y
noncomputable def bcK (p : List LS) (q : LS) (x y : Int) : Nat → List Int
 | 0 => []
 | k + 1 => bcK p q x y k ++ [((nQ (p[k]?.getD []) q x y).length : Int)]
noncomputable def blB (p : List LS) (q : LS) (x y z : Int) : Bool := kM p q x y z && p.all fun w => lC w q x y
noncomputable def blL (p : List LS) (q : LS) (x y z : Int) : LS := if blB p q x y z = true then blK p q x y p.length else []
noncomputable def blC (p : List LS) (q : LS) (x y z : Int) : List Int := if blB p q x y z = true then bcK p q x y p.length else []
theorem xD (p : List LS) (q : LS) (x y : Int) : ∀ k, (blK p q x y k).length ≤ 60 * k
 | 0 => by simp [blK]
 | k + 1 => by
  have := xD p q x y k
  have h2 := (uV (p[k]?.getD []) q x y).1
  rw [blK, List.length_append]
  omega
theorem og (p : List LS) (q : LS) (x y : Int) : ∀ k, (bcK p q x y k).length = k
 | 0 => rfl
 | k + 1 => by rw [bcK, List.length_append, og p q x y k]; rfl
theorem ajd {ws pats : LS} {wd most : Int} (h : lC ws pats wd most = true) : 0 < (nQ ws pats wd most).length := by
 unfold nQ
 rw [if_pos h, oZ]
 unfold lC at h
 rw [Bool.and_eq_true] at h
 obtain ⟨h1, h2⟩ := h
 have hV : piV ws pats = piR ws pats := if_pos h1
 rw [hV] at h2
 exact yC (gu.1 h2).2.1 (gu.1 h2).2.2.2.2
theorem aq1 {ws pats : LS} {wd most : Int} (h : lC ws pats wd most = false) : nQ ws pats wd most = [] := by
 unfold nQ
 rw [if_neg (by rw [h]; decide)]
theorem ajS {p : List LS} {q : LS} {x y : Int} : ∀ {k : Nat}, (∀ j, j < k → lC (p[j]?.getD []) q x y = true) → 0 < k → 0 < (blK p q x y k).length
 | 0, _, h => by omega
 | k + 1, h, _ => by
  have := ajd (h k (by omega))
  rw [blK, List.length_append]
  omega
noncomputable def φBl : Fun := F1 acJ fun b => if amU b.1 b.2.1 then some (.tup [.lst true 1 ((blL b.1 b.2.1 b.2.2.1 b.2.2.2.1 b.2.2.2.2).map fun s => .val (.string s)), .lst true 1 ((blC b.1 b.2.1 b.2.2.1 b.2.2.2.1 b.2.2.2.2).map fun n => .val (.int .i64 n)), bv (blB b.1 b.2.1 b.2.2.1 b.2.2.2.1 b.2.2.2.2)]) else none
theorem apR {p : List LS} {q : LS} {x y z : Int} (h : amU p q) : φBl [.agg [.lst false 1 (p.map fun p => .lst false 1 (p.map fun s => .val (.string s))), .lst false 1 (q.map fun s => .val (.string s)), .val (.int .i64 x), .val (.int .i64 y), .val (.int .i64 z)]] = some (.tup [.lst true 1 ((blL p q x y z).map fun s => .val (.string s)), .lst true 1 ((blC p q x y z).map fun n => .val (.int .i64 n)), .val (.bool (blB p q x y z))]) :=
 (jM (A := acJ) (p, q, x, y, z)).trans (if_pos h)
noncomputable def ae5 : Fun := aaP ay8
theorem aeX : Sound Tryz.prog 6 ae5 := alZ.pure
theorem amZ {ws pats : LS} {wd most : Int} (h : qF ws ∧ qF pats) (h0 : 0 < (nQ ws pats wd most).length) : ae5 [.lst false 1 (ws.map fun s => .val (.string s)), .lst false 1 (pats.map fun s => .val (.string s)), .val (.int .i64 wd), .val (.int .i64 most)] = some (.tup [.lst true 1 ((nQ ws pats wd most).map fun s => .val (.string s)), .val (.bool (lC ws pats wd most))]) := by
 have hp : 0 < ((nQ ws pats wd most).map fun s => PV.val (.string s)).length := by simpa using h0
 refine ku (r := .tup [.row 0 1 0 (nQ ws pats wd most).length, .val (.bool (lC ws pats wd most))]) (cs0 := [(9, 1, (nQ ws pats wd most).map fun s => .val (.string s))]) ((aqk (A := dSs) (B := dSs) (C := dI) (D := dI) ws pats wd most).trans ((if_pos h).trans (by rw [aS hp, aeo hp, List.length_map]))) ?_
 rw [zi]
 (simp (disch := (first | omega | (simp only [push_cast]; first | done | omega))) only [push_cast, ↓reduceIte, Nat.reduceEqDiff, Nat.reduceBEq, Nat.reduceAdd, Nat.reduceSub, Int.reduceToNat, *] <;> with_reducible exact rfl)
theorem aml {ws pats : LS} {wd most : Int} (h : qF ws ∧ qF pats) (h0 : lC ws pats wd most = false) : ae5 [.lst false 1 (ws.map fun s => .val (.string s)), .lst false 1 (pats.map fun s => .val (.string s)), .val (.int .i64 wd), .val (.int .i64 most)] = some (.tup [.val (.slice none 0 0), .val (.bool false)]) := by
 refine ku (r := .tup [.val (.slice none 0 0), .val (.bool false)]) (cs0 := []) ((aqk (A := dSs) (B := dSs) (C := dI) (D := dI) ws pats wd most).trans ((if_pos h).trans (by rw [aq1 h0, h0]; rfl))) ?_
 (simp (disch := (first | omega | (simp only [push_cast]; first | done | omega))) only [push_cast, ↓reduceIte, Nat.reduceEqDiff, Nat.reduceBEq, Nat.reduceAdd, Nat.reduceSub, Int.reduceToNat, *] <;> with_reducible exact rfl)
abbrev lsP (p : List LS) : PV := .lst false 1 (p.map fun p => .lst false 1 (p.map fun s => .val (.string s)))
noncomputable def ak8 : Ctx := { fn := fun f => if f = 37 then some kC else if f = 7 then some ai9 else none, io := fun f => none }
theorem aq8 : aA Tryz.prog ak8 := ⟨(fun f φ h => by
 unfold ak8 at h
 dsimp only at h
 split at h
 ·rename_i hf; cases h; subst hf; exact ⟨⟨_, Tryz.func37, rfl, rfl⟩, rG⟩
 split at h
 ·rename_i hf; cases h; subst hf; exact ⟨⟨_, Tryz.func7, rfl, rfl⟩, afB⟩
 cases h), (fun f φ h => by
 unfold ak8 at h
 dsimp only at h
 cases h), rfl⟩
theorem ajK (ob : aF) (ps : List PV) : ah ak8 ob 37 ps = (ps.mapM (reify false 0 ob fuel)).bind kC := by
 have h : ak8.fn 37 = some kC := by simp [ak8]
 unfold ah
 rw [h]
 cases ps.mapM (reify false 0 ob fuel) <;> rfl
theorem an2 (ob : aF) (ps : List PV) : ah ak8 ob 7 ps = (ps.mapM (reify false 0 ob fuel)).bind ai9 := by
 have h : ak8.fn 7 = some ai9 := by simp [ak8]
 unfold ah
 rw [h]
 cases ps.mapM (reify false 0 ob fuel) <;> rfl
set_option maxHeartbeats 16000000 in
theorem aiK : Sound Tryz.prog 15 φBl := by
 refine ay mixed aq8 Tryz.func15 rfl 53 rfl [.tmp 2, .tmp 3, .tmp 4] rfl (by kernel_rfl) fun ps r hr => ?_
 obtain ⟨⟨p, q, x, y, z⟩, rfl, hq⟩ := bY hr
 clear hr
 split at hq
 case isFalse => cases hq
 case isTrue hpre =>
 cases hq
 refine ⟨by simp, ?_⟩
 simp only [dIs, dUs, dSs, eX, fq, eT, fE, bS, fA, bO, bP, bR, bQ]
 (try dsimp only at hpre ⊢)
 have apv := vY (x := x) (y := y) (z := z) hpre
 obtain ⟨hlen, hall, hoq⟩ := hpre
 have api := fun k : Nat => amM (wd := x) (most := y) ⟨hall k, hoq⟩
 have hp60 := fun k : Nat => (uV (p[k]?.getD []) q x y).1
 have hbk := xD p q x y
 have hck := og p q x y
 unfold blL blC blB
 cases hb : kM p q x y z with
 | false =>
  rw [hb] at apv
  simp only [Bool.false_and, Bool.false_eq_true, if_false, List.map_nil]
  clear api hp60 hbk hck hall hoq hb
  have gbls_c37 := ajK; have gbls_c7 := an2
  exact wlkF
 | true =>
  rw [hb] at apv
  have h6 : p.length ≤ 6 := by
   unfold kM at hb
   simp only [Bool.and_eq_true, decide_eq_true_eq] at hb
   exact hb.2.1
  simp only [Bool.true_and]
  clear hall hoq hb
  have gbls_c37 := ajK; have gbls_c7 := an2
  (refine wlk ?_; intros)
  refine aT (α := Nat × Nat × Nat × Nat) mixed (fun i => [(1, .own 0 5 0 0), (5, .row i.2.1 1 0 (blK p q x y i.1).length), (6, .row i.2.2.1 1 0 i.1), (7, iv i.1)])
   (fun i => [(0, 40, 5, [.agg [lsP p, .lst false 1 (q.map fun s => .val (.string s)), .val (.int .i64 x), .val (.int .i64 y), .val (.int .i64 z)]]), (i.2.1, 9, 1, (blK p q x y i.1).map fun s => .val (.string s)), (i.2.2.1, 3, 1, (bcK p q x y i.1).map fun n => .val (.int .i64 n))])
   (fun i => i.2.2.2) (fun i => i.1 ≤ p.length ∧ (0 < i.2.1 ∧ 0 < i.2.2.1 ∧ i.2.1 ≠ i.2.2.1 ∧ i.2.1 < i.2.2.2 ∧ i.2.2.1 < i.2.2.2) ∧ ∀ j, j < i.1 → lC (p[j]?.getD []) q x y = true) (fun i => p.length - i.1) (by kernel_rfl) (0, 1, 2, 3) ⟨Nat.zero_le _, by decide, fun j hj => by dsimp only at hj; omega⟩ ?_ ?_ rfl ?_
  ·have h0 : (blK p q x y 0).length = 0 := rfl
   exact agi
  ·have h0 : blK p q x y 0 = [] := rfl
   have h1 : bcK p q x y 0 = [] := rfl
   exact agr
  rintro ⟨k, o1, o2, nx⟩ ⟨hk, ⟨ho1, ho2, ho3, ho4, ho5⟩, hok⟩
  dsimp only at hk ho1 ho2 ho3 ho4 ho5 hok
  have ho6 : ¬ o2 = o1 := fun e => ho3 e.symm
  replace ho3 : ¬ o1 = o2 := ho3
  have hok' := Lib.hid hok
  clear hok
  have hbl := hbk k
  have hcl := hck k
  by_cases hkl : k < p.length
  ·have ap := api k
   have h60 := hp60 k
   have hn1 : blK p q x y (k + 1) = blK p q x y k ++ nQ (p[k]?.getD []) q x y := rfl
   have hn2 : bcK p q x y (k + 1) = bcK p q x y k ++ [((nQ (p[k]?.getD []) q x y).length : Int)] := rfl
   have hno : lC (p[k]?.getD []) q x y = false → (p.all fun w => lC w q x y) = false := fun h => jN (d := []) hkl h
   have hys : lC (p[k]?.getD []) q x y = true → ∀ j, j < k + 1 → lC (p[j]?.getD []) q x y = true := fun h j hj => by
    rcases Nat.lt_or_ge j k with h1 | h1
    ·exact hok'.out j h1
    ·obtain rfl : j = k := by omega
     exact h
   replace hn1 := Lib.hid hn1
   replace hn2 := Lib.hid hn2
   replace hys := Lib.hid hys
   clear api hp60 hbk hck
   generalize nQ (p[k]?.getD []) q x y = L at *
   generalize blK p q x y k = B at *
   generalize bcK p q x y k = C at *
   cases hB : lC (p[k]?.getD []) q x y with
   | false =>
    rw [hB] at ap
    rw [hno hB]
    clear hno hys hB hn1 hn2
    simp only [Bool.false_eq_true, if_false, List.map_nil]
    exact wlkF
   | true =>
    rw [hB] at ap
    have hys2 := hys.out hB
    replace hys2 := Lib.hid hys2
    clear hno hys hB
    (refine wlk ?_; intros)
    refine ⟨(k + 1, nx, nx + 2, nx + 3), ⟨by dsimp only; omega, by refine ⟨?_, ?_, ?_, ?_, ?_⟩ <;> (dsimp only; omega), hys2.out⟩, by dsimp only; omega, ?_, ?_, rfl⟩
    ·dsimp only
     rw [hn1.out]
     exact agi
    ·dsimp only
     rw [hn1.out, hn2.out]
     exact agr
  ·obtain rfl : k = p.length := by omega
   have hall2 : (p.all fun w => lC w q x y) = true := gL (d := []) fun j hj => hok'.out j hj
   rw [hall2]
   simp only [if_true]
   clear api hp60 hbk hck hall2
   generalize blK p q x y p.length = B at *
   generalize bcK p q x y p.length = C at *
   exact wlkF
theorem aph {P : Program} {rs : List ResultVar} {tm : Nat → PV} {ob : aF} {nx : Nat} {x : X} {r : PV} {c' d' : aV} (a b : Nat) (hab : ¬ a = b) (hx : x = .normal ∨ x = .ret) (h1 : ((gF P ⟨tm, ob, nx⟩ rs).bind fun qs => cZ [a, b] ob fuel (gY qs)) = some r) (h2 : kW [a, b] ob fuel a = some c') (h3 : kW [a, b] ob fuel b = some d') : gV P rs 0 r [c', d'] x ⟨tm, ob, nx⟩ :=
 ⟨hx, [a, b], by simp, by simp [hab], h1, by
  show [a, b].mapM (kW [a, b] ob fuel) = some [c', d']
  rw [mapM_cons', h2, Option.bind_some, mapM_cons', h3, Option.bind_some, mapM_nil']
  rfl⟩
noncomputable def ΨBl : ahb := G1 acJ fun b => if amU b.1 b.2.1 then some (if 0 < (blL b.1 b.2.1 b.2.2.1 b.2.2.2.1 b.2.2.2.2).length then (.tup [.row 0 1 0 (blL b.1 b.2.1 b.2.2.1 b.2.2.2.1 b.2.2.2.2).length, .row 1 1 0 (blC b.1 b.2.1 b.2.2.1 b.2.2.2.1 b.2.2.2.2).length, bv (blB b.1 b.2.1 b.2.2.1 b.2.2.2.1 b.2.2.2.2)], [(9, 1, (blL b.1 b.2.1 b.2.2.1 b.2.2.2.1 b.2.2.2.2).map fun s => .val (.string s)), (3, 1, (blC b.1 b.2.1 b.2.2.1 b.2.2.2.1 b.2.2.2.2).map fun n => .val (.int .i64 n))]) else (.tup [.val (.slice none 0 0), .val (.slice none 0 0), bv (blB b.1 b.2.1 b.2.2.1 b.2.2.2.1 b.2.2.2.2)], [])) else none
noncomputable def amu : Ctx := { fn := fun f => if f = 36 then some kC else if f = 6 then some ae5 else none, io := fun f => none }
theorem aqZ : aA Tryz.prog amu := ⟨(fun f φ h => by
 unfold amu at h
 dsimp only at h
 split at h
 ·rename_i hf; cases h; subst hf; exact ⟨⟨_, Tryz.func36, rfl, rfl⟩, rz⟩
 split at h
 ·rename_i hf; cases h; subst hf; exact ⟨⟨_, Tryz.func6, rfl, rfl⟩, aeX⟩
 cases h), (fun f φ h => by
 unfold amu at h
 dsimp only at h
 cases h), rfl⟩
theorem aik (ob : aF) (ps : List PV) : ah amu ob 36 ps = (ps.mapM (reify false 0 ob fuel)).bind kC := by
 have h : amu.fn 36 = some kC := by simp [amu]
 unfold ah
 rw [h]
 cases ps.mapM (reify false 0 ob fuel) <;> rfl
theorem anQ (ob : aF) (ps : List PV) : ah amu ob 6 ps = (ps.mapM (reify false 0 ob fuel)).bind ae5 := by
 have h : amu.fn 6 = some ae5 := by simp [amu]
 unfold ah
 rw [h]
 cases ps.mapM (reify false 0 ob fuel) <;> rfl
set_option maxHeartbeats 16000000 in
theorem asY : nH Tryz.prog 14 ΨBl := by
 refine aaX mixed aqZ Tryz.func14 rfl 45 rfl [.tmp 2, .tmp 3, .tmp 4] rfl (by kernel_rfl) fun ps r cs' hr => ?_
 obtain ⟨⟨p, q, x, y, z⟩, rfl, hq⟩ := ahU hr
 clear hr
 split at hq
 case isFalse => cases hq
 case isTrue hpre =>
 simp only [Option.some.injEq] at hq
 refine ⟨by simp, ?_⟩
 simp only [dIs, dUs, dSs, eX, fq, eT, fE, bS, fA, bO, bP, bR, bQ]
 dsimp only at hpre hq ⊢
 have apv := vY (x := x) (y := y) (z := z) hpre
 obtain ⟨hlen, hall, hoq⟩ := hpre
 have api := fun (k : Nat) h => amZ (wd := x) (most := y) ⟨hall k, hoq⟩ h
 have apn := fun (k : Nat) h => aml (wd := x) (most := y) ⟨hall k, hoq⟩ h
 have hp60 := fun k : Nat => (uV (p[k]?.getD []) q x y).1
 have hbk := xD p q x y
 have hck := og p q x y
 unfold blL blC blB at hq
 cases hb : kM p q x y z with
 | false =>
  rw [hb] at apv hq
  simp only [Bool.false_and, Bool.false_eq_true, if_false, List.length_nil, Nat.lt_irrefl, Prod.mk.injEq] at hq
  obtain ⟨rfl, rfl⟩ := hq
  clear api apn hp60 hbk hck hall hoq hb
  have gbli_c36 := aik; have gbli_c6 := anQ
  (refine wlk ?_; intros)
  all_goals ((with_reducible apply qA (by first | exact .inl rfl | exact .inr rfl)); (simp (disch := (first | omega | (simp only [push_cast]; first | done | omega))) only [push_cast, ↓reduceIte, Nat.reduceEqDiff, Nat.reduceBEq, Nat.reduceAdd, Nat.reduceSub, Int.reduceToNat, *] <;> with_reducible exact rfl))
 | true =>
  rw [hb] at apv hq
  have h6 : p.length ≤ 6 := by
   unfold kM at hb
   simp only [Bool.and_eq_true, decide_eq_true_eq] at hb
   exact hb.2.1
  simp only [Bool.true_and] at hq
  replace hq := Lib.hid hq
  clear hall hoq hb
  have gbli_c36 := aik; have gbli_c6 := anQ
  (refine wlk ?_; intros)
  refine aT (α := Nat × Nat × Nat × Nat) mixed (fun i => [(1, .own 0 5 0 0), (5, nP 1 ((blK p q x y i.1).map fun s => .val (.string s)) i.2.1), (6, nP 1 ((bcK p q x y i.1).map fun n => .val (.int .i64 n)) i.2.2.1), (15, lsP p), (16, iv p.length), (17, iv i.1)])
   (fun i => [(0, 40, 5, [.agg [lsP p, .lst false 1 (q.map fun s => .val (.string s)), .val (.int .i64 x), .val (.int .i64 y), .val (.int .i64 z)]])] ++ (nO 9 1 ((blK p q x y i.1).map fun s => .val (.string s)) i.2.1 ++ nO 3 1 ((bcK p q x y i.1).map fun n => .val (.int .i64 n)) i.2.2.1))
   (fun i => i.2.2.2) (fun i => i.1 ≤ p.length ∧ 0 < i.2.2.2 ∧ (0 < i.1 → 0 < i.2.1 ∧ 0 < i.2.2.1 ∧ i.2.1 ≠ i.2.2.1 ∧ i.2.1 < i.2.2.2 ∧ i.2.2.1 < i.2.2.2) ∧ ∀ j, j < i.1 → lC (p[j]?.getD []) q x y = true) (fun i => p.length - i.1) (by kernel_rfl) (0, 0, 0, 1) ⟨Nat.zero_le _, by decide, fun h => absurd h (Nat.lt_irrefl 0), fun j hj => by dsimp only at hj; omega⟩ ?_ ?_ rfl ?_
  ·dsimp only
   rw [show blK p q x y 0 = [] from rfl, show bcK p q x y 0 = [] from rfl, List.map_nil, List.map_nil, lK]
   exact agi
  ·dsimp only
   rw [show blK p q x y 0 = [] from rfl, show bcK p q x y 0 = [] from rfl, List.map_nil, List.map_nil, lg, lg]
   simp (disch := (first | omega | (simp only [push_cast]; first | done | omega))) only [push_cast, ↓reduceIte, Nat.reduceEqDiff, Nat.reduceBEq, Nat.reduceAdd, Nat.reduceSub, Int.reduceToNat, List.cons_append, List.nil_append, List.append_nil, *]
  rintro ⟨k, o1, o2, nx⟩ ⟨hk, hnx, hoo, hok⟩
  dsimp only at hk hnx hoo hok ⊢
  have hok' := Lib.hid hok
  have hbp := fun h => ajS (k := k) hok h
  clear hok
  have hbl := hbk k
  have hcl := hck k
  by_cases hkl : k < p.length
  ·have ap := api k
   have apk := apn k
   have h60 := hp60 k
   have hn1 : blK p q x y (k + 1) = blK p q x y k ++ nQ (p[k]?.getD []) q x y := rfl
   have hn2 : bcK p q x y (k + 1) = bcK p q x y k ++ [((nQ (p[k]?.getD []) q x y).length : Int)] := rfl
   have hno : lC (p[k]?.getD []) q x y = false → (p.all fun w => lC w q x y) = false := fun h => jN (d := []) hkl h
   have hps := fun h => ajd (ws := p[k]?.getD []) (pats := q) (wd := x) (most := y) h
   have hys : lC (p[k]?.getD []) q x y = true → ∀ j, j < k + 1 → lC (p[j]?.getD []) q x y = true := fun h j hj => by
    rcases Nat.lt_or_ge j k with h1 | h1
    ·exact hok'.out j h1
    ·obtain rfl : j = k := by omega
     exact h
   replace hn1 := Lib.hid hn1
   replace hn2 := Lib.hid hn2
   replace hys := Lib.hid hys
   clear api apn hp60 hbk hck
   generalize nQ (p[k]?.getD []) q x y = L at *
   cases hB : lC (p[k]?.getD []) q x y with
   | false =>
    have ap2 := apk hB
    have hq2 := hq.out
    rw [hno hB] at hq2
    simp only [Bool.false_eq_true, if_false, List.length_nil, Nat.lt_irrefl, Prod.mk.injEq] at hq2
    obtain ⟨rfl, rfl⟩ := hq2
    clear ap apk hno hys hB hn1 hn2 hps hq
    by_cases hk0 : k = 0
    ·subst hk0
     rw [show blK p q x y 0 = [] from rfl, show bcK p q x y 0 = [] from rfl, List.map_nil, List.map_nil, lK, lg, lg]
     simp only [List.append_nil]
     (refine wlk ?_; intros)
     all_goals ((with_reducible apply qA (by first | exact .inl rfl | exact .inr rfl)); (simp (disch := (first | omega | (simp only [push_cast]; first | done | omega))) only [push_cast, ↓reduceIte, Nat.reduceEqDiff, Nat.reduceBEq, Nat.reduceAdd, Nat.reduceSub, Int.reduceToNat, *] <;> with_reducible exact rfl))
    ·obtain ⟨ho1, ho2, ho3, ho4, ho5⟩ := hoo (by omega)
     have hb1 := hbp (by omega)
     have hb2 : 0 < ((blK p q x y k).map fun s => PV.val (.string s)).length := by rw [List.length_map]; exact hb1
     have hb3 : 0 < ((bcK p q x y k).map fun n => PV.val (.int .i64 n)).length := by rw [List.length_map]; omega
     rw [aS hb2, aS hb3, aU hb2, aU hb3]
     generalize blK p q x y k = B at *
     generalize bcK p q x y k = C at *
     simp only [List.cons_append, List.nil_append, List.length_map, hcl]
     (refine wlk ?_; intros)
     all_goals ((with_reducible apply qA (by first | exact .inl rfl | exact .inr rfl)); (simp (disch := (first | omega | (simp only [push_cast]; first | done | omega))) only [push_cast, ↓reduceIte, Nat.reduceEqDiff, Nat.reduceBEq, Nat.reduceAdd, Nat.reduceSub, Int.reduceToNat, *] <;> with_reducible exact rfl))
   | true =>
    have hL0 := hps hB
    have ap2 := ap hL0
    rw [hB] at ap2
    have hys2 := hys.out hB
    replace hys2 := Lib.hid hys2
    clear ap apk hno hys hB hps
    by_cases hk0 : k = 0
    ·subst hk0
     rw [show blK p q x y 0 = [] from rfl, show bcK p q x y 0 = [] from rfl, List.map_nil, List.map_nil, lK, lg, lg]
     rw [show blK p q x y 0 = [] from rfl, List.nil_append] at hn1
     rw [show bcK p q x y 0 = [] from rfl, List.nil_append] at hn2
     have hLp : 0 < (L.map fun s => PV.val (.string s)).length := by rw [List.length_map]; exact hL0
     simp only [List.append_nil]
     clear hbl hcl hbp
     (refine wlk ?_; intros)
     refine ⟨(0 + 1, nx, nx + 2, nx + 3), ⟨by dsimp only; omega, by dsimp only; omega, fun _ => by refine ⟨?_, ?_, ?_, ?_, ?_⟩ <;> (dsimp only; omega), hys2.out⟩, by dsimp only; omega, ?_, ?_, rfl⟩
     ·dsimp only
      rw [hn1.out, hn2.out, aS hLp, aS (show 0 < ([((L.length : Nat) : Int)].map fun n => PV.val (.int .i64 n)).length from Nat.zero_lt_one)]
      exact agi
     ·dsimp only
      rw [hn1.out, hn2.out, aU hLp, aU (show 0 < ([((L.length : Nat) : Int)].map fun n => PV.val (.int .i64 n)).length from Nat.zero_lt_one)]
      simp (disch := (first | omega | (simp only [push_cast]; first | done | omega))) only [push_cast, ↓reduceIte, Nat.reduceEqDiff, Nat.reduceBEq, Nat.reduceAdd, Nat.reduceSub, Int.reduceToNat, List.cons_append, List.nil_append, List.append_nil, *]
    ·obtain ⟨ho1, ho2, ho3, ho4, ho5⟩ := hoo (by omega)
     have ho6 : ¬ o2 = o1 := fun e => ho3 e.symm
     replace ho3 : ¬ o1 = o2 := ho3
     have hb1 := hbp (by omega)
     have hb2 : 0 < ((blK p q x y k).map fun s => PV.val (.string s)).length := by rw [List.length_map]; exact hb1
     have hb3 : 0 < ((bcK p q x y k).map fun n => PV.val (.int .i64 n)).length := by rw [List.length_map]; omega
     have hb4 : 0 < ((blK p q x y k ++ L).map fun s => PV.val (.string s)).length := by rw [List.length_map, List.length_append]; omega
     rw [aS hb2, aS hb3, aU hb2, aU hb3]
     generalize blK p q x y k = B at *
     generalize bcK p q x y k = C at *
     simp only [List.cons_append, List.nil_append, List.length_map, hcl]
     clear hb2 hb3
     (refine wlk ?_; intros)
     refine ⟨(k + 1, nx, nx + 2, nx + 3), ⟨by dsimp only; omega, by dsimp only; omega, fun _ => by refine ⟨?_, ?_, ?_, ?_, ?_⟩ <;> (dsimp only; omega), hys2.out⟩, by dsimp only; omega, ?_, ?_, rfl⟩
     ·dsimp only
      rw [hn1.out, hn2.out, aS hb4, aS (show 0 < ((C ++ [((L.length : Nat) : Int)]).map fun n => PV.val (.int .i64 n)).length by simp)]
      exact agi
     ·dsimp only
      rw [hn1.out, hn2.out, aU hb4, aU (show 0 < ((C ++ [((L.length : Nat) : Int)]).map fun n => PV.val (.int .i64 n)).length by simp)]
      simp (disch := (first | omega | (simp only [push_cast]; first | done | omega))) only [push_cast, ↓reduceIte, Nat.reduceEqDiff, Nat.reduceBEq, Nat.reduceAdd, Nat.reduceSub, Int.reduceToNat, List.cons_append, List.nil_append, List.append_nil, *]
  ·obtain rfl : k = p.length := by omega
   have hall2 : (p.all fun w => lC w q x y) = true := gL (d := []) fun j hj => hok'.out j hj
   have hq2 := hq.out
   rw [hall2] at hq2
   simp only [if_true] at hq2
   clear api apn hp60 hbk hck hall2 hq
   by_cases hk0 : p.length = 0
   ·obtain rfl := List.eq_nil_of_length_eq_zero hk0
    change (if 0 < ([] : LS).length then _ else _) = _ at hq2
    show pq _ _ _ _ _ (lk [(1, .own 0 5 0 0), (5, nP 1 [] o1), (6, nP 1 [] o2), (15, lsP []), (16, iv ([] : List LS).length), (17, iv ([] : List LS).length)]) (lo ([(0, 40, 5, [.agg [lsP [], .lst false 1 (q.map fun s => .val (.string s)), .val (.int .i64 x), .val (.int .i64 y), .val (.int .i64 z)]])] ++ (nO 9 1 [] o1 ++ nO 3 1 [] o2))) _
    rw [lK, lK, lg, lg]
    simp only [List.length_nil, Nat.lt_irrefl, if_false, Prod.mk.injEq] at hq2
    obtain ⟨rfl, rfl⟩ := hq2
    simp only [List.append_nil]
    (refine wlk ?_; intros)
    all_goals ((with_reducible apply qA (by first | exact .inl rfl | exact .inr rfl)); (simp (disch := (first | omega | (simp only [push_cast]; first | done | omega))) only [push_cast, ↓reduceIte, Nat.reduceEqDiff, Nat.reduceBEq, Nat.reduceAdd, Nat.reduceSub, Int.reduceToNat, *] <;> with_reducible exact rfl))
   ·obtain ⟨ho1, ho2, ho3, ho4, ho5⟩ := hoo (by omega)
    have ho6 : ¬ o2 = o1 := fun e => ho3 e.symm
    replace ho3 : ¬ o1 = o2 := ho3
    have hb1 := hbp (by omega)
    have hb2 : 0 < ((blK p q x y p.length).map fun s => PV.val (.string s)).length := by rw [List.length_map]; exact hb1
    have hb3 : 0 < ((bcK p q x y p.length).map fun n => PV.val (.int .i64 n)).length := by rw [List.length_map]; omega
    rw [aS hb2, aS hb3, aU hb2, aU hb3]
    rw [if_pos hb1] at hq2
    simp only [Prod.mk.injEq] at hq2
    obtain ⟨rfl, rfl⟩ := hq2
    generalize blK p q x y p.length = B at *
    generalize bcK p q x y p.length = C at *
    simp only [List.cons_append, List.nil_append, List.length_map, hcl]
    (refine wlk ?_; intros)
    all_goals ((with_reducible apply aph o1 o2 ho3 (by first | exact .inl rfl | exact .inr rfl)); (focus (simp (disch := (first | omega | (simp only [push_cast]; first | done | omega))) only [push_cast, ↓reduceIte, Nat.reduceEqDiff, Nat.reduceBEq, Nat.reduceAdd, Nat.reduceSub, Int.reduceToNat, *] <;> with_reducible exact rfl)); (focus (simp (disch := (first | omega | (simp only [push_cast]; first | done | omega))) only [push_cast, ↓reduceIte, Nat.reduceEqDiff, Nat.reduceBEq, Nat.reduceAdd, Nat.reduceSub, Int.reduceToNat, *] <;> with_reducible exact rfl)); (focus (simp (disch := (first | omega | (simp only [push_cast]; first | done | omega))) only [push_cast, ↓reduceIte, Nat.reduceEqDiff, Nat.reduceBEq, Nat.reduceAdd, Nat.reduceSub, Int.reduceToNat, *] <;> with_reducible exact rfl)))
end Go.Proofs.YtngcedklbinhjaaGreatDoor
