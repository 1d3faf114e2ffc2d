/- What the proof rests on, part 18: contracts of functions. No condition beyond what each states. -/
import Derived.Test.YtngcedklbinhjaaZHf17
namespace Go.Proofs.Ytngcedklbinhjaa
open Go.RowKit
set_option linter.all false
theorem take_snocS {l : LS} {k : Nat} (h : k < l.length) : l.take (k + 1) = l.take k ++ [l[k]?.getD .empty] := by
  rw [List.take_succ_eq_append_getElem h, List.getElem?_eq_getElem h]
  rfl
theorem wiK_pos (ps : LS) : ∀ {k : Nat}, 0 < k → 0 < (wiK ps k).length
  | 0, h => by omega
  | k + 1, _ => by
    rw [wiK, List.length_append, List.length_singleton]
    omega
noncomputable def GPiT : Ctx := { fn := fun f => if f = 71 then some φWords else if f = 72 then some φPats else if f = 73 then some φPr else if f = 74 then some φWw else none, io := fun f => none }
theorem GPiT_ok : SoundΓ Try.prog GPiT := ⟨(fun f φ h => by
  unfold GPiT at h
  dsimp only at h
  split at h
  · rename_i hf; cases h; subst hf; exact ⟨⟨_, Try.func71, rfl, rfl⟩, implWordsValid_ok⟩
  split at h
  · rename_i hf; cases h; subst hf; exact ⟨⟨_, Try.func72, rfl, rfl⟩, implPatternsValid_ok⟩
  split at h
  · rename_i hf; cases h; subst hf; exact ⟨⟨_, Try.func73, rfl, rfl⟩, implPr_ok⟩
  split at h
  · rename_i hf; cases h; subst hf; exact ⟨⟨_, Try.func74, rfl, rfl⟩, implWw_ok⟩
  cases h), (fun f φ h => by
  unfold GPiT at h
  dsimp only at h
  cases h), rfl⟩
theorem GPiT_71 (ob : Objs) (ps : List PV) : evCall GPiT ob 71 ps = (ps.mapM (reify false 0 ob fuel)).bind φWords := by
  have h : GPiT.fn 71 = some φWords := by simp [GPiT]
  unfold evCall
  rw [h]
  cases ps.mapM (reify false 0 ob fuel) <;> rfl
theorem GPiT_72 (ob : Objs) (ps : List PV) : evCall GPiT ob 72 ps = (ps.mapM (reify false 0 ob fuel)).bind φPats := by
  have h : GPiT.fn 72 = some φPats := by simp [GPiT]
  unfold evCall
  rw [h]
  cases ps.mapM (reify false 0 ob fuel) <;> rfl
theorem GPiT_73 (ob : Objs) (ps : List PV) : evCall GPiT ob 73 ps = (ps.mapM (reify false 0 ob fuel)).bind φPr := by
  have h : GPiT.fn 73 = some φPr := by simp [GPiT]
  unfold evCall
  rw [h]
  cases ps.mapM (reify false 0 ob fuel) <;> rfl
theorem GPiT_74 (ob : Objs) (ps : List PV) : evCall GPiT ob 74 ps = (ps.mapM (reify false 0 ob fuel)).bind φWw := by
  have h : GPiT.fn 74 = some φWw := by simp [GPiT]
  unfold evCall
  rw [h]
  cases ps.mapM (reify false 0 ob fuel) <;> rfl
set_option maxHeartbeats 16000000 in
theorem implPiT_ok : Sound Try.prog 39 φPiT := by
  refine sound_pqW mixed GPiT_ok Try.func39 rfl 81 rfl [.tmp 4, .tmp 5, .tmp 6] rfl (by kernel_rfl) fun ps r hr => ?_
  obtain ⟨ws, pats, rfl, hq⟩ := F2_some hr
  clear hr
  split at hq
  case isFalse => cases hq
  case isTrue hpre =>
  cases hq
  refine ⟨by simp, ?_⟩
  simp only [dIs, dUs, dSs, dI_e, dU_e, dB_e, dS_e, dFn_e, dL_e, dA2_e, dA3_e, dA4_e, dA5_e]
  have ap1 := φWords_ap hpre.1
  have ap2 := φPats_ap hpre.2
  have hwl0 := hpre.1.1
  cases hw : allWords ws with
  | false =>
    have hA : prgA ws pats = false := by unfold prgA; rw [hw]; rfl
    have hB : prgB ws pats = false := by unfold prgB; rw [hw]; rfl
    rw [hw] at ap1
    rw [hB, hA]
    simp only [Bool.false_eq_true, if_false, List.map_nil]
    clear hpre hw hB hA
    have gpit_c71 := GPiT_71; have gpit_c72 := GPiT_72; have gpit_c73 := GPiT_73; have gpit_c74 := GPiT_74
    (refine wlk ?_; intros)
    all_goals ((with_reducible apply i_endW (by first | exact .inl rfl | exact .inr rfl)); (simp (disch := (first | omega | (simp only [push_cast]; first | done | omega))) only [push_cast, ↓reduceIte, Nat.reduceEqDiff, Nat.reduceBEq, Nat.reduceAdd, Nat.reduceSub, Int.reduceToNat, *] <;> with_reducible exact rfl))
    all_goals exact tup_le ⟨nil_le _ _, nil_le _ _, PV.le_refl _, trivial⟩
  | true =>
  cases hp : allPats pats with
  | false =>
    have hA : prgA ws pats = false := by unfold prgA; rw [hw, hp]; rfl
    have hB : prgB ws pats = false := by unfold prgB; rw [hw, hp]; rfl
    rw [hw] at ap1
    rw [hp] at ap2
    rw [hB, hA]
    simp only [Bool.false_eq_true, if_false, List.map_nil]
    clear hpre hw hp hB hA
    have gpit_c71 := GPiT_71; have gpit_c72 := GPiT_72; have gpit_c73 := GPiT_73; have gpit_c74 := GPiT_74
    (refine wlk ?_; intros)
    all_goals ((with_reducible apply i_endW (by first | exact .inl rfl | exact .inr rfl)); (simp (disch := (first | omega | (simp only [push_cast]; first | done | omega))) only [push_cast, ↓reduceIte, Nat.reduceEqDiff, Nat.reduceBEq, Nat.reduceAdd, Nat.reduceSub, Int.reduceToNat, *] <;> with_reducible exact rfl))
    all_goals exact tup_le ⟨nil_le _ _, nil_le _ _, PV.le_refl _, trivial⟩
  | true =>
  by_cases hz : ws.length = 0
  · have hA : prgA ws pats = false := by unfold prgA; rw [hw, hp, hz]; rfl
    have hB : prgB ws pats = false := by unfold prgB; rw [hw, hp, hz]; rfl
    rw [hw] at ap1
    rw [hp] at ap2
    rw [hB, hA]
    simp only [Bool.false_eq_true, if_false, List.map_nil]
    clear hpre hw hp hB hA
    have gpit_c71 := GPiT_71; have gpit_c72 := GPiT_72; have gpit_c73 := GPiT_73; have gpit_c74 := GPiT_74
    (refine wlk ?_; intros)
    all_goals ((with_reducible apply i_endW (by first | exact .inl rfl | exact .inr rfl)); (simp (disch := (first | omega | (simp only [push_cast]; first | done | omega))) only [push_cast, ↓reduceIte, Nat.reduceEqDiff, Nat.reduceBEq, Nat.reduceAdd, Nat.reduceSub, Int.reduceToNat, *] <;> with_reducible exact rfl))
    all_goals exact tup_le ⟨nil_le _ _, nil_le _ _, PV.le_refl _, trivial⟩
  · have hB : prgB ws pats = decide ((piR ws pats).length ≤ 60) := by
      unfold prgB
      rw [hw, hp, decide_eq_true (show 0 < ws.length by omega)]
      rfl
    have hA : prgA ws pats = true := by
      unfold prgA
      rw [hw, hp, decide_eq_true (show 0 < ws.length by omega)]
      rfl
    have hwl := words_len hw
    have hap : ∀ k, k < ws.length → φPr [.val (.string (ws[k]?.getD .empty)), .lst false 1 (pats.map fun s => .val (.string s))] = some (.lst true 1 ((partsV (ws[k]?.getD .empty) pats).map fun s => .val (.string s))) := fun k hk => φPr_ap ⟨hpre.1.2 k, hpre.2⟩
    have hpp : ∀ k : Nat, k < ws.length → 0 < (partsV (ws[k]?.getD ByteArray.empty) pats).length := fun k hk => parts_pos (words_at hw hk) hp
    have hpw : ∀ k j : Nat, j < (partsV (ws[k]?.getD ByteArray.empty) pats).length → ((partsV (ws[k]?.getD ByteArray.empty) pats)[j]?.getD .empty).size ≤ 1048576 := fun k j hj => by
      have := (wordB_letters (partsV_at hj)).2.2
      omega
    have hpl : ∀ k : Nat, (partsV (ws[k]?.getD ByteArray.empty) pats).length ≤ 21 := fun k => partsV_len _ _
    have htp := fun k hk h0 => txK_pos hw hp k hk h0
    have hip := fun k hk h0 => piK_pos (k := k) hw hp hk h0
    have htl := txK_len ws pats
    have hil := piK_len ws pats
    rw [hw] at ap1
    rw [hp] at ap2
    rw [hB, hA]
    simp only [if_true]
    have hR : piR ws pats = piK ws pats ws.length ++ [(3, 0, 0, 0, 0, 10000, false), (2, 0, 1, 0, 1, 0, false), (3, 0, 0, 0, 0, -10000, false)] := rfl
    have hT : txR ws pats = txK ws pats ws.length := rfl
    rw [hR, hT]
    clear hpre hw hp hB hA hR hT
    have gpit_c71 := GPiT_71; have gpit_c72 := GPiT_72; have gpit_c73 := GPiT_73; have gpit_c74 := GPiT_74
    (refine wlk ?_; intros)
    refine i_loop (α := Nat × Nat × Nat × Nat) mixed (fun z => [(1, .lst false 1 (pats.map pvS)), (7, nP 7 ((piK ws pats z.1).map pvIt) z.2.1), (8, nP 1 ((txK ws pats z.1).map pvS) z.2.2.1), (26, .lst false 1 (ws.map pvS)), (27, iv ws.length), (28, iv z.1)])
      (fun z => nO 65 7 ((piK ws pats z.1).map pvIt) z.2.1 ++ nO 9 1 ((txK ws pats z.1).map pvS) z.2.2.1) (fun z => z.2.2.2)
      (fun z => z.1 ≤ ws.length ∧ (0 < z.1 → z.2.1 < z.2.2.2 ∧ z.2.2.1 < z.2.2.2 ∧ ¬ z.2.1 = z.2.2.1)) (fun z => ws.length - z.1) (by kernel_rfl) (0, 0, 0, 0) ⟨Nat.zero_le _, by simp⟩ ?_ ?_ rfl ?_
    · simp (disch := (first | omega | (simp only [push_cast]; first | done | omega))) only [push_cast, ↓reduceIte, Nat.reduceEqDiff, Nat.reduceBEq, Nat.reduceAdd, Nat.reduceSub, Int.reduceToNat, piK, txK, List.map_nil, *]
    · simp (disch := (first | omega | (simp only [push_cast]; first | done | omega))) only [push_cast, ↓reduceIte, Nat.reduceEqDiff, Nat.reduceBEq, Nat.reduceAdd, Nat.reduceSub, Int.reduceToNat, piK, txK, List.map_nil, List.append_nil, *]
    rintro ⟨k, x, xt, y⟩ ⟨hk, hxy⟩
    dsimp only at hk hxy
    by_cases h0 : k < ws.length
    · have apr := hap k h0
      have hps := hpw k
      have hpl2 := hpl k
      have hpp2 := hpp k h0
      have hKI0 : piK ws pats (k + 1) = (if k = 0 then piK ws pats k else piK ws pats k ++ [(2, 4, 3, 1, 0, 0, false)]) ++ wiK (partsV (ws[k]?.getD .empty) pats) (partsV (ws[k]?.getD .empty) pats).length := rfl
      have hKT : txK ws pats (k + 1) = txK ws pats k ++ partsV (ws[k]?.getD .empty) pats := rfl
      have hpos := Lib.hid (And.intro (hip (k + 1) (by omega) (by omega)) (htp (k + 1) (by omega) (by omega)))
      have hlk := hil k
      have hlt := htl k
      generalize partsV (ws[k]?.getD .empty) pats = ps at *
      have hwk := wiK_len ps
      by_cases hk0 : k = 0
      · rw [if_pos hk0] at hKI0
        have hI0 : piK ws pats k = [] := by rw [hk0]; rfl
        have hT0 : txK ws pats k = [] := by rw [hk0]; rfl
        obtain ⟨A, hA⟩ : ∃ A, A = piK ws pats k := ⟨_, rfl⟩
        obtain ⟨T, hT⟩ : ∃ T, T = txK ws pats k := ⟨_, rfl⟩
        have hAT : (0 < A.length ∧ 0 < T.length) ∨ (A.length = 0 ∧ T.length = 0) := .inr (by rw [hA, hT, hI0, hT0]; exact ⟨rfl, rfl⟩)
        rw [← hA] at hKI0 hlk
        rw [← hT] at hKT hlt
        have hAe : A = [] := hA.trans hI0
        have hTe : T = [] := hT.trans hT0
        rw [hI0, hT0]
        replace hAe := Lib.hid hAe
        replace hTe := Lib.hid hTe
        have hKI := Lib.hid hKI0
        replace hKT := Lib.hid hKT
        replace hI0 := Lib.hid hI0
        replace hk0 : k < 1 := by omega
        clear hKI0 hA hT hT0 hxy hap hpp hpw hpl hil htl hip htp
        (refine wlk ?_; intros)
        refine i_loop (α := Nat × Nat × Nat × Nat) mixed (fun z => [(1, .lst false 1 (pats.map pvS)), (7, nP 7 ((A ++ wiK ps z.1).map pvIt) z.2.1), (8, nP 1 ((T ++ ps.take z.1).map pvS) z.2.2.1), (26, .lst false 1 (ws.map pvS)), (27, iv ws.length), (28, iv k), (42, .lst true 1 (ps.map pvS)), (43, iv ps.length), (44, iv z.1)])
          (fun z => nO 65 7 ((A ++ wiK ps z.1).map pvIt) z.2.1 ++ nO 9 1 ((T ++ ps.take z.1).map pvS) z.2.2.1) (fun z => z.2.2.2)
          (fun z => z.1 ≤ ps.length ∧ (0 < (A ++ wiK ps z.1).length → z.2.1 < z.2.2.2 ∧ z.2.2.1 < z.2.2.2 ∧ ¬ z.2.1 = z.2.2.1)) (fun z => ps.length - z.1) (by kernel_rfl) (0, x, xt, y) ⟨Nat.zero_le _, fun h => by rw [hAe.out] at h; simp [wiK] at h⟩ ?_ ?_ rfl ?_
        · simp (disch := (first | omega | (simp only [push_cast]; first | done | omega))) only [push_cast, ↓reduceIte, Nat.reduceEqDiff, Nat.reduceBEq, Nat.reduceAdd, Nat.reduceSub, Int.reduceToNat, wiK, List.take_zero, List.append_nil, hAe.out, hTe.out, List.map_nil, *]
        · simp (disch := (first | omega | (simp only [push_cast]; first | done | omega))) only [push_cast, ↓reduceIte, Nat.reduceEqDiff, Nat.reduceBEq, Nat.reduceAdd, Nat.reduceSub, Int.reduceToNat, wiK, List.take_zero, List.append_nil, hAe.out, hTe.out, List.map_nil, *]
        clear hI0
        rintro ⟨j, x2, xt2, y2⟩ ⟨hj, hx2⟩
        dsimp only at hj hx2
        have hwj := hwk j
        by_cases hjl : j < ps.length
        · have hn : A ++ wiK ps (j + 1) = (if j = 0 then A ++ wiK ps j else (A ++ wiK ps j) ++ [(3, 3, 0, 0, 0, 50, true)]) ++ [(1, wordW (ps[j]?.getD .empty), 0, 0, 0, 0, false)] := by
            rw [wiK]
            split <;> simp
          have ht : T ++ ps.take (j + 1) = (T ++ ps.take j) ++ [ps[j]?.getD .empty] := by rw [take_snocS hjl, List.append_assoc]
          have h3 : (0 < (A ++ wiK ps j).length ∧ 0 < (T ++ ps.take j).length) ∨ ((A ++ wiK ps j) = [] ∧ (T ++ ps.take j) = [] ∧ j < 1) := by
            by_cases hj0 : j = 0
            · subst hj0
              rcases hAT with h | h
              · exact .inl ⟨by rw [List.length_append]; omega, by rw [List.length_append]; omega⟩
              · exact .inr ⟨by rw [List.eq_nil_of_length_eq_zero h.1]; rfl, by rw [List.eq_nil_of_length_eq_zero h.2]; rfl, by omega⟩
            · refine .inl ⟨by rw [List.length_append]; have := wiK_pos ps (k := j) (by omega); omega, by rw [List.length_append, List.length_take]; omega⟩
          have hil2 : (A ++ wiK ps j).length ≤ 700 := by rw [List.length_append]; omega
          have htl2 : (T ++ ps.take j).length ≤ 400 := by rw [List.length_append, List.length_take]; omega
          have apw := φWw_ap (hps j hjl)
          have hnx : 0 < (A ++ wiK ps (j + 1)).length ∧ 0 < (T ++ ps.take (j + 1)).length := ⟨by rw [hn, List.length_append, List.length_singleton]; omega, by rw [ht, List.length_append, List.length_singleton]; omega⟩
          replace hnx := Lib.hid hnx
          replace hn := Lib.hid hn
          replace ht := Lib.hid ht
          generalize A ++ wiK ps j = its at *
          generalize T ++ ps.take j = tx at *
          clear hwj hwk hps
          rcases h3 with ⟨hi0, ht0⟩ | ⟨rfl, rfl, hj1⟩
          · obtain ⟨x3, x4, x5⟩ := hx2 hi0
            have hap : 0 < (its.map pvIt).length := by rw [List.length_map]; omega
            have hbp : 0 < (tx.map pvS).length := by rw [List.length_map]; omega
            have x6 : ¬ xt2 = x2 := fun q => x5 q.symm
            clear hx2
            simp only [nP_pos hap, nP_pos hbp, nO_pos hap, nO_pos hbp, List.length_map, List.cons_append, List.nil_append]
            by_cases hj0 : j = 0
            · have hn2 := hn.out
              rw [if_pos hj0] at hn2
              replace hn2 := Lib.hid hn2
              replace hj0 : j < 1 := by omega
              (refine wlk ?_; intros)
              refine ⟨(j + 1, y2 + 1, y2 + 3, y2 + 4), ⟨by dsimp only; omega, fun _ => by dsimp only; omega⟩, by dsimp only; omega, ?_, ?_, rfl⟩
              · have h1 := hnx.out
                have hap3 : 0 < ((A ++ wiK ps (j + 1)).map pvIt).length := by rw [List.length_map]; exact h1.1
                have hbp3 : 0 < ((T ++ ps.take (j + 1)).map pvS).length := by rw [List.length_map]; exact h1.2
                dsimp only
                rw [nP_pos hap3, nP_pos hbp3, hn2.out, ht.out]
                exact agr
              · have h1 := hnx.out
                have hap3 : 0 < ((A ++ wiK ps (j + 1)).map pvIt).length := by rw [List.length_map]; exact h1.1
                have hbp3 : 0 < ((T ++ ps.take (j + 1)).map pvS).length := by rw [List.length_map]; exact h1.2
                dsimp only
                rw [nO_pos hap3, nO_pos hbp3, hn2.out, ht.out]
                simp (disch := (first | omega | (simp only [push_cast]; first | done | omega))) only [push_cast, ↓reduceIte, Nat.reduceEqDiff, Nat.reduceBEq, Nat.reduceAdd, Nat.reduceSub, Int.reduceToNat, List.cons_append, List.nil_append, *]
            · have hn2 := hn.out
              rw [if_neg hj0] at hn2
              replace hn2 := Lib.hid hn2
              (refine wlk ?_; intros)
              refine ⟨(j + 1, y2 + 3, y2 + 5, y2 + 6), ⟨by dsimp only; omega, fun _ => by dsimp only; omega⟩, by dsimp only; omega, ?_, ?_, rfl⟩
              · have h1 := hnx.out
                have hap3 : 0 < ((A ++ wiK ps (j + 1)).map pvIt).length := by rw [List.length_map]; exact h1.1
                have hbp3 : 0 < ((T ++ ps.take (j + 1)).map pvS).length := by rw [List.length_map]; exact h1.2
                dsimp only
                rw [nP_pos hap3, nP_pos hbp3, hn2.out, ht.out]
                exact agr
              · have h1 := hnx.out
                have hap3 : 0 < ((A ++ wiK ps (j + 1)).map pvIt).length := by rw [List.length_map]; exact h1.1
                have hbp3 : 0 < ((T ++ ps.take (j + 1)).map pvS).length := by rw [List.length_map]; exact h1.2
                dsimp only
                rw [nO_pos hap3, nO_pos hbp3, hn2.out, ht.out]
                simp (disch := (first | omega | (simp only [push_cast]; first | done | omega))) only [push_cast, ↓reduceIte, Nat.reduceEqDiff, Nat.reduceBEq, Nat.reduceAdd, Nat.reduceSub, Int.reduceToNat, List.cons_append, List.nil_append, *]
          · have hn2 := hn.out
            rw [if_pos (show j = 0 by omega)] at hn2
            replace hn2 := Lib.hid hn2
            clear hx2
            (refine wlk ?_; intros)
            refine ⟨(j + 1, y2 + 1, y2 + 3, y2 + 4), ⟨by dsimp only; omega, fun _ => by dsimp only; omega⟩, by dsimp only; omega, ?_, ?_, rfl⟩
            · have h1 := hnx.out
              have hap3 : 0 < ((A ++ wiK ps (j + 1)).map pvIt).length := by rw [List.length_map]; exact h1.1
              have hbp3 : 0 < ((T ++ ps.take (j + 1)).map pvS).length := by rw [List.length_map]; exact h1.2
              dsimp only
              rw [nP_pos hap3, nP_pos hbp3, hn2.out, ht.out]
              exact agr
            · have h1 := hnx.out
              have hap3 : 0 < ((A ++ wiK ps (j + 1)).map pvIt).length := by rw [List.length_map]; exact h1.1
              have hbp3 : 0 < ((T ++ ps.take (j + 1)).map pvS).length := by rw [List.length_map]; exact h1.2
              dsimp only
              rw [nO_pos hap3, nO_pos hbp3, hn2.out, ht.out]
              simp (disch := (first | omega | (simp only [push_cast]; first | done | omega))) only [push_cast, ↓reduceIte, Nat.reduceEqDiff, Nat.reduceBEq, Nat.reduceAdd, Nat.reduceSub, Int.reduceToNat, List.cons_append, List.nil_append, *]
        · obtain rfl : j = ps.length := by omega
          rw [List.take_length] at *
          rw [← hKI.out, ← hKT.out] at *
          obtain ⟨hi2, ht2⟩ := hpos.out
          obtain ⟨x3, x4, x5⟩ := hx2 hi2
          have x6 : ¬ xt2 = x2 := fun q => x5 q.symm
          have hap : 0 < ((piK ws pats (k + 1)).map pvIt).length := by rw [List.length_map]; omega
          have hbp : 0 < ((txK ws pats (k + 1)).map pvS).length := by rw [List.length_map]; omega
          clear hx2 hwk hps
          simp only [nP_pos hap, nP_pos hbp, nO_pos hap, nO_pos hbp, List.length_map, List.cons_append, List.nil_append]
          (refine wlk ?_; intros)
          refine ⟨(k + 1, x2, xt2, y2), ⟨by dsimp only; omega, fun _ => ⟨x3, x4, x5⟩⟩, by dsimp only; omega, ?_, ?_, rfl⟩
          · simp (disch := (first | omega | (simp only [push_cast]; first | done | omega))) only [push_cast, ↓reduceIte, Nat.reduceEqDiff, Nat.reduceBEq, Nat.reduceAdd, Nat.reduceSub, Int.reduceToNat, nP_pos hap, nP_pos hbp, *]
          · simp (disch := (first | omega | (simp only [push_cast]; first | done | omega))) only [push_cast, ↓reduceIte, Nat.reduceEqDiff, Nat.reduceBEq, Nat.reduceAdd, Nat.reduceSub, Int.reduceToNat, nO_pos hap, nO_pos hbp, List.cons_append, List.nil_append, *]
      · rw [if_neg hk0] at hKI0
        have hi0 := hip k hk (by omega)
        have ht0 := htp k hk (by omega)
        obtain ⟨x3, x4, x5⟩ := hxy (by omega)
        have x6 : ¬ xt = x := fun q => x5 q.symm
        obtain ⟨A, hA⟩ : ∃ A, A = piK ws pats k ++ [(2, 4, 3, 1, 0, 0, false)] := ⟨_, rfl⟩
        rw [← hA] at hKI0
        have hAl : A.length = (piK ws pats k).length + 1 := by rw [hA]; simp
        generalize piK ws pats k = P at *
        generalize txK ws pats k = T at *
        have hAT : (0 < A.length ∧ 0 < T.length) ∨ (A.length = 0 ∧ T.length = 0) := .inl ⟨by omega, ht0⟩
        have hap1 : 0 < (P.map pvIt).length := by rw [List.length_map]; omega
        have hbp1 : 0 < (T.map pvS).length := by rw [List.length_map]; omega
        have hap2 : 0 < ((A ++ wiK ps 0).map pvIt).length := by rw [List.length_map, List.length_append]; omega
        have hbp2 : 0 < ((T ++ ps.take 0).map pvS).length := by rw [List.length_map, List.length_append]; omega
        simp only [nP_pos hap1, nP_pos hbp1, nO_pos hap1, nO_pos hbp1, List.length_map, List.cons_append, List.nil_append]
        have hlkP : P.length ≤ 600 := by omega
        replace hlk : A.length ≤ 43 * k + 1 := by omega
        have hA1 : A ++ wiK ps 0 = P ++ [(2, 4, 3, 1, 0, 0, false)] := by rw [hA]; exact List.append_nil _
        have hT1 : T ++ ps.take 0 = T := List.append_nil _
        have hI0 := Lib.hid (And.intro hA1 hT1)
        have hKI := Lib.hid hKI0
        replace hKT := Lib.hid hKT
        replace hA := Lib.hid hA
        replace hAl := Lib.hid hAl
        clear hKI0 hxy hap hpp hpw hpl hil htl hip htp hA1 hT1
        replace hk0 : 0 < k := by omega
        (refine wlk ?_; intros)
        refine i_loop (α := Nat × Nat × Nat × Nat) mixed (fun z => [(1, .lst false 1 (pats.map pvS)), (7, nP 7 ((A ++ wiK ps z.1).map pvIt) z.2.1), (8, nP 1 ((T ++ ps.take z.1).map pvS) z.2.2.1), (26, .lst false 1 (ws.map pvS)), (27, iv ws.length), (28, iv k), (42, .lst true 1 (ps.map pvS)), (43, iv ps.length), (44, iv z.1)])
          (fun z => nO 65 7 ((A ++ wiK ps z.1).map pvIt) z.2.1 ++ nO 9 1 ((T ++ ps.take z.1).map pvS) z.2.2.1) (fun z => z.2.2.2)
          (fun z => z.1 ≤ ps.length ∧ (0 < (A ++ wiK ps z.1).length → z.2.1 < z.2.2.2 ∧ z.2.2.1 < z.2.2.2 ∧ ¬ z.2.1 = z.2.2.1)) (fun z => ps.length - z.1) (by kernel_rfl) (0, y + 1, xt, y + 2) ⟨Nat.zero_le _, fun _ => by dsimp only; omega⟩ ?_ ?_ rfl ?_
        · dsimp only; rw [nP_pos hap2, nP_pos hbp2, hI0.out.1, hI0.out.2]; exact agr
        · dsimp only; rw [nO_pos hap2, nO_pos hbp2, hI0.out.1, hI0.out.2]; simp (disch := (first | omega | (simp only [push_cast]; first | done | omega))) only [push_cast, ↓reduceIte, Nat.reduceEqDiff, Nat.reduceBEq, Nat.reduceAdd, Nat.reduceSub, Int.reduceToNat, List.cons_append, List.nil_append, *]
        clear hI0
        rintro ⟨j, x2, xt2, y2⟩ ⟨hj, hx2⟩
        dsimp only at hj hx2
        have hwj := hwk j
        by_cases hjl : j < ps.length
        · have hn : A ++ wiK ps (j + 1) = (if j = 0 then A ++ wiK ps j else (A ++ wiK ps j) ++ [(3, 3, 0, 0, 0, 50, true)]) ++ [(1, wordW (ps[j]?.getD .empty), 0, 0, 0, 0, false)] := by
            rw [wiK]
            split <;> simp
          have ht : T ++ ps.take (j + 1) = (T ++ ps.take j) ++ [ps[j]?.getD .empty] := by rw [take_snocS hjl, List.append_assoc]
          have h3 : (0 < (A ++ wiK ps j).length ∧ 0 < (T ++ ps.take j).length) ∨ ((A ++ wiK ps j) = [] ∧ (T ++ ps.take j) = [] ∧ j < 1) := by
            by_cases hj0 : j = 0
            · subst hj0
              rcases hAT with h | h
              · exact .inl ⟨by rw [List.length_append]; omega, by rw [List.length_append]; omega⟩
              · exact .inr ⟨by rw [List.eq_nil_of_length_eq_zero h.1]; rfl, by rw [List.eq_nil_of_length_eq_zero h.2]; rfl, by omega⟩
            · refine .inl ⟨by rw [List.length_append]; have := wiK_pos ps (k := j) (by omega); omega, by rw [List.length_append, List.length_take]; omega⟩
          have hil2 : (A ++ wiK ps j).length ≤ 700 := by rw [List.length_append]; omega
          have htl2 : (T ++ ps.take j).length ≤ 400 := by rw [List.length_append, List.length_take]; omega
          have apw := φWw_ap (hps j hjl)
          have hnx : 0 < (A ++ wiK ps (j + 1)).length ∧ 0 < (T ++ ps.take (j + 1)).length := ⟨by rw [hn, List.length_append, List.length_singleton]; omega, by rw [ht, List.length_append, List.length_singleton]; omega⟩
          replace hnx := Lib.hid hnx
          replace hn := Lib.hid hn
          replace ht := Lib.hid ht
          generalize A ++ wiK ps j = its at *
          generalize T ++ ps.take j = tx at *
          clear hwj hwk hps
          rcases h3 with ⟨hi0, ht0⟩ | ⟨rfl, rfl, hj1⟩
          · obtain ⟨x3, x4, x5⟩ := hx2 hi0
            have hap : 0 < (its.map pvIt).length := by rw [List.length_map]; omega
            have hbp : 0 < (tx.map pvS).length := by rw [List.length_map]; omega
            have x6 : ¬ xt2 = x2 := fun q => x5 q.symm
            clear hx2
            simp only [nP_pos hap, nP_pos hbp, nO_pos hap, nO_pos hbp, List.length_map, List.cons_append, List.nil_append]
            by_cases hj0 : j = 0
            · have hn2 := hn.out
              rw [if_pos hj0] at hn2
              replace hn2 := Lib.hid hn2
              replace hj0 : j < 1 := by omega
              (refine wlk ?_; intros)
              refine ⟨(j + 1, y2 + 1, y2 + 3, y2 + 4), ⟨by dsimp only; omega, fun _ => by dsimp only; omega⟩, by dsimp only; omega, ?_, ?_, rfl⟩
              · have h1 := hnx.out
                have hap3 : 0 < ((A ++ wiK ps (j + 1)).map pvIt).length := by rw [List.length_map]; exact h1.1
                have hbp3 : 0 < ((T ++ ps.take (j + 1)).map pvS).length := by rw [List.length_map]; exact h1.2
                dsimp only
                rw [nP_pos hap3, nP_pos hbp3, hn2.out, ht.out]
                exact agr
              · have h1 := hnx.out
                have hap3 : 0 < ((A ++ wiK ps (j + 1)).map pvIt).length := by rw [List.length_map]; exact h1.1
                have hbp3 : 0 < ((T ++ ps.take (j + 1)).map pvS).length := by rw [List.length_map]; exact h1.2
                dsimp only
                rw [nO_pos hap3, nO_pos hbp3, hn2.out, ht.out]
                simp (disch := (first | omega | (simp only [push_cast]; first | done | omega))) only [push_cast, ↓reduceIte, Nat.reduceEqDiff, Nat.reduceBEq, Nat.reduceAdd, Nat.reduceSub, Int.reduceToNat, List.cons_append, List.nil_append, *]
            · have hn2 := hn.out
              rw [if_neg hj0] at hn2
              replace hn2 := Lib.hid hn2
              (refine wlk ?_; intros)
              refine ⟨(j + 1, y2 + 3, y2 + 5, y2 + 6), ⟨by dsimp only; omega, fun _ => by dsimp only; omega⟩, by dsimp only; omega, ?_, ?_, rfl⟩
              · have h1 := hnx.out
                have hap3 : 0 < ((A ++ wiK ps (j + 1)).map pvIt).length := by rw [List.length_map]; exact h1.1
                have hbp3 : 0 < ((T ++ ps.take (j + 1)).map pvS).length := by rw [List.length_map]; exact h1.2
                dsimp only
                rw [nP_pos hap3, nP_pos hbp3, hn2.out, ht.out]
                exact agr
              · have h1 := hnx.out
                have hap3 : 0 < ((A ++ wiK ps (j + 1)).map pvIt).length := by rw [List.length_map]; exact h1.1
                have hbp3 : 0 < ((T ++ ps.take (j + 1)).map pvS).length := by rw [List.length_map]; exact h1.2
                dsimp only
                rw [nO_pos hap3, nO_pos hbp3, hn2.out, ht.out]
                simp (disch := (first | omega | (simp only [push_cast]; first | done | omega))) only [push_cast, ↓reduceIte, Nat.reduceEqDiff, Nat.reduceBEq, Nat.reduceAdd, Nat.reduceSub, Int.reduceToNat, List.cons_append, List.nil_append, *]
          · have hn2 := hn.out
            rw [if_pos (show j = 0 by omega)] at hn2
            replace hn2 := Lib.hid hn2
            clear hx2
            (refine wlk ?_; intros)
            refine ⟨(j + 1, y2 + 1, y2 + 3, y2 + 4), ⟨by dsimp only; omega, fun _ => by dsimp only; omega⟩, by dsimp only; omega, ?_, ?_, rfl⟩
            · have h1 := hnx.out
              have hap3 : 0 < ((A ++ wiK ps (j + 1)).map pvIt).length := by rw [List.length_map]; exact h1.1
              have hbp3 : 0 < ((T ++ ps.take (j + 1)).map pvS).length := by rw [List.length_map]; exact h1.2
              dsimp only
              rw [nP_pos hap3, nP_pos hbp3, hn2.out, ht.out]
              exact agr
            · have h1 := hnx.out
              have hap3 : 0 < ((A ++ wiK ps (j + 1)).map pvIt).length := by rw [List.length_map]; exact h1.1
              have hbp3 : 0 < ((T ++ ps.take (j + 1)).map pvS).length := by rw [List.length_map]; exact h1.2
              dsimp only
              rw [nO_pos hap3, nO_pos hbp3, hn2.out, ht.out]
              simp (disch := (first | omega | (simp only [push_cast]; first | done | omega))) only [push_cast, ↓reduceIte, Nat.reduceEqDiff, Nat.reduceBEq, Nat.reduceAdd, Nat.reduceSub, Int.reduceToNat, List.cons_append, List.nil_append, *]
        · obtain rfl : j = ps.length := by omega
          rw [List.take_length] at *
          rw [← hKI.out, ← hKT.out] at *
          obtain ⟨hi2, ht2⟩ := hpos.out
          obtain ⟨x3, x4, x5⟩ := hx2 hi2
          have x6 : ¬ xt2 = x2 := fun q => x5 q.symm
          have hap : 0 < ((piK ws pats (k + 1)).map pvIt).length := by rw [List.length_map]; omega
          have hbp : 0 < ((txK ws pats (k + 1)).map pvS).length := by rw [List.length_map]; omega
          clear hx2 hwk hps
          simp only [nP_pos hap, nP_pos hbp, nO_pos hap, nO_pos hbp, List.length_map, List.cons_append, List.nil_append]
          (refine wlk ?_; intros)
          refine ⟨(k + 1, x2, xt2, y2), ⟨by dsimp only; omega, fun _ => ⟨x3, x4, x5⟩⟩, by dsimp only; omega, ?_, ?_, rfl⟩
          · simp (disch := (first | omega | (simp only [push_cast]; first | done | omega))) only [push_cast, ↓reduceIte, Nat.reduceEqDiff, Nat.reduceBEq, Nat.reduceAdd, Nat.reduceSub, Int.reduceToNat, nP_pos hap, nP_pos hbp, *]
          · simp (disch := (first | omega | (simp only [push_cast]; first | done | omega))) only [push_cast, ↓reduceIte, Nat.reduceEqDiff, Nat.reduceBEq, Nat.reduceAdd, Nat.reduceSub, Int.reduceToNat, nO_pos hap, nO_pos hbp, List.cons_append, List.nil_append, *]
    · obtain rfl : k = ws.length := by omega
      have hi0 := hip _ (Nat.le_refl _) (by omega)
      have ht0 := htp _ (Nat.le_refl _) (by omega)
      obtain ⟨x3, x4, x5⟩ := hxy (by omega)
      have x6 : ¬ xt = x := fun q => x5 q.symm
      have hlk := hil ws.length
      have hlt := htl ws.length
      generalize piK ws pats ws.length = P at *
      generalize txK ws pats ws.length = T at *
      have hap1 : 0 < (P.map pvIt).length := by rw [List.length_map]; omega
      have hbp1 : 0 < (T.map pvS).length := by rw [List.length_map]; omega
      simp only [nP_pos hap1, nP_pos hbp1, nO_pos hap1, nO_pos hbp1, List.length_map, List.cons_append, List.nil_append]
      clear hap hpp hpw hpl hil htl hip htp hxy
      by_cases h60 : P.length + 3 ≤ 60
      · rw [decide_eq_true (by simpa using h60)]
        (refine wlk ?_; intros)
        all_goals ((with_reducible apply i_endW (by first | exact .inl rfl | exact .inr rfl)); (simp (disch := (first | omega | (simp only [push_cast]; first | done | omega))) only [push_cast, ↓reduceIte, Nat.reduceEqDiff, Nat.reduceBEq, Nat.reduceAdd, Nat.reduceSub, Int.reduceToNat, *] <;> with_reducible exact rfl))
        all_goals (rw [show decide ((P.length : Int) + 1 + 1 + 1 ≤ 60) = true from decide_eq_true (by omega)]; exact PV.le_refl _)
      · rw [decide_eq_false (by simpa using h60)]
        (refine wlk ?_; intros)
        all_goals ((with_reducible apply i_endW (by first | exact .inl rfl | exact .inr rfl)); (simp (disch := (first | omega | (simp only [push_cast]; first | done | omega))) only [push_cast, ↓reduceIte, Nat.reduceEqDiff, Nat.reduceBEq, Nat.reduceAdd, Nat.reduceSub, Int.reduceToNat, *] <;> with_reducible exact rfl))
        all_goals (rw [show decide ((P.length : Int) + 1 + 1 + 1 ≤ 60) = false from decide_eq_false (by omega)]; exact PV.le_refl _)
end Go.Proofs.Ytngcedklbinhjaa
namespace Go.Proofs.Ytngcedklbinhjaa
open Go.RowKit
set_option linter.all false
noncomputable def ΨPgi : FunN := G4 dSs dSs dI dI fun ws pats wd most => if okSs ws ∧ okSs pats then some (.tup [nP 1 ((pglV ws pats wd most).map fun s => .val (.string s)) 0, bv (pglB ws pats wd most)], nC 9 1 ((pglV ws pats wd most).map fun s => .val (.string s))) else none
theorem renT_nP (es : List PV) (b : Bool) : renT id fuel (.tup [nP 1 es 0, bv b]) = some (.tup [nP 1 es 0, bv b]) := by cases es <;> rfl
theorem renC_nC {T : Nat} (l : LS) : (nC T 1 (l.map fun s => PV.val (.string s))).mapM (renCT id fuel) = some (nC T 1 (l.map fun s => PV.val (.string s))) := by
  cases l with
  | nil => rfl
  | cons s l =>
    show [(T, 1, (s :: l).map fun s => PV.val (.string s))].mapM (renCT id fuel) = _
    rw [mapM_cons', mapM_nil', renCT_vals]
    rfl
theorem bkF_pos {l : List It} {wd most lk : Int} {f a : Nat} (ha : a < l.length) (h : (bestA l wd most a lk).isSome = true) : 0 < (bkF l wd most (f + 1) a lk).length := by
  obtain ⟨r, hr⟩ := Option.isSome_iff_exists.1 h
  rw [bkF_step (by omega) hr]
  simp
theorem pmMap : Try.prog.underlying 68 = some (.map 3 9) := by kernel_rfl
theorem pmKeyed : Go.Maps.Keyed Try.prog 3 := Go.Maps.int_keyed Try.underlying3
theorem pmKey {n : Int} (h : okI n) : keyOf Try.prog 3 (.int .i64 n) = some (.int .i64 n) := Go.Maps.keyOf_int_mk Try.underlying3 (by
  show (decide (-9223372036854775808 ≤ n) && decide (n ≤ 9223372036854775807)) = true
  simp [h.1, h.2])
theorem szM_68 : tySize Try.prog 68 = some 1 := by kernel_rfl
theorem agM_68 : tyAgg Try.prog 68 = some false := by kernel_rfl
attribute [push_cast]
  szM_68 agM_68
noncomputable def GPgi : Ctx := { fn := fun f => if f = 39 then some φPiT else if f = 40 then some φBb else if f = 41 then some φLI2 else none, io := fun f => none }
theorem GPgi_ok : SoundΓ Try.prog GPgi := ⟨(fun f φ h => by
  unfold GPgi at h
  dsimp only at h
  split at h
  · rename_i hf; cases h; subst hf; exact ⟨⟨_, Try.func39, rfl, rfl⟩, implPiT_ok⟩
  split at h
  · rename_i hf; cases h; subst hf; exact ⟨⟨_, Try.func40, rfl, rfl⟩, implBk_ok⟩
  split at h
  · rename_i hf; cases h; subst hf; exact ⟨⟨_, Try.func41, rfl, rfl⟩, implLI2_ok⟩
  cases h), (fun f φ h => by
  unfold GPgi at h
  dsimp only at h
  cases h), rfl⟩
theorem GPgi_39 (ob : Objs) (ps : List PV) : evCall GPgi ob 39 ps = (ps.mapM (reify false 0 ob fuel)).bind φPiT := by
  have h : GPgi.fn 39 = some φPiT := by simp [GPgi]
  unfold evCall
  rw [h]
  cases ps.mapM (reify false 0 ob fuel) <;> rfl
theorem GPgi_40 (ob : Objs) (ps : List PV) : evCall GPgi ob 40 ps = (ps.mapM (reify false 0 ob fuel)).bind φBb := by
  have h : GPgi.fn 40 = some φBb := by simp [GPgi]
  unfold evCall
  rw [h]
  cases ps.mapM (reify false 0 ob fuel) <;> rfl
theorem GPgi_41 (ob : Objs) (ps : List PV) : evCall GPgi ob 41 ps = (ps.mapM (reify false 0 ob fuel)).bind φLI2 := by
  have h : GPgi.fn 41 = some φLI2 := by simp [GPgi]
  unfold evCall
  rw [h]
  cases ps.mapM (reify false 0 ob fuel) <;> rfl
set_option maxHeartbeats 32000000 in
set_option maxRecDepth 100000 in
theorem implPgiN : SoundN Try.prog 15 ΨPgi := by
  refine HY.soundN (k := 3) (N := 113) (rs := [.tmp 8, .tmp 9]) Try.func15 rfl rfl rfl (fun ps r cs' hr => ?_) (fun ps r cs' hr => ?_)
  · obtain ⟨ws, pats, wd, most, rfl, hq⟩ := G4_some hr
    clear hr
    split at hq
    case isFalse => cases hq
    case isTrue hpre =>
    cases hq
    refine ⟨?_, renT_nP _ _, renC_nC _⟩
    simp only [dIs, dUs, dSs, dI_e, dU_e, dB_e, dS_e, dFn_e, dL_e, dA2_e, dA3_e, dA4_e, dA5_e]
    (simp (disch := (first | omega | (simp only [push_cast]; first | done | omega))) only [push_cast, ↓reduceIte, Nat.reduceEqDiff, Nat.reduceBEq, Nat.reduceAdd, Nat.reduceSub, Int.reduceToNat, *] <;> with_reducible exact rfl)
  obtain ⟨ws, pats, wd, most, rfl, hq⟩ := G4_some hr
  clear hr
  split at hq
  case isFalse => cases hq
  case isTrue hpre =>
  cases hq
  refine ⟨by simp, fun B w00 => HY.start ?_⟩
  simp only [dIs, dUs, dSs, dI_e, dU_e, dB_e, dS_e, dFn_e, dL_e, dA2_e, dA3_e, dA4_e, dA5_e]
  have api := φPiT_ap hpre
  unfold pglV pglB
  cases hp : prgB ws pats with
  | false =>
    rw [hp] at api
    simp only [Bool.false_and]
    rw [if_neg (by decide)]
    generalize (if prgA ws pats = true then piR ws pats else []) = l at *
    generalize (if prgA ws pats = true then txR ws pats else []) = tx at *
    clear hp
    have gpgi_c39 := GPgi_39; have gpgi_c40 := GPgi_40; have gpgi_c41 := GPgi_41
    refine HY.seq (HY.eng mixed GPgi_ok (by kernel_rfl) ?_)
    (try dsimp only)
    (refine wlk ?_; intros)
    refine HY.seq (HY.eng mixed GPgi_ok (by kernel_rfl) ?_)
    (try dsimp only)
    (refine wlk ?_; intros)
    refine HY.seq (HY.eng mixed GPgi_ok (by kernel_rfl) ?_)
    (try dsimp only)
    (refine wlk ?_; intros)
    refine ⟨?_, fun b L e => by cases e⟩
    rw [List.map_nil, nP_nil, nC_nil]
    ((with_reducible apply i_endN0 (by first | exact .inl rfl | exact .inr rfl)); (simp (disch := (first | omega | (simp only [push_cast]; first | done | omega))) only [push_cast, ↓reduceIte, Nat.reduceEqDiff, Nat.reduceBEq, Nat.reduceAdd, Nat.reduceSub, Int.reduceToNat, *] <;> with_reducible exact rfl))
  | true =>
  have hB := piV_ok hp
  have hV : piV ws pats = piR ws pats := if_pos hp
  have hA : prgA ws pats = true := by
    obtain ⟨h1, h2, h3, -⟩ := prgB_iff.1 hp
    unfold prgA
    rw [h1, h2, decide_eq_true h3]
    rfl
  rw [hp, hA, if_pos rfl, if_pos rfl] at api
  simp only [Bool.true_and]
  rw [hV] at hB
  have hl := items_len hB
  have apb := φBb_ap (l := piR ws pats) (wd := wd) (most := most) (show (piR ws pats).length ≤ 1000 by omega)
  have hnb := nb_pr ws pats
  rw [hV]
  have htz : ∀ k : Nat, ((txR ws pats)[k]?.getD ByteArray.empty).size ≤ 20 := tx_size
  have htp : ∀ k : Nat, k < nb (piR ws pats) → 1 ≤ ((txR ws pats)[k]?.getD ByteArray.empty).size := fun k hk => tx_pos (by rw [← hnb]; exact hk)
  have htl : (txR ws pats).length ≤ 60 := by
    rw [← hnb]
    exact Nat.le_trans (List.length_filter_le _ _) hl
  have hob : brkOk (piR ws pats) wd most = true → okBr (piR ws pats) (brkList (piR ws pats) wd most) := fun h => brk_ok hB (brkOk_iff.1 h).2.2.2.1.2
  have hrr : brkOk (piR ws pats) wd most = true → brkR (piR ws pats) wd most = brkList (piR ws pats) wd most := fun h => if_pos h
  have hbp : brkOk (piR ws pats) wd most = true → 0 < (brkList (piR ws pats) wd most).length := fun h => bkF_pos (brkOk_iff.1 h).2.1 (brkOk_iff.1 h).2.2.2.2
  clear hp hA hV hpre
  generalize piR ws pats = l at *
  generalize txR ws pats = tx at *
  cases hb : brkOk l wd most with
  | false =>
    rw [hb] at apb
    rw [if_neg (by decide)]
    clear hob hrr hnb htz htp hb hbp
    generalize brkR l wd most = br at *
    have gpgi_c39 := GPgi_39; have gpgi_c40 := GPgi_40; have gpgi_c41 := GPgi_41
    refine HY.seq (HY.eng mixed GPgi_ok (by kernel_rfl) ?_)
    (try dsimp only)
    (refine wlk ?_; intros)
    refine HY.seq (HY.eng mixed GPgi_ok (by kernel_rfl) ?_)
    (try dsimp only)
    (refine wlk ?_; intros)
    refine HY.seq (HY.eng mixed GPgi_ok (by kernel_rfl) ?_)
    (try dsimp only)
    (refine wlk ?_; intros)
    refine HY.seq (HY.eng mixed GPgi_ok (by kernel_rfl) ?_)
    (try dsimp only)
    (refine wlk ?_; intros)
    refine HY.seq (HY.eng mixed GPgi_ok (by kernel_rfl) ?_)
    (try dsimp only)
    (refine wlk ?_; intros)
    refine ⟨?_, fun b L e => by cases e⟩
    rw [List.map_nil, nP_nil, nC_nil]
    ((with_reducible apply i_endN0 (by first | exact .inl rfl | exact .inr rfl)); (simp (disch := (first | omega | (simp only [push_cast]; first | done | omega))) only [push_cast, ↓reduceIte, Nat.reduceEqDiff, Nat.reduceBEq, Nat.reduceAdd, Nat.reduceSub, Int.reduceToNat, *] <;> with_reducible exact rfl))
  | true =>
    have hbr := hob hb
    have hbp0 := hbp hb
    rw [hb, hrr hb] at apb
    rw [if_pos rfl]
    clear hob hrr hb hbp
    generalize brkList l wd most = br at *
    have gpgi_c39 := GPgi_39; have gpgi_c40 := GPgi_40; have gpgi_c41 := GPgi_41
    refine HY.seq (HY.eng mixed GPgi_ok (by kernel_rfl) ?_)
    (try dsimp only)
    (refine wlk ?_; intros)
    refine HY.seq (HY.eng mixed GPgi_ok (by kernel_rfl) ?_)
    (try dsimp only)
    (refine wlk ?_; intros)
    refine HY.seq (HY.eng mixed GPgi_ok (by kernel_rfl) ?_)
    (try dsimp only)
    (refine wlk ?_; intros)
    refine HY.seq (HY.eng mixed GPgi_ok (by kernel_rfl) ?_)
    (try dsimp only)
    (refine wlk ?_; intros)
    refine HY.seq (HY.eng mixed GPgi_ok (by kernel_rfl) ?_)
    (try dsimp only)
    (refine wlk ?_; intros)
    refine HY.seq (HY.each (HO.make rfl rfl (by decide) rfl fun b hbB => ?_))
    dsimp only [AS.put]
    refine HO.pre (imm := ⟨[], [], []⟩) 1 GPgi_ok (by kernel_rfl) (by simp only [List.take_succ_cons, List.take_zero] <;> exact rfl) (by simp only [List.drop_succ_cons, List.drop_zero] <;> exact rfl) (by simp only [List.map_cons, List.map_nil] <;> exact rfl) ?_
    (try dsimp only)
    (refine wlk ?_; intros)
    refine HO.nil ?_
    refine HY.seq (HY.seq (HY.eng mixed GPgi_ok (by kernel_rfl) ?_))
    (try dsimp only)
    (refine wlk ?_; intros)
    (try dsimp only)
    have hll : ((l.map pvIt).length : Int) = (l.length : Int) := by simp
    refine HY.block (HY.loopA (α := Nat × Nat) (fun i => [(10, .lst true 7 (l.map pvIt)), (11, .lst true 1 (tx.map pvS)), (13, .lst true 1 (br.map pvN)), (14, .val (.map (some b))), (43, .lst true 7 (l.map pvIt)), (44, iv l.length), (45, iv i.1)])
      (fun i => []) (fun i => i.2) (fun i σ => i.1 ≤ l.length ∧ σ = some (b, bxL l tx i.1)) (fun i => l.length - i.1) (0, 0) ⟨Nat.zero_le _, rfl⟩ ?_ ?_ rfl ?_)
    · (try dsimp only)
      exact agi
    · (try dsimp only)
      exact agr
    rintro ⟨k, y⟩ σ ⟨hk, rfl⟩
    dsimp only at hk ⊢
    refine HY.seq (HY.eng mixed GPgi_ok (by kernel_rfl) ?_)
    by_cases hkl : k < l.length
    · have hn1 := nbX_le l k
      have hbl := bxL_len (tx := tx) hk
      have hnew := bxL_new (l := l) (tx := tx) (k := k)
      have hyes := fun h => bxL_yes (l := l) (tx := tx) (k := k) h
      have hno := fun h => bxL_no (l := l) (tx := tx) (k := k) h
      have hlt := fun h => nbX_lt (l := l) (n := k) hkl h
      rw [hnb] at hlt hn1
      replace hnew := Lib.hid hnew
      replace hyes := Lib.hid hyes
      replace hno := Lib.hid hno
      replace hlt := Lib.hid hlt
      replace hbl := Lib.hid hbl
      clear hnb htz htp hbr
      (refine wlk ?_; intros)
      refine HY.seq (HY.eng mixed GPgi_ok (by kernel_rfl) ?_)
      (try dsimp only)
      (refine wlk ?_; intros)
      (try dsimp only)
      refine HY.seq (HY.block (HY.seq (HY.eng mixed GPgi_ok (by kernel_rfl) ?_)))
      (try dsimp only)
      (refine wlk ?_; intros)
      refine HY.seq (HY.eng mixed GPgi_ok (by kernel_rfl) ?_)
      (try dsimp only)
      (refine wlk ?_; intros)
      refine HY.cond (b := decide ((l[k]?.getD it0).1 = 1)) (by (simp (disch := (first | omega | (simp only [push_cast]; first | done | omega))) only [push_cast, ↓reduceIte, Nat.reduceEqDiff, Nat.reduceBEq, Nat.reduceAdd, Nat.reduceSub, Int.reduceToNat, *] <;> with_reducible exact rfl)) (fun hc => ?_) (fun hc => ?_)
      · have hc1 : (l[k]?.getD it0).1 = 1 := of_decide_eq_true hc
        have h9 := hlt.out hc1
        have hy9 := hyes.out hc1
        replace hy9 := Lib.hid hy9
        have hb9 := hbl.out
        clear hc hyes hno hlt hbl
        generalize hnn : nbX l k = nn at *
        replace hnn := Lib.hid hnn
        generalize hLL : bxL l tx k = LL at *
        replace hLL := Lib.hid hLL
        replace hb9 := Lib.hid hb9
        refine HY.each (HO.pre (imm := ⟨[], [], []⟩) 4 GPgi_ok (by kernel_rfl) (by simp only [List.take_succ_cons, List.take_zero] <;> exact rfl) (by simp only [List.drop_succ_cons, List.drop_zero] <;> exact rfl) (by simp only [List.map_cons, List.map_nil] <;> exact rfl) ?_)
        (try dsimp only)
        (refine wlk ?_; intros)
        refine HO.lenM pmMap rfl rfl rfl (by decide) (by (simp (disch := (first | omega | (simp only [push_cast]; first | done | omega))) only [push_cast, ↓reduceIte, Nat.reduceEqDiff, Nat.reduceBEq, Nat.reduceAdd, Nat.reduceSub, Int.reduceToNat, *] <;> with_reducible exact rfl)) ?_
        dsimp only [AS.put]
        rw [hb9.out]
        refine HO.pre (imm := ⟨[], [], []⟩) 2 GPgi_ok (by kernel_rfl) (by simp only [List.take_succ_cons, List.take_zero] <;> exact rfl) (by simp only [List.drop_succ_cons, List.drop_zero] <;> exact rfl) (by simp only [List.map_cons, List.map_nil] <;> exact rfl) ?_
        (try dsimp only)
        (refine wlk ?_; intros)
        refine HO.upd pmKeyed pmMap rfl rfl rfl (by (try dsimp only); (simp (disch := (first | omega | (simp only [push_cast]; first | done | omega))) only [push_cast, ↓reduceIte, Nat.reduceEqDiff, Nat.reduceBEq, Nat.reduceAdd, Nat.reduceSub, Int.reduceToNat, *] <;> with_reducible exact rfl)) (key := .int .i64 k) (val := .string (tx[nn]?.getD .empty)) (congrArg toVal (show _ = PV.val (.int .i64 k) by (try dsimp only); (simp (disch := (first | omega | (simp only [push_cast]; first | done | omega))) only [push_cast, ↓reduceIte, Nat.reduceEqDiff, Nat.reduceBEq, Nat.reduceAdd, Nat.reduceSub, Int.reduceToNat, *] <;> with_reducible exact rfl))) (congrArg toVal (show _ = PV.val (.string (tx[nn]?.getD .empty)) by (try dsimp only); (simp (disch := (first | omega | (simp only [push_cast]; first | done | omega))) only [push_cast, ↓reduceIte, Nat.reduceEqDiff, Nat.reduceBEq, Nat.reduceAdd, Nat.reduceSub, Int.reduceToNat, *] <;> with_reducible exact rfl))) (pmKey (by omega)) fun L' hu => ?_
        have hL' : L' = bxL l tx (k + 1) := by
          rw [hy9.out]
          cases hu with
          | new _ => rfl
          | old h => exact absurd rfl (hnew.out (_, _) (by rw [h]; exact List.mem_append.2 (.inr List.mem_cons_self)))
        refine HO.nil ?_
        refine HY.eng mixed GPgi_ok (by kernel_rfl) ?_
        (try dsimp only)
        (refine wlk ?_; intros)
        (try dsimp only)
        refine ⟨(k + 1, y + 1), ⟨by dsimp only; omega, congrArg some (Prod.ext rfl hL')⟩, by dsimp only; omega, ?_, ?_, rfl⟩
        · (try dsimp only)
          exact agi
        · (try dsimp only)
          exact agr
      · have hc1 : ¬ (l[k]?.getD it0).1 = 1 := of_decide_eq_false hc
        have hn9 := hno.out hc1
        clear hc hyes hno hlt hbl hnew
        refine HY.skip ?_
        refine HY.eng mixed GPgi_ok (by kernel_rfl) ?_
        (try dsimp only)
        (refine wlk ?_; intros)
        (try dsimp only)
        refine ⟨(k + 1, y + 1), ⟨by dsimp only; omega, congrArg some (Prod.ext rfl hn9.symm)⟩, by dsimp only; omega, ?_, ?_, rfl⟩
        · (try dsimp only)
          exact agi
        · (try dsimp only)
          exact agr
    · obtain rfl : k = l.length := by omega
      have hlook : ∀ n : Nat, n < l.length → (l[n]?.getD it0).1 = 1 → lkP (GPgi.see ⟨68, b, ansL (bxL l tx l.length)⟩).mp 68 (.val (.map (some b))) (some (.int .i64 (n : Int))) false = some (.val (.string (tx[nbX l n]?.getD .empty))) := fun n h1 h2 => by
        have := ansL_yes (bxL_nodup (l := l) (tx := tx) l.length) (bxL_mem (tx := tx) h1 h2)
        simpa [Ctx.see, lkP] using this
      have hcall : ∀ (ob : Objs) (ps : List PV), evCall (GPgi.see ⟨68, b, ansL (bxL l tx l.length)⟩) ob 41 ps = (ps.mapM (reify false 0 ob fuel)).bind φLI2 := GPgi_41
      (refine wlk ?_; intros)
      refine HY.seq (HY.eng mixed GPgi_ok (by kernel_rfl) ?_)
      (try dsimp only)
      (refine wlk ?_; intros)
      (try dsimp only)
      refine HY.see (M := ⟨68, b, ansL (bxL l tx l.length)⟩) mixed GPgi_ok rfl (fun key c p hp w1 g1 hM1 => ?_) (by kernel_rfl) ?_
      · obtain ⟨rfl, v, hv, rfl⟩ := ansL_some hp
        obtain ⟨n, hn, hkey⟩ := bxL_key hv
        dsimp only at hkey
        subst hkey
        exact ⟨v, hM1.look_yes pmKeyed pmMap false (pmKey (by omega)) hv, by simp [Rep]⟩
      generalize ansL (bxL l tx l.length) = A9 at *
      clear api apb
      have htz2 := htz
      have hlnk := lnsK_len l tx br
      have hbat := fun k hk => hbr.at_ (k := k) hk
      have hbq := fun k hk => (hbr.2 k hk).2
      have hbl := hbr.1
      clear hbr
      (try dsimp only)
      (refine wlk ?_; intros)
      refine i_loop (α := Nat × Nat × Nat) mixed (fun z => [(10, .lst true 7 (l.map pvIt)), (11, .lst true 1 (tx.map pvS)), (13, .lst true 1 (br.map pvN)), (14, .val (.map (some b))), (17, nP 1 ((lnsK l tx br z.1).map pvS) z.2.1), (18, iv ((frB br z.1 : Int) - 1)), (61, .lst true 1 (br.map pvN)), (62, iv br.length), (63, iv z.1)])
        (fun z => nO 9 1 ((lnsK l tx br z.1).map pvS) z.2.1) (fun z => z.2.2) (fun z => z.1 ≤ br.length ∧ (0 < z.1 → z.2.1 < z.2.2)) (fun z => br.length - z.1) (by kernel_rfl) (0, 0, y) ⟨Nat.zero_le _, fun h => absurd h (Nat.lt_irrefl 0)⟩ ?_ ?_ rfl ?_
      · have hf0 : frB br 0 = 0 := rfl
        dsimp only
        rw [hf0, show lnsK l tx br 0 = [] from rfl, List.map_nil, nP_nil]
        exact agi
      · dsimp only
        rw [show lnsK l tx br 0 = [] from rfl, List.map_nil, nO_nil]
        exact agr
      rintro ⟨k, x, y⟩ ⟨hk, hxy⟩
      dsimp only at hk hxy ⊢
      have hlk0 := hlnk k
      by_cases hkb : k < br.length
      · by_cases hk0 : k = 0
        · skip
          subst hk0
          rw [show lnsK l tx br 0 = [] from rfl, List.map_nil, nP_nil, nO_nil]
          obtain ⟨b1, b2, b3, b4⟩ := hbat 0 hkb
          have hq := hbq 0 hkb
          have hn0 : lnsK l tx br (0 + 1) = lnsK l tx br 0 ++ [lnR l tx (frB br 0) (br[0]?.getD 0).toNat] := rfl
          have hfs := frB_succ br 0
          have hlk9 : (lnsK l tx br 0).length = 0 := rfl
          rw [show lnsK l tx br 0 = [] from rfl, List.nil_append] at hn0
          generalize frB br 0 = a at *
          obtain ⟨en, hen⟩ : ∃ en : Nat, br[0]?.getD 0 = (en : Int) := ⟨(br[0]?.getD 0).toNat, by omega⟩
          rw [hen, Int.toNat_natCast] at hn0 hfs b2 b3 b4 hq
          rw [hen] at b1
          have hline := li_line (tx := tx) hB hq htp
          have hmk : lnR l tx a en = if (l[en]?.getD it0).2.2.2.2.2.2 = true then lnT l tx a (en - a) ++ ⟨#[45]⟩ else lnT l tx a (en - a) := rfl
          rw [← hline] at hmk
          have api := φLI2_ap (l := l) (a := a) (en := en) hB b2 b3
          rw [hq, if_pos rfl] at api
          have hil := idxL_len l (startN l a) en
          have him := fun x hx => idxL_mem (l := l) (b := startN l a) (c := en) x hx
          generalize hI : idxL l (startN l a) en = is at *
          have hit := fun j hj => liF_take (l := l) (tx := tx) (is := is) (j := j) hj
          have his := fun j hj => liF_size (l := l) (tx := tx) htz is j hj
          have hfull : is.take is.length = is := List.take_of_length_le (Nat.le_refl _)
          replace hit := Lib.hid hit
          replace him := Lib.hid him
          replace hmk := Lib.hid hmk
          replace hn0 := Lib.hid hn0
          replace hfull := Lib.hid hfull
          replace hlook := Lib.hid hlook
          have HFS := Lib.hid hfs
          have hfe := Lib.hid (show (frB br (0 + 1) : Int) - 1 = (en : Int) by rw [hfs]; omega)
          clear hline hq hI hlnk hbat hbq hnb htp hfs
          have h45 : (⟨#[45]⟩ : ByteArray).size = 1 := rfl
          have h32 : (⟨#[32]⟩ : ByteArray).size = 1 := rfl
          have hill : ((is.map pvN).length : Int) = (is.length : Int) := by simp
          (refine wlk ?_; intros)
          refine i_loop (α := Nat) mixed (fun j => [(10, .lst true 7 (l.map pvIt)), (11, .lst true 1 (tx.map pvS)), (13, .lst true 1 (br.map pvN)), (14, .val (.map (some b))), (17, .val (.slice none 0 0)), (18, iv ((a : Int) - 1)), (20, iv en), (21, .val (.string (liF l tx (is.take j)))), (61, .lst true 1 (br.map pvN)), (62, iv br.length), (63, iv (0 : Nat)), (70, .lst true 1 (is.map pvN)), (71, iv is.length), (72, iv j)])
            (fun _ => []) (fun _ => y) (fun j => j ≤ is.length) (fun j => is.length - j) (by kernel_rfl) 0 (Nat.zero_le _) ?_ ?_ rfl ?_
          · have hl0 : liF l tx (is.take 0) = ⟨#[]⟩ := rfl
            (try dsimp only)
            rw [hl0]
            exact agi
          · (try dsimp only)
            exact agr
          intro j hj
          have hsz := his j hj
          by_cases hjl : j < is.length
          · have hxm := him.out (is[j]?.getD 0) (by rw [List.getElem?_eq_getElem hjl]; exact List.getElem_mem hjl)
            have ht := hit.out j hjl
            obtain ⟨n, hnn⟩ : ∃ n : Nat, is[j]?.getD 0 = n := ⟨(is[j]?.getD 0).toNat, by omega⟩
            rw [hnn, Int.toNat_natCast] at hxm
            rw [hnn, Int.toNat_natCast] at ht
            obtain ⟨hn1, hn2, hn3⟩ := hxm
            have hnl : n < l.length := by omega
            have hk3 : ¬ (l[n]?.getD it0).1 = 3 := hn3
            have hS : liStep l tx (liF l tx (is.take j)) n = if (l[n]?.getD it0).1 = 1 then liF l tx (is.take j) ++ (tx[nbX l n]?.getD .empty) else if 0 < (l[n]?.getD it0).2.1 then liF l tx (is.take j) ++ ⟨#[32]⟩ else liF l tx (is.take j) := rfl
            rw [hS] at ht
            have hlk9 := hlook.out n hnl
            have hz9 := htz2 (nbX l n)
            clear hS hn3 his
            generalize hs2 : liF l tx (is.take (j + 1)) = s2 at *
            replace hs2 := Lib.hid hs2
            generalize liF l tx (is.take j) = s at *
            generalize nbX l n = nn at *
            generalize tx[nn]?.getD ByteArray.empty = tn at *
            generalize hyy : l[n]?.getD it0 = yy at *
            obtain ⟨y1, y2', y3, y4, y5, y6, y7⟩ := yy
            dsimp only at ht hk3 hlk9
            by_cases k1 : y1 = 1
            · rw [if_pos k1] at ht
              have hf := Lib.hid ht
              have hlk8 := hlk9 k1
              clear ht hlk9
              subst k1
              (refine wlk ?_; intros)
              refine ⟨j + 1, by dsimp only; omega, by dsimp only; omega, ?_, ?_, rfl⟩
              · dsimp only
                rw [hs2.out, hf.out]
                exact agi
              · dsimp only
                exact agr
            · rw [if_neg k1] at ht
              by_cases k2 : 0 < y2'
              · rw [if_pos k2] at ht
                have hf := Lib.hid ht
                clear ht hlk9
                (refine wlk ?_; intros)
                refine ⟨j + 1, by dsimp only; omega, by dsimp only; omega, ?_, ?_, rfl⟩
                · dsimp only
                  rw [hs2.out, hf.out]
                  exact agi
                · dsimp only
                  exact agr
              · rw [if_neg k2] at ht
                have hf := Lib.hid ht
                clear ht hlk9
                (refine wlk ?_; intros)
                refine ⟨j + 1, by dsimp only; omega, by dsimp only; omega, ?_, ?_, rfl⟩
                · dsimp only
                  rw [hs2.out, hf.out]
                  exact agi
                · dsimp only
                  exact agr
          · obtain rfl : j = is.length := by omega
            rw [hfull.out] at *
            generalize hSS : liF l tx is = s at *
            clear his hSS
            generalize hyy : l[en]?.getD it0 = yy at *
            obtain ⟨y1, y2', y3, y4, y5, y6, y7⟩ := yy
            have hmk2 := hmk.out
            clear hmk
            dsimp only at hmk2
            cases y7 with
            | true =>
              rw [if_pos rfl] at hmk2
              have hn := hn0.out
              rw [hmk2] at hn
              replace hn := Lib.hid hn
              clear hmk2 hn0
              (refine wlk ?_; intros)
              refine ⟨(0 + 1, y + 1, y + 2), ⟨by dsimp only; omega, fun _ => by dsimp only; omega⟩, by dsimp only; omega, ?_, ?_, rfl⟩
              · dsimp only
                rw [hn.out, hfe.out, nP_pos (by simp)]
                exact agi
              · dsimp only
                rw [hn.out, nO_pos (by simp)]
                exact agr
            | false =>
              rw [if_neg (by decide)] at hmk2
              have hn := hn0.out
              rw [hmk2] at hn
              replace hn := Lib.hid hn
              clear hmk2 hn0
              (refine wlk ?_; intros)
              refine ⟨(0 + 1, y + 1, y + 2), ⟨by dsimp only; omega, fun _ => by dsimp only; omega⟩, by dsimp only; omega, ?_, ?_, rfl⟩
              · dsimp only
                rw [hn.out, hfe.out, nP_pos (by simp)]
                exact agi
              · dsimp only
                rw [hn.out, nO_pos (by simp)]
                exact agr
        · skip
          have hnp : 0 < ((lnsK l tx br k).map pvS).length := by rw [List.length_map]; omega
          have hxy2 := hxy (by omega)
          rw [nP_pos hnp, nO_pos hnp, List.length_map, hlk0]
          have hxne : ¬ x = y := by omega
          have hyne : ¬ y = x := by omega
          obtain ⟨b1, b2, b3, b4⟩ := hbat k hkb
          have hq := hbq k hkb
          have hn0 : lnsK l tx br (k + 1) = lnsK l tx br k ++ [lnR l tx (frB br k) (br[k]?.getD 0).toNat] := rfl
          have hfs := frB_succ br k
          generalize lnsK l tx br k = out at *
          generalize frB br k = a at *
          obtain ⟨en, hen⟩ : ∃ en : Nat, br[k]?.getD 0 = (en : Int) := ⟨(br[k]?.getD 0).toNat, by omega⟩
          rw [hen, Int.toNat_natCast] at hn0 hfs b2 b3 b4 hq
          rw [hen] at b1
          have hline := li_line (tx := tx) hB hq htp
          have hmk : lnR l tx a en = if (l[en]?.getD it0).2.2.2.2.2.2 = true then lnT l tx a (en - a) ++ ⟨#[45]⟩ else lnT l tx a (en - a) := rfl
          rw [← hline] at hmk
          have api := φLI2_ap (l := l) (a := a) (en := en) hB b2 b3
          rw [hq, if_pos rfl] at api
          have hil := idxL_len l (startN l a) en
          have him := fun x hx => idxL_mem (l := l) (b := startN l a) (c := en) x hx
          generalize hI : idxL l (startN l a) en = is at *
          have hit := fun j hj => liF_take (l := l) (tx := tx) (is := is) (j := j) hj
          have his := fun j hj => liF_size (l := l) (tx := tx) htz is j hj
          have hfull : is.take is.length = is := List.take_of_length_le (Nat.le_refl _)
          replace hit := Lib.hid hit
          replace him := Lib.hid him
          replace hmk := Lib.hid hmk
          replace hn0 := Lib.hid hn0
          replace hfull := Lib.hid hfull
          replace hlook := Lib.hid hlook
          have HFS := Lib.hid hfs
          have hfe := Lib.hid (show (frB br (k + 1) : Int) - 1 = (en : Int) by rw [hfs]; omega)
          clear hline hq hI hlnk hbat hbq hnb htp hfs
          have h45 : (⟨#[45]⟩ : ByteArray).size = 1 := rfl
          have h32 : (⟨#[32]⟩ : ByteArray).size = 1 := rfl
          have hill : ((is.map pvN).length : Int) = (is.length : Int) := by simp
          (refine wlk ?_; intros)
          refine i_loop (α := Nat) mixed (fun j => [(10, .lst true 7 (l.map pvIt)), (11, .lst true 1 (tx.map pvS)), (13, .lst true 1 (br.map pvN)), (14, .val (.map (some b))), (17, .row x 1 0 k), (18, iv ((a : Int) - 1)), (20, iv en), (21, .val (.string (liF l tx (is.take j)))), (61, .lst true 1 (br.map pvN)), (62, iv br.length), (63, iv (k : Nat)), (70, .lst true 1 (is.map pvN)), (71, iv is.length), (72, iv j)])
            (fun _ => [(x, 9, 1, out.map pvS)]) (fun _ => y) (fun j => j ≤ is.length) (fun j => is.length - j) (by kernel_rfl) 0 (Nat.zero_le _) ?_ ?_ rfl ?_
          · have hl0 : liF l tx (is.take 0) = ⟨#[]⟩ := rfl
            (try dsimp only)
            rw [hl0]
            exact agi
          · (try dsimp only)
            exact agr
          intro j hj
          have hsz := his j hj
          by_cases hjl : j < is.length
          · have hxm := him.out (is[j]?.getD 0) (by rw [List.getElem?_eq_getElem hjl]; exact List.getElem_mem hjl)
            have ht := hit.out j hjl
            obtain ⟨n, hnn⟩ : ∃ n : Nat, is[j]?.getD 0 = n := ⟨(is[j]?.getD 0).toNat, by omega⟩
            rw [hnn, Int.toNat_natCast] at hxm
            rw [hnn, Int.toNat_natCast] at ht
            obtain ⟨hn1, hn2, hn3⟩ := hxm
            have hnl : n < l.length := by omega
            have hk3 : ¬ (l[n]?.getD it0).1 = 3 := hn3
            have hS : liStep l tx (liF l tx (is.take j)) n = if (l[n]?.getD it0).1 = 1 then liF l tx (is.take j) ++ (tx[nbX l n]?.getD .empty) else if 0 < (l[n]?.getD it0).2.1 then liF l tx (is.take j) ++ ⟨#[32]⟩ else liF l tx (is.take j) := rfl
            rw [hS] at ht
            have hlk9 := hlook.out n hnl
            have hz9 := htz2 (nbX l n)
            clear hS hn3 his
            generalize hs2 : liF l tx (is.take (j + 1)) = s2 at *
            replace hs2 := Lib.hid hs2
            generalize liF l tx (is.take j) = s at *
            generalize nbX l n = nn at *
            generalize tx[nn]?.getD ByteArray.empty = tn at *
            generalize hyy : l[n]?.getD it0 = yy at *
            obtain ⟨y1, y2', y3, y4, y5, y6, y7⟩ := yy
            dsimp only at ht hk3 hlk9
            by_cases k1 : y1 = 1
            · rw [if_pos k1] at ht
              have hf := Lib.hid ht
              have hlk8 := hlk9 k1
              clear ht hlk9
              subst k1
              (refine wlk ?_; intros)
              refine ⟨j + 1, by dsimp only; omega, by dsimp only; omega, ?_, ?_, rfl⟩
              · dsimp only
                rw [hs2.out, hf.out]
                exact agi
              · dsimp only
                exact agr
            · rw [if_neg k1] at ht
              by_cases k2 : 0 < y2'
              · rw [if_pos k2] at ht
                have hf := Lib.hid ht
                clear ht hlk9
                (refine wlk ?_; intros)
                refine ⟨j + 1, by dsimp only; omega, by dsimp only; omega, ?_, ?_, rfl⟩
                · dsimp only
                  rw [hs2.out, hf.out]
                  exact agi
                · dsimp only
                  exact agr
              · rw [if_neg k2] at ht
                have hf := Lib.hid ht
                clear ht hlk9
                (refine wlk ?_; intros)
                refine ⟨j + 1, by dsimp only; omega, by dsimp only; omega, ?_, ?_, rfl⟩
                · dsimp only
                  rw [hs2.out, hf.out]
                  exact agi
                · dsimp only
                  exact agr
          · obtain rfl : j = is.length := by omega
            rw [hfull.out] at *
            generalize hSS : liF l tx is = s at *
            clear his hSS
            generalize hyy : l[en]?.getD it0 = yy at *
            obtain ⟨y1, y2', y3, y4, y5, y6, y7⟩ := yy
            have hmk2 := hmk.out
            clear hmk
            dsimp only at hmk2
            cases y7 with
            | true =>
              rw [if_pos rfl] at hmk2
              have hn := hn0.out
              rw [hmk2] at hn
              replace hn := Lib.hid hn
              clear hmk2 hn0
              (refine wlk ?_; intros)
              refine ⟨(k + 1, y + 1, y + 2), ⟨by dsimp only; omega, fun _ => by dsimp only; omega⟩, by dsimp only; omega, ?_, ?_, rfl⟩
              · dsimp only
                rw [hn.out, hfe.out, nP_pos (by simp)]
                exact agi
              · dsimp only
                rw [hn.out, nO_pos (by simp)]
                exact agr
            | false =>
              rw [if_neg (by decide)] at hmk2
              have hn := hn0.out
              rw [hmk2] at hn
              replace hn := Lib.hid hn
              clear hmk2 hn0
              (refine wlk ?_; intros)
              refine ⟨(k + 1, y + 1, y + 2), ⟨by dsimp only; omega, fun _ => by dsimp only; omega⟩, by dsimp only; omega, ?_, ?_, rfl⟩
              · dsimp only
                rw [hn.out, hfe.out, nP_pos (by simp)]
                exact agi
              · dsimp only
                rw [hn.out, nO_pos (by simp)]
                exact agr
      · obtain rfl : k = br.length := by omega
        have hnp : 0 < ((lnsK l tx br br.length).map pvS).length := by rw [List.length_map]; omega
        have hxy2 := hxy (by omega)
        rw [nP_pos hnp, nO_pos hnp, nP_pos hnp, nC_pos hnp]
        generalize lnsK l tx br br.length = out at *
        simp only [List.length_map, hlk0]
        (refine wlk ?_; intros)
        refine ⟨?_, fun b2 L2 e => by cases e; exact hbB⟩
        ((with_reducible apply i_endN1 (x) (by first | exact .inl rfl | exact .inr rfl)); (focus (simp (disch := (first | omega | (simp only [push_cast]; first | done | omega))) only [push_cast, ↓reduceIte, Nat.reduceEqDiff, Nat.reduceBEq, Nat.reduceAdd, Nat.reduceSub, Int.reduceToNat, *] <;> with_reducible exact rfl)); (focus (simp (disch := (first | omega | (simp only [push_cast]; first | done | omega))) only [push_cast, ↓reduceIte, Nat.reduceEqDiff, Nat.reduceBEq, Nat.reduceAdd, Nat.reduceSub, Int.reduceToNat, *] <;> with_reducible exact rfl)))
end Go.Proofs.Ytngcedklbinhjaa
namespace Go.Proofs.Ytngcedklbinhjaa
open Go.RowKit
set_option linter.all false
theorem pgl_pos {ws pats : LS} {wd most : Int} (h : pglB ws pats wd most = true) : 0 < (pglV ws pats wd most).length := by
  unfold pglV
  rw [if_pos h, lnsK_len]
  unfold pglB at h
  rw [Bool.and_eq_true] at h
  obtain ⟨h1, h2⟩ := h
  have hV : piV ws pats = piR ws pats := if_pos h1
  rw [hV] at h2
  exact bkF_pos (brkOk_iff.1 h2).2.1 (brkOk_iff.1 h2).2.2.2.2
theorem pgl_nil {ws pats : LS} {wd most : Int} (h : pglB ws pats wd most = false) : pglV ws pats wd most = [] := by
  unfold pglV
  rw [if_neg (by rw [h]; decide)]
noncomputable def φPgi : Fun := pureN ΨPgi
theorem implPgi_ok : Sound Try.prog 15 φPgi := implPgiN.pure
theorem φPgi_ap {ws pats : LS} {wd most : Int} (h : okSs ws ∧ okSs pats) (h0 : 0 < (pglV ws pats wd most).length) : φPgi [.lst false 1 (ws.map fun s => .val (.string s)), .lst false 1 (pats.map fun s => .val (.string s)), .val (.int .i64 wd), .val (.int .i64 most)] = some (.tup [.lst true 1 ((pglV ws pats wd most).map fun s => .val (.string s)), .val (.bool (pglB ws pats wd most))]) := by
  have hp : 0 < ((pglV ws pats wd most).map fun s => PV.val (.string s)).length := by simpa using h0
  refine pureN_of (r := .tup [.row 0 1 0 (pglV ws pats wd most).length, .val (.bool (pglB ws pats wd most))]) (cs0 := [(9, 1, (pglV ws pats wd most).map fun s => .val (.string s))]) ((G4_ap (A := dSs) (B := dSs) (C := dI) (D := dI) ws pats wd most).trans ((if_pos h).trans (by rw [nP_pos hp, nC_pos hp, List.length_map]))) ?_
  rw [ls_one]
  (simp (disch := (first | omega | (simp only [push_cast]; first | done | omega))) only [push_cast, ↓reduceIte, Nat.reduceEqDiff, Nat.reduceBEq, Nat.reduceAdd, Nat.reduceSub, Int.reduceToNat, *] <;> with_reducible exact rfl)
theorem φPgi_no {ws pats : LS} {wd most : Int} (h : okSs ws ∧ okSs pats) (h0 : pglB ws pats wd most = false) : φPgi [.lst false 1 (ws.map fun s => .val (.string s)), .lst false 1 (pats.map fun s => .val (.string s)), .val (.int .i64 wd), .val (.int .i64 most)] = some (.tup [.val (.slice none 0 0), .val (.bool false)]) := by
  refine pureN_of (r := .tup [.val (.slice none 0 0), .val (.bool false)]) (cs0 := []) ((G4_ap (A := dSs) (B := dSs) (C := dI) (D := dI) ws pats wd most).trans ((if_pos h).trans (by rw [pgl_nil h0, h0]; rfl))) ?_
  (simp (disch := (first | omega | (simp only [push_cast]; first | done | omega))) only [push_cast, ↓reduceIte, Nat.reduceEqDiff, Nat.reduceBEq, Nat.reduceAdd, Nat.reduceSub, Int.reduceToNat, *] <;> with_reducible exact rfl)
end Go.Proofs.Ytngcedklbinhjaa
namespace Go.Proofs.Ytngcedklbinhjaa
open Go.RowKit
set_option linter.all false
attribute [push_cast]
  OStrs
theorem handM_lsts {out : List Nat} {ob : Objs} {l : List LS} {f : Nat} : (l.map fun p => PV.lst true 1 (p.map fun s => PV.val (.string s))).mapM (handF out ob (f + 3)) = some (l.map fun p => PV.lst true 1 (p.map fun s => PV.val (.string s))) :=
  mapM_maps fun p => handS_vals
attribute [push_cast]
  handM_lsts
end Go.Proofs.Ytngcedklbinhjaa
namespace Go.Proofs.Ytngcedklbinhjaa
open Go.RowKit
set_option linter.all false
theorem map_app' {α β : Type} {f : α → β} {l l' : List α} : l.map f ++ l'.map f = (l ++ l').map f := List.map_append.symm
theorem min_l {a b : Nat} (h : a ≤ b) : min a b = a := Nat.min_eq_left h
attribute [push_cast]
  map_app' min_l List.take_length
theorem strI_take {s : ByteArray} : (strI s).take s.size = strI s := List.take_of_length_le (by rw [strI_length]; exact Nat.le_refl _)
attribute [push_cast]
  strI_take
theorem io_ag {Φ : FunIO} {ob : Objs} {nx : Nat} {u : Value} {k : Bool} {sz : Nat} {α : Type} {g : α → Value} {l : List α} : ioEv Φ ob nx [.agg [.val u, .lst k sz (l.map fun x => PV.val (g x))]] = ioR [] ob nx (Φ [.agg [.val u, .lst k sz (l.map fun x => PV.val (g x))]] []) :=
  ioNo_of rfl (by simp only [mapM_cons', mapM_nil', renS_fuel, renS_agg, renS_val, renS_vals]; rfl)
attribute [push_cast]
  io_ag
end Go.Proofs.Ytngcedklbinhjaa
namespace Go.Proofs.Ytngcedklbinhjaa
open Go.RowKit
set_option linter.all false
theorem sel_rng {a b d : Int} {l : List Int} {i : Nat} (h : ∀ x ∈ l, a ≤ x ∧ x ≤ b) (h1 : a ≤ d) (h2 : d ≤ b) : a ≤ sel d l i ∧ sel d l i ≤ b := by
  unfold sel
  by_cases hi : i < l.length
  · rw [List.getElem?_eq_getElem hi, Option.getD_some]
    exact h _ (List.getElem_mem hi)
  · rw [List.getElem?_eq_none (by omega)]
    exact ⟨h1, h2⟩
end Go.Proofs.Ytngcedklbinhjaa
namespace Go.Proofs.Ytngcedklbinhjaa
open Go.RowKit
set_option linter.all false
def φSmt : Fun := F2 dSs dSs fun a b => if a.length ≤ 1048576 ∧ b.length ≤ 1048576 then some (bv (decide (a = b))) else none
theorem φSmt_ap {a b : LS} (h : a.length ≤ 1048576) (h2 : b.length ≤ 1048576) : φSmt [.lst false 1 (a.map fun s => .val (.string s)), .lst false 1 (b.map fun s => .val (.string s))] = some (.val (.bool (decide (a = b)))) :=
  (F2_ap (A := dSs) (B := dSs) a b).trans (if_pos ⟨h, h2⟩)
set_option maxHeartbeats 4000000 in
theorem smt_ok : Sound Try.prog 20 φSmt := by
  refine sound_pq mixed GE_ok Try.func20 rfl 26 rfl [.tmp 4] rfl (by kernel_rfl) fun ps r hr => ?_
  obtain ⟨xs, ys, rfl, hq⟩ := F2_some hr
  clear hr
  split at hq
  case isFalse => cases hq
  case isTrue hpre =>
  cases hq
  refine ⟨by simp, ?_⟩
  simp only [dIs, dUs, dSs, dI_e, dU_e, dB_e, dS_e, dFn_e, dL_e, dA2_e, dA3_e, dA4_e, dA5_e]
  obtain ⟨hl1, hl2⟩ := hpre
  repeat' (first | (with_reducible first | apply i_seq | apply i_block | apply i_skip | apply i_exit | apply i_ret | apply i_kS | apply i_kSx | apply i_kSr | apply i_kL | apply i_kLx | apply i_kLr | apply i_kB | apply i_kBr | apply i_kBs | apply i_nil) | ((with_reducible apply i_region); (simp only [List.map_cons, List.map_nil] <;> exact rfl)) | ((with_reducible apply i_draw); (simp only [List.map_cons, List.map_nil] <;> exact rfl); decide +kernel) | ((with_reducible apply i_kBo); rfl) | ((first | ((with_reducible apply i_V); rfl; rfl; rfl) | ((first | ((with_reducible apply i_E); rfl) | ((with_reducible apply i_S); rfl)); first | rfl | (simp only [push_cast, ↓reduceIte])) | ((with_reducible apply i_Vq); rfl; rfl) | ((with_reducible apply i_Vp); rfl; rfl; rfl) | (with_reducible first | apply i_Gb | apply i_cond)); (simp (disch := (first | omega | (simp only [push_cast]; first | done | omega))) only [push_cast, ↓reduceIte, Nat.reduceEqDiff, Nat.reduceBEq, Nat.reduceAdd, Nat.reduceSub, Int.reduceToNat, *] <;> with_reducible exact rfl); all_goals try (first | (with_reducible first | refine hyT ?_ | refine hyF ?_ | exact hyA | exact hyB) | (intro hX; first | (cases hX; done) | ((try simp only [decide_eq_true_eq, decide_eq_false_iff_not, Bool.not_eq_true', Bool.not_eq_false'] at hX); (try have hXb := inB_iff.1 hX))))))
  · ((first | apply i_end | apply i_endN); simp (disch := (first | omega | (simp only [push_cast]; first | done | omega))) only [push_cast, ↓reduceIte, Nat.reduceEqDiff, Nat.reduceBEq, Nat.reduceAdd, Nat.reduceSub, Int.reduceToNat, *])
    have : ¬ xs = ys := fun h => by subst h; simp_all
    simp [this]
  refine i_loop (α := Nat) mixed (fun k => [(0, .lst false 1 (xs.map fun s => .val (.string s))), (1, .lst false 1 (ys.map fun s => .val (.string s))), (5, iv k)]) (fun k => []) (fun _ => 0)
    (fun k => k ≤ xs.length ∧ ∀ j, j < k → xs[j]?.getD .empty = ys[j]?.getD .empty) (fun k => xs.length - k) (by kernel_rfl) 0 ⟨Nat.zero_le _, fun j hj => by omega⟩ ?_ trivial rfl ?_
  · simp only [push_cast, ↓reduceIte, Nat.reduceEqDiff, Nat.reduceBEq, Nat.reduceAdd, Nat.reduceSub, Int.reduceToNat]
  · intro k ⟨hk, hok⟩
    repeat' (first | (with_reducible first | apply i_seq | apply i_block | apply i_skip | apply i_exit | apply i_ret | apply i_kS | apply i_kSx | apply i_kSr | apply i_kL | apply i_kLx | apply i_kLr | apply i_kB | apply i_kBr | apply i_kBs | apply i_nil) | ((with_reducible apply i_region); (simp only [List.map_cons, List.map_nil] <;> exact rfl)) | ((with_reducible apply i_draw); (simp only [List.map_cons, List.map_nil] <;> exact rfl); decide +kernel) | ((with_reducible apply i_kBo); rfl) | ((first | ((with_reducible apply i_V); rfl; rfl; rfl) | ((first | ((with_reducible apply i_E); rfl) | ((with_reducible apply i_S); rfl)); first | rfl | (simp only [push_cast, ↓reduceIte])) | ((with_reducible apply i_Vq); rfl; rfl) | ((with_reducible apply i_Vp); rfl; rfl; rfl) | (with_reducible first | apply i_Gb | apply i_cond)); (simp (disch := (first | omega | (simp only [push_cast]; first | done | omega))) only [push_cast, ↓reduceIte, Nat.reduceEqDiff, Nat.reduceBEq, Nat.reduceAdd, Nat.reduceSub, Int.reduceToNat, *] <;> with_reducible exact rfl); all_goals try (first | (with_reducible first | refine hyT ?_ | refine hyF ?_ | exact hyA | exact hyB) | (intro hX; first | (cases hX; done) | ((try simp only [decide_eq_true_eq, decide_eq_false_iff_not, Bool.not_eq_true', Bool.not_eq_false'] at hX); (try have hXb := inB_iff.1 hX))))))
    all_goals try ((first | apply i_end | apply i_endN); simp (disch := (first | omega | (simp only [push_cast]; first | done | omega))) only [push_cast, ↓reduceIte, Nat.reduceEqDiff, Nat.reduceBEq, Nat.reduceAdd, Nat.reduceSub, Int.reduceToNat, *])
    · have : ¬ xs = ys := fun h => by subst h; simp_all
      simp [this]
    · refine ⟨k + 1, ⟨by omega, fun j hj => ?_⟩, by dsimp only; omega, by simp only [push_cast, ↓reduceIte, Nat.reduceEqDiff, Nat.reduceBEq, Nat.reduceAdd, Nat.reduceSub, Int.reduceToNat], trivial, rfl⟩
      by_cases h1 : j < k
      · exact hok j h1
      · have : j = k := by omega
        subst this
        assumption
    · have : xs = ys := eq_of_getDK (d := .empty) (by omega) fun j hj => hok j (by omega)
      simp [this]
end Go.Proofs.Ytngcedklbinhjaa
namespace Go.Proofs.Ytngcedklbinhjaa
open Go.RowKit
set_option linter.all false
noncomputable def φSmtn : Fun := nilF 1 φSmt
theorem φSmtn_ap {a b : LS} (h : a.length ≤ 1048576) (h2 : b.length ≤ 1048576) : φSmtn [.lst false 1 (a.map fun s => .val (.string s)), .lst false 1 (b.map fun s => .val (.string s))] = some (.val (.bool (decide (a = b)))) := φSmt_ap h h2
theorem φSmtn_nil : φSmtn [.val (.slice none 0 0), .lst false 1 []] = some (.val (.bool true)) := φSmt_ap (a := []) (b := []) (by simp) (by simp)
end Go.Proofs.Ytngcedklbinhjaa
