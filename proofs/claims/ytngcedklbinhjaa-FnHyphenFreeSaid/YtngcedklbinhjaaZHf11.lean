/- What the proof rests on, part 11: contracts of functions. No condition beyond what each states. -/
import Derived.Test.YtngcedklbinhjaaZHf10
namespace Go.Proofs.Ytngcedklbinhjaa
open Go.RowKit
set_option linter.all false
noncomputable def placesV (w : ByteArray) (pats : LS) : List Int := if hypB w pats = true then placesR w pats else []
noncomputable def φPc : Fun := F2 dS dSs fun w pats => if okHy w pats then some (.lst true 1 ((placesV w pats).map fun n => .val (.int .i64 n))) else none
theorem φPc_ap {w : ByteArray} {pats : LS} (h : okHy w pats) : φPc [.val (.string w), .lst false 1 (pats.map fun s => .val (.string s))] = some (.lst true 1 ((placesV w pats).map fun n => .val (.int .i64 n))) := (F2_ap (A := dS) (B := dSs) w pats).trans (if_pos h)
abbrev LI := List Int
theorem agreeO_n2 {T sz x : Nat} {es : List PV} : agreeO (lo (nO T sz es x)) (nO T sz es x) := by
  cases es with
  | nil => trivial
  | cons e es =>
    show agreeO (lo [_]) [_]
    simp only [push_cast]
theorem plB_no {sz : Nat} {lv : List Int} {k : Nat} (h : ¬ (2 ≤ k ∧ k + 3 ≤ sz ∧ lv[k]?.getD 0 % 2 = 1)) : plB sz lv k = false := decide_eq_false h
theorem plB_yes {sz : Nat} {lv : List Int} {k : Nat} (h : 2 ≤ k ∧ k + 3 ≤ sz ∧ lv[k]?.getD 0 % 2 = 1) : plB sz lv k = true := decide_eq_true h
noncomputable def GPcI : Ctx := { fn := fun f => if f = 109 then some φLv else if f = 57 then some φIn else none, io := fun f => none }
theorem GPcI_ok : SoundΓ Try.prog GPcI := ⟨(fun f φ h => by
  unfold GPcI at h
  dsimp only at h
  split at h
  · rename_i hf; cases h; subst hf; exact ⟨⟨_, Try.func109, rfl, rfl⟩, implLv_ok⟩
  split at h
  · rename_i hf; cases h; subst hf; exact ⟨⟨_, Try.func57, rfl, rfl⟩, in_ok⟩
  cases h), (fun f φ h => by
  unfold GPcI at h
  dsimp only at h
  cases h), rfl⟩
theorem GPcI_109 (ob : Objs) (ps : List PV) : evCall GPcI ob 109 ps = (ps.mapM (reify false 0 ob fuel)).bind φLv := by
  have h : GPcI.fn 109 = some φLv := by simp [GPcI]
  unfold evCall
  rw [h]
  cases ps.mapM (reify false 0 ob fuel) <;> rfl
theorem GPcI_57 (ob : Objs) (ps : List PV) : evCall GPcI ob 57 ps = (ps.mapM (reify false 0 ob fuel)).bind φIn := by
  have h : GPcI.fn 57 = some φIn := by simp [GPcI]
  unfold evCall
  rw [h]
  cases ps.mapM (reify false 0 ob fuel) <;> rfl
set_option maxHeartbeats 16000000 in
theorem implPc_ok : Sound Try.prog 91 φPc := by
  refine sound_pqW mixed GPcI_ok Try.func91 rfl 33 rfl [.tmp 4] rfl (by kernel_rfl) fun ps r hr => ?_
  obtain ⟨w, pats, rfl, hq⟩ := F2_some hr
  clear hr
  split at hq
  case isFalse => cases hq
  case isTrue hpre =>
  cases hq
  refine ⟨by simp, ?_⟩
  simp only [dIs, dUs, dSs, dI_e, dU_e, dB_e, dS_e, dFn_e, dL_e, dA2_e, dA3_e, dA4_e, dA5_e]
  have apl := φLv_ap hpre
  have api := φIn_ap
  unfold levelsV at apl
  unfold placesV
  cases hB : hypB w pats with
  | false =>
    rw [hB, if_neg (by decide)] at apl
    rw [if_neg (by decide)]
    clear hB hpre
    have gpci_c109 := GPcI_109; have gpci_c57 := GPcI_57
    (refine wlk ?_; intros)
    refine i_loop (α := Unit) mixed (fun _ => [(5, .val (.slice none 0 0)), (10, .lst true 1 []), (11, iv 0), (12, iv 0)]) (fun _ => []) (fun _ => 0) (fun _ => True) (fun _ => 0) (by kernel_rfl) () trivial ?_ ?_ rfl ?_
    · exact agr
    · exact agr
    rintro ⟨⟩ -
    (refine wlk ?_; intros)
    all_goals ((with_reducible apply i_endW (by first | exact .inl rfl | exact .inr rfl)); (simp (disch := (first | omega | (simp only [push_cast]; first | done | omega))) only [push_cast, ↓reduceIte, Nat.reduceEqDiff, Nat.reduceBEq, Nat.reduceAdd, Nat.reduceSub, Int.reduceToNat, *] <;> with_reducible exact rfl))
    all_goals exact nil_le _ _
  | true =>
    rw [hB, if_pos rfl] at apl
    rw [if_pos rfl]
    obtain ⟨-, hw1, hw2⟩ := wordB_letters (hypB_iff.1 hB).1
    obtain ⟨l1, l2⟩ := lvP_ok w pats pats.length
    unfold placesR
    have he : levelsR w pats = lvP w pats pats.length := rfl
    rw [he] at apl ⊢
    generalize lvP w pats pats.length = lv at *
    clear hB hpre he
    have hP0 : plK w.size lv 0 = [] := rfl
    have hPl := plK_len w.size lv
    have gpci_c109 := GPcI_109; have gpci_c57 := GPcI_57
    (refine wlk ?_; intros)
    refine i_loop (α := Nat × LI × Nat × Nat) mixed (fun z => [(0, .val (.string w)), (5, nP 1 (z.2.1.map pvN) z.2.2.1), (10, .lst true 1 (lv.map pvN)), (11, iv lv.length), (12, iv z.1)])
      (fun z => nO 3 1 (z.2.1.map pvN) z.2.2.1) (fun z => z.2.2.2)
      (fun z => z.1 ≤ lv.length ∧ z.2.1 = plK w.size lv z.1 ∧ (0 < z.2.1.length → z.2.2.1 < z.2.2.2)) (fun z => lv.length - z.1) (by kernel_rfl) (0, [], 0, 0) ⟨Nat.zero_le _, rfl, by simp⟩ ?_ ?_ rfl ?_
    · exact agr
    · exact agr
    rintro ⟨k, out, x, y⟩ ⟨hk, hI, hxy⟩
    dsimp only at hk hI hxy
    have hol : out.length ≤ 22 := by rw [hI]; have := hPl k; omega
    clear hPl hP0
    by_cases h0 : k < lv.length
    · have hlk := l2 k
      by_cases hc : 2 ≤ k ∧ k + 3 ≤ w.size ∧ lv[k]?.getD 0 % 2 = 1
      · have hI2 : out ++ [(k : Int)] = plK w.size lv (k + 1) := by rw [plK_yes (plB_yes hc), ← hI]
        replace hI2 := Lib.hid hI2
        obtain ⟨c1, c2, c3⟩ := hc
        have api1 : inB (k : Int) 2 ((w.size : Int) - 3) = true := inB_iff.2 ⟨by omega, by omega⟩
        clear hI l2
        by_cases hz : out.length = 0
        · obtain rfl : out = [] := List.eq_nil_of_length_eq_zero hz
          (refine wlk ?_; intros)
          refine ⟨(k + 1, [] ++ [(k : Int)], y + 1, y + 2), ⟨by dsimp only; omega, hI2.out, fun _ => by dsimp only; omega⟩, by dsimp only; omega, ?_, ?_, rfl⟩
          · exact agr
          · exact agr
        · have hxy := hxy (by omega)
          have hap : 0 < (out.map pvN).length := by rw [List.length_map]; omega
          clear hz
          have hap3 : 0 < ((out ++ [(k : Int)]).map pvN).length := by simp
          simp only [nP_pos hap, nO_pos hap, List.length_map]
          (refine wlk ?_; intros)
          refine ⟨(k + 1, out ++ [(k : Int)], y + 1, y + 2), ⟨by dsimp only; omega, hI2.out, fun _ => by dsimp only; omega⟩, by dsimp only; omega, ?_, ?_, rfl⟩
          · simp (disch := (first | omega | (simp only [push_cast]; first | done | omega))) only [push_cast, ↓reduceIte, Nat.reduceEqDiff, Nat.reduceBEq, Nat.reduceAdd, Nat.reduceSub, Int.reduceToNat, nP_pos hap3, List.length_append, *]
          · simp (disch := (first | omega | (simp only [push_cast]; first | done | omega))) only [push_cast, ↓reduceIte, Nat.reduceEqDiff, Nat.reduceBEq, Nat.reduceAdd, Nat.reduceSub, Int.reduceToNat, nO_pos hap3, *]
      · have hI2 : out = plK w.size lv (k + 1) := by rw [plK_no (plB_no hc), ← hI]
        replace hI2 := Lib.hid hI2
        clear hI l2
        by_cases c3 : lv[k]?.getD 0 % 2 = 1
        · have api1 : inB (k : Int) 2 ((w.size : Int) - 3) = false := Bool.eq_false_iff.2 fun q => by have := inB_iff.1 q; omega
          clear hc
          (refine wlk ?_; intros)
          refine ⟨(k + 1, out, x, y), ⟨by dsimp only; omega, hI2.out, hxy⟩, by dsimp only; omega, ?_, agreeO_n2, rfl⟩
          · exact agr
        · clear hc
          (refine wlk ?_; intros)
          refine ⟨(k + 1, out, x, y), ⟨by dsimp only; omega, hI2.out, hxy⟩, by dsimp only; omega, ?_, agreeO_n2, rfl⟩
          · exact agr
    · obtain rfl : k = lv.length := by omega
      rw [← l1, ← hI]
      clear hI l2
      by_cases hz : out.length = 0
      · obtain rfl : out = [] := List.eq_nil_of_length_eq_zero hz
        (refine wlk ?_; intros)
        all_goals ((with_reducible apply i_endW (by first | exact .inl rfl | exact .inr rfl)); (simp (disch := (first | omega | (simp only [push_cast]; first | done | omega))) only [push_cast, ↓reduceIte, Nat.reduceEqDiff, Nat.reduceBEq, Nat.reduceAdd, Nat.reduceSub, Int.reduceToNat, *] <;> with_reducible exact rfl))
        all_goals exact nil_le _ _
      · have hxy := hxy (by omega)
        have hap : 0 < (out.map pvN).length := by rw [List.length_map]; omega
        clear hz
        simp only [nP_pos hap, nO_pos hap, List.length_map]
        (refine wlk ?_; intros)
        all_goals ((with_reducible apply i_endW (by first | exact .inl rfl | exact .inr rfl)); (simp (disch := (first | omega | (simp only [push_cast]; first | done | omega))) only [push_cast, ↓reduceIte, Nat.reduceEqDiff, Nat.reduceBEq, Nat.reduceAdd, Nat.reduceSub, Int.reduceToNat, *] <;> with_reducible exact rfl))
        all_goals exact PV.le_refl _
noncomputable def GPcS : Ctx := { fn := fun f => if f = 88 then some φLv else none, io := fun f => none }
theorem GPcS_ok : SoundΓ Try.prog GPcS := ⟨(fun f φ h => by
  unfold GPcS at h
  dsimp only at h
  split at h
  · rename_i hf; cases h; subst hf; exact ⟨⟨_, Try.func88, rfl, rfl⟩, specLv_ok⟩
  cases h), (fun f φ h => by
  unfold GPcS at h
  dsimp only at h
  cases h), rfl⟩
theorem GPcS_88 (ob : Objs) (ps : List PV) : evCall GPcS ob 88 ps = (ps.mapM (reify false 0 ob fuel)).bind φLv := by
  have h : GPcS.fn 88 = some φLv := by simp [GPcS]
  unfold evCall
  rw [h]
  cases ps.mapM (reify false 0 ob fuel) <;> rfl
set_option maxHeartbeats 16000000 in
theorem specPc_ok : Sound Try.prog 70 φPc := by
  refine sound_pq mixed GPcS_ok Try.func70 rfl 30 rfl [.tmp 4] rfl (by kernel_rfl) fun ps r hr => ?_
  obtain ⟨w, pats, rfl, hq⟩ := F2_some hr
  clear hr
  split at hq
  case isFalse => cases hq
  case isTrue hpre =>
  cases hq
  refine ⟨by simp, ?_⟩
  simp only [dIs, dUs, dSs, dI_e, dU_e, dB_e, dS_e, dFn_e, dL_e, dA2_e, dA3_e, dA4_e, dA5_e]
  have apl := φLv_ap hpre
  unfold levelsV at apl
  unfold placesV
  cases hB : hypB w pats with
  | false =>
    rw [hB, if_neg (by decide)] at apl
    rw [if_neg (by decide)]
    clear hB hpre
    have gpcs_c88 := GPcS_88
    (refine wlk ?_; intros)
    refine i_loop (α := Unit) mixed (fun _ => [(5, .row 0 1 0 0), (6, .lst true 1 []), (7, iv 2)]) (fun _ => [(0, 3, 1, [])]) (fun _ => 1) (fun _ => True) (fun _ => 0) (by kernel_rfl) () trivial ?_ ?_ rfl ?_
    · exact agr
    · exact agr
    rintro ⟨⟩ -
    exact wlkF
  | true =>
    rw [hB, if_pos rfl] at apl
    rw [if_pos rfl]
    obtain ⟨-, hw1, hw2⟩ := wordB_letters (hypB_iff.1 hB).1
    obtain ⟨l1, l2⟩ := lvP_ok w pats pats.length
    unfold placesR
    have he : levelsR w pats = lvP w pats pats.length := rfl
    rw [he] at apl ⊢
    generalize lvP w pats pats.length = lv at *
    clear hB hpre he
    have hP0 := @plK_low w.size lv
    have hPl := plK_len w.size lv
    have hPh : ∀ k, w.size < k + 3 → k ≤ w.size + 1 → plK w.size lv (w.size + 1) = plK w.size lv k := fun k h1 h2 => by
      have := plK_high (lv := lv) h1 (w.size + 1 - k)
      rwa [show k + (w.size + 1 - k) = w.size + 1 by omega] at this
    have hPs : w.size < 5 → plK w.size lv (w.size + 1) = plK w.size lv 2 := fun h => by rw [plK_low2 h, hP0]
    replace hP0 := Lib.hid hP0
    have gpcs_c88 := GPcS_88
    (refine wlk ?_; intros)
    refine i_loop (α := Nat × LI × Nat × Nat) mixed (fun z => [(5, .row z.2.2.1 1 0 z.2.1.length), (6, .lst true 1 (lv.map pvN)), (7, iv z.1)])
      (fun z => [(z.2.2.1, 3, 1, z.2.1.map pvN)]) (fun z => z.2.2.2)
      (fun z => 2 ≤ z.1 ∧ (2 < z.1 → z.1 + 2 ≤ w.size) ∧ z.2.1 = plK w.size lv z.1 ∧ z.2.2.1 < z.2.2.2) (fun z => lv.length - z.1) (by kernel_rfl) (2, [], 0, 1) ⟨by simp, by simp, hP0.out.symm, by simp⟩ ?_ ?_ rfl ?_
    · exact agi
    · exact agr
    rintro ⟨k, out, x, y⟩ ⟨hk, hk2, hI, hxy⟩
    dsimp only at hk hk2 hI hxy
    have hol : out.length ≤ 22 := by
      rw [hI]
      by_cases h2 : 2 < k
      · have := hPl k; have := hk2 h2; omega
      · have := hPl k; omega
    clear hPl hP0
    by_cases h0 : k + 3 < lv.length
    · have hlk := l2 k
      by_cases c3 : lv[k]?.getD 0 % 2 = 1
      · have hI2 : out ++ [(k : Int)] = plK w.size lv (k + 1) := by rw [plK_yes (plB_yes ⟨hk, by omega, c3⟩), ← hI]
        replace hI2 := Lib.hid hI2
        clear hI l2 hPh hPs
        (refine wlk ?_; intros)
        refine ⟨(k + 1, out ++ [(k : Int)], y + 1, y + 2), ⟨by dsimp only; omega, fun _ => by dsimp only; omega, hI2.out, by dsimp only; omega⟩, by dsimp only; omega, ?_, ?_, rfl⟩
        · exact agr
        · exact agr
      · have hI2 : out = plK w.size lv (k + 1) := by rw [plK_no (plB_no fun q => c3 q.2.2), ← hI]
        replace hI2 := Lib.hid hI2
        clear hI l2 hPh hPs
        (refine wlk ?_; intros)
        refine ⟨(k + 1, out, x, y), ⟨by dsimp only; omega, fun _ => by dsimp only; omega, hI2.out, hxy⟩, by dsimp only; omega, ?_, ?_, rfl⟩
        · exact agr
        · exact agr
    · have hfin : plK w.size lv (w.size + 1) = out := by
        rw [hI]
        by_cases h5 : w.size < 5
        · by_cases h2 : 2 < k
          · have := hk2 h2
            omega
          · obtain rfl : k = 2 := by omega
            exact hPs h5
        · refine hPh k (by omega) ?_
          by_cases h2 : 2 < k
          · have := hk2 h2; omega
          · omega
      rw [hfin]
      clear hI l2 hPh hPs hfin
      exact wlkF
noncomputable def partsV (w : ByteArray) (pats : LS) : LS := if hypB w pats = true then partsR w pats else []
noncomputable def φPr : Fun := F2 dS dSs fun w pats => if okHy w pats then some (.lst true 1 ((partsV w pats).map fun s => .val (.string s))) else none
theorem φPr_ap {w : ByteArray} {pats : LS} (h : okHy w pats) : φPr [.val (.string w), .lst false 1 (pats.map fun s => .val (.string s))] = some (.lst true 1 ((partsV w pats).map fun s => .val (.string s))) := (F2_ap (A := dS) (B := dSs) w pats).trans (if_pos h)
noncomputable def GPrI : Ctx := { fn := fun f => if f = 89 then some φWord else if f = 72 then some φPats else if f = 91 then some φPc else none, io := fun f => none }
theorem GPrI_ok : SoundΓ Try.prog GPrI := ⟨(fun f φ h => by
  unfold GPrI at h
  dsimp only at h
  split at h
  · rename_i hf; cases h; subst hf; exact ⟨⟨_, Try.func89, rfl, rfl⟩, implWordValid_ok⟩
  split at h
  · rename_i hf; cases h; subst hf; exact ⟨⟨_, Try.func72, rfl, rfl⟩, implPatternsValid_ok⟩
  split at h
  · rename_i hf; cases h; subst hf; exact ⟨⟨_, Try.func91, rfl, rfl⟩, implPc_ok⟩
  cases h), (fun f φ h => by
  unfold GPrI at h
  dsimp only at h
  cases h), rfl⟩
theorem GPrI_89 (ob : Objs) (ps : List PV) : evCall GPrI ob 89 ps = (ps.mapM (reify false 0 ob fuel)).bind φWord := by
  have h : GPrI.fn 89 = some φWord := by simp [GPrI]
  unfold evCall
  rw [h]
  cases ps.mapM (reify false 0 ob fuel) <;> rfl
theorem GPrI_72 (ob : Objs) (ps : List PV) : evCall GPrI ob 72 ps = (ps.mapM (reify false 0 ob fuel)).bind φPats := by
  have h : GPrI.fn 72 = some φPats := by simp [GPrI]
  unfold evCall
  rw [h]
  cases ps.mapM (reify false 0 ob fuel) <;> rfl
theorem GPrI_91 (ob : Objs) (ps : List PV) : evCall GPrI ob 91 ps = (ps.mapM (reify false 0 ob fuel)).bind φPc := by
  have h : GPrI.fn 91 = some φPc := by simp [GPrI]
  unfold evCall
  rw [h]
  cases ps.mapM (reify false 0 ob fuel) <;> rfl
set_option maxHeartbeats 16000000 in
theorem implPr_ok : Sound Try.prog 73 φPr := by
  refine sound_pqW mixed GPrI_ok Try.func73 rfl 40 rfl [.tmp 4] rfl (by kernel_rfl) fun ps r hr => ?_
  obtain ⟨w, pats, rfl, hq⟩ := F2_some hr
  clear hr
  split at hq
  case isFalse => cases hq
  case isTrue hpre =>
  cases hq
  refine ⟨by simp, ?_⟩
  simp only [dIs, dUs, dSs, dI_e, dU_e, dB_e, dS_e, dFn_e, dL_e, dA2_e, dA3_e, dA4_e, dA5_e]
  have ap1 := φWord_ap (s := w) (by omega)
  have ap2 := φPats_ap hpre.2
  have apc := φPc_ap hpre
  unfold placesV at apc
  unfold partsV
  cases hw : wordB w with
  | false =>
    have hB : hypB w pats = false := by unfold hypB; rw [hw]; rfl
    rw [hw] at ap1
    rw [hB, if_neg (by decide)]
    clear apc hpre hw hB
    have gpri_c89 := GPrI_89; have gpri_c72 := GPrI_72; have gpri_c91 := GPrI_91
    (refine wlk ?_; intros)
    all_goals ((with_reducible apply i_endW (by first | exact .inl rfl | exact .inr rfl)); (simp (disch := (first | omega | (simp only [push_cast]; first | done | omega))) only [push_cast, ↓reduceIte, Nat.reduceEqDiff, Nat.reduceBEq, Nat.reduceAdd, Nat.reduceSub, Int.reduceToNat, *] <;> with_reducible exact rfl))
    all_goals exact nil_le _ _
  | true =>
  cases hp : allPats pats with
  | false =>
    have hB : hypB w pats = false := by unfold hypB; rw [hw, hp]; rfl
    rw [hw] at ap1
    rw [hp] at ap2
    rw [hB, if_neg (by decide)]
    clear apc hpre hw hp hB
    have gpri_c89 := GPrI_89; have gpri_c72 := GPrI_72; have gpri_c91 := GPrI_91
    (refine wlk ?_; intros)
    all_goals ((with_reducible apply i_endW (by first | exact .inl rfl | exact .inr rfl)); (simp (disch := (first | omega | (simp only [push_cast]; first | done | omega))) only [push_cast, ↓reduceIte, Nat.reduceEqDiff, Nat.reduceBEq, Nat.reduceAdd, Nat.reduceSub, Int.reduceToNat, *] <;> with_reducible exact rfl))
    all_goals exact nil_le _ _
  | true =>
    have hB : hypB w pats = true := by unfold hypB; rw [hw, hp]; rfl
    have hok := places_ok (pats := pats) hw
    obtain ⟨-, hw1, hw2⟩ := wordB_letters hw
    rw [hw] at ap1
    rw [hp] at ap2
    rw [hB, if_pos rfl] at apc
    rw [hB, if_pos rfl]
    unfold partsR
    have hfr := frK_rng hok hw1
    generalize placesR w pats = pl at *
    obtain ⟨hl, hat⟩ := hok
    unfold ptR
    have hpl := ptF_len w pl
    clear hB hw hp hpre
    have gpri_c89 := GPrI_89; have gpri_c72 := GPrI_72; have gpri_c91 := GPrI_91
    (refine wlk ?_; intros)
    refine i_loop (α := Nat × Nat × Nat) mixed (fun z => [(0, .val (.string w)), (5, nP 1 ((ptF w pl z.1).map pvS) z.2.1), (6, iv (frK pl z.1)), (19, .lst true 1 (pl.map pvN)), (20, iv pl.length), (21, iv z.1)])
      (fun z => nO 9 1 ((ptF w pl z.1).map pvS) z.2.1) (fun z => z.2.2)
      (fun z => z.1 ≤ pl.length ∧ (0 < z.1 → z.2.1 < z.2.2)) (fun z => pl.length - z.1) (by kernel_rfl) (0, 0, 0) ⟨Nat.zero_le _, by simp⟩ ?_ ?_ rfl ?_
    · simp (disch := (first | omega | (simp only [push_cast]; first | done | omega))) only [push_cast, ↓reduceIte, Nat.reduceEqDiff, Nat.reduceBEq, Nat.reduceAdd, Nat.reduceSub, Int.reduceToNat, ptF, frK, List.map_nil, *]
    · simp (disch := (first | omega | (simp only [push_cast]; first | done | omega))) only [push_cast, ↓reduceIte, Nat.reduceEqDiff, Nat.reduceBEq, Nat.reduceAdd, Nat.reduceSub, Int.reduceToNat, ptF, List.map_nil, *]
    rintro ⟨k, x, y⟩ ⟨hk, hxy⟩
    dsimp only at hk hxy
    have hlk := hpl k
    have hfk := hfr k hk
    by_cases h0 : k < pl.length
    · obtain ⟨a1, a2⟩ := hat k h0
      have hn : ptF w pl (k + 1) = ptF w pl k ++ [w.extract (frK pl k).toNat (pl[k]?.getD 0).toNat] := rfl
      have hf := frK_succ pl k
      replace hn := Lib.hid hn
      replace hf := Lib.hid hf
      generalize ptF w pl k = out at *
      generalize frK pl k = fr at *
      clear hat hpl hfr
      by_cases hz : out.length = 0
      · obtain rfl : out = [] := List.eq_nil_of_length_eq_zero hz
        (refine wlk ?_; intros)
        refine ⟨(k + 1, y + 1, y + 2), ⟨by dsimp only; omega, fun _ => by dsimp only; omega⟩, by dsimp only; omega, ?_, ?_, rfl⟩
        · dsimp only
          rw [hn.out, hf.out]
          exact agr
        · dsimp only
          rw [hn.out]
          exact agr
      · have hxy := hxy (by omega)
        have hap : 0 < (out.map pvS).length := by rw [List.length_map]; omega
        clear hz
        have hap3 : 0 < ((out ++ [w.extract fr.toNat (pl[k]?.getD 0).toNat]).map pvS).length := by simp
        simp only [nP_pos hap, nO_pos hap, List.length_map]
        (refine wlk ?_; intros)
        refine ⟨(k + 1, y + 1, y + 2), ⟨by dsimp only; omega, fun _ => by dsimp only; omega⟩, by dsimp only; omega, ?_, ?_, rfl⟩
        · dsimp only
          rw [hn.out, hf.out]
          simp (disch := (first | omega | (simp only [push_cast]; first | done | omega))) only [push_cast, ↓reduceIte, Nat.reduceEqDiff, Nat.reduceBEq, Nat.reduceAdd, Nat.reduceSub, Int.reduceToNat, nP_pos hap3, List.length_append, *]
        · dsimp only
          rw [hn.out]
          simp (disch := (first | omega | (simp only [push_cast]; first | done | omega))) only [push_cast, ↓reduceIte, Nat.reduceEqDiff, Nat.reduceBEq, Nat.reduceAdd, Nat.reduceSub, Int.reduceToNat, nO_pos hap3, *]
    · obtain rfl : k = pl.length := by omega
      generalize ptF w pl pl.length = out at *
      generalize frK pl pl.length = fr at *
      clear hat hpl hfr
      by_cases hz : out.length = 0
      · obtain rfl : out = [] := List.eq_nil_of_length_eq_zero hz
        (refine wlk ?_; intros)
        all_goals ((with_reducible apply i_endW (by first | exact .inl rfl | exact .inr rfl)); (simp (disch := (first | omega | (simp only [push_cast]; first | done | omega))) only [push_cast, ↓reduceIte, Nat.reduceEqDiff, Nat.reduceBEq, Nat.reduceAdd, Nat.reduceSub, Int.reduceToNat, *] <;> with_reducible exact rfl))
        all_goals exact PV.le_refl _
      · have hxy := hxy (by omega)
        have hap : 0 < (out.map pvS).length := by rw [List.length_map]; omega
        clear hz
        simp only [nP_pos hap, nO_pos hap, List.length_map]
        (refine wlk ?_; intros)
        all_goals ((with_reducible apply i_endW (by first | exact .inl rfl | exact .inr rfl)); (simp (disch := (first | omega | (simp only [push_cast]; first | done | omega))) only [push_cast, ↓reduceIte, Nat.reduceEqDiff, Nat.reduceBEq, Nat.reduceAdd, Nat.reduceSub, Int.reduceToNat, *] <;> with_reducible exact rfl))
        all_goals exact PV.le_refl _
noncomputable def GPrS : Ctx := { fn := fun f => if f = 69 then some φWord else if f = 59 then some φPats else if f = 70 then some φPc else none, io := fun f => none }
theorem GPrS_ok : SoundΓ Try.prog GPrS := ⟨(fun f φ h => by
  unfold GPrS at h
  dsimp only at h
  split at h
  · rename_i hf; cases h; subst hf; exact ⟨⟨_, Try.func69, rfl, rfl⟩, specWordValid_ok⟩
  split at h
  · rename_i hf; cases h; subst hf; exact ⟨⟨_, Try.func59, rfl, rfl⟩, specPatternsValid_ok⟩
  split at h
  · rename_i hf; cases h; subst hf; exact ⟨⟨_, Try.func70, rfl, rfl⟩, specPc_ok⟩
  cases h), (fun f φ h => by
  unfold GPrS at h
  dsimp only at h
  cases h), rfl⟩
theorem GPrS_69 (ob : Objs) (ps : List PV) : evCall GPrS ob 69 ps = (ps.mapM (reify false 0 ob fuel)).bind φWord := by
  have h : GPrS.fn 69 = some φWord := by simp [GPrS]
  unfold evCall
  rw [h]
  cases ps.mapM (reify false 0 ob fuel) <;> rfl
theorem GPrS_59 (ob : Objs) (ps : List PV) : evCall GPrS ob 59 ps = (ps.mapM (reify false 0 ob fuel)).bind φPats := by
  have h : GPrS.fn 59 = some φPats := by simp [GPrS]
  unfold evCall
  rw [h]
  cases ps.mapM (reify false 0 ob fuel) <;> rfl
theorem GPrS_70 (ob : Objs) (ps : List PV) : evCall GPrS ob 70 ps = (ps.mapM (reify false 0 ob fuel)).bind φPc := by
  have h : GPrS.fn 70 = some φPc := by simp [GPrS]
  unfold evCall
  rw [h]
  cases ps.mapM (reify false 0 ob fuel) <;> rfl
set_option maxHeartbeats 16000000 in
theorem specPr_ok : Sound Try.prog 38 φPr := by
  refine sound_pq mixed GPrS_ok Try.func38 rfl 48 rfl [.tmp 4] rfl (by kernel_rfl) fun ps r hr => ?_
  obtain ⟨w, pats, rfl, hq⟩ := F2_some hr
  clear hr
  split at hq
  case isFalse => cases hq
  case isTrue hpre =>
  cases hq
  refine ⟨by simp, ?_⟩
  simp only [dIs, dUs, dSs, dI_e, dU_e, dB_e, dS_e, dFn_e, dL_e, dA2_e, dA3_e, dA4_e, dA5_e]
  have ap1 := φWord_ap (s := w) (by omega)
  have ap2 := φPats_ap hpre.2
  have apc := φPc_ap hpre
  unfold placesV at apc
  unfold partsV
  cases hw : wordB w with
  | false =>
    have hB : hypB w pats = false := by unfold hypB; rw [hw]; rfl
    rw [hw] at ap1
    rw [hB, if_neg (by decide)]
    clear apc hpre hw hB
    have gprs_c69 := GPrS_69; have gprs_c59 := GPrS_59; have gprs_c70 := GPrS_70
    exact wlkF
  | true =>
  cases hp : allPats pats with
  | false =>
    have hB : hypB w pats = false := by unfold hypB; rw [hw, hp]; rfl
    rw [hw] at ap1
    rw [hp] at ap2
    rw [hB, if_neg (by decide)]
    clear apc hpre hw hp hB
    have gprs_c69 := GPrS_69; have gprs_c59 := GPrS_59; have gprs_c70 := GPrS_70
    exact wlkF
  | true =>
    have hB : hypB w pats = true := by unfold hypB; rw [hw, hp]; rfl
    have hok := places_ok (pats := pats) hw
    obtain ⟨-, hw1, hw2⟩ := wordB_letters hw
    rw [hw] at ap1
    rw [hp] at ap2
    rw [hB, if_pos rfl] at apc
    rw [hB, if_pos rfl]
    unfold partsR
    have hfr := frK_rng hok hw1
    generalize placesR w pats = pl at *
    obtain ⟨hl, hat⟩ := hok
    unfold ptR
    have hpl := ptF_len w pl
    clear hB hw hp hpre
    have gprs_c69 := GPrS_69; have gprs_c59 := GPrS_59; have gprs_c70 := GPrS_70
    (refine wlk ?_; intros)
    refine i_loop (α := Nat × Nat × Nat) mixed (fun z => [(0, .val (.string w)), (5, .row z.2.1 1 0 (ptF w pl z.1).length), (6, .lst true 1 (pl.map pvN)), (7, iv (frK pl z.1)), (8, iv z.1)])
      (fun z => [(z.2.1, 9, 1, (ptF w pl z.1).map pvS)]) (fun z => z.2.2)
      (fun z => z.1 ≤ pl.length ∧ z.2.1 < z.2.2) (fun z => pl.length - z.1) (by kernel_rfl) (0, 0, 1) ⟨Nat.zero_le _, by simp⟩ ?_ ?_ rfl ?_
    · simp (disch := (first | omega | (simp only [push_cast]; first | done | omega))) only [push_cast, ↓reduceIte, Nat.reduceEqDiff, Nat.reduceBEq, Nat.reduceAdd, Nat.reduceSub, Int.reduceToNat, ptF, frK, List.length_nil, *]
    · simp (disch := (first | omega | (simp only [push_cast]; first | done | omega))) only [push_cast, ↓reduceIte, Nat.reduceEqDiff, Nat.reduceBEq, Nat.reduceAdd, Nat.reduceSub, Int.reduceToNat, ptF, List.map_nil, *]
    rintro ⟨k, x, y⟩ ⟨hk, hxy⟩
    dsimp only at hk hxy
    have hlk := hpl k
    have hfk := hfr k hk
    by_cases h0 : k < pl.length
    · obtain ⟨a1, a2⟩ := hat k h0
      have hn : ptF w pl (k + 1) = ptF w pl k ++ [w.extract (frK pl k).toNat (pl[k]?.getD 0).toNat] := rfl
      have hf := frK_succ pl k
      replace hn := Lib.hid hn
      replace hf := Lib.hid hf
      generalize ptF w pl k = out at *
      generalize frK pl k = fr at *
      clear hat hpl hfr
      (refine wlk ?_; intros)
      refine ⟨(k + 1, y + 1, y + 2), ⟨by dsimp only; omega, by dsimp only; omega⟩, by dsimp only; omega, ?_, ?_, rfl⟩
      · dsimp only
        rw [hn.out, hf.out]
        exact agr
      · dsimp only
        rw [hn.out]
        exact agr
    · obtain rfl : k = pl.length := by omega
      generalize ptF w pl pl.length = out at *
      generalize frK pl pl.length = fr at *
      clear hat hpl hfr
      exact wlkF
end Go.Proofs.Ytngcedklbinhjaa
namespace Go.Proofs.Ytngcedklbinhjaa
open Go.RowKit
set_option linter.all false
abbrev It := Int × Int × Int × Int × Int × Int × Bool
def it0 : It := (0, 0, 0, 0, 0, 0, false)
abbrev It.kd (x : It) : Int := x.1
abbrev It.wd (x : It) : Int := x.2.1
abbrev It.st (x : It) : Int := x.2.2.1
abbrev It.sh (x : It) : Int := x.2.2.2.1
abbrev It.od (x : It) : Int := x.2.2.2.2.1
abbrev It.cost (x : It) : Int := x.2.2.2.2.2.1
abbrev It.mark (x : It) : Bool := x.2.2.2.2.2.2
abbrev It.gl (x : It) : I4 := (x.2.1, x.2.2.1, x.2.2.2.1, x.2.2.2.2.1)
def glB (g : I4) : Bool := inB g.1 0 1000 && (inB g.2.1 0 1000 && (inB g.2.2.1 0 g.1 && inB g.2.2.2 0 1))
def rigidB (g : I4) : Bool := decide (g.2.1 = 0 ∧ g.2.2.1 = 0 ∧ g.2.2.2 = 0)
def costB (c : Int) : Bool := inB c 0 10000 || decide (c = -10000)
def itB (x : It) : Bool := glB x.gl && ((decide (x.kd = 1) && (rigidB x.gl && decide (x.cost = 0 ∧ x.mark = false))) || ((decide (x.kd = 2) && decide (x.cost = 0 ∧ x.mark = false)) || (decide (x.kd = 3) && (rigidB x.gl && costB x.cost))))
def itemsB (l : List It) : Bool := decide (l.length ≤ 60) && l.all itB
structure ItOk (x : It) : Prop where
  wd : 0 ≤ x.wd ∧ x.wd ≤ 1000
  st : 0 ≤ x.st ∧ x.st ≤ 1000
  sh : 0 ≤ x.sh ∧ x.sh ≤ 1000
  od : x.od = 0 ∨ x.od = 1
  kd : x.kd = 1 ∨ x.kd = 2 ∨ x.kd = 3
  cost : (0 ≤ x.cost ∧ x.cost ≤ 10000) ∨ x.cost = -10000
  mark : x.mark = true → x.kd = 3
theorem itB_ok {x : It} (h : itB x = true) : ItOk x := by
  obtain ⟨kd, wd, st, sh, od, cost, mark⟩ := x
  simp only [itB, glB, rigidB, costB, It.kd, It.gl, It.cost, It.mark, Bool.and_eq_true, Bool.or_eq_true, inB_iff, decide_eq_true_eq] at h
  obtain ⟨⟨h1, h2, h3, h4⟩, h5⟩ := h
  refine ⟨h1, h2, ⟨h3.1, show sh ≤ 1000 by omega⟩, show od = 0 ∨ od = 1 by omega, show kd = 1 ∨ kd = 2 ∨ kd = 3 by omega, show (0 ≤ cost ∧ cost ≤ 10000) ∨ cost = -10000 by omega, fun hm => ?_⟩
  rcases h5 with h5 | h5 | h5
  · rw [h5.2.2.2] at hm; cases hm
  · rw [h5.2.2] at hm; cases hm
  · exact h5.1
theorem items_len {l : List It} (h : itemsB l = true) : l.length ≤ 60 := by
  unfold itemsB at h
  rw [Bool.and_eq_true] at h
  exact of_decide_eq_true h.1
theorem items_at {l : List It} (h : itemsB l = true) {k : Nat} (hk : k < l.length) : ItOk (l[k]?.getD it0) := by
  unfold itemsB at h
  rw [Bool.and_eq_true, List.all_eq_true] at h
  rw [List.getElem?_eq_getElem hk, Option.getD_some]
  exact itB_ok (h.2 _ (List.getElem_mem hk))
abbrev gI (l : List It) (k : Nat) : It := l[k]?.getD it0
def forced (x : It) : Bool := decide (x.kd = 3 ∧ x.cost = -10000)
def brkQ (l : List It) (n : Nat) : Bool := if (gI l n).kd = 2 then decide (0 < n ∧ (gI l (n - 1)).kd = 1) else decide ((gI l n).kd = 3 ∧ (gI l n).cost < 10000)
def stN (l : List It) : Nat → Nat → Nat
  | 0, n => n
  | f + 1, n => if n < l.length ∧ ¬ (gI l n).kd = 1 ∧ forced (gI l n) = false then stN l f (n + 1) else n
def startN (l : List It) (a : Nat) : Nat := stN l (l.length - a) a
theorem stN_go {l : List It} {a : Nat} (h : a < l.length) (h1 : ¬ (gI l a).kd = 1) (h2 : forced (gI l a) = false) : startN l a = startN l (a + 1) := by
  unfold startN
  rw [show l.length - a = (l.length - (a + 1)) + 1 by omega, stN, if_pos ⟨h, h1, h2⟩]
theorem stN_stop {l : List It} {a : Nat} (h : ¬ (a < l.length ∧ ¬ (gI l a).kd = 1 ∧ forced (gI l a) = false)) : startN l a = a := by
  unfold startN
  cases hf : l.length - a with
  | zero => rfl
  | succ f => rw [stN, if_neg h]
theorem stN_rng (l : List It) : ∀ (f n : Nat), n ≤ stN l f n ∧ (n ≤ l.length → stN l f n ≤ l.length)
  | 0, n => ⟨Nat.le_refl _, fun h => h⟩
  | f + 1, n => by
    unfold stN
    split
    · rename_i hc
      have := stN_rng l f (n + 1)
      exact ⟨by omega, fun _ => this.2 (by omega)⟩
    · exact ⟨Nat.le_refl _, fun h => h⟩
theorem startN_rng {l : List It} {a : Nat} : a ≤ startN l a ∧ (a ≤ l.length → startN l a ≤ l.length) := stN_rng l _ a
def noFc (l : List It) (a b : Nat) : Bool := (List.range (b - a)).all fun i => !forced (gI l (a + i))
theorem noFc_nil {l : List It} {a b : Nat} (h : b ≤ a) : noFc l a b = true := by
  unfold noFc
  rw [show b - a = 0 by omega]
  rfl
theorem noFc_succ {l : List It} {a b : Nat} (h : a ≤ b) : noFc l a (b + 1) = (noFc l a b && !forced (gI l b)) := by
  unfold noFc
  rw [show b + 1 - a = (b - a) + 1 by omega, List.range_succ, List.all_append]
  simp [show a + (b - a) = b by omega]
theorem noFc_no {l : List It} {a b k : Nat} (h : noFc l a (k + 1) = false) (ha : a ≤ k) (hk : k < b) : noFc l a b = false := by
  unfold noFc at h ⊢
  rw [List.all_eq_false] at h ⊢
  obtain ⟨i, hi, h1⟩ := h
  have := List.mem_range.1 hi
  exact ⟨i, List.mem_range.2 (by omega), h1⟩
def lineQ (l : List It) (a en : Nat) : Bool := decide (a ≤ en ∧ en < l.length) && (brkQ l en && ((decide (a = 0) || brkQ l (a - 1)) && (decide (startN l a ≤ en) && noFc l a en)))
theorem lineQ_iff {l : List It} {a en : Nat} : lineQ l a en = true ↔ (a ≤ en ∧ en < l.length) ∧ brkQ l en = true ∧ (a = 0 ∨ brkQ l (a - 1) = true) ∧ startN l a ≤ en ∧ noFc l a en = true := by
  simp [lineQ]
def idxL (l : List It) (b c : Nat) : List Int := ((List.range (c - b)).filter fun i => !decide ((gI l (b + i)).kd = 3)).map fun i : Nat => ((b + i : Nat) : Int)
theorem idxL_nil {l : List It} {b c : Nat} (h : c ≤ b) : idxL l b c = [] := by
  unfold idxL
  rw [show c - b = 0 by omega]
  rfl
theorem idxL_yes {l : List It} {b c : Nat} (h : b ≤ c) (hk : ¬ (gI l c).kd = 3) : idxL l b (c + 1) = idxL l b c ++ [(c : Int)] := by
  unfold idxL
  rw [show c + 1 - b = (c - b) + 1 by omega, List.range_succ, List.filter_append, List.map_append]
  simp [show b + (c - b) = c by omega, hk]
  omega
theorem idxL_no {l : List It} {b c : Nat} (h : b ≤ c) (hk : (gI l c).kd = 3) : idxL l b (c + 1) = idxL l b c := by
  unfold idxL
  rw [show c + 1 - b = (c - b) + 1 by omega, List.range_succ, List.filter_append, List.map_append]
  simp [show b + (c - b) = c by omega, hk]
theorem idxL_len (l : List It) (b c : Nat) : (idxL l b c).length ≤ c - b := by
  unfold idxL
  rw [List.length_map]
  exact Nat.le_trans (List.length_filter_le _ _) (by simp)
theorem idxL_mem {l : List It} {b c : Nat} : ∀ x ∈ idxL l b c, (b : Int) ≤ x ∧ x < c ∧ ¬ (gI l x.toNat).kd = 3 := fun x hx => by
  obtain ⟨i, hi, rfl⟩ := List.mem_map.1 hx
  obtain ⟨h1, h2⟩ := List.mem_filter.1 hi
  have h3 := List.mem_range.1 h1
  refine ⟨by omega, by omega, ?_⟩
  rw [Int.toNat_natCast]
  simpa using h2
def g40 : I4 := (0, 0, 0, 0)
def add4 (a b : I4) : I4 :=
  let oa := if a.2.1 = 0 then 0 else a.2.2.2
  let ob := if b.2.1 = 0 then 0 else b.2.2.2
  let o := max oa ob
  (a.1 + b.1, (if oa = o then a.2.1 else 0) + (if ob = o then b.2.1 else 0), a.2.2.1 + b.2.2.1, o)
def totR (gs : List I4) : I4 := gs.foldl add4 g40
theorem totR_snoc (gs : List I4) (g : I4) : totR (gs ++ [g]) = add4 (totR gs) g := by simp [totR, List.foldl_append]
def ordR (gs : List I4) : Int := if gs.any (fun g => decide (g.2.2.2 = 1 ∧ 0 < g.2.1)) = true then 1 else 0
def sumI (gs : List I4) (o : Int) : I4 := gs.foldl (fun t g => (t.1 + g.1, (if g.2.2.2 = o then t.2.1 + g.2.1 else t.2.1), t.2.2.1 + g.2.2.1, o)) (0, 0, 0, o)
theorem sumI_snoc (gs : List I4) (g : I4) (o : Int) : sumI (gs ++ [g]) o = ((sumI gs o).1 + g.1, (if g.2.2.2 = o then (sumI gs o).2.1 + g.2.1 else (sumI gs o).2.1), (sumI gs o).2.2.1 + g.2.2.1, o) := by simp [sumI, List.foldl_append]
theorem sumI_od : ∀ (gs : List I4) (o : Int), (sumI gs o).2.2.2 = o := fun gs o => by
  rcases List.eq_nil_or_concat gs with h | ⟨l, x, h⟩
  · subst h; rfl
  · rw [List.concat_eq_append] at h
    subst h
    rw [sumI_snoc]
structure GOk (g : I4) : Prop where
  wd : 0 ≤ g.1 ∧ g.1 ≤ 1000
  st : 0 ≤ g.2.1 ∧ g.2.1 ≤ 1000
  sh : 0 ≤ g.2.2.1 ∧ g.2.2.1 ≤ 1000
  od : g.2.2.2 = 0 ∨ g.2.2.2 = 1
theorem ItOk.gl {x : It} (h : ItOk x) : GOk x.gl := ⟨h.wd, h.st, h.sh, h.od⟩
theorem ordR_snoc (gs : List I4) (g : I4) : ordR (gs ++ [g]) = if ordR gs = 1 ∨ (g.2.2.2 = 1 ∧ 0 < g.2.1) then 1 else 0 := by
  unfold ordR
  rw [List.any_append]
  cases h : gs.any (fun g => decide (g.2.2.2 = 1 ∧ 0 < g.2.1)) with
  | true => simp
  | false => simp
theorem ordR_or (gs : List I4) : ordR gs = 0 ∨ ordR gs = 1 := by
  unfold ordR
  split
  · exact .inr rfl
  · exact .inl rfl
theorem list_snoc_ind {α : Type} {p : List α → Prop} (h0 : p []) (h1 : ∀ l x, p l → p (l ++ [x])) : ∀ l, p l := fun l => by
  have key : ∀ n, ∀ l : List α, l.length = n → p l := by
    intro n
    induction n with
    | zero => intro l h; rw [List.eq_nil_of_length_eq_zero h]; exact h0
    | succ n ih =>
      intro l h
      rcases List.eq_nil_or_concat l with h2 | ⟨l0, x, h2⟩
      · subst h2; simp at h
      · rw [List.concat_eq_append] at h2
        subst h2
        rw [List.length_append, List.length_singleton] at h
        exact h1 _ _ (ih l0 (by omega))
  exact key _ l rfl
theorem tot_sum : ∀ gs : List I4, (∀ g ∈ gs, GOk g) → totR gs = sumI gs (ordR gs) ∧ (ordR gs = 0 → ∀ g ∈ gs, g.2.2.2 = 1 → g.2.1 = 0) ∧ (ordR gs = 1 → 0 < (totR gs).2.1) ∧ (ordR gs = 0 → (sumI gs 1).2.1 = 0) := by
  refine list_snoc_ind ?_ ?_
  · intro _
    refine ⟨rfl, by simp, fun h => by simp [ordR] at h, fun _ => rfl⟩
  · intro gs g ih hg
    obtain ⟨i1, i2, i3, i4⟩ := ih fun x hx => hg x (List.mem_append.2 (.inl hx))
    have gk := hg g (by simp)
    obtain ⟨w, st, sh, od⟩ := g
    obtain ⟨g1, g2, g3, g4⟩ := gk
    dsimp only at g1 g2 g3 g4
    have hod := sumI_od gs (ordR gs)
    rw [totR_snoc, ordR_snoc, i1]
    rw [i1] at i3
    rcases ordR_or gs with h | h
    · rw [h] at i1 i2 i3 i4 hod ⊢
      have i4 := i4 rfl
      have i2 := i2 rfl
      by_cases hc : od = 1 ∧ 0 < st
      · have hc2 : (0 : Int) = 1 ∨ (od = 1 ∧ 0 < st) := .inr hc
        have hst : ¬ st = 0 := by omega
        rw [if_pos hc2]
        refine ⟨?_, fun q => by simp at q, fun _ => ?_, fun q => by simp at q⟩
        · rw [sumI_snoc, i4]
          unfold add4
          rw [hod, hc.1]
          have e1 : ((sumI gs 0).1 = (sumI gs 1).1) ∧ (sumI gs 0).2.2.1 = (sumI gs 1).2.2.1 := by
            clear i1 i2 i3 i4 hod hg ih
            refine list_snoc_ind (p := fun gs => (sumI gs 0).1 = (sumI gs 1).1 ∧ (sumI gs 0).2.2.1 = (sumI gs 1).2.2.1) ⟨rfl, rfl⟩ (fun l x hx => ?_) gs
            rw [sumI_snoc, sumI_snoc]
            exact ⟨by dsimp only; rw [hx.1], by dsimp only; rw [hx.2]⟩
          have hm01 : max (0 : Int) 1 = 1 := by decide
          simp [e1.1, e1.2, hst, hm01]
        · unfold add4
          rw [hod, hc.1]
          simp [hst]
          omega
      · have hc2 : ¬ ((0 : Int) = 1 ∨ (od = 1 ∧ 0 < st)) := by omega
        rw [if_neg hc2]
        have hz : od = 1 → st = 0 := by omega
        refine ⟨?_, fun _ => ?_, fun q => by simp at q, fun _ => ?_⟩
        · rw [sumI_snoc]
          unfold add4
          rw [hod]
          by_cases hs : st = 0
          · simp [hs]
          · have h0 : od = 0 := by omega
            simp [hs, h0]
        · intro x hx
          rcases List.mem_append.1 hx with hx | hx
          · exact i2 x hx
          · rw [List.mem_singleton.1 hx]
            exact hz
        · rw [sumI_snoc, i4]
          dsimp only
          split
          · rename_i h1
            rw [hz h1]; rfl
          · rfl
    · rw [h] at i1 i3 hod ⊢
      have i3 := i3 rfl
      rw [if_pos (.inl rfl)]
      have hne : ¬ (sumI gs 1).2.1 = 0 := by omega
      refine ⟨?_, fun q => by simp at q, fun _ => ?_, fun q => by simp at q⟩
      · rw [sumI_snoc]
        unfold add4
        rw [hod, if_neg hne]
        by_cases hs : st = 0
        · simp [hs]
          omega
        · rcases g4 with h0 | h0
          · simp [hs, h0]
            omega
          · simp [hs, h0]
      · unfold add4
        rw [hod, if_neg hne]
        dsimp only
        have : max 1 (if st = 0 then (0 : Int) else od) = 1 := by
          split <;> omega
        rw [this, if_pos rfl]
        split <;> omega
theorem tot_rng : ∀ gs : List I4, (∀ g ∈ gs, GOk g) → (0 ≤ (totR gs).1 ∧ (totR gs).1 ≤ 1000 * gs.length) ∧ (0 ≤ (totR gs).2.1 ∧ (totR gs).2.1 ≤ 1000 * gs.length) ∧ (0 ≤ (totR gs).2.2.1 ∧ (totR gs).2.2.1 ≤ 1000 * gs.length) ∧ ((totR gs).2.2.2 = 0 ∨ (totR gs).2.2.2 = 1) := by
  refine list_snoc_ind ?_ ?_
  · intro _
    exact ⟨by decide, by decide, by decide, by decide⟩
  · intro gs g ih hg
    obtain ⟨i1, i2, i3, i4⟩ := ih fun x hx => hg x (List.mem_append.2 (.inl hx))
    have gk := hg g (by simp)
    obtain ⟨w, st, sh, od⟩ := g
    obtain ⟨g1, g2, g3, g4⟩ := gk
    dsimp only at g1 g2 g3 g4
    rw [totR_snoc, List.length_append, List.length_singleton]
    generalize totR gs = t at *
    obtain ⟨tw, ts, th, en⟩ := t
    dsimp only at i1 i2 i3 i4
    unfold add4
    dsimp only
    push_cast
    refine ⟨by omega, ?_, by omega, ?_⟩
    · (repeat' split) <;> omega
    · (repeat' split) <;> omega
def badR (need room : Int) : Int := if need = 0 then 0 else if room = 0 ∨ 10 * room < need then 10000 else min 10000 (100 * need * need * need / (room * room * room))
theorem cube_big {n r : Int} (h0 : 0 < r) (h : 5 * r < n) : 10000 ≤ 100 * n * n * n / (r * r * r) := by
  have hr : 0 < r * r * r := Int.mul_pos (Int.mul_pos h0 h0) h0
  rw [Int.le_ediv_iff_mul_le hr]
  have h1 : (5 * r) * (5 * r) ≤ n * n := Int.mul_le_mul (by omega) (by omega) (by omega) (by omega)
  have h2 : (5 * r) * (5 * r) * (5 * r) ≤ n * n * n := Int.mul_le_mul h1 (by omega) (by omega) (Int.mul_nonneg (by omega) (by omega))
  have e1 : (5 * r) * (5 * r) * (5 * r) = 125 * (r * r * r) := by
    rw [show 5 * r * (5 * r) * (5 * r) = (5 * 5 * 5) * (r * r * r) by simp only [Int.mul_assoc, Int.mul_left_comm r 5]]
    rfl
  have e2 : 100 * n * n * n = 100 * (n * n * n) := by simp only [Int.mul_assoc]
  rw [e2]
  omega
theorem badR_five {need room : Int} (hn : 0 ≤ need) (hr : 0 ≤ room) : badR need room = if need = 0 then 0 else if room = 0 ∨ 5 * room < need then 10000 else min 10000 (100 * need * need * need / (room * room * room)) := by
  unfold badR
  split
  · rfl
  · split
    · rename_i h1
      rw [if_pos (by omega)]
    · split
      · have := cube_big (n := need) (r := room) (by omega) (by omega)
        omega
      · rfl
def looksR (s : Bool) (bad : Int) : Int := if bad ≤ 12 then 1 else if s = false then 0 else if bad < 100 then 2 else 3
theorem looksR_rng (s : Bool) (bad : Int) : 0 ≤ looksR s bad ∧ looksR s bad ≤ 3 := by
  unfold looksR
  repeat' split
  all_goals omega
def costR (bad cost : Int) : Int := (10 + bad) * (10 + bad) + (if cost = -10000 then 0 else cost * cost)
theorem costR_rng {bad cost : Int} (h : 0 ≤ bad ∧ bad ≤ 10000) (h2 : (0 ≤ cost ∧ cost ≤ 10000) ∨ cost = -10000) : 0 ≤ costR bad cost ∧ costR bad cost ≤ 300000000 := by
  have h3 : 0 ≤ (10 + bad) * (10 + bad) := Int.mul_nonneg (by omega) (by omega)
  have h4 : (10 + bad) * (10 + bad) ≤ 10010 * 10010 := Int.mul_le_mul (by omega) (by omega) (by omega) (by omega)
  unfold costR
  split
  · omega
  · have h5 : 0 ≤ cost * cost := Int.mul_nonneg (by omega) (by omega)
    have h6 : cost * cost ≤ 10000 * 10000 := Int.mul_le_mul (by omega) (by omega) (by omega) (by omega)
    omega
def gluesL (l : List It) (a en : Nat) : List I4 := ((idxL l (startN l a) en).map fun n : Int => (gI l n.toNat).gl) ++ (if (gI l en).kd = 3 then [(gI l en).gl] else [])
def badG (g : I4) (wd : Int) : Int × Bool := if g.1 ≤ wd then (if g.2.2.2 = 1 then (0, true) else (badR (wd - g.1) g.2.1, true)) else if g.1 - wd ≤ g.2.2.1 then (badR (g.1 - wd) g.2.2.1, false) else (-1, false)
def badL (l : List It) (wd : Int) (a en : Nat) : Int × Bool := badG (totR (gluesL l a en)) wd
def lineR (l : List It) (wd most : Int) (a en : Nat) : Option (Int × Int) :=
  if lineQ l a en = true ∧ 0 ≤ (badL l wd a en).1 ∧ (badL l wd a en).1 ≤ most then some (costR (badL l wd a en).1 (gI l en).cost, looksR (badL l wd a en).2 (badL l wd a en).1) else none
def betwR (l : List It) (a en : Nat) (before looks : Int) : Int :=
  (if 0 < a ∧ (gI l (a - 1)).mark = true ∧ (gI l en).mark = true then 3000 else 0) + (if 0 < a ∧ (1 < before - looks ∨ before - looks < -1) then 3000 else 0)
theorem betwR_rng (l : List It) (a en : Nat) (b k : Int) : 0 ≤ betwR l a en b k ∧ betwR l a en b k ≤ 6000 := by
  unfold betwR
  repeat' split
  all_goals omega
abbrev Ch := Int × Nat × Int
def bestStep (l : List It) (wd most : Int) (a : Nat) (lk : Int) (rest : Nat → Int → Option Ch) (acc : Option Ch) (en : Nat) : Option Ch :=
  match lineR l wd most a en with
  | none => acc
  | some (c, k) => match rest (en + 1) k with
    | none => acc
    | some r => if acc.all (fun x => decide (c + betwR l a en lk k + r.1 < x.1)) = true then some (c + betwR l a en lk k + r.1, en, k) else acc
def bestTo (l : List It) (wd most : Int) (a : Nat) (lk : Int) (rest : Nat → Int → Option Ch) : Nat → Option Ch
  | 0 => none
  | j + 1 => bestStep l wd most a lk rest (bestTo l wd most a lk rest j) (l.length - (j + 1))
def bestF (l : List It) (wd most : Int) : Nat → Nat → Int → Option Ch
  | 0, _, _ => some (0, 0, 0)
  | f + 1, a, lk => if a = l.length then some (0, 0, 0) else bestTo l wd most a lk (bestF l wd most f) (l.length - a)
def bestA (l : List It) (wd most : Int) (a : Nat) (lk : Int) : Option Ch := bestF l wd most (l.length - a) a lk
theorem bestTo_congr {l : List It} {wd most : Int} {a : Nat} {lk : Int} {r r' : Nat → Int → Option Ch} : ∀ j, (∀ b k, l.length - j < b → b ≤ l.length → r b k = r' b k) → j ≤ l.length → bestTo l wd most a lk r j = bestTo l wd most a lk r' j
  | 0, _, _ => rfl
  | j + 1, h, hj => by
    rw [bestTo, bestTo, bestTo_congr j (fun b k h1 h2 => h b k (by omega) h2) (by omega)]
    unfold bestStep
    cases lineR l wd most a (l.length - (j + 1)) with
    | none => rfl
    | some c => dsimp only; rw [h _ _ (by omega) (by omega)]
theorem bestF_fuel {l : List It} {wd most : Int} : ∀ (f f' a : Nat) (lk : Int), l.length - a ≤ f → l.length - a ≤ f' → a ≤ l.length → bestF l wd most f a lk = bestF l wd most f' a lk
  | 0, f', a, lk, h, h', ha => by
    have : a = l.length := by omega
    subst this
    cases f' with
    | zero => rfl
    | succ f' => rw [bestF, bestF, if_pos rfl]
  | f + 1, 0, a, lk, h, h', ha => by
    have : a = l.length := by omega
    subst this
    rw [bestF, bestF, if_pos rfl]
  | f + 1, f' + 1, a, lk, h, h', ha => by
    rw [bestF, bestF]
    split
    · rfl
    · exact bestTo_congr _ (fun b k h1 h2 => bestF_fuel f f' b k (by omega) (by omega) h2) (by omega)
theorem bestA_end (l : List It) (wd most lk : Int) : bestA l wd most l.length lk = some (0, 0, 0) := by
  unfold bestA
  rw [Nat.sub_self]
  rfl
theorem bestA_eq {l : List It} {wd most lk : Int} {a : Nat} (h : a < l.length) : bestA l wd most a lk = bestTo l wd most a lk (bestA l wd most) (l.length - a) := by
  unfold bestA
  obtain ⟨f, hf⟩ : ∃ f, l.length - a = f + 1 := ⟨l.length - a - 1, by omega⟩
  conv => lhs; rw [hf]
  rw [bestF, if_neg (by omega)]
  exact bestTo_congr _ (fun b k h1 h2 => bestF_fuel _ _ _ _ (by omega) (by omega) h2) (by omega)
end Go.Proofs.Ytngcedklbinhjaa
namespace Go.Proofs.Ytngcedklbinhjaa
open Go.RowKit
set_option linter.all false
theorem lineR_some {l : List It} {wd most : Int} {a en : Nat} {x : Int × Int} (h : lineR l wd most a en = some x) : lineQ l a en = true ∧ (0 ≤ (badL l wd a en).1 ∧ (badL l wd a en).1 ≤ most) ∧ x = (costR (badL l wd a en).1 (gI l en).cost, looksR (badL l wd a en).2 (badL l wd a en).1) := by
  unfold lineR at h
  split at h
  · rename_i hc
    cases h
    exact ⟨hc.1, hc.2, rfl⟩
  · cases h
theorem lineR_rng {l : List It} {wd most : Int} {a en : Nat} {x : Int × Int} (hl : itemsB l = true) (hm : most ≤ 10000) (h : lineR l wd most a en = some x) : (a ≤ en ∧ en < l.length) ∧ (0 ≤ x.1 ∧ x.1 ≤ 300000000) ∧ 0 ≤ x.2 ∧ x.2 ≤ 3 := by
  obtain ⟨h1, h2, rfl⟩ := lineR_some h
  obtain ⟨h3, -⟩ := lineQ_iff.1 h1
  exact ⟨h3, costR_rng ⟨h2.1, by omega⟩ (items_at hl h3.2).cost, looksR_rng _ _⟩
theorem bestStep_none {l : List It} {wd most : Int} {a : Nat} {lk : Int} {rest : Nat → Int → Option Ch} {acc : Option Ch} {en : Nat} (h : lineR l wd most a en = none) : bestStep l wd most a lk rest acc en = acc := by
  unfold bestStep
  rw [h]
theorem bestStep_dead {l : List It} {wd most : Int} {a : Nat} {lk : Int} {rest : Nat → Int → Option Ch} {acc : Option Ch} {en : Nat} {c k : Int} (h : lineR l wd most a en = some (c, k)) (h2 : rest (en + 1) k = none) : bestStep l wd most a lk rest acc en = acc := by
  unfold bestStep
  rw [h]
  dsimp only
  rw [h2]
theorem bestStep_some {l : List It} {wd most : Int} {a : Nat} {lk : Int} {rest : Nat → Int → Option Ch} {acc : Option Ch} {en : Nat} {c k : Int} {r : Ch} (h : lineR l wd most a en = some (c, k)) (h2 : rest (en + 1) k = some r) :
    bestStep l wd most a lk rest acc en = if acc.all (fun x => decide (c + betwR l a en lk k + r.1 < x.1)) = true then some (c + betwR l a en lk k + r.1, en, k) else acc := by
  unfold bestStep
  rw [h]
  dsimp only
  rw [h2]
def ChOk (l : List It) (wd most : Int) (a : Nat) (lk : Int) (rest : Nat → Int → Option Ch) (j : Nat) (x : Ch) : Prop :=
  ∃ c0 r, lineR l wd most a x.2.1 = some (c0, x.2.2) ∧ rest (x.2.1 + 1) x.2.2 = some r ∧ x.1 = c0 + betwR l a x.2.1 lk x.2.2 + r.1 ∧ l.length - j ≤ x.2.1 ∧ x.2.1 < l.length
theorem bestTo_some {l : List It} {wd most : Int} {a : Nat} {lk : Int} {rest : Nat → Int → Option Ch} {x : Ch} : ∀ j, 0 < l.length → bestTo l wd most a lk rest j = some x → ChOk l wd most a lk rest j x
  | 0, _, h => by cases h
  | j + 1, hp, h => by
    have ih := @bestTo_some l wd most a lk rest x j hp
    have wk : ChOk l wd most a lk rest j x → ChOk l wd most a lk rest (j + 1) x := fun ⟨c0, r, h1, h2, h3, h4, h5⟩ => ⟨c0, r, h1, h2, h3, by omega, h5⟩
    rw [bestTo] at h
    cases hL : lineR l wd most a (l.length - (j + 1)) with
    | none => rw [bestStep_none hL] at h; exact wk (ih h)
    | some c =>
      obtain ⟨c, k⟩ := c
      cases hr : rest (l.length - (j + 1) + 1) k with
      | none => rw [bestStep_dead hL hr] at h; exact wk (ih h)
      | some r =>
        rw [bestStep_some hL hr] at h
        split at h
        · cases h
          exact ⟨c, r, hL, hr, rfl, Nat.le_refl _, by dsimp only; omega⟩
        · exact wk (ih h)
theorem bestA_some {l : List It} {wd most lk : Int} {a : Nat} {x : Ch} (h : a < l.length) (hx : bestA l wd most a lk = some x) : ChOk l wd most a lk (bestA l wd most) (l.length - a) x := by
  rw [bestA_eq h] at hx
  exact bestTo_some _ (by omega) hx
theorem bestA_rng {l : List It} {wd most : Int} (hl : itemsB l = true) (hm : most ≤ 10000) : ∀ (n a : Nat) (lk : Int) (x : Ch), l.length - a = n → a ≤ l.length → bestA l wd most a lk = some x → 0 ≤ x.1 ∧ x.1 ≤ 306000000 * n
  | 0, a, lk, x, hn, ha, h => by
    have : a = l.length := by omega
    subst this
    rw [bestA_end] at h
    cases h
    exact ⟨by decide, by simp⟩
  | n + 1, a, lk, x, hn, ha, h => by
    obtain ⟨c0, r, h1, h2, h3, h4, h5⟩ := bestA_some (by omega) h
    obtain ⟨g1, g2, g3⟩ := lineR_rng hl hm h1
    have hb := betwR_rng l a x.2.1 lk x.2.2
    have ih := bestA_rng hl hm (l.length - (x.2.1 + 1)) (x.2.1 + 1) _ r rfl (by omega) h2
    dsimp only at g2
    push_cast
    omega
theorem bestTo_rng {l : List It} {wd most : Int} (hl : itemsB l = true) (hm : most ≤ 10000) {a : Nat} {lk : Int} {j : Nat} {x : Ch} (ha : a < l.length) (h : bestTo l wd most a lk (bestA l wd most) j = some x) : (0 ≤ x.1 ∧ x.1 ≤ 20000000000) ∧ x.2.1 < l.length ∧ 0 ≤ x.2.2 ∧ x.2.2 ≤ 3 := by
  obtain ⟨c0, r, h1, h2, h3, h4, h5⟩ := bestTo_some j (by omega) h
  obtain ⟨g1, g2, g3⟩ := lineR_rng hl hm h1
  have hb := betwR_rng l a x.2.1 lk x.2.2
  have ih := bestA_rng hl hm _ _ _ r rfl (by omega) h2
  have := items_len hl
  dsimp only at g2 g3
  exact ⟨by omega, h5, g3⟩
theorem bestA_bound {l : List It} {wd most : Int} (hl : itemsB l = true) (hm : most ≤ 10000) {a : Nat} {lk : Int} {x : Ch} (ha : a ≤ l.length) (h : bestA l wd most a lk = some x) : (0 ≤ x.1 ∧ x.1 ≤ 20000000000) ∧ (a < l.length → (a ≤ x.2.1 ∧ x.2.1 < l.length) ∧ 0 ≤ x.2.2 ∧ x.2.2 ≤ 3) := by
  have h1 := bestA_rng hl hm _ a lk x rfl ha h
  have := items_len hl
  refine ⟨by omega, fun h2 => ?_⟩
  obtain ⟨c0, r, g1, g2, g3, g4, g5⟩ := bestA_some h2 h
  obtain ⟨k1, k2, k3⟩ := lineR_rng hl hm g1
  exact ⟨k1, k3⟩
theorem lineR_nobreak {l : List It} {wd most : Int} {a en : Nat} (h0 : 0 < a) (h : brkQ l (a - 1) = false) : lineR l wd most a en = none := by
  unfold lineR
  rw [if_neg]
  rintro ⟨h1, -⟩
  obtain ⟨-, -, h2, -⟩ := lineQ_iff.1 h1
  rcases h2 with h2 | h2
  · omega
  · rw [h] at h2; cases h2
theorem bestTo_nobreak {l : List It} {wd most : Int} {a : Nat} {lk : Int} {rest : Nat → Int → Option Ch} (h0 : 0 < a) (h : brkQ l (a - 1) = false) : ∀ j, bestTo l wd most a lk rest j = none
  | 0 => rfl
  | j + 1 => by rw [bestTo, bestStep_none (lineR_nobreak h0 h), bestTo_nobreak h0 h j]
theorem bestA_nobreak {l : List It} {wd most lk : Int} {a : Nat} (ha : a < l.length) (h0 : 0 < a) (h : brkQ l (a - 1) = false) : bestA l wd most a lk = none := by
  rw [bestA_eq ha, bestTo_nobreak h0 h]
theorem bestTo_first {l : List It} {wd most lk lk' : Int} {rest : Nat → Int → Option Ch} : ∀ j, bestTo l wd most 0 lk rest j = bestTo l wd most 0 lk' rest j
  | 0 => rfl
  | j + 1 => by
    rw [bestTo, bestTo, bestTo_first (lk := lk) (lk' := lk') j]
    have : ∀ en k, betwR l 0 en lk k = betwR l 0 en lk' k := fun en k => by simp [betwR]
    unfold bestStep
    simp only [this]
theorem bestA_first {l : List It} {wd most : Int} (lk lk' : Int) : bestA l wd most 0 lk = bestA l wd most 0 lk' := by
  by_cases h : 0 < l.length
  · rw [bestA_eq h, bestA_eq h, bestTo_first (lk := lk) (lk' := lk')]
  · unfold bestA
    rw [show l.length - 0 = 0 by omega]
    rfl
def bkF (l : List It) (wd most : Int) : Nat → Nat → Int → List Int
  | 0, _, _ => []
  | f + 1, a, lk => if a = l.length then [] else match bestA l wd most a lk with
    | none => []
    | some r => (r.2.1 : Int) :: bkF l wd most f (r.2.1 + 1) r.2.2
def brkList (l : List It) (wd most : Int) : List Int := bkF l wd most (l.length + 1) 0 1
def brkOk (l : List It) (wd most : Int) : Bool := itemsB l && (decide (0 < l.length) && (inB wd 0 1000 && (inB most 0 10000 && (bestA l wd most 0 1).isSome)))
def brkR (l : List It) (wd most : Int) : List Int := if brkOk l wd most = true then brkList l wd most else []
theorem brkOk_iff {l : List It} {wd most : Int} : brkOk l wd most = true ↔ itemsB l = true ∧ 0 < l.length ∧ (0 ≤ wd ∧ wd ≤ 1000) ∧ (0 ≤ most ∧ most ≤ 10000) ∧ (bestA l wd most 0 1).isSome = true := by
  simp [brkOk, inB_iff]
theorem bkF_step {l : List It} {wd most : Int} {f a : Nat} {lk : Int} {r : Ch} (h : ¬ a = l.length) (hr : bestA l wd most a lk = some r) : bkF l wd most (f + 1) a lk = (r.2.1 : Int) :: bkF l wd most f (r.2.1 + 1) r.2.2 := by
  rw [bkF, if_neg h, hr]
theorem bkF_end {l : List It} {wd most : Int} {f : Nat} {lk : Int} : bkF l wd most f l.length lk = [] := by
  cases f with
  | zero => rfl
  | succ f => rw [bkF, if_pos rfl]
theorem bkF_len {l : List It} {wd most : Int} (hl : itemsB l = true) (hm : most ≤ 10000) : ∀ (f a : Nat) (lk : Int), a ≤ l.length → (bkF l wd most f a lk).length ≤ l.length - a
  | 0, a, lk, _ => by simp [bkF]
  | f + 1, a, lk, ha => by
    by_cases h : a = l.length
    · subst h; rw [bkF_end]; simp
    · cases hr : bestA l wd most a lk with
      | none => rw [bkF, if_neg h, hr]; simp
      | some r =>
        obtain ⟨h1, h2⟩ := bestA_bound hl hm ha hr
        have h2 := h2 (by omega)
        rw [bkF_step h hr, List.length_cons]
        have := bkF_len (wd := wd) hl hm f (r.2.1 + 1) r.2.2 (by omega)
        omega
theorem bestA_next {l : List It} {wd most : Int} {a : Nat} {lk : Int} {r : Ch} (ha : a < l.length) (hr : bestA l wd most a lk = some r) : ∃ x c0, bestA l wd most (r.2.1 + 1) r.2.2 = some x ∧ lineR l wd most a r.2.1 = some (c0, r.2.2) := by
  obtain ⟨c0, x, g1, g2, -⟩ := bestA_some ha hr
  exact ⟨x, c0, g2, g1⟩
def nbX (l : List It) (n : Nat) : Nat := ((l.take n).filter fun x => decide (x.kd = 1)).length
theorem nbX_yes {l : List It} {n : Nat} (h : n < l.length) (hk : (gI l n).kd = 1) : nbX l (n + 1) = nbX l n + 1 := by
  unfold nbX
  rw [List.take_succ_eq_append_getElem h, List.filter_append, List.length_append]
  have e : gI l n = l[n] := by unfold gI; rw [List.getElem?_eq_getElem h, Option.getD_some]
  rw [e] at hk
  simp [hk]
theorem nbX_no {l : List It} {n : Nat} (h : n < l.length) (hk : ¬ (gI l n).kd = 1) : nbX l (n + 1) = nbX l n := by
  unfold nbX
  rw [List.take_succ_eq_append_getElem h, List.filter_append, List.length_append]
  have e : gI l n = l[n] := by unfold gI; rw [List.getElem?_eq_getElem h, Option.getD_some]
  rw [e] at hk
  simp [hk]
def lnStep (l : List It) (tx : LS) (s : ByteArray) (n : Nat) : ByteArray :=
  if (gI l n).kd = 1 then s ++ (tx[nbX l n]?.getD .empty) else if (gI l n).kd = 2 ∧ 0 < (gI l n).wd ∧ ¬ s = ⟨#[]⟩ then s ++ ⟨#[32]⟩ else s
instance : DecidableEq ByteArray := inferInstance
def lnT (l : List It) (tx : LS) (a : Nat) : Nat → ByteArray
  | 0 => ⟨#[]⟩
  | j + 1 => lnStep l tx (lnT l tx a j) (a + j)
def lnR (l : List It) (tx : LS) (a en : Nat) : ByteArray := if (gI l en).mark = true then lnT l tx a (en - a) ++ ⟨#[45]⟩ else lnT l tx a (en - a)
end Go.Proofs.Ytngcedklbinhjaa
namespace Go.Proofs.Ytngcedklbinhjaa
open Go.RowKit
set_option linter.all false
def dA7 {α β γ δ ε ζ η : Type} (A : Dec α) (B : Dec β) (C : Dec γ) (D : Dec δ) (E : Dec ε) (F : Dec ζ) (G : Dec η) : Dec (α × β × γ × δ × ε × ζ × η) where
  d := fun | .agg [p, q, r, s, t, u, v] => (A.d p).bind fun a => (B.d q).bind fun b => (C.d r).bind fun c => (D.d s).bind fun d => (E.d t).bind fun e => (F.d u).bind fun f => (G.d v).map fun g => (a, b, c, d, e, f, g) | _ => none
  e := fun x => .agg [A.e x.1, B.e x.2.1, C.e x.2.2.1, D.e x.2.2.2.1, E.e x.2.2.2.2.1, F.e x.2.2.2.2.2.1, G.e x.2.2.2.2.2.2]
  h := fun p a h => by
    split at h
    · simp only [Option.bind_eq_some_iff, Option.map_eq_some_iff] at h
      obtain ⟨x, h1, y, h2, z, h3, t, h4, u, h5, v, h6, w, h7, rfl⟩ := h
      rw [A.h _ _ h1, B.h _ _ h2, C.h _ _ h3, D.h _ _ h4, E.h _ _ h5, F.h _ _ h6, G.h _ _ h7]
    · cases h
  h' := fun a => by simp [A.h', B.h', C.h', D.h', E.h', F.h', G.h']
theorem dA7_e {α β γ δ ε ζ η : Type} (A : Dec α) (B : Dec β) (C : Dec γ) (D : Dec δ) (E : Dec ε) (F : Dec ζ) (G : Dec η) : (dA7 A B C D E F G).e = fun x => .agg [A.e x.1, B.e x.2.1, C.e x.2.2.1, D.e x.2.2.2.1, E.e x.2.2.2.2.1, F.e x.2.2.2.2.2.1, G.e x.2.2.2.2.2.2] := rfl
abbrev dIt : Dec It := dA7 dI dI dI dI dI dI dB
abbrev dIts : Dec (List It) := dL 7 dIt
abbrev pvIt (x : It) : PV := .agg [.val (.int .i64 x.1), .val (.int .i64 x.2.1), .val (.int .i64 x.2.2.1), .val (.int .i64 x.2.2.2.1), .val (.int .i64 x.2.2.2.2.1), .val (.int .i64 x.2.2.2.2.2.1), .val (.bool x.2.2.2.2.2.2)]
section
variable {β : Type} {n sz f i : Nat} {ob : Objs} {k fr : Bool} {l : List It}
theorem get_it {g : It → PV} (h : i < l.length) : ((l[i]?).map g).getD .dead = g ((l[i]?).getD it0) := by simp [h]
theorem omg_it {g : It → β} (h : i < l.length) : Option.map g l[i]? = some (g ((l[i]?).getD it0)) := by simp [h]
theorem reifyS_it : reify false n ob (f + 3) (.lst k sz (l.map pvIt)) = some (.lst false sz (l.map pvIt)) := reifyS_flat fun _ => rfl
theorem reifyT_it : reify true n ob (f + 3) (.lst true sz (l.map pvIt)) = some (.lst true sz (l.map pvIt)) := reifyT_flat fun _ => rfl
theorem rowRe_it {m T : Nat} (hm : m = l.length) : rowRe fr (f + 2) ob sz 0 m (some (T, sz, l.map pvIt)) = some (.lst fr sz (l.map pvIt)) := rowRe_flat (fun _ => rfl) hm
end
attribute [push_cast]
  get_it omg_it reifyS_it reifyT_it rowRe_it
abbrev okIts (l : List It) : Prop := l.length ≤ 1000
noncomputable def φGl4 : Fun := F1 dI4 fun g => some (bv (glB g))
theorem φGl4_ap {a b c d : Int} : φGl4 [.agg [.val (.int .i64 a), .val (.int .i64 b), .val (.int .i64 c), .val (.int .i64 d)]] = some (.val (.bool (glB (a, b, c, d)))) := F1_ap (A := dI4) (a, b, c, d)
noncomputable def GGl4I : Ctx := { fn := fun f => if f = 57 then some φIn else none, io := fun f => none }
theorem GGl4I_ok : SoundΓ Try.prog GGl4I := ⟨(fun f φ h => by
  unfold GGl4I at h
  dsimp only at h
  split at h
  · rename_i hf; cases h; subst hf; exact ⟨⟨_, Try.func57, rfl, rfl⟩, in_ok⟩
  cases h), (fun f φ h => by
  unfold GGl4I at h
  dsimp only at h
  cases h), rfl⟩
theorem GGl4I_57 (ob : Objs) (ps : List PV) : evCall GGl4I ob 57 ps = (ps.mapM (reify false 0 ob fuel)).bind φIn := by
  have h : GGl4I.fn 57 = some φIn := by simp [GGl4I]
  unfold evCall
  rw [h]
  cases ps.mapM (reify false 0 ob fuel) <;> rfl
set_option maxHeartbeats 4000000 in
theorem implGl4_ok : Sound Try.prog 35 φGl4 := by
  refine sound_pq mixed GGl4I_ok Try.func35 rfl 23 rfl [.tmp 2] rfl (by kernel_rfl) fun ps r hr => ?_
  obtain ⟨⟨a, b, c, d⟩, rfl, hr⟩ := F1_some hr
  cases hr
  refine ⟨by simp, ?_⟩
  simp only [dIs, dUs, dSs, dI_e, dU_e, dB_e, dS_e, dFn_e, dL_e, dA2_e, dA3_e, dA4_e, dA5_e]
  have ggl4i_c57 := GGl4I_57; have ap := φIn_ap
  repeat' (first | (with_reducible first | apply i_seq | apply i_block | apply i_skip | apply i_exit | apply i_ret | apply i_kS | apply i_kSx | apply i_kSr | apply i_kL | apply i_kLx | apply i_kLr | apply i_kB | apply i_kBr | apply i_kBs | apply i_nil) | ((with_reducible apply i_region); (simp only [List.map_cons, List.map_nil] <;> exact rfl)) | ((with_reducible apply i_draw); (simp only [List.map_cons, List.map_nil] <;> exact rfl); decide +kernel) | ((with_reducible apply i_kBo); rfl) | ((first | ((with_reducible apply i_V); rfl; rfl; rfl) | ((first | ((with_reducible apply i_E); rfl) | ((with_reducible apply i_S); rfl)); first | rfl | (simp only [push_cast, ↓reduceIte])) | ((with_reducible apply i_Vq); rfl; rfl) | ((with_reducible apply i_Vp); rfl; rfl; rfl) | (with_reducible first | apply i_Gb | apply i_cond)); (simp (disch := (first | omega | (simp only [push_cast]; first | done | omega))) only [push_cast, ↓reduceIte, Nat.reduceEqDiff, Nat.reduceBEq, Nat.reduceAdd, Nat.reduceSub, Int.reduceToNat, *] <;> with_reducible exact rfl); all_goals try (first | (with_reducible first | refine hyT ?_ | refine hyF ?_ | exact hyA | exact hyB) | (intro hX; first | (cases hX; done) | ((try simp only [decide_eq_true_eq, decide_eq_false_iff_not, Bool.not_eq_true', Bool.not_eq_false'] at hX); (try have hXb := inB_iff.1 hX))))))
  all_goals ((first | apply i_end | apply i_endN); simp (disch := (first | omega | (simp only [push_cast]; first | done | omega))) only [push_cast, ↓reduceIte, Nat.reduceEqDiff, Nat.reduceBEq, Nat.reduceAdd, Nat.reduceSub, Int.reduceToNat, *])
  all_goals simp_all [glB]
noncomputable def GGl4S : Ctx := { fn := fun f => if f = 62 then some φIn else none, io := fun f => none }
theorem GGl4S_ok : SoundΓ Try.prog GGl4S := ⟨(fun f φ h => by
  unfold GGl4S at h
  dsimp only at h
  split at h
  · rename_i hf; cases h; subst hf; exact ⟨⟨_, Try.func62, rfl, rfl⟩, l1In_ok⟩
  cases h), (fun f φ h => by
  unfold GGl4S at h
  dsimp only at h
  cases h), rfl⟩
theorem GGl4S_62 (ob : Objs) (ps : List PV) : evCall GGl4S ob 62 ps = (ps.mapM (reify false 0 ob fuel)).bind φIn := by
  have h : GGl4S.fn 62 = some φIn := by simp [GGl4S]
  unfold evCall
  rw [h]
  cases ps.mapM (reify false 0 ob fuel) <;> rfl
set_option maxHeartbeats 4000000 in
theorem specGl4_ok : Sound Try.prog 103 φGl4 := by
  refine sound_pq mixed GGl4S_ok Try.func103 rfl 23 rfl [.tmp 2] rfl (by kernel_rfl) fun ps r hr => ?_
  obtain ⟨⟨a, b, c, d⟩, rfl, hr⟩ := F1_some hr
  cases hr
  refine ⟨by simp, ?_⟩
  simp only [dIs, dUs, dSs, dI_e, dU_e, dB_e, dS_e, dFn_e, dL_e, dA2_e, dA3_e, dA4_e, dA5_e]
  have ggl4s_c62 := GGl4S_62; have ap := φIn_ap
  repeat' (first | (with_reducible first | apply i_seq | apply i_block | apply i_skip | apply i_exit | apply i_ret | apply i_kS | apply i_kSx | apply i_kSr | apply i_kL | apply i_kLx | apply i_kLr | apply i_kB | apply i_kBr | apply i_kBs | apply i_nil) | ((with_reducible apply i_region); (simp only [List.map_cons, List.map_nil] <;> exact rfl)) | ((with_reducible apply i_draw); (simp only [List.map_cons, List.map_nil] <;> exact rfl); decide +kernel) | ((with_reducible apply i_kBo); rfl) | ((first | ((with_reducible apply i_V); rfl; rfl; rfl) | ((first | ((with_reducible apply i_E); rfl) | ((with_reducible apply i_S); rfl)); first | rfl | (simp only [push_cast, ↓reduceIte])) | ((with_reducible apply i_Vq); rfl; rfl) | ((with_reducible apply i_Vp); rfl; rfl; rfl) | (with_reducible first | apply i_Gb | apply i_cond)); (simp (disch := (first | omega | (simp only [push_cast]; first | done | omega))) only [push_cast, ↓reduceIte, Nat.reduceEqDiff, Nat.reduceBEq, Nat.reduceAdd, Nat.reduceSub, Int.reduceToNat, *] <;> with_reducible exact rfl); all_goals try (first | (with_reducible first | refine hyT ?_ | refine hyF ?_ | exact hyA | exact hyB) | (intro hX; first | (cases hX; done) | ((try simp only [decide_eq_true_eq, decide_eq_false_iff_not, Bool.not_eq_true', Bool.not_eq_false'] at hX); (try have hXb := inB_iff.1 hX))))))
  all_goals ((first | apply i_end | apply i_endN); simp (disch := (first | omega | (simp only [push_cast]; first | done | omega))) only [push_cast, ↓reduceIte, Nat.reduceEqDiff, Nat.reduceBEq, Nat.reduceAdd, Nat.reduceSub, Int.reduceToNat, *])
  all_goals simp_all [glB]
noncomputable def φItV : Fun := F1 dIt fun x => some (bv (itB x))
theorem φItV_ap {a b c d e f : Int} {g : Bool} : φItV [.agg [.val (.int .i64 a), .val (.int .i64 b), .val (.int .i64 c), .val (.int .i64 d), .val (.int .i64 e), .val (.int .i64 f), .val (.bool g)]] = some (.val (.bool (itB (a, b, c, d, e, f, g)))) := F1_ap (A := dIt) (a, b, c, d, e, f, g)
def φCost : Fun := F1 dI fun c => some (bv (costB c))
theorem φCost_ap (c : Int) : φCost [.val (.int .i64 c)] = some (.val (.bool (costB c))) := rfl
noncomputable def GCost : Ctx := { fn := fun f => if f = 80 then some φBad else none, io := fun f => none }
theorem GCost_ok : SoundΓ Try.prog GCost := ⟨(fun f φ h => by
  unfold GCost at h
  dsimp only at h
  split at h
  · rename_i hf; cases h; subst hf; exact ⟨⟨_, Try.func80, rfl, rfl⟩, isBad_ok⟩
  cases h), (fun f φ h => by
  unfold GCost at h
  dsimp only at h
  cases h), rfl⟩
theorem GCost_80 (ob : Objs) (ps : List PV) : evCall GCost ob 80 ps = (ps.mapM (reify false 0 ob fuel)).bind φBad := by
  have h : GCost.fn 80 = some φBad := by simp [GCost]
  unfold evCall
  rw [h]
  cases ps.mapM (reify false 0 ob fuel) <;> rfl
theorem isCost_ok : Sound Try.prog 119 φCost := by
  refine sound_pq mixed GCost_ok Try.func119 rfl 9 rfl [.tmp 2] rfl (by kernel_rfl) fun ps r hr => ?_
  obtain ⟨c, rfl, hr⟩ := F1_some hr
  cases hr
  refine ⟨by simp, ?_⟩
  simp only [dIs, dUs, dSs, dI_e, dU_e, dB_e, dS_e, dFn_e, dL_e, dA2_e, dA3_e, dA4_e, dA5_e]
  have ap := φBad_ap
  have gcost_c80 := GCost_80
  repeat' (first | (with_reducible first | apply i_seq | apply i_block | apply i_skip | apply i_exit | apply i_ret | apply i_kS | apply i_kSx | apply i_kSr | apply i_kL | apply i_kLx | apply i_kLr | apply i_kB | apply i_kBr | apply i_kBs | apply i_nil) | ((with_reducible apply i_region); (simp only [List.map_cons, List.map_nil] <;> exact rfl)) | ((with_reducible apply i_draw); (simp only [List.map_cons, List.map_nil] <;> exact rfl); decide +kernel) | ((with_reducible apply i_kBo); rfl) | ((first | ((with_reducible apply i_V); rfl; rfl; rfl) | ((first | ((with_reducible apply i_E); rfl) | ((with_reducible apply i_S); rfl)); first | rfl | (simp only [push_cast, ↓reduceIte])) | ((with_reducible apply i_Vq); rfl; rfl) | ((with_reducible apply i_Vp); rfl; rfl; rfl) | (with_reducible first | apply i_Gb | apply i_cond)); (simp (disch := (first | omega | (simp only [push_cast]; first | done | omega))) only [push_cast, ↓reduceIte, Nat.reduceEqDiff, Nat.reduceBEq, Nat.reduceAdd, Nat.reduceSub, Int.reduceToNat, *] <;> with_reducible exact rfl); all_goals try (first | (with_reducible first | refine hyT ?_ | refine hyF ?_ | exact hyA | exact hyB) | (intro hX; first | (cases hX; done) | ((try simp only [decide_eq_true_eq, decide_eq_false_iff_not, Bool.not_eq_true', Bool.not_eq_false'] at hX); (try have hXb := inB_iff.1 hX))))))
  all_goals ((first | apply i_end | apply i_endN); simp (disch := (first | omega | (simp only [push_cast]; first | done | omega))) only [push_cast, ↓reduceIte, Nat.reduceEqDiff, Nat.reduceBEq, Nat.reduceAdd, Nat.reduceSub, Int.reduceToNat, *])
  all_goals simp_all [costB]
noncomputable def GItI : Ctx := { fn := fun f => if f = 35 then some φGl4 else if f = 119 then some φCost else none, io := fun f => none }
theorem GItI_ok : SoundΓ Try.prog GItI := ⟨(fun f φ h => by
  unfold GItI at h
  dsimp only at h
  split at h
  · rename_i hf; cases h; subst hf; exact ⟨⟨_, Try.func35, rfl, rfl⟩, implGl4_ok⟩
  split at h
  · rename_i hf; cases h; subst hf; exact ⟨⟨_, Try.func119, rfl, rfl⟩, isCost_ok⟩
  cases h), (fun f φ h => by
  unfold GItI at h
  dsimp only at h
  cases h), rfl⟩
theorem GItI_35 (ob : Objs) (ps : List PV) : evCall GItI ob 35 ps = (ps.mapM (reify false 0 ob fuel)).bind φGl4 := by
  have h : GItI.fn 35 = some φGl4 := by simp [GItI]
  unfold evCall
  rw [h]
  cases ps.mapM (reify false 0 ob fuel) <;> rfl
theorem GItI_119 (ob : Objs) (ps : List PV) : evCall GItI ob 119 ps = (ps.mapM (reify false 0 ob fuel)).bind φCost := by
  have h : GItI.fn 119 = some φCost := by simp [GItI]
  unfold evCall
  rw [h]
  cases ps.mapM (reify false 0 ob fuel) <;> rfl
set_option maxHeartbeats 16000000 in
theorem implItV_ok : Sound Try.prog 112 φItV := by
  refine sound_pq mixed GItI_ok Try.func112 rfl 63 rfl [.tmp 2] rfl (by kernel_rfl) fun ps r hr => ?_
  obtain ⟨⟨a, b, c, d, e, f, g⟩, rfl, hr⟩ := F1_some hr
  cases hr
  refine ⟨by simp, ?_⟩
  simp only [dIs, dUs, dSs, dI_e, dU_e, dB_e, dS_e, dFn_e, dL_e, dA2_e, dA3_e, dA4_e, dA5_e]
  simp only [dA7_e, dI_e, dB_e]
  have ap1 := @φGl4_ap
  have ap2 := φCost_ap
  have hE : itB (a, b, c, d, e, f, g) = (glB (b, c, d, e) && ((decide (a = 1) && (decide (c = 0 ∧ d = 0 ∧ e = 0) && decide (f = 0 ∧ g = false))) || ((decide (a = 2) && decide (f = 0 ∧ g = false)) || (decide (a = 3) && (decide (c = 0 ∧ d = 0 ∧ e = 0) && costB f))))) := rfl
  rw [hE]
  clear hE
  cases hg : glB (b, c, d, e) <;> cases hc : costB f <;>
  · have giti_c35 := GItI_35; have giti_c119 := GItI_119
    repeat' (first | (with_reducible first | apply i_seq | apply i_block | apply i_skip | apply i_exit | apply i_ret | apply i_kS | apply i_kSx | apply i_kSr | apply i_kL | apply i_kLx | apply i_kLr | apply i_kB | apply i_kBr | apply i_kBs | apply i_nil) | ((with_reducible apply i_region); (simp only [List.map_cons, List.map_nil] <;> exact rfl)) | ((with_reducible apply i_draw); (simp only [List.map_cons, List.map_nil] <;> exact rfl); decide +kernel) | ((with_reducible apply i_kBo); rfl) | ((first | ((with_reducible apply i_V); rfl; rfl; rfl) | ((first | ((with_reducible apply i_E); rfl) | ((with_reducible apply i_S); rfl)); first | rfl | (simp only [push_cast, ↓reduceIte])) | ((with_reducible apply i_Vq); rfl; rfl) | ((with_reducible apply i_Vp); rfl; rfl; rfl) | (with_reducible first | apply i_Gb | apply i_cond)); (simp (disch := (first | omega | (simp only [push_cast]; first | done | omega))) only [push_cast, ↓reduceIte, Nat.reduceEqDiff, Nat.reduceBEq, Nat.reduceAdd, Nat.reduceSub, Int.reduceToNat, *] <;> with_reducible exact rfl); all_goals try (first | (with_reducible first | refine hyT ?_ | refine hyF ?_ | exact hyA | exact hyB) | (intro hX; first | (cases hX; done) | ((try simp only [decide_eq_true_eq, decide_eq_false_iff_not, Bool.not_eq_true', Bool.not_eq_false'] at hX); (try have hXb := inB_iff.1 hX))))))
    all_goals ((first | apply i_end | apply i_endN); simp (disch := (first | omega | (simp only [push_cast]; first | done | omega))) only [push_cast, ↓reduceIte, Nat.reduceEqDiff, Nat.reduceBEq, Nat.reduceAdd, Nat.reduceSub, Int.reduceToNat, *])
    all_goals (first | (simp_all; done) | (simp_all; omega))
noncomputable def GItS : Ctx := { fn := fun f => if f = 103 then some φGl4 else if f = 62 then some φIn else none, io := fun f => none }
theorem GItS_ok : SoundΓ Try.prog GItS := ⟨(fun f φ h => by
  unfold GItS at h
  dsimp only at h
  split at h
  · rename_i hf; cases h; subst hf; exact ⟨⟨_, Try.func103, rfl, rfl⟩, specGl4_ok⟩
  split at h
  · rename_i hf; cases h; subst hf; exact ⟨⟨_, Try.func62, rfl, rfl⟩, l1In_ok⟩
  cases h), (fun f φ h => by
  unfold GItS at h
  dsimp only at h
  cases h), rfl⟩
theorem GItS_103 (ob : Objs) (ps : List PV) : evCall GItS ob 103 ps = (ps.mapM (reify false 0 ob fuel)).bind φGl4 := by
  have h : GItS.fn 103 = some φGl4 := by simp [GItS]
  unfold evCall
  rw [h]
  cases ps.mapM (reify false 0 ob fuel) <;> rfl
theorem GItS_62 (ob : Objs) (ps : List PV) : evCall GItS ob 62 ps = (ps.mapM (reify false 0 ob fuel)).bind φIn := by
  have h : GItS.fn 62 = some φIn := by simp [GItS]
  unfold evCall
  rw [h]
  cases ps.mapM (reify false 0 ob fuel) <;> rfl
set_option maxHeartbeats 16000000 in
theorem specItV_ok : Sound Try.prog 83 φItV := by
  refine sound_pq mixed GItS_ok Try.func83 rfl 62 rfl [.tmp 2] rfl (by kernel_rfl) fun ps r hr => ?_
  obtain ⟨⟨a, b, c, d, e, f, g⟩, rfl, hr⟩ := F1_some hr
  cases hr
  refine ⟨by simp, ?_⟩
  simp only [dIs, dUs, dSs, dI_e, dU_e, dB_e, dS_e, dFn_e, dL_e, dA2_e, dA3_e, dA4_e, dA5_e]
  simp only [dA7_e, dI_e, dB_e]
  have ap1 := @φGl4_ap
  have ap2 := φIn_ap
  have hE : itB (a, b, c, d, e, f, g) = (glB (b, c, d, e) && ((decide (a = 1) && (decide (c = 0 ∧ d = 0 ∧ e = 0) && decide (f = 0 ∧ g = false))) || ((decide (a = 2) && decide (f = 0 ∧ g = false)) || (decide (a = 3) && (decide (c = 0 ∧ d = 0 ∧ e = 0) && (inB f 0 10000 || decide (f = -10000))))))) := rfl
  rw [hE]
  clear hE
  cases hg : glB (b, c, d, e) <;>
  · have gits_c103 := GItS_103; have gits_c62 := GItS_62
    repeat' (first | (with_reducible first | apply i_seq | apply i_block | apply i_skip | apply i_exit | apply i_ret | apply i_kS | apply i_kSx | apply i_kSr | apply i_kL | apply i_kLx | apply i_kLr | apply i_kB | apply i_kBr | apply i_kBs | apply i_nil) | ((with_reducible apply i_region); (simp only [List.map_cons, List.map_nil] <;> exact rfl)) | ((with_reducible apply i_draw); (simp only [List.map_cons, List.map_nil] <;> exact rfl); decide +kernel) | ((with_reducible apply i_kBo); rfl) | ((first | ((with_reducible apply i_V); rfl; rfl; rfl) | ((first | ((with_reducible apply i_E); rfl) | ((with_reducible apply i_S); rfl)); first | rfl | (simp only [push_cast, ↓reduceIte])) | ((with_reducible apply i_Vq); rfl; rfl) | ((with_reducible apply i_Vp); rfl; rfl; rfl) | (with_reducible first | apply i_Gb | apply i_cond)); (simp (disch := (first | omega | (simp only [push_cast]; first | done | omega))) only [push_cast, ↓reduceIte, Nat.reduceEqDiff, Nat.reduceBEq, Nat.reduceAdd, Nat.reduceSub, Int.reduceToNat, *] <;> with_reducible exact rfl); all_goals try (first | (with_reducible first | refine hyT ?_ | refine hyF ?_ | exact hyA | exact hyB) | (intro hX; first | (cases hX; done) | ((try simp only [decide_eq_true_eq, decide_eq_false_iff_not, Bool.not_eq_true', Bool.not_eq_false'] at hX); (try have hXb := inB_iff.1 hX))))))
    all_goals ((first | apply i_end | apply i_endN); simp (disch := (first | omega | (simp only [push_cast]; first | done | omega))) only [push_cast, ↓reduceIte, Nat.reduceEqDiff, Nat.reduceBEq, Nat.reduceAdd, Nat.reduceSub, Int.reduceToNat, *])
    all_goals (first | (simp_all; done) | (simp_all; omega))
noncomputable def φIts : Fun := F1 dIts fun l => if okIts l then some (bv (itemsB l)) else none
theorem φIts_ap {l : List It} (h : okIts l) : φIts [.lst false 7 (l.map pvIt)] = some (.val (.bool (itemsB l))) := (F1_ap (A := dIts) l).trans (if_pos h)
noncomputable def GItsI : Ctx := { fn := fun f => if f = 112 then some φItV else none, io := fun f => none }
theorem GItsI_ok : SoundΓ Try.prog GItsI := ⟨(fun f φ h => by
  unfold GItsI at h
  dsimp only at h
  split at h
  · rename_i hf; cases h; subst hf; exact ⟨⟨_, Try.func112, rfl, rfl⟩, implItV_ok⟩
  cases h), (fun f φ h => by
  unfold GItsI at h
  dsimp only at h
  cases h), rfl⟩
theorem GItsI_112 (ob : Objs) (ps : List PV) : evCall GItsI ob 112 ps = (ps.mapM (reify false 0 ob fuel)).bind φItV := by
  have h : GItsI.fn 112 = some φItV := by simp [GItsI]
  unfold evCall
  rw [h]
  cases ps.mapM (reify false 0 ob fuel) <;> rfl
set_option maxHeartbeats 8000000 in
theorem implIts_ok : Sound Try.prog 95 φIts := by
  refine sound_pq mixed GItsI_ok Try.func95 rfl 18 rfl [.tmp 2] rfl (by kernel_rfl) fun ps r hr => ?_
  obtain ⟨l, rfl, hq⟩ := F1_some hr
  clear hr
  split at hq
  case isFalse => cases hq
  case isTrue hpre =>
  cases hq
  refine ⟨by simp, ?_⟩
  simp only [dIs, dUs, dSs, dI_e, dU_e, dB_e, dS_e, dFn_e, dL_e, dA2_e, dA3_e, dA4_e, dA5_e]
  have hlen : l.length ≤ 1000 := hpre
  have ap := @φItV_ap
  clear hpre
  show pq _ _ _ _ _ (initS [.lst false 7 (l.map pvIt)]).tm _ _
  have gitsi_c112 := GItsI_112
  (refine wlk ?_; intros)
  refine i_loop (α := Nat × Nat) mixed (fun z => [(0, .lst false 7 (l.map pvIt)), (5, .lst false 7 (l.map pvIt)), (6, iv l.length), (7, iv z.1)]) (fun _ => []) (fun z => z.2)
    (fun z => z.1 ≤ l.length ∧ ∀ j, j < z.1 → itB (l[j]?.getD it0) = true) (fun z => l.length - z.1) (by kernel_rfl) (0, 0) ⟨Nat.zero_le _, fun j hj => by simp at hj⟩ ?_ trivial rfl ?_
  · exact agr
  rintro ⟨k, y⟩ ⟨hk, hok⟩
  dsimp only at hk hok
  by_cases h0 : k < l.length
  · cases hb : itB (l[k]?.getD it0) with
    | false =>
      have hE : itemsB l = false := by
        unfold itemsB
        rw [all_noK (d := it0) h0 hb, Bool.and_false]
      rw [hE]
      clear hok hE
      generalize hx9 : l[k]?.getD it0 = x at *
      obtain ⟨a, b, c, d, e, f, g⟩ := x
      exact wlkF
    | true =>
      have hok2 : ∀ j, j < k + 1 → itB (l[j]?.getD it0) = true := fun j hj => by
        by_cases h1 : j < k
        · exact hok j h1
        · obtain rfl : j = k := by omega
          exact hb
      replace hok2 := Lib.hid hok2
      clear hok
      generalize hx9 : l[k]?.getD it0 = x at *
      obtain ⟨a, b, c, d, e, f, g⟩ := x
      (refine wlk ?_; intros)
      refine ⟨(k + 1, y + 1), ⟨by dsimp only; omega, hok2.out⟩, by dsimp only; omega, ?_, trivial, rfl⟩
      exact agr
  · obtain rfl : k = l.length := by omega
    have hE : itemsB l = decide (l.length ≤ 60) := by
      unfold itemsB
      rw [all_yesK (d := it0) fun j hj => hok j hj, Bool.and_true]
    rw [hE]
    clear hok hE
    (repeat' (first | (with_reducible first | apply i_seq | apply i_block | apply i_skip | apply i_exit | apply i_ret | apply i_kS | apply i_kSx | apply i_kSr | apply i_kL | apply i_kLx | apply i_kLr | apply i_kB | apply i_kBr | apply i_kBs | apply i_nil) | ((with_reducible apply i_region); (simp only [List.map_cons, List.map_nil] <;> exact rfl)) | ((with_reducible apply i_draw); (simp only [List.map_cons, List.map_nil] <;> exact rfl); decide +kernel) | ((with_reducible apply i_kBo); rfl) | ((first | ((with_reducible apply i_V); rfl; rfl; rfl) | ((first | ((with_reducible apply i_E); rfl) | ((with_reducible apply i_S); rfl)); first | rfl | (simp only [push_cast, ↓reduceIte])) | ((with_reducible apply i_Vq); rfl; rfl) | ((with_reducible apply i_Vp); rfl; rfl; rfl) | (with_reducible first | apply i_Gb | apply i_cond)); (simp (disch := (first | omega | (simp only [push_cast]; first | done | omega))) only [push_cast, ↓reduceIte, Nat.reduceEqDiff, Nat.reduceBEq, Nat.reduceAdd, Nat.reduceSub, Int.reduceToNat, *] <;> with_reducible exact rfl); all_goals try (first | (with_reducible first | refine hyT ?_ | refine hyF ?_ | exact hyA | exact hyB) | (intro hX; first | (cases hX; done) | ((try simp only [decide_eq_true_eq, decide_eq_false_iff_not, Bool.not_eq_true', Bool.not_eq_false'] at hX); (try have hXb := inB_iff.1 hX))))))); all_goals try (exfalso; omega)
    all_goals ((first | apply i_end | apply i_endN); simp (disch := (first | omega | (simp only [push_cast]; first | done | omega))) only [push_cast, ↓reduceIte, Nat.reduceEqDiff, Nat.reduceBEq, Nat.reduceAdd, Nat.reduceSub, Int.reduceToNat, *])
    all_goals (first | (simp; omega) | skip)
noncomputable def GItsS : Ctx := { fn := fun f => if f = 83 then some φItV else none, io := fun f => none }
theorem GItsS_ok : SoundΓ Try.prog GItsS := ⟨(fun f φ h => by
  unfold GItsS at h
  dsimp only at h
  split at h
  · rename_i hf; cases h; subst hf; exact ⟨⟨_, Try.func83, rfl, rfl⟩, specItV_ok⟩
  cases h), (fun f φ h => by
  unfold GItsS at h
  dsimp only at h
  cases h), rfl⟩
theorem GItsS_83 (ob : Objs) (ps : List PV) : evCall GItsS ob 83 ps = (ps.mapM (reify false 0 ob fuel)).bind φItV := by
  have h : GItsS.fn 83 = some φItV := by simp [GItsS]
  unfold evCall
  rw [h]
  cases ps.mapM (reify false 0 ob fuel) <;> rfl
set_option maxHeartbeats 8000000 in
theorem specIts_ok : Sound Try.prog 61 φIts := by
  refine sound_pq mixed GItsS_ok Try.func61 rfl 19 rfl [.tmp 2] rfl (by kernel_rfl) fun ps r hr => ?_
  obtain ⟨l, rfl, hq⟩ := F1_some hr
  clear hr
  split at hq
  case isFalse => cases hq
  case isTrue hpre =>
  cases hq
  refine ⟨by simp, ?_⟩
  simp only [dIs, dUs, dSs, dI_e, dU_e, dB_e, dS_e, dFn_e, dL_e, dA2_e, dA3_e, dA4_e, dA5_e]
  have hlen : l.length ≤ 1000 := hpre
  have ap := @φItV_ap
  clear hpre
  show pq _ _ _ _ _ (initS [.lst false 7 (l.map pvIt)]).tm _ _
  have gitss_c83 := GItsS_83
  (refine wlk ?_; intros)
  refine i_loop (α := Nat) mixed (fun k => [(0, .lst false 7 (l.map pvIt)), (3, iv k)]) (fun _ => []) (fun _ => 0)
    (fun k => k ≤ l.length ∧ ∀ j, j < k → itB (l[j]?.getD it0) = true) (fun k => l.length - k) (by kernel_rfl) 0 ⟨Nat.zero_le _, fun j hj => by simp at hj⟩ ?_ trivial rfl ?_
  · exact agr
  rintro k ⟨hk, hok⟩
  by_cases h0 : k < l.length
  · cases hb : itB (l[k]?.getD it0) with
    | false =>
      have hE : itemsB l = false := by
        unfold itemsB
        rw [all_noK (d := it0) h0 hb, Bool.and_false]
      rw [hE]
      clear hok hE
      generalize hx9 : l[k]?.getD it0 = x at *
      obtain ⟨a, b, c, d, e, f, g⟩ := x
      exact wlkF
    | true =>
      have hok2 : ∀ j, j < k + 1 → itB (l[j]?.getD it0) = true := fun j hj => by
        by_cases h1 : j < k
        · exact hok j h1
        · obtain rfl : j = k := by omega
          exact hb
      replace hok2 := Lib.hid hok2
      clear hok
      generalize hx9 : l[k]?.getD it0 = x at *
      obtain ⟨a, b, c, d, e, f, g⟩ := x
      (refine wlk ?_; intros)
      refine ⟨k + 1, ⟨by omega, hok2.out⟩, by dsimp only; omega, ?_, trivial, rfl⟩
      exact agr
  · obtain rfl : k = l.length := by omega
    have hE : itemsB l = decide (l.length ≤ 60) := by
      unfold itemsB
      rw [all_yesK (d := it0) fun j hj => hok j hj, Bool.and_true]
    rw [hE]
    clear hok hE
    (repeat' (first | (with_reducible first | apply i_seq | apply i_block | apply i_skip | apply i_exit | apply i_ret | apply i_kS | apply i_kSx | apply i_kSr | apply i_kL | apply i_kLx | apply i_kLr | apply i_kB | apply i_kBr | apply i_kBs | apply i_nil) | ((with_reducible apply i_region); (simp only [List.map_cons, List.map_nil] <;> exact rfl)) | ((with_reducible apply i_draw); (simp only [List.map_cons, List.map_nil] <;> exact rfl); decide +kernel) | ((with_reducible apply i_kBo); rfl) | ((first | ((with_reducible apply i_V); rfl; rfl; rfl) | ((first | ((with_reducible apply i_E); rfl) | ((with_reducible apply i_S); rfl)); first | rfl | (simp only [push_cast, ↓reduceIte])) | ((with_reducible apply i_Vq); rfl; rfl) | ((with_reducible apply i_Vp); rfl; rfl; rfl) | (with_reducible first | apply i_Gb | apply i_cond)); (simp (disch := (first | omega | (simp only [push_cast]; first | done | omega))) only [push_cast, ↓reduceIte, Nat.reduceEqDiff, Nat.reduceBEq, Nat.reduceAdd, Nat.reduceSub, Int.reduceToNat, *] <;> with_reducible exact rfl); all_goals try (first | (with_reducible first | refine hyT ?_ | refine hyF ?_ | exact hyA | exact hyB) | (intro hX; first | (cases hX; done) | ((try simp only [decide_eq_true_eq, decide_eq_false_iff_not, Bool.not_eq_true', Bool.not_eq_false'] at hX); (try have hXb := inB_iff.1 hX))))))); all_goals try (exfalso; omega)
    all_goals ((first | apply i_end | apply i_endN); simp (disch := (first | omega | (simp only [push_cast]; first | done | omega))) only [push_cast, ↓reduceIte, Nat.reduceEqDiff, Nat.reduceBEq, Nat.reduceAdd, Nat.reduceSub, Int.reduceToNat, *])
    all_goals (first | (simp; omega) | skip)
end Go.Proofs.Ytngcedklbinhjaa
