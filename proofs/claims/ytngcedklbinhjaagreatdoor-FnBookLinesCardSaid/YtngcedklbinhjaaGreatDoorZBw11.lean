/- What the proof rests on, part 11: contracts of functions. No condition beyond what each states. -/
import Derived.Test.YtngcedklbinhjaaGreatDoorZBw10
namespace Go.Proofs.YtngcedklbinhjaaGreatDoor
open Go.RowKit
set_option linter.all false
noncomputable def qp (w : ByteArray) (pats : LS) : List Int := if rR w pats = true then kR w pats else []
noncomputable def φPc : Fun := F2 dS dSs fun w pats => if alz w pats then some (.lst true 1 ((qp w pats).map fun n => .val (.int .i64 n))) else none
theorem aj8 {w : ByteArray} {pats : LS} (h : alz w pats) : φPc [.val (.string w), .lst false 1 (pats.map fun s => .val (.string s))] = some (.lst true 1 ((qp w pats).map fun n => .val (.int .i64 n))) := (kX (A := dS) (B := dSs) w pats).trans (if_pos h)
abbrev LI := List Int
theorem oq {T sz x : Nat} {es : List PV} : nE (lo (nO T sz es x)) (nO T sz es x) := by
 cases es with
 | nil => trivial
 | cons e es =>
  show nE (lo [_]) [_]
  simp only [push_cast]
theorem anL {sz : Nat} {lv : List Int} {k : Nat} (h : ¬ (2 ≤ k ∧ k + 3 ≤ sz ∧ lv[k]?.getD 0 % 2 = 1)) : plB sz lv k = false := decide_eq_false h
theorem agH {sz : Nat} {lv : List Int} {k : Nat} (h : 2 ≤ k ∧ k + 3 ≤ sz ∧ lv[k]?.getD 0 % 2 = 1) : plB sz lv k = true := decide_eq_true h
noncomputable def akY : Ctx := { fn := fun f => if f = 95 then some φLv else if f = 60 then some φIn else none, io := fun f => none }
theorem aoi : aA Tryz.prog akY := ⟨(fun f φ h => by
 unfold akY at h
 dsimp only at h
 split at h
 ·rename_i hf; cases h; subst hf; exact ⟨⟨_, Tryz.func95, rfl, rfl⟩, ajs⟩
 split at h
 ·rename_i hf; cases h; subst hf; exact ⟨⟨_, Tryz.func60, rfl, rfl⟩, vU⟩
 cases h), (fun f φ h => by
 unfold akY at h
 dsimp only at h
 cases h), rfl⟩
theorem ahg (ob : aF) (ps : List PV) : ah akY ob 95 ps = (ps.mapM (reify false 0 ob fuel)).bind φLv := by
 have h : akY.fn 95 = some φLv := by simp [akY]
 unfold ah
 rw [h]
 cases ps.mapM (reify false 0 ob fuel) <;> rfl
theorem aia (ob : aF) (ps : List PV) : ah akY ob 60 ps = (ps.mapM (reify false 0 ob fuel)).bind φIn := by
 have h : akY.fn 60 = some φIn := by simp [akY]
 unfold ah
 rw [h]
 cases ps.mapM (reify false 0 ob fuel) <;> rfl
set_option maxHeartbeats 16000000 in
theorem agT : Sound Tryz.prog 69 φPc := by
 refine l7 mixed aoi Tryz.func69 rfl 33 rfl [.tmp 4] rfl (by kernel_rfl) fun ps r hr => ?_
 obtain ⟨w, pats, rfl, hq⟩ := dA hr
 clear hr
 split at hq
 case isFalse => cases hq
 case isTrue hpre =>
 cases hq
 refine ⟨by simp, ?_⟩
 simp only [dIs, dUs, dSs, eX, fq, eT, fE, bS, fA, bO, bP, bR, bQ]
 have apl := ahr hpre
 have api := dR
 unfold qm at apl
 unfold qp
 cases hB : rR w pats with
 | false =>
  rw [hB, if_neg (by decide)] at apl
  rw [if_neg (by decide)]
  clear hB hpre
  have gpci_c95 := ahg; have gpci_c60 := aia
  (refine wlk ?_; intros)
  refine aT (α := Unit) mixed (fun _ => [(5, .val (.slice none 0 0)), (10, .lst true 1 []), (11, iv 0), (12, iv 0)]) (fun _ => []) (fun _ => 0) (fun _ => True) (fun _ => 0) (by kernel_rfl) () trivial ?_ ?_ rfl ?_
  ·exact agr
  ·exact agr
  rintro ⟨⟩ -
  (refine wlk ?_; intros)
  all_goals ((with_reducible apply fP (by first | exact .inl rfl | exact .inr rfl)); (simp (disch := (first | omega | (simp only [push_cast]; first | done | omega))) only [push_cast, ↓reduceIte, Nat.reduceEqDiff, Nat.reduceBEq, Nat.reduceAdd, Nat.reduceSub, Int.reduceToNat, *] <;> with_reducible exact rfl))
  all_goals exact nil_le _ _
 | true =>
  rw [hB, if_pos rfl] at apl
  rw [if_pos rfl]
  obtain ⟨-, hw1, hw2⟩ := aW (jH.1 hB).1
  obtain ⟨l1, l2⟩ := aac w pats pats.length
  unfold kR
  have he : iO w pats = lvP w pats pats.length := rfl
  rw [he] at apl ⊢
  generalize lvP w pats pats.length = lv at *
  clear hB hpre he
  have hP0 : plK w.size lv 0 = [] := rfl
  have hPl := agX w.size lv
  have gpci_c95 := ahg; have gpci_c60 := aia
  (refine wlk ?_; intros)
  refine aT (α := Nat × LI × Nat × Nat) mixed (fun z => [(0, .val (.string w)), (5, nP 1 (z.2.1.map pvN) z.2.2.1), (10, .lst true 1 (lv.map pvN)), (11, iv lv.length), (12, iv z.1)])
   (fun z => nO 3 1 (z.2.1.map pvN) z.2.2.1) (fun z => z.2.2.2)
   (fun z => z.1 ≤ lv.length ∧ z.2.1 = plK w.size lv z.1 ∧ (0 < z.2.1.length → z.2.2.1 < z.2.2.2)) (fun z => lv.length - z.1) (by kernel_rfl) (0, [], 0, 0) ⟨Nat.zero_le _, rfl, by simp⟩ ?_ ?_ rfl ?_
  ·exact agr
  ·exact agr
  rintro ⟨k, out, x, y⟩ ⟨hk, hI, hxy⟩
  dsimp only at hk hI hxy
  have hol : out.length ≤ 22 := by rw [hI]; have := hPl k; omega
  clear hPl hP0
  by_cases h0 : k < lv.length
  ·have hlk := l2 k
   by_cases hc : 2 ≤ k ∧ k + 3 ≤ w.size ∧ lv[k]?.getD 0 % 2 = 1
   ·have hI2 : out ++ [(k : Int)] = plK w.size lv (k + 1) := by rw [acd (agH hc), ← hI]
    replace hI2 := Lib.hid hI2
    obtain ⟨c1, c2, c3⟩ := hc
    have api1 : inB (k : Int) 2 ((w.size : Int) - 3) = true := aj.2 ⟨by omega, by omega⟩
    clear hI l2
    by_cases hz : out.length = 0
    ·obtain rfl : out = [] := List.eq_nil_of_length_eq_zero hz
     (refine wlk ?_; intros)
     refine ⟨(k + 1, [] ++ [(k : Int)], y + 1, y + 2), ⟨by dsimp only; omega, hI2.out, fun _ => by dsimp only; omega⟩, by dsimp only; omega, ?_, ?_, rfl⟩
     ·exact agr
     ·exact agr
    ·have hxy := hxy (by omega)
     have hap : 0 < (out.map pvN).length := by rw [List.length_map]; omega
     clear hz
     have hap3 : 0 < ((out ++ [(k : Int)]).map pvN).length := by simp
     simp only [aS hap, aU hap, List.length_map]
     (refine wlk ?_; intros)
     refine ⟨(k + 1, out ++ [(k : Int)], y + 1, y + 2), ⟨by dsimp only; omega, hI2.out, fun _ => by dsimp only; omega⟩, by dsimp only; omega, ?_, ?_, rfl⟩
     ·simp (disch := (first | omega | (simp only [push_cast]; first | done | omega))) only [push_cast, ↓reduceIte, Nat.reduceEqDiff, Nat.reduceBEq, Nat.reduceAdd, Nat.reduceSub, Int.reduceToNat, aS hap3, List.length_append, *]
     ·simp (disch := (first | omega | (simp only [push_cast]; first | done | omega))) only [push_cast, ↓reduceIte, Nat.reduceEqDiff, Nat.reduceBEq, Nat.reduceAdd, Nat.reduceSub, Int.reduceToNat, aU hap3, *]
   ·have hI2 : out = plK w.size lv (k + 1) := by rw [wF (anL hc), ← hI]
    replace hI2 := Lib.hid hI2
    clear hI l2
    by_cases c3 : lv[k]?.getD 0 % 2 = 1
    ·have api1 : inB (k : Int) 2 ((w.size : Int) - 3) = false := Bool.eq_false_iff.2 fun q => by have := aj.1 q; omega
     clear hc
     (refine wlk ?_; intros)
     refine ⟨(k + 1, out, x, y), ⟨by dsimp only; omega, hI2.out, hxy⟩, by dsimp only; omega, ?_, oq, rfl⟩
     ·exact agr
    ·clear hc
     (refine wlk ?_; intros)
     refine ⟨(k + 1, out, x, y), ⟨by dsimp only; omega, hI2.out, hxy⟩, by dsimp only; omega, ?_, oq, rfl⟩
     ·exact agr
  ·obtain rfl : k = lv.length := by omega
   rw [← l1, ← hI]
   clear hI l2
   by_cases hz : out.length = 0
   ·obtain rfl : out = [] := List.eq_nil_of_length_eq_zero hz
    (refine wlk ?_; intros)
    all_goals ((with_reducible apply fP (by first | exact .inl rfl | exact .inr rfl)); (simp (disch := (first | omega | (simp only [push_cast]; first | done | omega))) only [push_cast, ↓reduceIte, Nat.reduceEqDiff, Nat.reduceBEq, Nat.reduceAdd, Nat.reduceSub, Int.reduceToNat, *] <;> with_reducible exact rfl))
    all_goals exact nil_le _ _
   ·have hxy := hxy (by omega)
    have hap : 0 < (out.map pvN).length := by rw [List.length_map]; omega
    clear hz
    simp only [aS hap, aU hap, List.length_map]
    (refine wlk ?_; intros)
    all_goals ((with_reducible apply fP (by first | exact .inl rfl | exact .inr rfl)); (simp (disch := (first | omega | (simp only [push_cast]; first | done | omega))) only [push_cast, ↓reduceIte, Nat.reduceEqDiff, Nat.reduceBEq, Nat.reduceAdd, Nat.reduceSub, Int.reduceToNat, *] <;> with_reducible exact rfl))
    all_goals exact PV.le_refl _
noncomputable def atm : Ctx := { fn := fun f => if f = 83 then some φLv else none, io := fun f => none }
theorem apI : aA Tryz.prog atm := ⟨(fun f φ h => by
 unfold atm at h
 dsimp only at h
 split at h
 ·rename_i hf; cases h; subst hf; exact ⟨⟨_, Tryz.func83, rfl, rfl⟩, ahM⟩
 cases h), (fun f φ h => by
 unfold atm at h
 dsimp only at h
 cases h), rfl⟩
theorem aiu (ob : aF) (ps : List PV) : ah atm ob 83 ps = (ps.mapM (reify false 0 ob fuel)).bind φLv := by
 have h : atm.fn 83 = some φLv := by simp [atm]
 unfold ah
 rw [h]
 cases ps.mapM (reify false 0 ob fuel) <;> rfl
set_option maxHeartbeats 16000000 in
theorem ahf : Sound Tryz.prog 59 φPc := by
 refine ay mixed apI Tryz.func59 rfl 30 rfl [.tmp 4] rfl (by kernel_rfl) fun ps r hr => ?_
 obtain ⟨w, pats, rfl, hq⟩ := dA hr
 clear hr
 split at hq
 case isFalse => cases hq
 case isTrue hpre =>
 cases hq
 refine ⟨by simp, ?_⟩
 simp only [dIs, dUs, dSs, eX, fq, eT, fE, bS, fA, bO, bP, bR, bQ]
 have apl := ahr hpre
 unfold qm at apl
 unfold qp
 cases hB : rR w pats with
 | false =>
  rw [hB, if_neg (by decide)] at apl
  rw [if_neg (by decide)]
  clear hB hpre
  have gpcs_c83 := aiu
  (refine wlk ?_; intros)
  refine aT (α := Unit) mixed (fun _ => [(5, .row 0 1 0 0), (6, .lst true 1 []), (7, iv 2)]) (fun _ => [(0, 3, 1, [])]) (fun _ => 1) (fun _ => True) (fun _ => 0) (by kernel_rfl) () trivial ?_ ?_ rfl ?_
  ·exact agr
  ·exact agr
  rintro ⟨⟩ -
  exact wlkF
 | true =>
  rw [hB, if_pos rfl] at apl
  rw [if_pos rfl]
  obtain ⟨-, hw1, hw2⟩ := aW (jH.1 hB).1
  obtain ⟨l1, l2⟩ := aac w pats pats.length
  unfold kR
  have he : iO w pats = lvP w pats pats.length := rfl
  rw [he] at apl ⊢
  generalize lvP w pats pats.length = lv at *
  clear hB hpre he
  have hP0 := @apB w.size lv
  have hPl := agX w.size lv
  have hPh : ∀ k, w.size < k + 3 → k ≤ w.size + 1 → plK w.size lv (w.size + 1) = plK w.size lv k := fun k h1 h2 => by
   have := aer (lv := lv) h1 (w.size + 1 - k)
   rwa [show k + (w.size + 1 - k) = w.size + 1 by omega] at this
  have hPs : w.size < 5 → plK w.size lv (w.size + 1) = plK w.size lv 2 := fun h => by rw [amO h, hP0]
  replace hP0 := Lib.hid hP0
  have gpcs_c83 := aiu
  (refine wlk ?_; intros)
  refine aT (α := Nat × LI × Nat × Nat) mixed (fun z => [(5, .row z.2.2.1 1 0 z.2.1.length), (6, .lst true 1 (lv.map pvN)), (7, iv z.1)])
   (fun z => [(z.2.2.1, 3, 1, z.2.1.map pvN)]) (fun z => z.2.2.2)
   (fun z => 2 ≤ z.1 ∧ (2 < z.1 → z.1 + 2 ≤ w.size) ∧ z.2.1 = plK w.size lv z.1 ∧ z.2.2.1 < z.2.2.2) (fun z => lv.length - z.1) (by kernel_rfl) (2, [], 0, 1) ⟨by simp, by simp, hP0.out.symm, by simp⟩ ?_ ?_ rfl ?_
  ·exact agi
  ·exact agr
  rintro ⟨k, out, x, y⟩ ⟨hk, hk2, hI, hxy⟩
  dsimp only at hk hk2 hI hxy
  have hol : out.length ≤ 22 := by
   rw [hI]
   by_cases h2 : 2 < k
   ·have := hPl k; have := hk2 h2; omega
   ·have := hPl k; omega
  clear hPl hP0
  by_cases h0 : k + 3 < lv.length
  ·have hlk := l2 k
   by_cases c3 : lv[k]?.getD 0 % 2 = 1
   ·have hI2 : out ++ [(k : Int)] = plK w.size lv (k + 1) := by rw [acd (agH ⟨hk, by omega, c3⟩), ← hI]
    replace hI2 := Lib.hid hI2
    clear hI l2 hPh hPs
    (refine wlk ?_; intros)
    refine ⟨(k + 1, out ++ [(k : Int)], y + 1, y + 2), ⟨by dsimp only; omega, fun _ => by dsimp only; omega, hI2.out, by dsimp only; omega⟩, by dsimp only; omega, ?_, ?_, rfl⟩
    ·exact agr
    ·exact agr
   ·have hI2 : out = plK w.size lv (k + 1) := by rw [wF (anL fun q => c3 q.2.2), ← hI]
    replace hI2 := Lib.hid hI2
    clear hI l2 hPh hPs
    (refine wlk ?_; intros)
    refine ⟨(k + 1, out, x, y), ⟨by dsimp only; omega, fun _ => by dsimp only; omega, hI2.out, hxy⟩, by dsimp only; omega, ?_, ?_, rfl⟩
    ·exact agr
    ·exact agr
  ·have hfin : plK w.size lv (w.size + 1) = out := by
    rw [hI]
    by_cases h5 : w.size < 5
    ·by_cases h2 : 2 < k
     ·have := hk2 h2
      omega
     ·obtain rfl : k = 2 := by omega
      exact hPs h5
    ·refine hPh k (by omega) ?_
     by_cases h2 : 2 < k
     ·have := hk2 h2; omega
     ·omega
   rw [hfin]
   clear hI l2 hPh hPs hfin
   exact wlkF
noncomputable def dD (w : ByteArray) (pats : LS) : LS := if rR w pats = true then aaW w pats else []
noncomputable def φPr : Fun := F2 dS dSs fun w pats => if alz w pats then some (.lst true 1 ((dD w pats).map fun s => .val (.string s))) else none
theorem aa9 {w : ByteArray} {pats : LS} (h : alz w pats) : φPr [.val (.string w), .lst false 1 (pats.map fun s => .val (.string s))] = some (.lst true 1 ((dD w pats).map fun s => .val (.string s))) := (kX (A := dS) (B := dSs) w pats).trans (if_pos h)
noncomputable def agl : Ctx := { fn := fun f => if f = 67 then some fF else if f = 43 then some fB else if f = 69 then some φPc else none, io := fun f => none }
theorem as6 : aA Tryz.prog agl := ⟨(fun f φ h => by
 unfold agl at h
 dsimp only at h
 split at h
 ·rename_i hf; cases h; subst hf; exact ⟨⟨_, Tryz.func67, rfl, rfl⟩, gM⟩
 split at h
 ·rename_i hf; cases h; subst hf; exact ⟨⟨_, Tryz.func43, rfl, rfl⟩, eZ⟩
 split at h
 ·rename_i hf; cases h; subst hf; exact ⟨⟨_, Tryz.func69, rfl, rfl⟩, agT⟩
 cases h), (fun f φ h => by
 unfold agl at h
 dsimp only at h
 cases h), rfl⟩
theorem acB (ob : aF) (ps : List PV) : ah agl ob 67 ps = (ps.mapM (reify false 0 ob fuel)).bind fF := by
 have h : agl.fn 67 = some fF := by simp [agl]
 unfold ah
 rw [h]
 cases ps.mapM (reify false 0 ob fuel) <;> rfl
theorem acC (ob : aF) (ps : List PV) : ah agl ob 43 ps = (ps.mapM (reify false 0 ob fuel)).bind fB := by
 have h : agl.fn 43 = some fB := by simp [agl]
 unfold ah
 rw [h]
 cases ps.mapM (reify false 0 ob fuel) <;> rfl
theorem ab7 (ob : aF) (ps : List PV) : ah agl ob 69 ps = (ps.mapM (reify false 0 ob fuel)).bind φPc := by
 have h : agl.fn 69 = some φPc := by simp [agl]
 unfold ah
 rw [h]
 cases ps.mapM (reify false 0 ob fuel) <;> rfl
set_option maxHeartbeats 16000000 in
theorem ahD : Sound Tryz.prog 44 φPr := by
 refine l7 mixed as6 Tryz.func44 rfl 40 rfl [.tmp 4] rfl (by kernel_rfl) fun ps r hr => ?_
 obtain ⟨w, pats, rfl, hq⟩ := dA hr
 clear hr
 split at hq
 case isFalse => cases hq
 case isTrue hpre =>
 cases hq
 refine ⟨by simp, ?_⟩
 simp only [dIs, dUs, dSs, eX, fq, eT, fE, bS, fA, bO, bP, bR, bQ]
 have ap1 := iG (s := w) (by omega)
 have ap2 := iK hpre.2
 have apc := aj8 hpre
 unfold qp at apc
 unfold dD
 cases hw : eB w with
 | false =>
  have hB : rR w pats = false := by unfold rR; rw [hw]; rfl
  rw [hw] at ap1
  rw [hB, if_neg (by decide)]
  clear apc hpre hw hB
  have gpri_c67 := acB; have gpri_c43 := acC; have gpri_c69 := ab7
  (refine wlk ?_; intros)
  all_goals ((with_reducible apply fP (by first | exact .inl rfl | exact .inr rfl)); (simp (disch := (first | omega | (simp only [push_cast]; first | done | omega))) only [push_cast, ↓reduceIte, Nat.reduceEqDiff, Nat.reduceBEq, Nat.reduceAdd, Nat.reduceSub, Int.reduceToNat, *] <;> with_reducible exact rfl))
  all_goals exact nil_le _ _
 | true =>
 cases hp : bT pats with
 | false =>
  have hB : rR w pats = false := by unfold rR; rw [hw, hp]; rfl
  rw [hw] at ap1
  rw [hp] at ap2
  rw [hB, if_neg (by decide)]
  clear apc hpre hw hp hB
  have gpri_c67 := acB; have gpri_c43 := acC; have gpri_c69 := ab7
  (refine wlk ?_; intros)
  all_goals ((with_reducible apply fP (by first | exact .inl rfl | exact .inr rfl)); (simp (disch := (first | omega | (simp only [push_cast]; first | done | omega))) only [push_cast, ↓reduceIte, Nat.reduceEqDiff, Nat.reduceBEq, Nat.reduceAdd, Nat.reduceSub, Int.reduceToNat, *] <;> with_reducible exact rfl))
  all_goals exact nil_le _ _
 | true =>
  have hB : rR w pats = true := by unfold rR; rw [hw, hp]; rfl
  have hok := lV (pats := pats) hw
  obtain ⟨-, hw1, hw2⟩ := aW hw
  rw [hw] at ap1
  rw [hp] at ap2
  rw [hB, if_pos rfl] at apc
  rw [hB, if_pos rfl]
  unfold aaW
  have hfr := nK hok hw1
  generalize kR w pats = pl at *
  obtain ⟨hl, hat⟩ := hok
  unfold ptR
  have hpl := xV w pl
  clear hB hw hp hpre
  have gpri_c67 := acB; have gpri_c43 := acC; have gpri_c69 := ab7
  (refine wlk ?_; intros)
  refine aT (α := Nat × Nat × Nat) mixed (fun z => [(0, .val (.string w)), (5, nP 1 ((ptF w pl z.1).map pvS) z.2.1), (6, iv (frK pl z.1)), (19, .lst true 1 (pl.map pvN)), (20, iv pl.length), (21, iv z.1)])
   (fun z => nO 9 1 ((ptF w pl z.1).map pvS) z.2.1) (fun z => z.2.2)
   (fun z => z.1 ≤ pl.length ∧ (0 < z.1 → z.2.1 < z.2.2)) (fun z => pl.length - z.1) (by kernel_rfl) (0, 0, 0) ⟨Nat.zero_le _, by simp⟩ ?_ ?_ rfl ?_
  ·simp (disch := (first | omega | (simp only [push_cast]; first | done | omega))) only [push_cast, ↓reduceIte, Nat.reduceEqDiff, Nat.reduceBEq, Nat.reduceAdd, Nat.reduceSub, Int.reduceToNat, ptF, frK, List.map_nil, *]
  ·simp (disch := (first | omega | (simp only [push_cast]; first | done | omega))) only [push_cast, ↓reduceIte, Nat.reduceEqDiff, Nat.reduceBEq, Nat.reduceAdd, Nat.reduceSub, Int.reduceToNat, ptF, List.map_nil, *]
  rintro ⟨k, x, y⟩ ⟨hk, hxy⟩
  dsimp only at hk hxy
  have hlk := hpl k
  have hfk := hfr k hk
  by_cases h0 : k < pl.length
  ·obtain ⟨a1, a2⟩ := hat k h0
   have hn : ptF w pl (k + 1) = ptF w pl k ++ [w.extract (frK pl k).toNat (pl[k]?.getD 0).toNat] := rfl
   have hf := rY pl k
   replace hn := Lib.hid hn
   replace hf := Lib.hid hf
   generalize ptF w pl k = out at *
   generalize frK pl k = fr at *
   clear hat hpl hfr
   by_cases hz : out.length = 0
   ·obtain rfl : out = [] := List.eq_nil_of_length_eq_zero hz
    (refine wlk ?_; intros)
    refine ⟨(k + 1, y + 1, y + 2), ⟨by dsimp only; omega, fun _ => by dsimp only; omega⟩, by dsimp only; omega, ?_, ?_, rfl⟩
    ·dsimp only
     rw [hn.out, hf.out]
     exact agr
    ·dsimp only
     rw [hn.out]
     exact agr
   ·have hxy := hxy (by omega)
    have hap : 0 < (out.map pvS).length := by rw [List.length_map]; omega
    clear hz
    have hap3 : 0 < ((out ++ [w.extract fr.toNat (pl[k]?.getD 0).toNat]).map pvS).length := by simp
    simp only [aS hap, aU hap, List.length_map]
    (refine wlk ?_; intros)
    refine ⟨(k + 1, y + 1, y + 2), ⟨by dsimp only; omega, fun _ => by dsimp only; omega⟩, by dsimp only; omega, ?_, ?_, rfl⟩
    ·dsimp only
     rw [hn.out, hf.out]
     simp (disch := (first | omega | (simp only [push_cast]; first | done | omega))) only [push_cast, ↓reduceIte, Nat.reduceEqDiff, Nat.reduceBEq, Nat.reduceAdd, Nat.reduceSub, Int.reduceToNat, aS hap3, List.length_append, *]
    ·dsimp only
     rw [hn.out]
     simp (disch := (first | omega | (simp only [push_cast]; first | done | omega))) only [push_cast, ↓reduceIte, Nat.reduceEqDiff, Nat.reduceBEq, Nat.reduceAdd, Nat.reduceSub, Int.reduceToNat, aU hap3, *]
  ·obtain rfl : k = pl.length := by omega
   generalize ptF w pl pl.length = out at *
   generalize frK pl pl.length = fr at *
   clear hat hpl hfr
   by_cases hz : out.length = 0
   ·obtain rfl : out = [] := List.eq_nil_of_length_eq_zero hz
    (refine wlk ?_; intros)
    all_goals ((with_reducible apply fP (by first | exact .inl rfl | exact .inr rfl)); (simp (disch := (first | omega | (simp only [push_cast]; first | done | omega))) only [push_cast, ↓reduceIte, Nat.reduceEqDiff, Nat.reduceBEq, Nat.reduceAdd, Nat.reduceSub, Int.reduceToNat, *] <;> with_reducible exact rfl))
    all_goals exact PV.le_refl _
   ·have hxy := hxy (by omega)
    have hap : 0 < (out.map pvS).length := by rw [List.length_map]; omega
    clear hz
    simp only [aS hap, aU hap, List.length_map]
    (refine wlk ?_; intros)
    all_goals ((with_reducible apply fP (by first | exact .inl rfl | exact .inr rfl)); (simp (disch := (first | omega | (simp only [push_cast]; first | done | omega))) only [push_cast, ↓reduceIte, Nat.reduceEqDiff, Nat.reduceBEq, Nat.reduceAdd, Nat.reduceSub, Int.reduceToNat, *] <;> with_reducible exact rfl))
    all_goals exact PV.le_refl _
noncomputable def agk : Ctx := { fn := fun f => if f = 58 then some fF else if f = 48 then some fB else if f = 59 then some φPc else none, io := fun f => none }
theorem apO : aA Tryz.prog agk := ⟨(fun f φ h => by
 unfold agk at h
 dsimp only at h
 split at h
 ·rename_i hf; cases h; subst hf; exact ⟨⟨_, Tryz.func58, rfl, rfl⟩, gN⟩
 split at h
 ·rename_i hf; cases h; subst hf; exact ⟨⟨_, Tryz.func48, rfl, rfl⟩, fu⟩
 split at h
 ·rename_i hf; cases h; subst hf; exact ⟨⟨_, Tryz.func59, rfl, rfl⟩, ahf⟩
 cases h), (fun f φ h => by
 unfold agk at h
 dsimp only at h
 cases h), rfl⟩
theorem abD (ob : aF) (ps : List PV) : ah agk ob 58 ps = (ps.mapM (reify false 0 ob fuel)).bind fF := by
 have h : agk.fn 58 = some fF := by simp [agk]
 unfold ah
 rw [h]
 cases ps.mapM (reify false 0 ob fuel) <;> rfl
theorem acX (ob : aF) (ps : List PV) : ah agk ob 48 ps = (ps.mapM (reify false 0 ob fuel)).bind fB := by
 have h : agk.fn 48 = some fB := by simp [agk]
 unfold ah
 rw [h]
 cases ps.mapM (reify false 0 ob fuel) <;> rfl
theorem abR (ob : aF) (ps : List PV) : ah agk ob 59 ps = (ps.mapM (reify false 0 ob fuel)).bind φPc := by
 have h : agk.fn 59 = some φPc := by simp [agk]
 unfold ah
 rw [h]
 cases ps.mapM (reify false 0 ob fuel) <;> rfl
set_option maxHeartbeats 16000000 in
theorem zL : Sound Tryz.prog 27 φPr := by
 refine ay mixed apO Tryz.func27 rfl 48 rfl [.tmp 4] rfl (by kernel_rfl) fun ps r hr => ?_
 obtain ⟨w, pats, rfl, hq⟩ := dA hr
 clear hr
 split at hq
 case isFalse => cases hq
 case isTrue hpre =>
 cases hq
 refine ⟨by simp, ?_⟩
 simp only [dIs, dUs, dSs, eX, fq, eT, fE, bS, fA, bO, bP, bR, bQ]
 have ap1 := iG (s := w) (by omega)
 have ap2 := iK hpre.2
 have apc := aj8 hpre
 unfold qp at apc
 unfold dD
 cases hw : eB w with
 | false =>
  have hB : rR w pats = false := by unfold rR; rw [hw]; rfl
  rw [hw] at ap1
  rw [hB, if_neg (by decide)]
  clear apc hpre hw hB
  have gprs_c58 := abD; have gprs_c48 := acX; have gprs_c59 := abR
  exact wlkF
 | true =>
 cases hp : bT pats with
 | false =>
  have hB : rR w pats = false := by unfold rR; rw [hw, hp]; rfl
  rw [hw] at ap1
  rw [hp] at ap2
  rw [hB, if_neg (by decide)]
  clear apc hpre hw hp hB
  have gprs_c58 := abD; have gprs_c48 := acX; have gprs_c59 := abR
  exact wlkF
 | true =>
  have hB : rR w pats = true := by unfold rR; rw [hw, hp]; rfl
  have hok := lV (pats := pats) hw
  obtain ⟨-, hw1, hw2⟩ := aW hw
  rw [hw] at ap1
  rw [hp] at ap2
  rw [hB, if_pos rfl] at apc
  rw [hB, if_pos rfl]
  unfold aaW
  have hfr := nK hok hw1
  generalize kR w pats = pl at *
  obtain ⟨hl, hat⟩ := hok
  unfold ptR
  have hpl := xV w pl
  clear hB hw hp hpre
  have gprs_c58 := abD; have gprs_c48 := acX; have gprs_c59 := abR
  (refine wlk ?_; intros)
  refine aT (α := Nat × Nat × Nat) mixed (fun z => [(0, .val (.string w)), (5, .row z.2.1 1 0 (ptF w pl z.1).length), (6, .lst true 1 (pl.map pvN)), (7, iv (frK pl z.1)), (8, iv z.1)])
   (fun z => [(z.2.1, 9, 1, (ptF w pl z.1).map pvS)]) (fun z => z.2.2)
   (fun z => z.1 ≤ pl.length ∧ z.2.1 < z.2.2) (fun z => pl.length - z.1) (by kernel_rfl) (0, 0, 1) ⟨Nat.zero_le _, by simp⟩ ?_ ?_ rfl ?_
  ·simp (disch := (first | omega | (simp only [push_cast]; first | done | omega))) only [push_cast, ↓reduceIte, Nat.reduceEqDiff, Nat.reduceBEq, Nat.reduceAdd, Nat.reduceSub, Int.reduceToNat, ptF, frK, List.length_nil, *]
  ·simp (disch := (first | omega | (simp only [push_cast]; first | done | omega))) only [push_cast, ↓reduceIte, Nat.reduceEqDiff, Nat.reduceBEq, Nat.reduceAdd, Nat.reduceSub, Int.reduceToNat, ptF, List.map_nil, *]
  rintro ⟨k, x, y⟩ ⟨hk, hxy⟩
  dsimp only at hk hxy
  have hlk := hpl k
  have hfk := hfr k hk
  by_cases h0 : k < pl.length
  ·obtain ⟨a1, a2⟩ := hat k h0
   have hn : ptF w pl (k + 1) = ptF w pl k ++ [w.extract (frK pl k).toNat (pl[k]?.getD 0).toNat] := rfl
   have hf := rY pl k
   replace hn := Lib.hid hn
   replace hf := Lib.hid hf
   generalize ptF w pl k = out at *
   generalize frK pl k = fr at *
   clear hat hpl hfr
   (refine wlk ?_; intros)
   refine ⟨(k + 1, y + 1, y + 2), ⟨by dsimp only; omega, by dsimp only; omega⟩, by dsimp only; omega, ?_, ?_, rfl⟩
   ·dsimp only
    rw [hn.out, hf.out]
    exact agr
   ·dsimp only
    rw [hn.out]
    exact agr
  ·obtain rfl : k = pl.length := by omega
   generalize ptF w pl pl.length = out at *
   generalize frK pl pl.length = fr at *
   clear hat hpl hfr
   exact wlkF
end Go.Proofs.YtngcedklbinhjaaGreatDoor
namespace Go.Proofs.YtngcedklbinhjaaGreatDoor
open Go.RowKit
set_option linter.all false
abbrev It := Int × Int × Int × Int × Int × Int × Bool
def it0 : It := (0, 0, 0, 0, 0, 0, false)
abbrev It.kd (x : It) : Int := x.1
abbrev It.wd (x : It) : Int := x.2.1
abbrev It.st (x : It) : Int := x.2.2.1
abbrev It.sh (x : It) : Int := x.2.2.2.1
abbrev It.od (x : It) : Int := x.2.2.2.2.1
abbrev It.cost (x : It) : Int := x.2.2.2.2.2.1
abbrev It.mark (x : It) : Bool := x.2.2.2.2.2.2
abbrev It.gl (x : It) : I4 := (x.2.1, x.2.2.1, x.2.2.2.1, x.2.2.2.2.1)
def glB (g : I4) : Bool := inB g.1 0 1000 && (inB g.2.1 0 1000 && (inB g.2.2.1 0 g.1 && inB g.2.2.2 0 1))
def adH (g : I4) : Bool := decide (g.2.1 = 0 ∧ g.2.2.1 = 0 ∧ g.2.2.2 = 0)
def xQ (c : Int) : Bool := inB c 0 10000 || decide (c = -10000)
def itB (x : It) : Bool := glB x.gl && ((decide (x.kd = 1) && (adH x.gl && decide (x.cost = 0 ∧ x.mark = false))) || ((decide (x.kd = 2) && decide (x.cost = 0 ∧ x.mark = false)) || (decide (x.kd = 3) && (adH x.gl && xQ x.cost))))
def bM (l : List It) : Bool := decide (l.length ≤ 60) && l.all itB
structure azg (x : It) : Prop where
 wd : 0 ≤ x.wd ∧ x.wd ≤ 1000
 st : 0 ≤ x.st ∧ x.st ≤ 1000
 sh : 0 ≤ x.sh ∧ x.sh ≤ 1000
 od : x.od = 0 ∨ x.od = 1
 kd : x.kd = 1 ∨ x.kd = 2 ∨ x.kd = 3
 cost : (0 ≤ x.cost ∧ x.cost ≤ 10000) ∨ x.cost = -10000
 mark : x.mark = true → x.kd = 3
theorem aza {x : It} (h : itB x = true) : azg x := by
 obtain ⟨kd, wd, st, sh, od, cost, mark⟩ := x
 simp only [itB, glB, adH, xQ, It.kd, It.gl, It.cost, It.mark, Bool.and_eq_true, Bool.or_eq_true, aj, decide_eq_true_eq] at h
 obtain ⟨⟨h1, h2, h3, h4⟩, h5⟩ := h
 refine ⟨h1, h2, ⟨h3.1, show sh ≤ 1000 by omega⟩, show od = 0 ∨ od = 1 by omega, show kd = 1 ∨ kd = 2 ∨ kd = 3 by omega, show (0 ≤ cost ∧ cost ≤ 10000) ∨ cost = -10000 by omega, fun hm => ?_⟩
 rcases h5 with h5 | h5 | h5
 ·rw [h5.2.2.2] at hm; cases hm
 ·rw [h5.2.2] at hm; cases hm
 ·exact h5.1
theorem cK {l : List It} (h : bM l = true) : l.length ≤ 60 := by
 unfold bM at h
 rw [Bool.and_eq_true] at h
 exact of_decide_eq_true h.1
theorem gZ {l : List It} (h : bM l = true) {k : Nat} (hk : k < l.length) : azg (l[k]?.getD it0) := by
 unfold bM at h
 rw [Bool.and_eq_true, List.all_eq_true] at h
 rw [List.getElem?_eq_getElem hk, Option.getD_some]
 exact aza (h.2 _ (List.getElem_mem hk))
abbrev gI (l : List It) (k : Nat) : It := l[k]?.getD it0
def forced (x : It) : Bool := decide (x.kd = 3 ∧ x.cost = -10000)
def lJ (l : List It) (n : Nat) : Bool := if (gI l n).kd = 2 then decide (0 < n ∧ (gI l (n - 1)).kd = 1) else decide ((gI l n).kd = 3 ∧ (gI l n).cost < 10000)
def stN (l : List It) : Nat → Nat → Nat
 | 0, n => n
 | f + 1, n => if n < l.length ∧ ¬ (gI l n).kd = 1 ∧ forced (gI l n) = false then stN l f (n + 1) else n
def aH (l : List It) (a : Nat) : Nat := stN l (l.length - a) a
theorem awR {l : List It} {a : Nat} (h : a < l.length) (h1 : ¬ (gI l a).kd = 1) (h2 : forced (gI l a) = false) : aH l a = aH l (a + 1) := by
 unfold aH
 rw [show l.length - a = (l.length - (a + 1)) + 1 by omega, stN, if_pos ⟨h, h1, h2⟩]
theorem akI {l : List It} {a : Nat} (h : ¬ (a < l.length ∧ ¬ (gI l a).kd = 1 ∧ forced (gI l a) = false)) : aH l a = a := by
 unfold aH
 cases hf : l.length - a with
 | zero => rfl
 | succ f => rw [stN, if_neg h]
theorem ajB (l : List It) : ∀ (f n : Nat), n ≤ stN l f n ∧ (n ≤ l.length → stN l f n ≤ l.length)
 | 0, n => ⟨Nat.le_refl _, fun h => h⟩
 | f + 1, n => by
  unfold stN
  split
  ·rename_i hc
   have := ajB l f (n + 1)
   exact ⟨by omega, fun _ => this.2 (by omega)⟩
  ·exact ⟨Nat.le_refl _, fun h => h⟩
theorem wS {l : List It} {a : Nat} : a ≤ aH l a ∧ (a ≤ l.length → aH l a ≤ l.length) := ajB l _ a
def rA (l : List It) (a b : Nat) : Bool := (List.range (b - a)).all fun i => !forced (gI l (a + i))
theorem xu {l : List It} {a b : Nat} (h : b ≤ a) : rA l a b = true := by
 unfold rA
 rw [show b - a = 0 by omega]
 rfl
theorem sW {l : List It} {a b : Nat} (h : a ≤ b) : rA l a (b + 1) = (rA l a b && !forced (gI l b)) := by
 unfold rA
 rw [show b + 1 - a = (b - a) + 1 by omega, List.range_succ, List.all_append]
 simp [show a + (b - a) = b by omega]
theorem acp {l : List It} {a b k : Nat} (h : rA l a (k + 1) = false) (ha : a ≤ k) (hk : k < b) : rA l a b = false := by
 unfold rA at h ⊢
 rw [List.all_eq_false] at h ⊢
 obtain ⟨i, hi, h1⟩ := h
 have := List.mem_range.1 hi
 exact ⟨i, List.mem_range.2 (by omega), h1⟩
def fI (l : List It) (a en : Nat) : Bool := decide (a ≤ en ∧ en < l.length) && (lJ l en && ((decide (a = 0) || lJ l (a - 1)) && (decide (aH l a ≤ en) && rA l a en)))
theorem gy {l : List It} {a en : Nat} : fI l a en = true ↔ (a ≤ en ∧ en < l.length) ∧ lJ l en = true ∧ (a = 0 ∨ lJ l (a - 1) = true) ∧ aH l a ≤ en ∧ rA l a en = true := by
 simp [fI]
def mZ (l : List It) (b c : Nat) : List Int := ((List.range (c - b)).filter fun i => !decide ((gI l (b + i)).kd = 3)).map fun i : Nat => ((b + i : Nat) : Int)
theorem sG {l : List It} {b c : Nat} (h : c ≤ b) : mZ l b c = [] := by
 unfold mZ
 rw [show c - b = 0 by omega]
 rfl
theorem oD {l : List It} {b c : Nat} (h : b ≤ c) (hk : ¬ (gI l c).kd = 3) : mZ l b (c + 1) = mZ l b c ++ [(c : Int)] := by
 unfold mZ
 rw [show c + 1 - b = (c - b) + 1 by omega, List.range_succ, List.filter_append, List.map_append]
 simp [show b + (c - b) = c by omega, hk]
 omega
theorem xI {l : List It} {b c : Nat} (h : b ≤ c) (hk : (gI l c).kd = 3) : mZ l b (c + 1) = mZ l b c := by
 unfold mZ
 rw [show c + 1 - b = (c - b) + 1 by omega, List.range_succ, List.filter_append, List.map_append]
 simp [show b + (c - b) = c by omega, hk]
theorem oN (l : List It) (b c : Nat) : (mZ l b c).length ≤ c - b := by
 unfold mZ
 rw [List.length_map]
 exact Nat.le_trans (List.length_filter_le _ _) (by simp)
theorem rU {l : List It} {b c : Nat} : ∀ x ∈ mZ l b c, (b : Int) ≤ x ∧ x < c ∧ ¬ (gI l x.toNat).kd = 3 := fun x hx => by
 obtain ⟨i, hi, rfl⟩ := List.mem_map.1 hx
 obtain ⟨h1, h2⟩ := List.mem_filter.1 hi
 have h3 := List.mem_range.1 h1
 refine ⟨by omega, by omega, ?_⟩
 rw [Int.toNat_natCast]
 simpa using h2
def g40 : I4 := (0, 0, 0, 0)
def abz (a b : I4) : I4 :=
 let oa := if a.2.1 = 0 then 0 else a.2.2.2
 let ob := if b.2.1 = 0 then 0 else b.2.2.2
 let o := max oa ob
 (a.1 + b.1, (if oa = o then a.2.1 else 0) + (if ob = o then b.2.1 else 0), a.2.2.1 + b.2.2.1, o)
def jE (gs : List I4) : I4 := gs.foldl abz g40
theorem o9 (gs : List I4) (g : I4) : jE (gs ++ [g]) = abz (jE gs) g := by simp [jE, List.foldl_append]
def vP (gs : List I4) : Int := if gs.any (fun g => decide (g.2.2.2 = 1 ∧ 0 < g.2.1)) = true then 1 else 0
def lu (gs : List I4) (o : Int) : I4 := gs.foldl (fun t g => (t.1 + g.1, (if g.2.2.2 = o then t.2.1 + g.2.1 else t.2.1), t.2.2.1 + g.2.2.1, o)) (0, 0, 0, o)
theorem gX (gs : List I4) (g : I4) (o : Int) : lu (gs ++ [g]) o = ((lu gs o).1 + g.1, (if g.2.2.2 = o then (lu gs o).2.1 + g.2.1 else (lu gs o).2.1), (lu gs o).2.2.1 + g.2.2.1, o) := by simp [lu, List.foldl_append]
theorem ajh : ∀ (gs : List I4) (o : Int), (lu gs o).2.2.2 = o := fun gs o => by
 rcases List.eq_nil_or_concat gs with h | ⟨l, x, h⟩
 ·subst h; rfl
 ·rw [List.concat_eq_append] at h
  subst h
  rw [gX]
structure GOk (g : I4) : Prop where
 wd : 0 ≤ g.1 ∧ g.1 ≤ 1000
 st : 0 ≤ g.2.1 ∧ g.2.1 ≤ 1000
 sh : 0 ≤ g.2.2.1 ∧ g.2.2.1 ≤ 1000
 od : g.2.2.2 = 0 ∨ g.2.2.2 = 1
theorem azg.gl {x : It} (h : azg x) : GOk x.gl := ⟨h.wd, h.st, h.sh, h.od⟩
theorem zS (gs : List I4) (g : I4) : vP (gs ++ [g]) = if vP gs = 1 ∨ (g.2.2.2 = 1 ∧ 0 < g.2.1) then 1 else 0 := by
 unfold vP
 rw [List.any_append]
 cases h : gs.any (fun g => decide (g.2.2.2 = 1 ∧ 0 < g.2.1)) with
 | true => simp
 | false => simp
theorem ajx (gs : List I4) : vP gs = 0 ∨ vP gs = 1 := by
 unfold vP
 split
 ·exact .inr rfl
 ·exact .inl rfl
theorem iQ {α : Type} {p : List α → Prop} (h0 : p []) (h1 : ∀ l x, p l → p (l ++ [x])) : ∀ l, p l := fun l => by
 have key : ∀ n, ∀ l : List α, l.length = n → p l := by
  intro n
  induction n with
  | zero => intro l h; rw [List.eq_nil_of_length_eq_zero h]; exact h0
  | succ n ih =>
   intro l h
   rcases List.eq_nil_or_concat l with h2 | ⟨l0, x, h2⟩
   ·subst h2; simp at h
   ·rw [List.concat_eq_append] at h2
    subst h2
    rw [List.length_append, List.length_singleton] at h
    exact h1 _ _ (ih l0 (by omega))
 exact key _ l rfl
theorem asO : ∀ gs : List I4, (∀ g ∈ gs, GOk g) → jE gs = lu gs (vP gs) ∧ (vP gs = 0 → ∀ g ∈ gs, g.2.2.2 = 1 → g.2.1 = 0) ∧ (vP gs = 1 → 0 < (jE gs).2.1) ∧ (vP gs = 0 → (lu gs 1).2.1 = 0) := by
 refine iQ ?_ ?_
 ·intro _
  refine ⟨rfl, by simp, fun h => by simp [vP] at h, fun _ => rfl⟩
 ·intro gs g ih hg
  obtain ⟨i1, i2, i3, i4⟩ := ih fun x hx => hg x (List.mem_append.2 (.inl hx))
  have gk := hg g (by simp)
  obtain ⟨w, st, sh, od⟩ := g
  obtain ⟨g1, g2, g3, g4⟩ := gk
  dsimp only at g1 g2 g3 g4
  have hod := ajh gs (vP gs)
  rw [o9, zS, i1]
  rw [i1] at i3
  rcases ajx gs with h | h
  ·rw [h] at i1 i2 i3 i4 hod ⊢
   have i4 := i4 rfl
   have i2 := i2 rfl
   by_cases hc : od = 1 ∧ 0 < st
   ·have hc2 : (0 : Int) = 1 ∨ (od = 1 ∧ 0 < st) := .inr hc
    have hst : ¬ st = 0 := by omega
    rw [if_pos hc2]
    refine ⟨?_, fun q => by simp at q, fun _ => ?_, fun q => by simp at q⟩
    ·rw [gX, i4]
     unfold abz
     rw [hod, hc.1]
     have e1 : ((lu gs 0).1 = (lu gs 1).1) ∧ (lu gs 0).2.2.1 = (lu gs 1).2.2.1 := by
      clear i1 i2 i3 i4 hod hg ih
      refine iQ (p := fun gs => (lu gs 0).1 = (lu gs 1).1 ∧ (lu gs 0).2.2.1 = (lu gs 1).2.2.1) ⟨rfl, rfl⟩ (fun l x hx => ?_) gs
      rw [gX, gX]
      exact ⟨by dsimp only; rw [hx.1], by dsimp only; rw [hx.2]⟩
     have hm01 : max (0 : Int) 1 = 1 := by decide
     simp [e1.1, e1.2, hst, hm01]
    ·unfold abz
     rw [hod, hc.1]
     simp [hst]
     omega
   ·have hc2 : ¬ ((0 : Int) = 1 ∨ (od = 1 ∧ 0 < st)) := by omega
    rw [if_neg hc2]
    have hz : od = 1 → st = 0 := by omega
    refine ⟨?_, fun _ => ?_, fun q => by simp at q, fun _ => ?_⟩
    ·rw [gX]
     unfold abz
     rw [hod]
     by_cases hs : st = 0
     ·simp [hs]
     ·have h0 : od = 0 := by omega
      simp [hs, h0]
    ·intro x hx
     rcases List.mem_append.1 hx with hx | hx
     ·exact i2 x hx
     ·rw [List.mem_singleton.1 hx]
      exact hz
    ·rw [gX, i4]
     dsimp only
     split
     ·rename_i h1
      rw [hz h1]; rfl
     ·rfl
  ·rw [h] at i1 i3 hod ⊢
   have i3 := i3 rfl
   rw [if_pos (.inl rfl)]
   have hne : ¬ (lu gs 1).2.1 = 0 := by omega
   refine ⟨?_, fun q => by simp at q, fun _ => ?_, fun q => by simp at q⟩
   ·rw [gX]
    unfold abz
    rw [hod, if_neg hne]
    by_cases hs : st = 0
    ·simp [hs]
     omega
    ·rcases g4 with h0 | h0
     ·simp [hs, h0]
      omega
     ·simp [hs, h0]
   ·unfold abz
    rw [hod, if_neg hne]
    dsimp only
    have : max 1 (if st = 0 then (0 : Int) else od) = 1 := by
     split <;> omega
    rw [this, if_pos rfl]
    split <;> omega
theorem aom : ∀ gs : List I4, (∀ g ∈ gs, GOk g) → (0 ≤ (jE gs).1 ∧ (jE gs).1 ≤ 1000 * gs.length) ∧ (0 ≤ (jE gs).2.1 ∧ (jE gs).2.1 ≤ 1000 * gs.length) ∧ (0 ≤ (jE gs).2.2.1 ∧ (jE gs).2.2.1 ≤ 1000 * gs.length) ∧ ((jE gs).2.2.2 = 0 ∨ (jE gs).2.2.2 = 1) := by
 refine iQ ?_ ?_
 ·intro _
  exact ⟨by decide, by decide, by decide, by decide⟩
 ·intro gs g ih hg
  obtain ⟨i1, i2, i3, i4⟩ := ih fun x hx => hg x (List.mem_append.2 (.inl hx))
  have gk := hg g (by simp)
  obtain ⟨w, st, sh, od⟩ := g
  obtain ⟨g1, g2, g3, g4⟩ := gk
  dsimp only at g1 g2 g3 g4
  rw [o9, List.length_append, List.length_singleton]
  generalize jE gs = t at *
  obtain ⟨tw, ts, th, en⟩ := t
  dsimp only at i1 i2 i3 i4
  unfold abz
  dsimp only
  push_cast
  refine ⟨by omega, ?_, by omega, ?_⟩
  ·(repeat' split) <;> omega
  ·(repeat' split) <;> omega
def ab5 (need room : Int) : Int := if need = 0 then 0 else if room = 0 ∨ 10 * room < need then 10000 else min 10000 (100 * need * need * need / (room * room * room))
theorem alH {n r : Int} (h0 : 0 < r) (h : 5 * r < n) : 10000 ≤ 100 * n * n * n / (r * r * r) := by
 have hr : 0 < r * r * r := Int.mul_pos (Int.mul_pos h0 h0) h0
 rw [Int.le_ediv_iff_mul_le hr]
 have h1 : (5 * r) * (5 * r) ≤ n * n := Int.mul_le_mul (by omega) (by omega) (by omega) (by omega)
 have h2 : (5 * r) * (5 * r) * (5 * r) ≤ n * n * n := Int.mul_le_mul h1 (by omega) (by omega) (Int.mul_nonneg (by omega) (by omega))
 have e1 : (5 * r) * (5 * r) * (5 * r) = 125 * (r * r * r) := by
  rw [show 5 * r * (5 * r) * (5 * r) = (5 * 5 * 5) * (r * r * r) by simp only [Int.mul_assoc, Int.mul_left_comm r 5]]
  rfl
 have e2 : 100 * n * n * n = 100 * (n * n * n) := by simp only [Int.mul_assoc]
 rw [e2]
 omega
theorem aiT {need room : Int} (hn : 0 ≤ need) (hr : 0 ≤ room) : ab5 need room = if need = 0 then 0 else if room = 0 ∨ 5 * room < need then 10000 else min 10000 (100 * need * need * need / (room * room * room)) := by
 unfold ab5
 split
 ·rfl
 ·split
  ·rename_i h1
   rw [if_pos (by omega)]
  ·split
   ·have := alH (n := need) (r := room) (by omega) (by omega)
    omega
   ·rfl
def gU (s : Bool) (bad : Int) : Int := if bad ≤ 12 then 1 else if s = false then 0 else if bad < 100 then 2 else 3
theorem mE (s : Bool) (bad : Int) : 0 ≤ gU s bad ∧ gU s bad ≤ 3 := by
 unfold gU
 repeat' split
 all_goals omega
def mq (bad cost : Int) : Int := (10 + bad) * (10 + bad) + (if cost = -10000 then 0 else cost * cost)
theorem o7 {bad cost : Int} (h : 0 ≤ bad ∧ bad ≤ 10000) (h2 : (0 ≤ cost ∧ cost ≤ 10000) ∨ cost = -10000) : 0 ≤ mq bad cost ∧ mq bad cost ≤ 300000000 := by
 have h3 : 0 ≤ (10 + bad) * (10 + bad) := Int.mul_nonneg (by omega) (by omega)
 have h4 : (10 + bad) * (10 + bad) ≤ 10010 * 10010 := Int.mul_le_mul (by omega) (by omega) (by omega) (by omega)
 unfold mq
 split
 ·omega
 ·have h5 : 0 ≤ cost * cost := Int.mul_nonneg (by omega) (by omega)
  have h6 : cost * cost ≤ 10000 * 10000 := Int.mul_le_mul (by omega) (by omega) (by omega) (by omega)
  omega
def aec (l : List It) (a en : Nat) : List I4 := ((mZ l (aH l a) en).map fun n : Int => (gI l n.toNat).gl) ++ (if (gI l en).kd = 3 then [(gI l en).gl] else [])
def awW (g : I4) (wd : Int) : Int × Bool := if g.1 ≤ wd then (if g.2.2.2 = 1 then (0, true) else (ab5 (wd - g.1) g.2.1, true)) else if g.1 - wd ≤ g.2.2.1 then (ab5 (g.1 - wd) g.2.2.1, false) else (-1, false)
def iL (l : List It) (wd : Int) (a en : Nat) : Int × Bool := awW (jE (aec l a en)) wd
def iT (l : List It) (wd most : Int) (a en : Nat) : Option (Int × Int) :=
 if fI l a en = true ∧ 0 ≤ (iL l wd a en).1 ∧ (iL l wd a en).1 ≤ most then some (mq (iL l wd a en).1 (gI l en).cost, gU (iL l wd a en).2 (iL l wd a en).1) else none
def jm (l : List It) (a en : Nat) (before looks : Int) : Int :=
 (if 0 < a ∧ (gI l (a - 1)).mark = true ∧ (gI l en).mark = true then 3000 else 0) + (if 0 < a ∧ (1 < before - looks ∨ before - looks < -1) then 3000 else 0)
theorem lU (l : List It) (a en : Nat) (b k : Int) : 0 ≤ jm l a en b k ∧ jm l a en b k ≤ 6000 := by
 unfold jm
 repeat' split
 all_goals omega
abbrev Ch := Int × Nat × Int
def iE (l : List It) (wd most : Int) (a : Nat) (lk : Int) (rest : Nat → Int → Option Ch) (acc : Option Ch) (en : Nat) : Option Ch :=
 match iT l wd most a en with
 | none => acc
 | some (c, k) => match rest (en + 1) k with
  | none => acc
  | some r => if acc.all (fun x => decide (c + jm l a en lk k + r.1 < x.1)) = true then some (c + jm l a en lk k + r.1, en, k) else acc
def bW (l : List It) (wd most : Int) (a : Nat) (lk : Int) (rest : Nat → Int → Option Ch) : Nat → Option Ch
 | 0 => none
 | j + 1 => iE l wd most a lk rest (bW l wd most a lk rest j) (l.length - (j + 1))
def vE (l : List It) (wd most : Int) : Nat → Nat → Int → Option Ch
 | 0, _, _ => some (0, 0, 0)
 | f + 1, a, lk => if a = l.length then some (0, 0, 0) else bW l wd most a lk (vE l wd most f) (l.length - a)
def aX (l : List It) (wd most : Int) (a : Nat) (lk : Int) : Option Ch := vE l wd most (l.length - a) a lk
theorem lD {l : List It} {wd most : Int} {a : Nat} {lk : Int} {r r' : Nat → Int → Option Ch} : ∀ j, (∀ b k, l.length - j < b → b ≤ l.length → r b k = r' b k) → j ≤ l.length → bW l wd most a lk r j = bW l wd most a lk r' j
 | 0, _, _ => rfl
 | j + 1, h, hj => by
  rw [bW, bW, lD j (fun b k h1 h2 => h b k (by omega) h2) (by omega)]
  unfold iE
  cases iT l wd most a (l.length - (j + 1)) with
  | none => rfl
  | some c => dsimp only; rw [h _ _ (by omega) (by omega)]
theorem wM {l : List It} {wd most : Int} : ∀ (f f' a : Nat) (lk : Int), l.length - a ≤ f → l.length - a ≤ f' → a ≤ l.length → vE l wd most f a lk = vE l wd most f' a lk
 | 0, f', a, lk, h, h', ha => by
  have : a = l.length := by omega
  subst this
  cases f' with
  | zero => rfl
  | succ f' => rw [vE, vE, if_pos rfl]
 | f + 1, 0, a, lk, h, h', ha => by
  have : a = l.length := by omega
  subst this
  rw [vE, vE, if_pos rfl]
 | f + 1, f' + 1, a, lk, h, h', ha => by
  rw [vE, vE]
  split
  ·rfl
  ·exact lD _ (fun b k h1 h2 => wM f f' b k (by omega) (by omega) h2) (by omega)
theorem oL (l : List It) (wd most lk : Int) : aX l wd most l.length lk = some (0, 0, 0) := by
 unfold aX
 rw [Nat.sub_self]
 rfl
theorem mV {l : List It} {wd most lk : Int} {a : Nat} (h : a < l.length) : aX l wd most a lk = bW l wd most a lk (aX l wd most) (l.length - a) := by
 unfold aX
 obtain ⟨f, hf⟩ : ∃ f, l.length - a = f + 1 := ⟨l.length - a - 1, by omega⟩
 conv => lhs; rw [hf]
 rw [vE, if_neg (by omega)]
 exact lD _ (fun b k h1 h2 => wM _ _ _ _ (by omega) (by omega) h2) (by omega)
end Go.Proofs.YtngcedklbinhjaaGreatDoor
namespace Go.Proofs.YtngcedklbinhjaaGreatDoor
open Go.RowKit
set_option linter.all false
theorem qE {l : List It} {wd most : Int} {a en : Nat} {x : Int × Int} (h : iT l wd most a en = some x) : fI l a en = true ∧ (0 ≤ (iL l wd a en).1 ∧ (iL l wd a en).1 ≤ most) ∧ x = (mq (iL l wd a en).1 (gI l en).cost, gU (iL l wd a en).2 (iL l wd a en).1) := by
 unfold iT at h
 split at h
 ·rename_i hc
  cases h
  exact ⟨hc.1, hc.2, rfl⟩
 ·cases h
theorem oW {l : List It} {wd most : Int} {a en : Nat} {x : Int × Int} (hl : bM l = true) (hm : most ≤ 10000) (h : iT l wd most a en = some x) : (a ≤ en ∧ en < l.length) ∧ (0 ≤ x.1 ∧ x.1 ≤ 300000000) ∧ 0 ≤ x.2 ∧ x.2 ≤ 3 := by
 obtain ⟨h1, h2, rfl⟩ := qE h
 obtain ⟨h3, -⟩ := gy.1 h1
 exact ⟨h3, o7 ⟨h2.1, by omega⟩ (gZ hl h3.2).cost, mE _ _⟩
theorem iR {l : List It} {wd most : Int} {a : Nat} {lk : Int} {rest : Nat → Int → Option Ch} {acc : Option Ch} {en : Nat} (h : iT l wd most a en = none) : iE l wd most a lk rest acc en = acc := by
 unfold iE
 rw [h]
theorem kJ {l : List It} {wd most : Int} {a : Nat} {lk : Int} {rest : Nat → Int → Option Ch} {acc : Option Ch} {en : Nat} {c k : Int} (h : iT l wd most a en = some (c, k)) (h2 : rest (en + 1) k = none) : iE l wd most a lk rest acc en = acc := by
 unfold iE
 rw [h]
 dsimp only
 rw [h2]
theorem kU {l : List It} {wd most : Int} {a : Nat} {lk : Int} {rest : Nat → Int → Option Ch} {acc : Option Ch} {en : Nat} {c k : Int} {r : Ch} (h : iT l wd most a en = some (c, k)) (h2 : rest (en + 1) k = some r) :
  iE l wd most a lk rest acc en = if acc.all (fun x => decide (c + jm l a en lk k + r.1 < x.1)) = true then some (c + jm l a en lk k + r.1, en, k) else acc := by
 unfold iE
 rw [h]
 dsimp only
 rw [h2]
def azc (l : List It) (wd most : Int) (a : Nat) (lk : Int) (rest : Nat → Int → Option Ch) (j : Nat) (x : Ch) : Prop :=
 ∃ c0 r, iT l wd most a x.2.1 = some (c0, x.2.2) ∧ rest (x.2.1 + 1) x.2.2 = some r ∧ x.1 = c0 + jm l a x.2.1 lk x.2.2 + r.1 ∧ l.length - j ≤ x.2.1 ∧ x.2.1 < l.length
theorem nM {l : List It} {wd most : Int} {a : Nat} {lk : Int} {rest : Nat → Int → Option Ch} {x : Ch} : ∀ j, 0 < l.length → bW l wd most a lk rest j = some x → azc l wd most a lk rest j x
 | 0, _, h => by cases h
 | j + 1, hp, h => by
  have ih := @nM l wd most a lk rest x j hp
  have wk : azc l wd most a lk rest j x → azc l wd most a lk rest (j + 1) x := fun ⟨c0, r, h1, h2, h3, h4, h5⟩ => ⟨c0, r, h1, h2, h3, by omega, h5⟩
  rw [bW] at h
  cases hL : iT l wd most a (l.length - (j + 1)) with
  | none => rw [iR hL] at h; exact wk (ih h)
  | some c =>
   obtain ⟨c, k⟩ := c
   cases hr : rest (l.length - (j + 1) + 1) k with
   | none => rw [kJ hL hr] at h; exact wk (ih h)
   | some r =>
    rw [kU hL hr] at h
    split at h
    ·cases h
     exact ⟨c, r, hL, hr, rfl, Nat.le_refl _, by dsimp only; omega⟩
    ·exact wk (ih h)
theorem qz {l : List It} {wd most lk : Int} {a : Nat} {x : Ch} (h : a < l.length) (hx : aX l wd most a lk = some x) : azc l wd most a lk (aX l wd most) (l.length - a) x := by
 rw [mV h] at hx
 exact nM _ (by omega) hx
theorem tO {l : List It} {wd most : Int} (hl : bM l = true) (hm : most ≤ 10000) : ∀ (n a : Nat) (lk : Int) (x : Ch), l.length - a = n → a ≤ l.length → aX l wd most a lk = some x → 0 ≤ x.1 ∧ x.1 ≤ 306000000 * n
 | 0, a, lk, x, hn, ha, h => by
  have : a = l.length := by omega
  subst this
  rw [oL] at h
  cases h
  exact ⟨by decide, by simp⟩
 | n + 1, a, lk, x, hn, ha, h => by
  obtain ⟨c0, r, h1, h2, h3, h4, h5⟩ := qz (by omega) h
  obtain ⟨g1, g2, g3⟩ := oW hl hm h1
  have hb := lU l a x.2.1 lk x.2.2
  have ih := tO hl hm (l.length - (x.2.1 + 1)) (x.2.1 + 1) _ r rfl (by omega) h2
  dsimp only at g2
  push_cast
  omega
theorem qb {l : List It} {wd most : Int} (hl : bM l = true) (hm : most ≤ 10000) {a : Nat} {lk : Int} {j : Nat} {x : Ch} (ha : a < l.length) (h : bW l wd most a lk (aX l wd most) j = some x) : (0 ≤ x.1 ∧ x.1 ≤ 20000000000) ∧ x.2.1 < l.length ∧ 0 ≤ x.2.2 ∧ x.2.2 ≤ 3 := by
 obtain ⟨c0, r, h1, h2, h3, h4, h5⟩ := nM j (by omega) h
 obtain ⟨g1, g2, g3⟩ := oW hl hm h1
 have hb := lU l a x.2.1 lk x.2.2
 have ih := tO hl hm _ _ _ r rfl (by omega) h2
 have := cK hl
 dsimp only at g2 g3
 exact ⟨by omega, h5, g3⟩
theorem eD {l : List It} {wd most : Int} (hl : bM l = true) (hm : most ≤ 10000) {a : Nat} {lk : Int} {x : Ch} (ha : a ≤ l.length) (h : aX l wd most a lk = some x) : (0 ≤ x.1 ∧ x.1 ≤ 20000000000) ∧ (a < l.length → (a ≤ x.2.1 ∧ x.2.1 < l.length) ∧ 0 ≤ x.2.2 ∧ x.2.2 ≤ 3) := by
 have h1 := tO hl hm _ a lk x rfl ha h
 have := cK hl
 refine ⟨by omega, fun h2 => ?_⟩
 obtain ⟨c0, r, g1, g2, g3, g4, g5⟩ := qz h2 h
 obtain ⟨k1, k2, k3⟩ := oW hl hm g1
 exact ⟨k1, k3⟩
theorem x9 {l : List It} {wd most : Int} {a en : Nat} (h0 : 0 < a) (h : lJ l (a - 1) = false) : iT l wd most a en = none := by
 unfold iT
 rw [if_neg]
 rintro ⟨h1, -⟩
 obtain ⟨-, -, h2, -⟩ := gy.1 h1
 rcases h2 with h2 | h2
 ·omega
 ·rw [h] at h2; cases h2
theorem nG {l : List It} {wd most : Int} {a : Nat} {lk : Int} {rest : Nat → Int → Option Ch} (h0 : 0 < a) (h : lJ l (a - 1) = false) : ∀ j, bW l wd most a lk rest j = none
 | 0 => rfl
 | j + 1 => by rw [bW, iR (x9 h0 h), nG h0 h j]
theorem wZ {l : List It} {wd most lk : Int} {a : Nat} (ha : a < l.length) (h0 : 0 < a) (h : lJ l (a - 1) = false) : aX l wd most a lk = none := by
 rw [mV ha, nG h0 h]
theorem qQ {l : List It} {wd most lk lk' : Int} {rest : Nat → Int → Option Ch} : ∀ j, bW l wd most 0 lk rest j = bW l wd most 0 lk' rest j
 | 0 => rfl
 | j + 1 => by
  rw [bW, bW, qQ (lk := lk) (lk' := lk') j]
  have : ∀ en k, jm l 0 en lk k = jm l 0 en lk' k := fun en k => by simp [jm]
  unfold iE
  simp only [this]
theorem uU {l : List It} {wd most : Int} (lk lk' : Int) : aX l wd most 0 lk = aX l wd most 0 lk' := by
 by_cases h : 0 < l.length
 ·rw [mV h, mV h, qQ (lk := lk) (lk' := lk')]
 ·unfold aX
  rw [show l.length - 0 = 0 by omega]
  rfl
def bkF (l : List It) (wd most : Int) : Nat → Nat → Int → List Int
 | 0, _, _ => []
 | f + 1, a, lk => if a = l.length then [] else match aX l wd most a lk with
  | none => []
  | some r => (r.2.1 : Int) :: bkF l wd most f (r.2.1 + 1) r.2.2
def dN (l : List It) (wd most : Int) : List Int := bkF l wd most (l.length + 1) 0 1
def jO (l : List It) (wd most : Int) : Bool := bM l && (decide (0 < l.length) && (inB wd 0 1000 && (inB most 0 10000 && (aX l wd most 0 1).isSome)))
def apK (l : List It) (wd most : Int) : List Int := if jO l wd most = true then dN l wd most else []
theorem gu {l : List It} {wd most : Int} : jO l wd most = true ↔ bM l = true ∧ 0 < l.length ∧ (0 ≤ wd ∧ wd ≤ 1000) ∧ (0 ≤ most ∧ most ≤ 10000) ∧ (aX l wd most 0 1).isSome = true := by
 simp [jO, aj]
theorem mQ {l : List It} {wd most : Int} {f a : Nat} {lk : Int} {r : Ch} (h : ¬ a = l.length) (hr : aX l wd most a lk = some r) : bkF l wd most (f + 1) a lk = (r.2.1 : Int) :: bkF l wd most f (r.2.1 + 1) r.2.2 := by
 rw [bkF, if_neg h, hr]
theorem vH {l : List It} {wd most : Int} {f : Nat} {lk : Int} : bkF l wd most f l.length lk = [] := by
 cases f with
 | zero => rfl
 | succ f => rw [bkF, if_pos rfl]
theorem abl {l : List It} {wd most : Int} (hl : bM l = true) (hm : most ≤ 10000) : ∀ (f a : Nat) (lk : Int), a ≤ l.length → (bkF l wd most f a lk).length ≤ l.length - a
 | 0, a, lk, _ => by simp [bkF]
 | f + 1, a, lk, ha => by
  by_cases h : a = l.length
  ·subst h; rw [vH]; simp
  ·cases hr : aX l wd most a lk with
   | none => rw [bkF, if_neg h, hr]; simp
   | some r =>
    obtain ⟨h1, h2⟩ := eD hl hm ha hr
    have h2 := h2 (by omega)
    rw [mQ h hr, List.length_cons]
    have := abl (wd := wd) hl hm f (r.2.1 + 1) r.2.2 (by omega)
    omega
theorem mU {l : List It} {wd most : Int} {a : Nat} {lk : Int} {r : Ch} (ha : a < l.length) (hr : aX l wd most a lk = some r) : ∃ x c0, aX l wd most (r.2.1 + 1) r.2.2 = some x ∧ iT l wd most a r.2.1 = some (c0, r.2.2) := by
 obtain ⟨c0, x, g1, g2, -⟩ := qz ha hr
 exact ⟨x, c0, g2, g1⟩
def nbX (l : List It) (n : Nat) : Nat := ((l.take n).filter fun x => decide (x.kd = 1)).length
theorem aci {l : List It} {n : Nat} (h : n < l.length) (hk : (gI l n).kd = 1) : nbX l (n + 1) = nbX l n + 1 := by
 unfold nbX
 rw [List.take_succ_eq_append_getElem h, List.filter_append, List.length_append]
 have e : gI l n = l[n] := by unfold gI; rw [List.getElem?_eq_getElem h, Option.getD_some]
 rw [e] at hk
 simp [hk]
theorem ahR {l : List It} {n : Nat} (h : n < l.length) (hk : ¬ (gI l n).kd = 1) : nbX l (n + 1) = nbX l n := by
 unfold nbX
 rw [List.take_succ_eq_append_getElem h, List.filter_append, List.length_append]
 have e : gI l n = l[n] := by unfold gI; rw [List.getElem?_eq_getElem h, Option.getD_some]
 rw [e] at hk
 simp [hk]
def nu (l : List It) (tx : LS) (s : ByteArray) (n : Nat) : ByteArray :=
 if (gI l n).kd = 1 then s ++ (tx[nbX l n]?.getD .empty) else if (gI l n).kd = 2 ∧ 0 < (gI l n).wd ∧ ¬ s = ⟨#[]⟩ then s ++ ⟨#[32]⟩ else s
instance : DecidableEq ByteArray := inferInstance
def lnT (l : List It) (tx : LS) (a : Nat) : Nat → ByteArray
 | 0 => ⟨#[]⟩
 | j + 1 => nu l tx (lnT l tx a j) (a + j)
def lnR (l : List It) (tx : LS) (a en : Nat) : ByteArray := if (gI l en).mark = true then lnT l tx a (en - a) ++ ⟨#[45]⟩ else lnT l tx a (en - a)
end Go.Proofs.YtngcedklbinhjaaGreatDoor
namespace Go.Proofs.YtngcedklbinhjaaGreatDoor
open Go.RowKit
set_option linter.all false
def dA7 {α β γ δ ε ζ η : Type} (A : Dec α) (B : Dec β) (C : Dec γ) (D : Dec δ) (E : Dec ε) (F : Dec ζ) (G : Dec η) : Dec (α × β × γ × δ × ε × ζ × η) where
 d := fun | .agg [p, q, r, s, t, u, v] => (A.d p).bind fun a => (B.d q).bind fun b => (C.d r).bind fun c => (D.d s).bind fun d => (E.d t).bind fun e => (F.d u).bind fun f => (G.d v).map fun g => (a, b, c, d, e, f, g) | _ => none
 e := fun x => .agg [A.e x.1, B.e x.2.1, C.e x.2.2.1, D.e x.2.2.2.1, E.e x.2.2.2.2.1, F.e x.2.2.2.2.2.1, G.e x.2.2.2.2.2.2]
 h := fun p a h => by
  split at h
  ·simp only [Option.bind_eq_some_iff, Option.map_eq_some_iff] at h
   obtain ⟨x, h1, y, h2, z, h3, t, h4, u, h5, v, h6, w, h7, rfl⟩ := h
   rw [A.h _ _ h1, B.h _ _ h2, C.h _ _ h3, D.h _ _ h4, E.h _ _ h5, F.h _ _ h6, G.h _ _ h7]
  ·cases h
 h' := fun a => by simp [A.h', B.h', C.h', D.h', E.h', F.h', G.h']
theorem apH {α β γ δ ε ζ η : Type} (A : Dec α) (B : Dec β) (C : Dec γ) (D : Dec δ) (E : Dec ε) (F : Dec ζ) (G : Dec η) : (dA7 A B C D E F G).e = fun x => .agg [A.e x.1, B.e x.2.1, C.e x.2.2.1, D.e x.2.2.2.1, E.e x.2.2.2.2.1, F.e x.2.2.2.2.2.1, G.e x.2.2.2.2.2.2] := rfl
abbrev dIt : Dec It := dA7 dI dI dI dI dI dI dB
abbrev nA : Dec (List It) := dL 7 dIt
abbrev gJ (x : It) : PV := .agg [.val (.int .i64 x.1), .val (.int .i64 x.2.1), .val (.int .i64 x.2.2.1), .val (.int .i64 x.2.2.2.1), .val (.int .i64 x.2.2.2.2.1), .val (.int .i64 x.2.2.2.2.2.1), .val (.bool x.2.2.2.2.2.2)]
section
variable {β : Type} {n sz f i : Nat} {ob : aF} {k fr : Bool} {l : List It}
theorem auX {g : It → PV} (h : i < l.length) : ((l[i]?).map g).getD .dead = g ((l[i]?).getD it0) := by simp [h]
theorem avQ {g : It → β} (h : i < l.length) : Option.map g l[i]? = some (g ((l[i]?).getD it0)) := by simp [h]
theorem akb : reify false n ob (f + 3) (.lst k sz (l.map gJ)) = some (.lst false sz (l.map gJ)) := jl fun _ => rfl
theorem ahn : reify true n ob (f + 3) (.lst true sz (l.map gJ)) = some (.lst true sz (l.map gJ)) := kK fun _ => rfl
theorem al5 {m T : Nat} (hm : m = l.length) : om fr (f + 2) ob sz 0 m (some (T, sz, l.map gJ)) = some (.lst fr sz (l.map gJ)) := jZ (fun _ => rfl) hm
end
attribute [push_cast]
 auX avQ akb ahn al5
abbrev afr (l : List It) : Prop := l.length ≤ 1000
noncomputable def yK : Fun := F1 dI4 fun g => some (bv (glB g))
theorem adi {a b c d : Int} : yK [.agg [.val (.int .i64 a), .val (.int .i64 b), .val (.int .i64 c), .val (.int .i64 d)]] = some (.val (.bool (glB (a, b, c, d)))) := jM (A := dI4) (a, b, c, d)
noncomputable def afQ : Ctx := { fn := fun f => if f = 60 then some φIn else none, io := fun f => none }
theorem akv : aA Tryz.prog afQ := ⟨(fun f φ h => by
 unfold afQ at h
 dsimp only at h
 split at h
 ·rename_i hf; cases h; subst hf; exact ⟨⟨_, Tryz.func60, rfl, rfl⟩, vU⟩
 cases h), (fun f φ h => by
 unfold afQ at h
 dsimp only at h
 cases h), rfl⟩
theorem alI (ob : aF) (ps : List PV) : ah afQ ob 60 ps = (ps.mapM (reify false 0 ob fuel)).bind φIn := by
 have h : afQ.fn 60 = some φIn := by simp [afQ]
 unfold ah
 rw [h]
 cases ps.mapM (reify false 0 ob fuel) <;> rfl
set_option maxHeartbeats 4000000 in
theorem ae3 : Sound Tryz.prog 28 yK := by
 refine ay mixed akv Tryz.func28 rfl 23 rfl [.tmp 2] rfl (by kernel_rfl) fun ps r hr => ?_
 obtain ⟨⟨a, b, c, d⟩, rfl, hr⟩ := bY hr
 cases hr
 refine ⟨by simp, ?_⟩
 simp only [dIs, dUs, dSs, eX, fq, eT, fE, bS, fA, bO, bP, bR, bQ]
 have ggl4i_c60 := alI; have ap := dR
 repeat' (first | (with_reducible first | apply bF | apply av | apply aO | apply aJ | apply bC | apply dY | apply bA | apply bH | apply d9 | apply bE | apply bJ | apply dX | apply bI | apply bG | apply bD) | ((with_reducible apply au); (simp only [List.map_cons, List.map_nil] <;> exact rfl)) | ((with_reducible apply aI); (simp only [List.map_cons, List.map_nil] <;> exact rfl); decide +kernel) | ((with_reducible apply bB); rfl) | ((first | ((with_reducible apply i_V); rfl; rfl; rfl) | ((first | ((with_reducible apply i_E); rfl) | ((with_reducible apply i_S); rfl)); first | rfl | (simp only [push_cast, ↓reduceIte])) | ((with_reducible apply dW); rfl; rfl) | ((with_reducible apply dZ); rfl; rfl; rfl) | (with_reducible first | apply dV | apply aL)); (simp (disch := (first | omega | (simp only [push_cast]; first | done | omega))) only [push_cast, ↓reduceIte, Nat.reduceEqDiff, Nat.reduceBEq, Nat.reduceAdd, Nat.reduceSub, Int.reduceToNat, *] <;> with_reducible exact rfl); all_goals try (first | (with_reducible first | refine hyT ?_ | refine hyF ?_ | exact hyA | exact hyB) | (intro hX; first | (cases hX; done) | ((try simp only [decide_eq_true_eq, decide_eq_false_iff_not, Bool.not_eq_true', Bool.not_eq_false'] at hX); (try have hXb := aj.1 hX))))))
 all_goals ((first | apply dw | apply bK); simp (disch := (first | omega | (simp only [push_cast]; first | done | omega))) only [push_cast, ↓reduceIte, Nat.reduceEqDiff, Nat.reduceBEq, Nat.reduceAdd, Nat.reduceSub, Int.reduceToNat, *])
 all_goals simp_all [glB]
noncomputable def afY : Ctx := { fn := fun f => if f = 51 then some φIn else none, io := fun f => none }
theorem amA : aA Tryz.prog afY := ⟨(fun f φ h => by
 unfold afY at h
 dsimp only at h
 split at h
 ·rename_i hf; cases h; subst hf; exact ⟨⟨_, Tryz.func51, rfl, rfl⟩, jK⟩
 cases h), (fun f φ h => by
 unfold afY at h
 dsimp only at h
 cases h), rfl⟩
theorem alb (ob : aF) (ps : List PV) : ah afY ob 51 ps = (ps.mapM (reify false 0 ob fuel)).bind φIn := by
 have h : afY.fn 51 = some φIn := by simp [afY]
 unfold ah
 rw [h]
 cases ps.mapM (reify false 0 ob fuel) <;> rfl
set_option maxHeartbeats 4000000 in
theorem aeE : Sound Tryz.prog 101 yK := by
 refine ay mixed amA Tryz.func101 rfl 23 rfl [.tmp 2] rfl (by kernel_rfl) fun ps r hr => ?_
 obtain ⟨⟨a, b, c, d⟩, rfl, hr⟩ := bY hr
 cases hr
 refine ⟨by simp, ?_⟩
 simp only [dIs, dUs, dSs, eX, fq, eT, fE, bS, fA, bO, bP, bR, bQ]
 have ggl4s_c51 := alb; have ap := dR
 repeat' (first | (with_reducible first | apply bF | apply av | apply aO | apply aJ | apply bC | apply dY | apply bA | apply bH | apply d9 | apply bE | apply bJ | apply dX | apply bI | apply bG | apply bD) | ((with_reducible apply au); (simp only [List.map_cons, List.map_nil] <;> exact rfl)) | ((with_reducible apply aI); (simp only [List.map_cons, List.map_nil] <;> exact rfl); decide +kernel) | ((with_reducible apply bB); rfl) | ((first | ((with_reducible apply i_V); rfl; rfl; rfl) | ((first | ((with_reducible apply i_E); rfl) | ((with_reducible apply i_S); rfl)); first | rfl | (simp only [push_cast, ↓reduceIte])) | ((with_reducible apply dW); rfl; rfl) | ((with_reducible apply dZ); rfl; rfl; rfl) | (with_reducible first | apply dV | apply aL)); (simp (disch := (first | omega | (simp only [push_cast]; first | done | omega))) only [push_cast, ↓reduceIte, Nat.reduceEqDiff, Nat.reduceBEq, Nat.reduceAdd, Nat.reduceSub, Int.reduceToNat, *] <;> with_reducible exact rfl); all_goals try (first | (with_reducible first | refine hyT ?_ | refine hyF ?_ | exact hyA | exact hyB) | (intro hX; first | (cases hX; done) | ((try simp only [decide_eq_true_eq, decide_eq_false_iff_not, Bool.not_eq_true', Bool.not_eq_false'] at hX); (try have hXb := aj.1 hX))))))
 all_goals ((first | apply dw | apply bK); simp (disch := (first | omega | (simp only [push_cast]; first | done | omega))) only [push_cast, ↓reduceIte, Nat.reduceEqDiff, Nat.reduceBEq, Nat.reduceAdd, Nat.reduceSub, Int.reduceToNat, *])
 all_goals simp_all [glB]
noncomputable def xM : Fun := F1 dIt fun x => some (bv (itB x))
theorem adI {a b c d e f : Int} {g : Bool} : xM [.agg [.val (.int .i64 a), .val (.int .i64 b), .val (.int .i64 c), .val (.int .i64 d), .val (.int .i64 e), .val (.int .i64 f), .val (.bool g)]] = some (.val (.bool (itB (a, b, c, d, e, f, g)))) := jM (A := dIt) (a, b, c, d, e, f, g)
def oI : Fun := F1 dI fun c => some (bv (xQ c))
theorem zQ (c : Int) : oI [.val (.int .i64 c)] = some (.val (.bool (xQ c))) := rfl
noncomputable def af9 : Ctx := { fn := fun f => if f = 62 then some kG else none, io := fun f => none }
theorem akW : aA Tryz.prog af9 := ⟨(fun f φ h => by
 unfold af9 at h
 dsimp only at h
 split at h
 ·rename_i hf; cases h; subst hf; exact ⟨⟨_, Tryz.func62, rfl, rfl⟩, pX⟩
 cases h), (fun f φ h => by
 unfold af9 at h
 dsimp only at h
 cases h), rfl⟩
theorem akF (ob : aF) (ps : List PV) : ah af9 ob 62 ps = (ps.mapM (reify false 0 ob fuel)).bind kG := by
 have h : af9.fn 62 = some kG := by simp [af9]
 unfold ah
 rw [h]
 cases ps.mapM (reify false 0 ob fuel) <;> rfl
theorem aaN : Sound Tryz.prog 105 oI := by
 refine ay mixed akW Tryz.func105 rfl 9 rfl [.tmp 2] rfl (by kernel_rfl) fun ps r hr => ?_
 obtain ⟨c, rfl, hr⟩ := bY hr
 cases hr
 refine ⟨by simp, ?_⟩
 simp only [dIs, dUs, dSs, eX, fq, eT, fE, bS, fA, bO, bP, bR, bQ]
 have ap := mI
 have gcost_c62 := akF
 repeat' (first | (with_reducible first | apply bF | apply av | apply aO | apply aJ | apply bC | apply dY | apply bA | apply bH | apply d9 | apply bE | apply bJ | apply dX | apply bI | apply bG | apply bD) | ((with_reducible apply au); (simp only [List.map_cons, List.map_nil] <;> exact rfl)) | ((with_reducible apply aI); (simp only [List.map_cons, List.map_nil] <;> exact rfl); decide +kernel) | ((with_reducible apply bB); rfl) | ((first | ((with_reducible apply i_V); rfl; rfl; rfl) | ((first | ((with_reducible apply i_E); rfl) | ((with_reducible apply i_S); rfl)); first | rfl | (simp only [push_cast, ↓reduceIte])) | ((with_reducible apply dW); rfl; rfl) | ((with_reducible apply dZ); rfl; rfl; rfl) | (with_reducible first | apply dV | apply aL)); (simp (disch := (first | omega | (simp only [push_cast]; first | done | omega))) only [push_cast, ↓reduceIte, Nat.reduceEqDiff, Nat.reduceBEq, Nat.reduceAdd, Nat.reduceSub, Int.reduceToNat, *] <;> with_reducible exact rfl); all_goals try (first | (with_reducible first | refine hyT ?_ | refine hyF ?_ | exact hyA | exact hyB) | (intro hX; first | (cases hX; done) | ((try simp only [decide_eq_true_eq, decide_eq_false_iff_not, Bool.not_eq_true', Bool.not_eq_false'] at hX); (try have hXb := aj.1 hX))))))
 all_goals ((first | apply dw | apply bK); simp (disch := (first | omega | (simp only [push_cast]; first | done | omega))) only [push_cast, ↓reduceIte, Nat.reduceEqDiff, Nat.reduceBEq, Nat.reduceAdd, Nat.reduceSub, Int.reduceToNat, *])
 all_goals simp_all [xQ]
noncomputable def ak9 : Ctx := { fn := fun f => if f = 28 then some yK else if f = 105 then some oI else none, io := fun f => none }
theorem arN : aA Tryz.prog ak9 := ⟨(fun f φ h => by
 unfold ak9 at h
 dsimp only at h
 split at h
 ·rename_i hf; cases h; subst hf; exact ⟨⟨_, Tryz.func28, rfl, rfl⟩, ae3⟩
 split at h
 ·rename_i hf; cases h; subst hf; exact ⟨⟨_, Tryz.func105, rfl, rfl⟩, aaN⟩
 cases h), (fun f φ h => by
 unfold ak9 at h
 dsimp only at h
 cases h), rfl⟩
theorem asu (ob : aF) (ps : List PV) : ah ak9 ob 28 ps = (ps.mapM (reify false 0 ob fuel)).bind yK := by
 have h : ak9.fn 28 = some yK := by simp [ak9]
 unfold ah
 rw [h]
 cases ps.mapM (reify false 0 ob fuel) <;> rfl
theorem amf (ob : aF) (ps : List PV) : ah ak9 ob 105 ps = (ps.mapM (reify false 0 ob fuel)).bind oI := by
 have h : ak9.fn 105 = some oI := by simp [ak9]
 unfold ah
 rw [h]
 cases ps.mapM (reify false 0 ob fuel) <;> rfl
set_option maxHeartbeats 16000000 in
theorem afv : Sound Tryz.prog 84 xM := by
 refine ay mixed arN Tryz.func84 rfl 63 rfl [.tmp 2] rfl (by kernel_rfl) fun ps r hr => ?_
 obtain ⟨⟨a, b, c, d, e, f, g⟩, rfl, hr⟩ := bY hr
 cases hr
 refine ⟨by simp, ?_⟩
 simp only [dIs, dUs, dSs, eX, fq, eT, fE, bS, fA, bO, bP, bR, bQ]
 simp only [apH, eX, eT]
 have ap1 := @adi
 have ap2 := zQ
 have hE : itB (a, b, c, d, e, f, g) = (glB (b, c, d, e) && ((decide (a = 1) && (decide (c = 0 ∧ d = 0 ∧ e = 0) && decide (f = 0 ∧ g = false))) || ((decide (a = 2) && decide (f = 0 ∧ g = false)) || (decide (a = 3) && (decide (c = 0 ∧ d = 0 ∧ e = 0) && xQ f))))) := rfl
 rw [hE]
 clear hE
 cases hg : glB (b, c, d, e) <;> cases hc : xQ f <;>
 ·have giti_c28 := asu; have giti_c105 := amf
  repeat' (first | (with_reducible first | apply bF | apply av | apply aO | apply aJ | apply bC | apply dY | apply bA | apply bH | apply d9 | apply bE | apply bJ | apply dX | apply bI | apply bG | apply bD) | ((with_reducible apply au); (simp only [List.map_cons, List.map_nil] <;> exact rfl)) | ((with_reducible apply aI); (simp only [List.map_cons, List.map_nil] <;> exact rfl); decide +kernel) | ((with_reducible apply bB); rfl) | ((first | ((with_reducible apply i_V); rfl; rfl; rfl) | ((first | ((with_reducible apply i_E); rfl) | ((with_reducible apply i_S); rfl)); first | rfl | (simp only [push_cast, ↓reduceIte])) | ((with_reducible apply dW); rfl; rfl) | ((with_reducible apply dZ); rfl; rfl; rfl) | (with_reducible first | apply dV | apply aL)); (simp (disch := (first | omega | (simp only [push_cast]; first | done | omega))) only [push_cast, ↓reduceIte, Nat.reduceEqDiff, Nat.reduceBEq, Nat.reduceAdd, Nat.reduceSub, Int.reduceToNat, *] <;> with_reducible exact rfl); all_goals try (first | (with_reducible first | refine hyT ?_ | refine hyF ?_ | exact hyA | exact hyB) | (intro hX; first | (cases hX; done) | ((try simp only [decide_eq_true_eq, decide_eq_false_iff_not, Bool.not_eq_true', Bool.not_eq_false'] at hX); (try have hXb := aj.1 hX))))))
  all_goals ((first | apply dw | apply bK); simp (disch := (first | omega | (simp only [push_cast]; first | done | omega))) only [push_cast, ↓reduceIte, Nat.reduceEqDiff, Nat.reduceBEq, Nat.reduceAdd, Nat.reduceSub, Int.reduceToNat, *])
  all_goals (first | (simp_all; done) | (simp_all; omega))
noncomputable def akr : Ctx := { fn := fun f => if f = 101 then some yK else if f = 51 then some φIn else none, io := fun f => none }
theorem ape : aA Tryz.prog akr := ⟨(fun f φ h => by
 unfold akr at h
 dsimp only at h
 split at h
 ·rename_i hf; cases h; subst hf; exact ⟨⟨_, Tryz.func101, rfl, rfl⟩, aeE⟩
 split at h
 ·rename_i hf; cases h; subst hf; exact ⟨⟨_, Tryz.func51, rfl, rfl⟩, jK⟩
 cases h), (fun f φ h => by
 unfold akr at h
 dsimp only at h
 cases h), rfl⟩
theorem akA (ob : aF) (ps : List PV) : ah akr ob 101 ps = (ps.mapM (reify false 0 ob fuel)).bind yK := by
 have h : akr.fn 101 = some yK := by simp [akr]
 unfold ah
 rw [h]
 cases ps.mapM (reify false 0 ob fuel) <;> rfl
theorem asb (ob : aF) (ps : List PV) : ah akr ob 51 ps = (ps.mapM (reify false 0 ob fuel)).bind φIn := by
 have h : akr.fn 51 = some φIn := by simp [akr]
 unfold ah
 rw [h]
 cases ps.mapM (reify false 0 ob fuel) <;> rfl
set_option maxHeartbeats 16000000 in
theorem aex : Sound Tryz.prog 78 xM := by
 refine ay mixed ape Tryz.func78 rfl 62 rfl [.tmp 2] rfl (by kernel_rfl) fun ps r hr => ?_
 obtain ⟨⟨a, b, c, d, e, f, g⟩, rfl, hr⟩ := bY hr
 cases hr
 refine ⟨by simp, ?_⟩
 simp only [dIs, dUs, dSs, eX, fq, eT, fE, bS, fA, bO, bP, bR, bQ]
 simp only [apH, eX, eT]
 have ap1 := @adi
 have ap2 := dR
 have hE : itB (a, b, c, d, e, f, g) = (glB (b, c, d, e) && ((decide (a = 1) && (decide (c = 0 ∧ d = 0 ∧ e = 0) && decide (f = 0 ∧ g = false))) || ((decide (a = 2) && decide (f = 0 ∧ g = false)) || (decide (a = 3) && (decide (c = 0 ∧ d = 0 ∧ e = 0) && (inB f 0 10000 || decide (f = -10000))))))) := rfl
 rw [hE]
 clear hE
 cases hg : glB (b, c, d, e) <;>
 ·have gits_c101 := akA; have gits_c51 := asb
  repeat' (first | (with_reducible first | apply bF | apply av | apply aO | apply aJ | apply bC | apply dY | apply bA | apply bH | apply d9 | apply bE | apply bJ | apply dX | apply bI | apply bG | apply bD) | ((with_reducible apply au); (simp only [List.map_cons, List.map_nil] <;> exact rfl)) | ((with_reducible apply aI); (simp only [List.map_cons, List.map_nil] <;> exact rfl); decide +kernel) | ((with_reducible apply bB); rfl) | ((first | ((with_reducible apply i_V); rfl; rfl; rfl) | ((first | ((with_reducible apply i_E); rfl) | ((with_reducible apply i_S); rfl)); first | rfl | (simp only [push_cast, ↓reduceIte])) | ((with_reducible apply dW); rfl; rfl) | ((with_reducible apply dZ); rfl; rfl; rfl) | (with_reducible first | apply dV | apply aL)); (simp (disch := (first | omega | (simp only [push_cast]; first | done | omega))) only [push_cast, ↓reduceIte, Nat.reduceEqDiff, Nat.reduceBEq, Nat.reduceAdd, Nat.reduceSub, Int.reduceToNat, *] <;> with_reducible exact rfl); all_goals try (first | (with_reducible first | refine hyT ?_ | refine hyF ?_ | exact hyA | exact hyB) | (intro hX; first | (cases hX; done) | ((try simp only [decide_eq_true_eq, decide_eq_false_iff_not, Bool.not_eq_true', Bool.not_eq_false'] at hX); (try have hXb := aj.1 hX))))))
  all_goals ((first | apply dw | apply bK); simp (disch := (first | omega | (simp only [push_cast]; first | done | omega))) only [push_cast, ↓reduceIte, Nat.reduceEqDiff, Nat.reduceBEq, Nat.reduceAdd, Nat.reduceSub, Int.reduceToNat, *])
  all_goals (first | (simp_all; done) | (simp_all; omega))
noncomputable def rF : Fun := F1 nA fun l => if afr l then some (bv (bM l)) else none
theorem xq {l : List It} (h : afr l) : rF [.lst false 7 (l.map gJ)] = some (.val (.bool (bM l))) := (jM (A := nA) l).trans (if_pos h)
noncomputable def afF : Ctx := { fn := fun f => if f = 84 then some xM else none, io := fun f => none }
theorem akk : aA Tryz.prog afF := ⟨(fun f φ h => by
 unfold afF at h
 dsimp only at h
 split at h
 ·rename_i hf; cases h; subst hf; exact ⟨⟨_, Tryz.func84, rfl, rfl⟩, afv⟩
 cases h), (fun f φ h => by
 unfold afF at h
 dsimp only at h
 cases h), rfl⟩
theorem al7 (ob : aF) (ps : List PV) : ah afF ob 84 ps = (ps.mapM (reify false 0 ob fuel)).bind xM := by
 have h : afF.fn 84 = some xM := by simp [afF]
 unfold ah
 rw [h]
 cases ps.mapM (reify false 0 ob fuel) <;> rfl
set_option maxHeartbeats 8000000 in
theorem wu : Sound Tryz.prog 61 rF := by
 refine ay mixed akk Tryz.func61 rfl 18 rfl [.tmp 2] rfl (by kernel_rfl) fun ps r hr => ?_
 obtain ⟨l, rfl, hq⟩ := bY hr
 clear hr
 split at hq
 case isFalse => cases hq
 case isTrue hpre =>
 cases hq
 refine ⟨by simp, ?_⟩
 simp only [dIs, dUs, dSs, eX, fq, eT, fE, bS, fA, bO, bP, bR, bQ]
 have hlen : l.length ≤ 1000 := hpre
 have ap := @adI
 clear hpre
 show pq _ _ _ _ _ (eO [.lst false 7 (l.map gJ)]).tm _ _
 have gitsi_c84 := al7
 (refine wlk ?_; intros)
 refine aT (α := Nat × Nat) mixed (fun z => [(0, .lst false 7 (l.map gJ)), (5, .lst false 7 (l.map gJ)), (6, iv l.length), (7, iv z.1)]) (fun _ => []) (fun z => z.2)
  (fun z => z.1 ≤ l.length ∧ ∀ j, j < z.1 → itB (l[j]?.getD it0) = true) (fun z => l.length - z.1) (by kernel_rfl) (0, 0) ⟨Nat.zero_le _, fun j hj => by simp at hj⟩ ?_ trivial rfl ?_
 ·exact agr
 rintro ⟨k, y⟩ ⟨hk, hok⟩
 dsimp only at hk hok
 by_cases h0 : k < l.length
 ·cases hb : itB (l[k]?.getD it0) with
  | false =>
   have hE : bM l = false := by
    unfold bM
    rw [jN (d := it0) h0 hb, Bool.and_false]
   rw [hE]
   clear hok hE
   generalize hx9 : l[k]?.getD it0 = x at *
   obtain ⟨a, b, c, d, e, f, g⟩ := x
   exact wlkF
  | true =>
   have hok2 : ∀ j, j < k + 1 → itB (l[j]?.getD it0) = true := fun j hj => by
    by_cases h1 : j < k
    ·exact hok j h1
    ·obtain rfl : j = k := by omega
     exact hb
   replace hok2 := Lib.hid hok2
   clear hok
   generalize hx9 : l[k]?.getD it0 = x at *
   obtain ⟨a, b, c, d, e, f, g⟩ := x
   (refine wlk ?_; intros)
   refine ⟨(k + 1, y + 1), ⟨by dsimp only; omega, hok2.out⟩, by dsimp only; omega, ?_, trivial, rfl⟩
   exact agr
 ·obtain rfl : k = l.length := by omega
  have hE : bM l = decide (l.length ≤ 60) := by
   unfold bM
   rw [gL (d := it0) fun j hj => hok j hj, Bool.and_true]
  rw [hE]
  clear hok hE
  (repeat' (first | (with_reducible first | apply bF | apply av | apply aO | apply aJ | apply bC | apply dY | apply bA | apply bH | apply d9 | apply bE | apply bJ | apply dX | apply bI | apply bG | apply bD) | ((with_reducible apply au); (simp only [List.map_cons, List.map_nil] <;> exact rfl)) | ((with_reducible apply aI); (simp only [List.map_cons, List.map_nil] <;> exact rfl); decide +kernel) | ((with_reducible apply bB); rfl) | ((first | ((with_reducible apply i_V); rfl; rfl; rfl) | ((first | ((with_reducible apply i_E); rfl) | ((with_reducible apply i_S); rfl)); first | rfl | (simp only [push_cast, ↓reduceIte])) | ((with_reducible apply dW); rfl; rfl) | ((with_reducible apply dZ); rfl; rfl; rfl) | (with_reducible first | apply dV | apply aL)); (simp (disch := (first | omega | (simp only [push_cast]; first | done | omega))) only [push_cast, ↓reduceIte, Nat.reduceEqDiff, Nat.reduceBEq, Nat.reduceAdd, Nat.reduceSub, Int.reduceToNat, *] <;> with_reducible exact rfl); all_goals try (first | (with_reducible first | refine hyT ?_ | refine hyF ?_ | exact hyA | exact hyB) | (intro hX; first | (cases hX; done) | ((try simp only [decide_eq_true_eq, decide_eq_false_iff_not, Bool.not_eq_true', Bool.not_eq_false'] at hX); (try have hXb := aj.1 hX))))))); all_goals try (exfalso; omega)
  all_goals ((first | apply dw | apply bK); simp (disch := (first | omega | (simp only [push_cast]; first | done | omega))) only [push_cast, ↓reduceIte, Nat.reduceEqDiff, Nat.reduceBEq, Nat.reduceAdd, Nat.reduceSub, Int.reduceToNat, *])
  all_goals (first | (simp; omega) | skip)
noncomputable def aeQ : Ctx := { fn := fun f => if f = 78 then some xM else none, io := fun f => none }
theorem akl : aA Tryz.prog aeQ := ⟨(fun f φ h => by
 unfold aeQ at h
 dsimp only at h
 split at h
 ·rename_i hf; cases h; subst hf; exact ⟨⟨_, Tryz.func78, rfl, rfl⟩, aex⟩
 cases h), (fun f φ h => by
 unfold aeQ at h
 dsimp only at h
 cases h), rfl⟩
theorem amN (ob : aF) (ps : List PV) : ah aeQ ob 78 ps = (ps.mapM (reify false 0 ob fuel)).bind xM := by
 have h : aeQ.fn 78 = some xM := by simp [aeQ]
 unfold ah
 rw [h]
 cases ps.mapM (reify false 0 ob fuel) <;> rfl
set_option maxHeartbeats 8000000 in
theorem afw : Sound Tryz.prog 50 rF := by
 refine ay mixed akl Tryz.func50 rfl 19 rfl [.tmp 2] rfl (by kernel_rfl) fun ps r hr => ?_
 obtain ⟨l, rfl, hq⟩ := bY hr
 clear hr
 split at hq
 case isFalse => cases hq
 case isTrue hpre =>
 cases hq
 refine ⟨by simp, ?_⟩
 simp only [dIs, dUs, dSs, eX, fq, eT, fE, bS, fA, bO, bP, bR, bQ]
 have hlen : l.length ≤ 1000 := hpre
 have ap := @adI
 clear hpre
 show pq _ _ _ _ _ (eO [.lst false 7 (l.map gJ)]).tm _ _
 have gitss_c78 := amN
 (refine wlk ?_; intros)
 refine aT (α := Nat) mixed (fun k => [(0, .lst false 7 (l.map gJ)), (3, iv k)]) (fun _ => []) (fun _ => 0)
  (fun k => k ≤ l.length ∧ ∀ j, j < k → itB (l[j]?.getD it0) = true) (fun k => l.length - k) (by kernel_rfl) 0 ⟨Nat.zero_le _, fun j hj => by simp at hj⟩ ?_ trivial rfl ?_
 ·exact agr
 rintro k ⟨hk, hok⟩
 by_cases h0 : k < l.length
 ·cases hb : itB (l[k]?.getD it0) with
  | false =>
   have hE : bM l = false := by
    unfold bM
    rw [jN (d := it0) h0 hb, Bool.and_false]
   rw [hE]
   clear hok hE
   generalize hx9 : l[k]?.getD it0 = x at *
   obtain ⟨a, b, c, d, e, f, g⟩ := x
   exact wlkF
  | true =>
   have hok2 : ∀ j, j < k + 1 → itB (l[j]?.getD it0) = true := fun j hj => by
    by_cases h1 : j < k
    ·exact hok j h1
    ·obtain rfl : j = k := by omega
     exact hb
   replace hok2 := Lib.hid hok2
   clear hok
   generalize hx9 : l[k]?.getD it0 = x at *
   obtain ⟨a, b, c, d, e, f, g⟩ := x
   (refine wlk ?_; intros)
   refine ⟨k + 1, ⟨by omega, hok2.out⟩, by dsimp only; omega, ?_, trivial, rfl⟩
   exact agr
 ·obtain rfl : k = l.length := by omega
  have hE : bM l = decide (l.length ≤ 60) := by
   unfold bM
   rw [gL (d := it0) fun j hj => hok j hj, Bool.and_true]
  rw [hE]
  clear hok hE
  (repeat' (first | (with_reducible first | apply bF | apply av | apply aO | apply aJ | apply bC | apply dY | apply bA | apply bH | apply d9 | apply bE | apply bJ | apply dX | apply bI | apply bG | apply bD) | ((with_reducible apply au); (simp only [List.map_cons, List.map_nil] <;> exact rfl)) | ((with_reducible apply aI); (simp only [List.map_cons, List.map_nil] <;> exact rfl); decide +kernel) | ((with_reducible apply bB); rfl) | ((first | ((with_reducible apply i_V); rfl; rfl; rfl) | ((first | ((with_reducible apply i_E); rfl) | ((with_reducible apply i_S); rfl)); first | rfl | (simp only [push_cast, ↓reduceIte])) | ((with_reducible apply dW); rfl; rfl) | ((with_reducible apply dZ); rfl; rfl; rfl) | (with_reducible first | apply dV | apply aL)); (simp (disch := (first | omega | (simp only [push_cast]; first | done | omega))) only [push_cast, ↓reduceIte, Nat.reduceEqDiff, Nat.reduceBEq, Nat.reduceAdd, Nat.reduceSub, Int.reduceToNat, *] <;> with_reducible exact rfl); all_goals try (first | (with_reducible first | refine hyT ?_ | refine hyF ?_ | exact hyA | exact hyB) | (intro hX; first | (cases hX; done) | ((try simp only [decide_eq_true_eq, decide_eq_false_iff_not, Bool.not_eq_true', Bool.not_eq_false'] at hX); (try have hXb := aj.1 hX))))))); all_goals try (exfalso; omega)
  all_goals ((first | apply dw | apply bK); simp (disch := (first | omega | (simp only [push_cast]; first | done | omega))) only [push_cast, ↓reduceIte, Nat.reduceEqDiff, Nat.reduceBEq, Nat.reduceAdd, Nat.reduceSub, Int.reduceToNat, *])
  all_goals (first | (simp; omega) | skip)
end Go.Proofs.YtngcedklbinhjaaGreatDoor
