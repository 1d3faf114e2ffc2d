/- What the proof rests on, part 12: contracts of functions. No condition beyond what each states. -/
import Derived.Test.YtngcedklbinhjaaGreatDoorZBw11
namespace Go.Proofs.YtngcedklbinhjaaGreatDoor
open Go.RowKit
set_option linter.all false
theorem ayl {l : List It} {a b c d e f : Int} {g : Bool} : l.map gJ ++ [.agg [.val (.int .i64 a), .val (.int .i64 b), .val (.int .i64 c), .val (.int .i64 d), .val (.int .i64 e), .val (.int .i64 f), .val (.bool g)]] = (l ++ [(a, b, c, d, e, f, g)]).map gJ := by simp
theorem aoH {l : List It} {a b c d e f a2 b2 c2 d2 e2 f2 a3 b3 c3 d3 e3 f3 : Int} {g g2 g3 : Bool} : l.map gJ ++ [.agg [.val (.int .i64 a), .val (.int .i64 b), .val (.int .i64 c), .val (.int .i64 d), .val (.int .i64 e), .val (.int .i64 f), .val (.bool g)], .agg [.val (.int .i64 a2), .val (.int .i64 b2), .val (.int .i64 c2), .val (.int .i64 d2), .val (.int .i64 e2), .val (.int .i64 f2), .val (.bool g2)], .agg [.val (.int .i64 a3), .val (.int .i64 b3), .val (.int .i64 c3), .val (.int .i64 d3), .val (.int .i64 e3), .val (.int .i64 f3), .val (.bool g3)]] = (l ++ [(a, b, c, d, e, f, g), (a2, b2, c2, d2, e2, f2, g2), (a3, b3, c3, d3, e3, f3, g3)]).map gJ := by simp
theorem ao8 {l l' : List It} : l.map gJ ++ l'.map gJ = (l ++ l').map gJ := List.map_append.symm
attribute [push_cast]
 ayl aoH ao8
def wiK (ps : LS) : Nat → List It
 | 0 => []
 | k + 1 => (if k = 0 then wiK ps k else wiK ps k ++ [(3, 3, 0, 0, 0, 50, true)]) ++ [(1, nR (ps[k]?.getD .empty), 0, 0, 0, 0, false)]
noncomputable def wiR (w : ByteArray) (pats : LS) : List It := wiK (dD w pats) (dD w pats).length
noncomputable def piK (ws pats : LS) : Nat → List It
 | 0 => []
 | k + 1 => (if k = 0 then piK ws pats k else piK ws pats k ++ [(2, 4, 3, 1, 0, 0, false)]) ++ wiR (ws[k]?.getD .empty) pats
noncomputable def piR (ws pats : LS) : List It := piK ws pats ws.length ++ [(3, 0, 0, 0, 0, 10000, false), (2, 0, 1, 0, 1, 0, false), (3, 0, 0, 0, 0, -10000, false)]
noncomputable def qC (ws pats : LS) : Bool := bX ws && (bT pats && (decide (0 < ws.length) && decide ((piR ws pats).length ≤ 60)))
noncomputable def piV (ws pats : LS) : List It := if qC ws pats = true then piR ws pats else []
theorem xY (ps : LS) : ∀ k, (wiK ps k).length ≤ 2 * k
 | 0 => by simp [wiK]
 | k + 1 => by
  have := xY ps k
  unfold wiK
  rw [List.length_append, List.length_singleton]
  split
  ·omega
  ·rw [List.length_append, List.length_singleton]; omega
theorem kg (w : ByteArray) (pats : LS) : (dD w pats).length ≤ 21 := by
 unfold dD
 split
 ·rename_i h
  have := (lV (pats := pats) (jH.1 h).1).1
  unfold aaW
  rw [agD]
  omega
 ·simp
theorem nJ {w : ByteArray} {pats : LS} : ∀ x ∈ dD w pats, eB x = true := fun x hx => by
 unfold dD at hx
 split at hx
 ·rename_i h
  exact akS (jH.1 h).1 (lV (jH.1 h).1) x hx
 ·simp at hx
theorem aaz {w : ByteArray} {pats : LS} {k : Nat} (h : k < (dD w pats).length) : eB ((dD w pats)[k]?.getD .empty) = true := by
 rw [List.getElem?_eq_getElem h, Option.getD_some]
 exact nJ _ (List.getElem_mem h)
theorem ahE (w : ByteArray) (pats : LS) : (wiR w pats).length ≤ 42 := by
 have h1 := xY (dD w pats) (dD w pats).length
 have h2 := kg w pats
 unfold wiR
 omega
theorem ac1 (ws pats : LS) : ∀ k, (piK ws pats k).length ≤ 43 * k
 | 0 => by simp [piK]
 | k + 1 => by
  have := ac1 ws pats k
  have h2 := ahE (ws[k]?.getD .empty) pats
  unfold piK
  rw [List.length_append]
  split
  ·omega
  ·rw [List.length_append, List.length_singleton]; omega
theorem ang {ps : LS} (h : ∀ x ∈ ps, eB x = true) : ∀ k, k ≤ ps.length → ∀ x ∈ wiK ps k, itB x = true
 | 0, _ => by simp [wiK]
 | k + 1, hk => fun x hx => by
  have ih := ang h k (by omega)
  unfold wiK at hx
  rcases List.mem_append.1 hx with hx | hx
  ·split at hx
   ·exact ih x hx
   ·rcases List.mem_append.1 hx with hx | hx
    ·exact ih x hx
    ·rw [List.mem_singleton.1 hx]; decide
  ·rw [List.mem_singleton.1 hx]
   have h1 : eB (ps[k]?.getD .empty) = true := by
    rw [List.getElem?_eq_getElem (show k < ps.length by omega), Option.getD_some]
    exact h _ (List.getElem_mem _)
   have h2 := ah9 h1
   generalize nR (ps[k]?.getD .empty) = n at *
   simp [itB, glB, adH, It.kd, It.gl, It.cost, It.mark, aj]
   omega
theorem anl (ws pats : LS) : ∀ k, ∀ x ∈ piK ws pats k, itB x = true
 | 0 => by simp [piK]
 | k + 1 => fun x hx => by
  have ih := anl ws pats k
  unfold piK at hx
  rcases List.mem_append.1 hx with hx | hx
  ·split at hx
   ·exact ih x hx
   ·rcases List.mem_append.1 hx with hx | hx
    ·exact ih x hx
    ·rw [List.mem_singleton.1 hx]; decide
  ·exact ang nJ _ (Nat.le_refl _) x hx
theorem axi {ws pats : LS} (h : (piR ws pats).length ≤ 60) : bM (piR ws pats) = true := by
 unfold bM
 rw [Bool.and_eq_true, List.all_eq_true]
 refine ⟨decide_eq_true h, fun x hx => ?_⟩
 unfold piR at hx
 rcases List.mem_append.1 hx with hx | hx
 ·exact anl ws pats _ x hx
 ·rcases List.mem_cons.1 hx with rfl | hx
  ·decide
  ·rcases List.mem_cons.1 hx with rfl | hx
   ·decide
   ·rw [List.mem_singleton.1 hx]; decide
theorem pJ {ws pats : LS} : qC ws pats = true ↔ bX ws = true ∧ bT pats = true ∧ 0 < ws.length ∧ (piR ws pats).length ≤ 60 := by simp [qC]
theorem an0 {ws pats : LS} (h : qC ws pats = true) : bM (piV ws pats) = true := by
 unfold piV
 rw [if_pos h]
 exact axi (pJ.1 h).2.2.2
noncomputable def φL6 : Fun := F2 dS dSs fun w pats => if alz w pats then some (.lst true 7 ((wiR w pats).map gJ)) else none
theorem aqa {w : ByteArray} {pats : LS} (h : alz w pats) : φL6 [.val (.string w), .lst false 1 (pats.map fun s => .val (.string s))] = some (.lst true 7 ((wiR w pats).map gJ)) := (kX (A := dS) (B := dSs) w pats).trans (if_pos h)
noncomputable def GL6 : Ctx := { fn := fun f => if f = 27 then some φPr else if f = 77 then some φWw else none, io := fun f => none }
theorem ayf : aA Tryz.prog GL6 := ⟨(fun f φ h => by
 unfold GL6 at h
 dsimp only at h
 split at h
 ·rename_i hf; cases h; subst hf; exact ⟨⟨_, Tryz.func27, rfl, rfl⟩, zL⟩
 split at h
 ·rename_i hf; cases h; subst hf; exact ⟨⟨_, Tryz.func77, rfl, rfl⟩, ajr⟩
 cases h), (fun f φ h => by
 unfold GL6 at h
 dsimp only at h
 cases h), rfl⟩
theorem au1 (ob : aF) (ps : List PV) : ah GL6 ob 27 ps = (ps.mapM (reify false 0 ob fuel)).bind φPr := by
 have h : GL6.fn 27 = some φPr := by simp [GL6]
 unfold ah
 rw [h]
 cases ps.mapM (reify false 0 ob fuel) <;> rfl
theorem ayj (ob : aF) (ps : List PV) : ah GL6 ob 77 ps = (ps.mapM (reify false 0 ob fuel)).bind φWw := by
 have h : GL6.fn 77 = some φWw := by simp [GL6]
 unfold ah
 rw [h]
 cases ps.mapM (reify false 0 ob fuel) <;> rfl
set_option maxHeartbeats 16000000 in
theorem ajf : Sound Tryz.prog 49 φL6 := by
 refine ay mixed ayf Tryz.func49 rfl 36 rfl [.tmp 4] rfl (by kernel_rfl) fun ps r hr => ?_
 obtain ⟨w, pats, rfl, hq⟩ := dA hr
 clear hr
 split at hq
 case isFalse => cases hq
 case isTrue hpre =>
 cases hq
 refine ⟨by simp, ?_⟩
 simp only [dIs, dUs, dSs, eX, fq, eT, fE, bS, fA, bO, bP, bR, bQ]
 have apr := aa9 hpre
 have hps : ∀ k, k < (dD w pats).length → ((dD w pats)[k]?.getD .empty).size ≤ 1048576 := fun k hk => by
  have := aW (aaz hk)
  omega
 have hpl := kg w pats
 unfold wiR
 generalize dD w pats = ps at *
 have hwl := xY ps
 clear hpre
 have gl6_c27 := au1; have gl6_c77 := ayj
 (refine wlk ?_; intros)
 refine aT (α := Nat × Nat × Nat) mixed (fun z => [(0, .val (.string w)), (5, .row z.2.1 7 0 (wiK ps z.1).length), (6, .lst true 1 (ps.map pvS)), (7, iv z.1)])
  (fun z => [(z.2.1, 56, 7, (wiK ps z.1).map gJ)]) (fun z => z.2.2)
  (fun z => z.1 ≤ ps.length ∧ z.2.1 < z.2.2) (fun z => ps.length - z.1) (by kernel_rfl) (0, 0, 1) ⟨Nat.zero_le _, by simp⟩ ?_ ?_ rfl ?_
 ·simp (disch := (first | omega | (simp only [push_cast]; first | done | omega))) only [push_cast, ↓reduceIte, Nat.reduceEqDiff, Nat.reduceBEq, Nat.reduceAdd, Nat.reduceSub, Int.reduceToNat, wiK, List.length_nil, *]
 ·simp (disch := (first | omega | (simp only [push_cast]; first | done | omega))) only [push_cast, ↓reduceIte, Nat.reduceEqDiff, Nat.reduceBEq, Nat.reduceAdd, Nat.reduceSub, Int.reduceToNat, wiK, List.map_nil, *]
 rintro ⟨k, x, y⟩ ⟨hk, hxy⟩
 dsimp only at hk hxy
 have hlk := hwl k
 by_cases h0 : k < ps.length
 ·have apw := abm (hps k h0)
  have hn : wiK ps (k + 1) = (if k = 0 then wiK ps k else wiK ps k ++ [(3, 3, 0, 0, 0, 50, true)]) ++ [(1, nR (ps[k]?.getD .empty), 0, 0, 0, 0, false)] := rfl
  by_cases hz : k = 0
  ·rw [if_pos hz] at hn
   replace hn := Lib.hid hn
   replace hz : k < 1 := by omega
   generalize wiK ps k = out at *
   clear hwl hps
   (refine wlk ?_; intros)
   refine ⟨(k + 1, y + 1, y + 2), ⟨by dsimp only; omega, by dsimp only; omega⟩, by dsimp only; omega, ?_, ?_, rfl⟩
   ·dsimp only
    rw [hn.out]
    exact agr
   ·dsimp only
    rw [hn.out]
    exact agr
  ·rw [if_neg hz] at hn
   replace hn := Lib.hid hn
   generalize wiK ps k = out at *
   clear hwl hps
   (refine wlk ?_; intros)
   refine ⟨(k + 1, y + 3, y + 4), ⟨by dsimp only; omega, by dsimp only; omega⟩, by dsimp only; omega, ?_, ?_, rfl⟩
   ·dsimp only
    rw [hn.out]
    exact agr
   ·dsimp only
    rw [hn.out]
    exact agr
 ·obtain rfl : k = ps.length := by omega
  generalize wiK ps ps.length = out at *
  clear hwl hps
  exact wlkF
noncomputable def φPi : Fun := F2 dSs dSs fun ws pats => if qF ws ∧ qF pats then some (.tup [.lst true 7 ((piV ws pats).map gJ), bv (qC ws pats)]) else none
theorem aoB {ws pats : LS} (h : qF ws ∧ qF pats) : φPi [.lst false 1 (ws.map fun s => .val (.string s)), .lst false 1 (pats.map fun s => .val (.string s))] = some (.tup [.lst true 7 ((piV ws pats).map gJ), .val (.bool (qC ws pats))]) := (kX (A := dSs) (B := dSs) ws pats).trans (if_pos h)
theorem uD {ws : LS} (h : bX ws = true) : ws.length ≤ 12 := by
 unfold bX at h
 rw [Bool.and_eq_true] at h
 exact of_decide_eq_true h.1
theorem mX {ws : LS} (h : bX ws = true) {k : Nat} (hk : k < ws.length) : eB (ws[k]?.getD .empty) = true := by
 unfold bX at h
 rw [Bool.and_eq_true, List.all_eq_true] at h
 rw [List.getElem?_eq_getElem hk, Option.getD_some]
 exact h.2 _ (List.getElem_mem hk)
noncomputable def GPi : Ctx := { fn := fun f => if f = 47 then some gQ else if f = 48 then some fB else if f = 49 then some φL6 else none, io := fun f => none }
theorem awE : aA Tryz.prog GPi := ⟨(fun f φ h => by
 unfold GPi at h
 dsimp only at h
 split at h
 ·rename_i hf; cases h; subst hf; exact ⟨⟨_, Tryz.func47, rfl, rfl⟩, j4⟩
 split at h
 ·rename_i hf; cases h; subst hf; exact ⟨⟨_, Tryz.func48, rfl, rfl⟩, fu⟩
 split at h
 ·rename_i hf; cases h; subst hf; exact ⟨⟨_, Tryz.func49, rfl, rfl⟩, ajf⟩
 cases h), (fun f φ h => by
 unfold GPi at h
 dsimp only at h
 cases h), rfl⟩
theorem adj (ob : aF) (ps : List PV) : ah GPi ob 47 ps = (ps.mapM (reify false 0 ob fuel)).bind gQ := by
 have h : GPi.fn 47 = some gQ := by simp [GPi]
 unfold ah
 rw [h]
 cases ps.mapM (reify false 0 ob fuel) <;> rfl
theorem ad7 (ob : aF) (ps : List PV) : ah GPi ob 48 ps = (ps.mapM (reify false 0 ob fuel)).bind fB := by
 have h : GPi.fn 48 = some fB := by simp [GPi]
 unfold ah
 rw [h]
 cases ps.mapM (reify false 0 ob fuel) <;> rfl
theorem ad3 (ob : aF) (ps : List PV) : ah GPi ob 49 ps = (ps.mapM (reify false 0 ob fuel)).bind φL6 := by
 have h : GPi.fn 49 = some φL6 := by simp [GPi]
 unfold ah
 rw [h]
 cases ps.mapM (reify false 0 ob fuel) <;> rfl
set_option maxHeartbeats 16000000 in
theorem aiZ : Sound Tryz.prog 25 φPi := by
 refine ay mixed awE Tryz.func25 rfl 56 rfl [.tmp 4, .tmp 5] rfl (by kernel_rfl) fun ps r hr => ?_
 obtain ⟨ws, pats, rfl, hq⟩ := dA hr
 clear hr
 split at hq
 case isFalse => cases hq
 case isTrue hpre =>
 cases hq
 refine ⟨by simp, ?_⟩
 simp only [dIs, dUs, dSs, eX, fq, eT, fE, bS, fA, bO, bP, bR, bQ]
 have ap1 := mW hpre.1
 have ap2 := iK hpre.2
 have hwl0 := hpre.1.1
 unfold piV
 cases hw : bX ws with
 | false =>
  have hB : qC ws pats = false := by unfold qC; rw [hw]; rfl
  rw [hw] at ap1
  rw [hB, if_neg (by decide)]
  clear hpre hw hB
  have gpi_c47 := adj; have gpi_c48 := ad7; have gpi_c49 := ad3
  exact wlkF
 | true =>
 cases hp : bT pats with
 | false =>
  have hB : qC ws pats = false := by unfold qC; rw [hw, hp]; rfl
  rw [hw] at ap1
  rw [hp] at ap2
  rw [hB, if_neg (by decide)]
  clear hpre hw hp hB
  have gpi_c47 := adj; have gpi_c48 := ad7; have gpi_c49 := ad3
  exact wlkF
 | true =>
 by_cases hz : ws.length = 0
 ·have hB : qC ws pats = false := by unfold qC; rw [hw, hp, hz]; rfl
  rw [hw] at ap1
  rw [hp] at ap2
  rw [hB, if_neg (by decide)]
  clear hpre hw hp hB
  have gpi_c47 := adj; have gpi_c48 := ad7; have gpi_c49 := ad3
  exact wlkF
 ·have hB : qC ws pats = decide ((piR ws pats).length ≤ 60) := by
   unfold qC
   rw [hw, hp, decide_eq_true (show 0 < ws.length by omega)]
   rfl
  rw [hw] at ap1
  rw [hp] at ap2
  have hwl := uD hw
  have hap : ∀ k, k < ws.length → φL6 [.val (.string (ws[k]?.getD .empty)), .lst false 1 (pats.map fun s => .val (.string s))] = some (.lst true 7 ((wiR (ws[k]?.getD .empty) pats).map gJ)) := fun k hk => aqa ⟨hpre.1.2 k, hpre.2⟩
  have hkl := ac1 ws pats
  have hil : ∀ k : Nat, (wiR (ws[k]?.getD .empty) pats).length ≤ 42 := fun k => ahE _ _
  rw [hB]
  have hR : piR ws pats = piK ws pats ws.length ++ [(3, 0, 0, 0, 0, 10000, false), (2, 0, 1, 0, 1, 0, false), (3, 0, 0, 0, 0, -10000, false)] := rfl
  rw [hR]
  clear hpre hw hp hB hR
  have gpi_c47 := adj; have gpi_c48 := ad7; have gpi_c49 := ad3
  (refine wlk ?_; intros)
  refine aT (α := Nat × Nat × Nat) mixed (fun z => [(0, .lst false 1 (ws.map pvS)), (1, .lst false 1 (pats.map pvS)), (6, .row z.2.1 7 0 (piK ws pats z.1).length), (7, iv z.1)])
   (fun z => [(z.2.1, 56, 7, (piK ws pats z.1).map gJ)]) (fun z => z.2.2)
   (fun z => z.1 ≤ ws.length ∧ z.2.1 < z.2.2) (fun z => ws.length - z.1) (by kernel_rfl) (0, 0, 1) ⟨Nat.zero_le _, by simp⟩ ?_ ?_ rfl ?_
  ·simp (disch := (first | omega | (simp only [push_cast]; first | done | omega))) only [push_cast, ↓reduceIte, Nat.reduceEqDiff, Nat.reduceBEq, Nat.reduceAdd, Nat.reduceSub, Int.reduceToNat, piK, List.length_nil, *]
  ·simp (disch := (first | omega | (simp only [push_cast]; first | done | omega))) only [push_cast, ↓reduceIte, Nat.reduceEqDiff, Nat.reduceBEq, Nat.reduceAdd, Nat.reduceSub, Int.reduceToNat, piK, List.map_nil, *]
  rintro ⟨k, x, y⟩ ⟨hk, hxy⟩
  dsimp only at hk hxy
  have hlk := hkl k
  have hlw := hil k
  by_cases h0 : k < ws.length
  ·have apk := hap k h0
   have hn : piK ws pats (k + 1) = (if k = 0 then piK ws pats k else piK ws pats k ++ [(2, 4, 3, 1, 0, 0, false)]) ++ wiR (ws[k]?.getD .empty) pats := rfl
   generalize wiR (ws[k]?.getD .empty) pats = its at *
   by_cases hk0 : k = 0
   ·rw [if_pos hk0] at hn
    replace hn := Lib.hid hn
    replace hk0 : k < 1 := by omega
    generalize piK ws pats k = out at *
    clear hkl hil hap
    (refine wlk ?_; intros)
    refine ⟨(k + 1, y, y + 1), ⟨by dsimp only; omega, by dsimp only; omega⟩, by dsimp only; omega, ?_, ?_, rfl⟩
    ·dsimp only
     rw [hn.out]
     exact agr
    ·dsimp only
     rw [hn.out]
     exact agr
   ·rw [if_neg hk0] at hn
    replace hn := Lib.hid hn
    generalize piK ws pats k = out at *
    clear hkl hil hap
    (refine wlk ?_; intros)
    refine ⟨(k + 1, y + 2, y + 3), ⟨by dsimp only; omega, by dsimp only; omega⟩, by dsimp only; omega, ?_, ?_, rfl⟩
    ·dsimp only
     rw [hn.out]
     exact agr
    ·dsimp only
     rw [hn.out]
     exact agr
  ·obtain rfl : k = ws.length := by omega
   generalize piK ws pats ws.length = out at *
   clear hkl hil hap
   by_cases h60 : out.length + 3 ≤ 60
   ·rw [decide_eq_true (by simpa using h60), if_pos rfl]
    exact wlkF
   ·rw [decide_eq_false (by simpa using h60), if_neg (by decide)]
    exact wlkF
end Go.Proofs.YtngcedklbinhjaaGreatDoor
namespace Go.Proofs.YtngcedklbinhjaaGreatDoor
open Go.RowKit
set_option linter.all false
abbrev gG (l : List It) : PV := .lst false 7 (l.map gJ)
theorem ac9 (l : List It) (n : Nat) : lJ l n = if (l[n]?.getD it0).1 = 2 then decide (0 < n ∧ (l[n - 1]?.getD it0).1 = 1) else decide ((l[n]?.getD it0).1 = 3 ∧ (l[n]?.getD it0).2.2.2.2.2.1 < 10000) := rfl
theorem mP (x : It) : forced x = decide (x.1 = 3 ∧ x.2.2.2.2.2.1 = -10000) := rfl
noncomputable def φBq : Fun := F2 nA dI fun l n => open Classical in if bM l = true ∧ 0 ≤ n ∧ n < l.length then some (bv (lJ l n.toNat)) else none
theorem yV {l : List It} {n : Nat} (h : bM l = true) (h2 : n < l.length) : φBq [gG l, .val (.int .i64 n)] = some (.val (.bool (lJ l n))) := (kX (A := nA) (B := dI) l n).trans (if_pos ⟨h, by omega, by omega⟩)
set_option maxHeartbeats 4000000 in
theorem zP : Sound Tryz.prog 52 φBq := by
 refine ay mixed jQ Tryz.func52 rfl 36 rfl [.tmp 4] rfl (by kernel_rfl) fun ps r hr => ?_
 obtain ⟨l, n, rfl, hq⟩ := dA hr
 clear hr
 split at hq
 case isFalse => cases hq
 case isTrue hpre =>
 cases hq
 refine ⟨by simp, ?_⟩
 simp only [dIs, dUs, dSs, eX, fq, eT, fE, bS, fA, bO, bP, bR, bQ]
 obtain ⟨hB, hn0, hn1⟩ := hpre
 obtain ⟨m, rfl⟩ : ∃ m : Nat, n = m := ⟨n.toNat, by omega⟩
 have hl := cK hB
 show pq _ _ _ _ _ (eO [gG l, .val (.int .i64 m)]).tm _ _
 have hm : m < l.length := by omega
 have e1 : 0 < m → ((m : Int) - 1).toNat = m - 1 := fun h => by omega
 rw [Int.toNat_natCast, ac9]
 clear hB
 by_cases h0 : 0 < m
 ·have e1 := e1 h0
  generalize hx : l[m]?.getD it0 = x at *
  generalize hy : l[m - 1]?.getD it0 = y at *
  obtain ⟨a, b, c, d, e, f, g⟩ := x
  obtain ⟨a', b', c', d', e', f', g'⟩ := y
  dsimp only
  (repeat' (first | (with_reducible first | apply bF | apply av | apply aO | apply aJ | apply bC | apply dY | apply bA | apply bH | apply d9 | apply bE | apply bJ | apply dX | apply bI | apply bG | apply bD) | ((with_reducible apply au); (simp only [List.map_cons, List.map_nil] <;> exact rfl)) | ((with_reducible apply aI); (simp only [List.map_cons, List.map_nil] <;> exact rfl); decide +kernel) | ((with_reducible apply bB); rfl) | ((first | ((with_reducible apply i_V); rfl; rfl; rfl) | ((first | ((with_reducible apply i_E); rfl) | ((with_reducible apply i_S); rfl)); first | rfl | (simp only [push_cast, ↓reduceIte])) | ((with_reducible apply dW); rfl; rfl) | ((with_reducible apply dZ); rfl; rfl; rfl) | (with_reducible first | apply dV | apply aL)); (simp (disch := (first | omega | (simp only [push_cast]; first | done | omega))) only [push_cast, ↓reduceIte, Nat.reduceEqDiff, Nat.reduceBEq, Nat.reduceAdd, Nat.reduceSub, Int.reduceToNat, *] <;> with_reducible exact rfl); all_goals try (first | (with_reducible first | refine hyT ?_ | refine hyF ?_ | exact hyA | exact hyB) | (intro hX; first | (cases hX; done) | ((try simp only [decide_eq_true_eq, decide_eq_false_iff_not, Bool.not_eq_true', Bool.not_eq_false'] at hX); (try have hXb := aj.1 hX))))))); all_goals try (exfalso; omega)
  all_goals ((first | apply dw | apply bK); simp (disch := (first | omega | (simp only [push_cast]; first | done | omega))) only [push_cast, ↓reduceIte, Nat.reduceEqDiff, Nat.reduceBEq, Nat.reduceAdd, Nat.reduceSub, Int.reduceToNat, *])
  all_goals ((refine congrArg (fun z => some (PV.val (Value.bool z))) ?_); first | (simp_all; done) | (simp_all; omega))
 ·generalize hx : l[m]?.getD it0 = x at *
  obtain ⟨a, b, c, d, e, f, g⟩ := x
  clear e1
  dsimp only
  (repeat' (first | (with_reducible first | apply bF | apply av | apply aO | apply aJ | apply bC | apply dY | apply bA | apply bH | apply d9 | apply bE | apply bJ | apply dX | apply bI | apply bG | apply bD) | ((with_reducible apply au); (simp only [List.map_cons, List.map_nil] <;> exact rfl)) | ((with_reducible apply aI); (simp only [List.map_cons, List.map_nil] <;> exact rfl); decide +kernel) | ((with_reducible apply bB); rfl) | ((first | ((with_reducible apply i_V); rfl; rfl; rfl) | ((first | ((with_reducible apply i_E); rfl) | ((with_reducible apply i_S); rfl)); first | rfl | (simp only [push_cast, ↓reduceIte])) | ((with_reducible apply dW); rfl; rfl) | ((with_reducible apply dZ); rfl; rfl; rfl) | (with_reducible first | apply dV | apply aL)); (simp (disch := (first | omega | (simp only [push_cast]; first | done | omega))) only [push_cast, ↓reduceIte, Nat.reduceEqDiff, Nat.reduceBEq, Nat.reduceAdd, Nat.reduceSub, Int.reduceToNat, *] <;> with_reducible exact rfl); all_goals try (first | (with_reducible first | refine hyT ?_ | refine hyF ?_ | exact hyA | exact hyB) | (intro hX; first | (cases hX; done) | ((try simp only [decide_eq_true_eq, decide_eq_false_iff_not, Bool.not_eq_true', Bool.not_eq_false'] at hX); (try have hXb := aj.1 hX))))))); all_goals try (exfalso; omega)
  all_goals ((first | apply dw | apply bK); simp (disch := (first | omega | (simp only [push_cast]; first | done | omega))) only [push_cast, ↓reduceIte, Nat.reduceEqDiff, Nat.reduceBEq, Nat.reduceAdd, Nat.reduceSub, Int.reduceToNat, *])
  all_goals ((refine congrArg (fun z => some (PV.val (Value.bool z))) ?_); first | (simp_all; done) | (simp_all; omega))
noncomputable def φMb : Fun := F2 nA dI fun l n => open Classical in if bM l = true ∧ -1000 ≤ n ∧ n ≤ 1000 then some (bv (decide (0 ≤ n ∧ n < l.length) && lJ l n.toNat)) else none
theorem ahl {l : List It} {n : Int} (h : bM l = true) (h2 : -1000 ≤ n ∧ n ≤ 1000) : φMb [gG l, .val (.int .i64 n)] = some (.val (.bool (decide (0 ≤ n ∧ n < l.length) && lJ l n.toNat))) := (kX (A := nA) (B := dI) l n).trans (if_pos ⟨h, h2⟩)
noncomputable def GMb : Ctx := { fn := fun f => if f = 60 then some φIn else none, io := fun f => none }
theorem ayi : aA Tryz.prog GMb := ⟨(fun f φ h => by
 unfold GMb at h
 dsimp only at h
 split at h
 ·rename_i hf; cases h; subst hf; exact ⟨⟨_, Tryz.func60, rfl, rfl⟩, vU⟩
 cases h), (fun f φ h => by
 unfold GMb at h
 dsimp only at h
 cases h), rfl⟩
theorem ajM (ob : aF) (ps : List PV) : ah GMb ob 60 ps = (ps.mapM (reify false 0 ob fuel)).bind φIn := by
 have h : GMb.fn 60 = some φIn := by simp [GMb]
 unfold ah
 rw [h]
 cases ps.mapM (reify false 0 ob fuel) <;> rfl
set_option maxHeartbeats 4000000 in
theorem ajt : Sound Tryz.prog 73 φMb := by
 refine ay mixed ayi Tryz.func73 rfl 44 rfl [.tmp 4] rfl (by kernel_rfl) fun ps r hr => ?_
 obtain ⟨l, n, rfl, hq⟩ := dA hr
 clear hr
 split at hq
 case isFalse => cases hq
 case isTrue hpre =>
 cases hq
 refine ⟨by simp, ?_⟩
 simp only [dIs, dUs, dSs, eX, fq, eT, fE, bS, fA, bO, bP, bR, bQ]
 obtain ⟨hB, hn0, hn1⟩ := hpre
 have hl := cK hB
 show pq _ _ _ _ _ (eO [gG l, .val (.int .i64 n)]).tm _ _
 have ap := dR
 clear hB
 by_cases hr : 0 ≤ n ∧ n < l.length
 ·obtain ⟨m, rfl⟩ : ∃ m : Nat, n = m := ⟨n.toNat, by omega⟩
  have hm : m < l.length := by omega
  have hin : inB (m : Int) 0 ((l.length : Int) - 1) = true := aj.2 ⟨by omega, by omega⟩
  have e1 : 0 < m → ((m : Int) - 1).toNat = m - 1 := fun h => by omega
  rw [decide_eq_true hr, Bool.true_and, Int.toNat_natCast, ac9]
  clear hr
  by_cases h0 : 0 < m
  ·have e1 := e1 h0
   generalize hx : l[m]?.getD it0 = x at *
   generalize hy : l[m - 1]?.getD it0 = y at *
   obtain ⟨a, b, c, d, e, f, g⟩ := x
   obtain ⟨a', b', c', d', e', f', g'⟩ := y
   dsimp only
   have gmb_c60 := ajM
   (repeat' (first | (with_reducible first | apply bF | apply av | apply aO | apply aJ | apply bC | apply dY | apply bA | apply bH | apply d9 | apply bE | apply bJ | apply dX | apply bI | apply bG | apply bD) | ((with_reducible apply au); (simp only [List.map_cons, List.map_nil] <;> exact rfl)) | ((with_reducible apply aI); (simp only [List.map_cons, List.map_nil] <;> exact rfl); decide +kernel) | ((with_reducible apply bB); rfl) | ((first | ((with_reducible apply i_V); rfl; rfl; rfl) | ((first | ((with_reducible apply i_E); rfl) | ((with_reducible apply i_S); rfl)); first | rfl | (simp only [push_cast, ↓reduceIte])) | ((with_reducible apply dW); rfl; rfl) | ((with_reducible apply dZ); rfl; rfl; rfl) | (with_reducible first | apply dV | apply aL)); (simp (disch := (first | omega | (simp only [push_cast]; first | done | omega))) only [push_cast, ↓reduceIte, Nat.reduceEqDiff, Nat.reduceBEq, Nat.reduceAdd, Nat.reduceSub, Int.reduceToNat, *] <;> with_reducible exact rfl); all_goals try (first | (with_reducible first | refine hyT ?_ | refine hyF ?_ | exact hyA | exact hyB) | (intro hX; first | (cases hX; done) | ((try simp only [decide_eq_true_eq, decide_eq_false_iff_not, Bool.not_eq_true', Bool.not_eq_false'] at hX); (try have hXb := aj.1 hX))))))); all_goals try (exfalso; omega)
   all_goals ((first | apply dw | apply bK); simp (disch := (first | omega | (simp only [push_cast]; first | done | omega))) only [push_cast, ↓reduceIte, Nat.reduceEqDiff, Nat.reduceBEq, Nat.reduceAdd, Nat.reduceSub, Int.reduceToNat, *])
   all_goals ((refine congrArg (fun z => some (PV.val (Value.bool z))) ?_); first | (simp_all; done) | (simp_all; omega))
  ·generalize hx : l[m]?.getD it0 = x at *
   obtain ⟨a, b, c, d, e, f, g⟩ := x
   clear e1
   dsimp only
   have gmb_c60 := ajM
   (repeat' (first | (with_reducible first | apply bF | apply av | apply aO | apply aJ | apply bC | apply dY | apply bA | apply bH | apply d9 | apply bE | apply bJ | apply dX | apply bI | apply bG | apply bD) | ((with_reducible apply au); (simp only [List.map_cons, List.map_nil] <;> exact rfl)) | ((with_reducible apply aI); (simp only [List.map_cons, List.map_nil] <;> exact rfl); decide +kernel) | ((with_reducible apply bB); rfl) | ((first | ((with_reducible apply i_V); rfl; rfl; rfl) | ((first | ((with_reducible apply i_E); rfl) | ((with_reducible apply i_S); rfl)); first | rfl | (simp only [push_cast, ↓reduceIte])) | ((with_reducible apply dW); rfl; rfl) | ((with_reducible apply dZ); rfl; rfl; rfl) | (with_reducible first | apply dV | apply aL)); (simp (disch := (first | omega | (simp only [push_cast]; first | done | omega))) only [push_cast, ↓reduceIte, Nat.reduceEqDiff, Nat.reduceBEq, Nat.reduceAdd, Nat.reduceSub, Int.reduceToNat, *] <;> with_reducible exact rfl); all_goals try (first | (with_reducible first | refine hyT ?_ | refine hyF ?_ | exact hyA | exact hyB) | (intro hX; first | (cases hX; done) | ((try simp only [decide_eq_true_eq, decide_eq_false_iff_not, Bool.not_eq_true', Bool.not_eq_false'] at hX); (try have hXb := aj.1 hX))))))); all_goals try (exfalso; omega)
   all_goals ((first | apply dw | apply bK); simp (disch := (first | omega | (simp only [push_cast]; first | done | omega))) only [push_cast, ↓reduceIte, Nat.reduceEqDiff, Nat.reduceBEq, Nat.reduceAdd, Nat.reduceSub, Int.reduceToNat, *])
   all_goals ((refine congrArg (fun z => some (PV.val (Value.bool z))) ?_); first | (simp_all; done) | (simp_all; omega))
 ·have hin : inB n 0 ((l.length : Int) - 1) = false := Bool.eq_false_iff.2 fun q => by have := aj.1 q; omega
  rw [decide_eq_false hr, Bool.false_and]
  clear hr
  have gmb_c60 := ajM
  exact wlkF
noncomputable def φFc : Fun := F1 dIt fun x => some (bv (forced x))
theorem ajC {a b c d e f : Int} {g : Bool} : φFc [.agg [.val (.int .i64 a), .val (.int .i64 b), .val (.int .i64 c), .val (.int .i64 d), .val (.int .i64 e), .val (.int .i64 f), .val (.bool g)]] = some (.val (.bool (forced (a, b, c, d, e, f, g)))) := jM (A := dIt) (a, b, c, d, e, f, g)
theorem aah : Sound Tryz.prog 75 φFc := by
 refine ay mixed jQ Tryz.func75 rfl 11 rfl [.tmp 2] rfl (by kernel_rfl) fun ps r hr => ?_
 obtain ⟨⟨a, b, c, d, e, f, g⟩, rfl, hr⟩ := bY hr
 cases hr
 refine ⟨by simp, ?_⟩
 simp only [dIs, dUs, dSs, eX, fq, eT, fE, bS, fA, bO, bP, bR, bQ]
 simp only [apH, eX, eT]
 rw [mP]
 dsimp only
 (repeat' (first | (with_reducible first | apply bF | apply av | apply aO | apply aJ | apply bC | apply dY | apply bA | apply bH | apply d9 | apply bE | apply bJ | apply dX | apply bI | apply bG | apply bD) | ((with_reducible apply au); (simp only [List.map_cons, List.map_nil] <;> exact rfl)) | ((with_reducible apply aI); (simp only [List.map_cons, List.map_nil] <;> exact rfl); decide +kernel) | ((with_reducible apply bB); rfl) | ((first | ((with_reducible apply i_V); rfl; rfl; rfl) | ((first | ((with_reducible apply i_E); rfl) | ((with_reducible apply i_S); rfl)); first | rfl | (simp only [push_cast, ↓reduceIte])) | ((with_reducible apply dW); rfl; rfl) | ((with_reducible apply dZ); rfl; rfl; rfl) | (with_reducible first | apply dV | apply aL)); (simp (disch := (first | omega | (simp only [push_cast]; first | done | omega))) only [push_cast, ↓reduceIte, Nat.reduceEqDiff, Nat.reduceBEq, Nat.reduceAdd, Nat.reduceSub, Int.reduceToNat, *] <;> with_reducible exact rfl); all_goals try (first | (with_reducible first | refine hyT ?_ | refine hyF ?_ | exact hyA | exact hyB) | (intro hX; first | (cases hX; done) | ((try simp only [decide_eq_true_eq, decide_eq_false_iff_not, Bool.not_eq_true', Bool.not_eq_false'] at hX); (try have hXb := aj.1 hX))))))); all_goals try (exfalso; omega)
 all_goals ((first | apply dw | apply bK); simp (disch := (first | omega | (simp only [push_cast]; first | done | omega))) only [push_cast, ↓reduceIte, Nat.reduceEqDiff, Nat.reduceBEq, Nat.reduceAdd, Nat.reduceSub, Int.reduceToNat, *])
 all_goals ((refine congrArg (fun z => some (PV.val (Value.bool z))) ?_); first | (simp_all; done) | (simp_all; omega))
noncomputable def φSt : Fun := F2 nA dI fun l n => open Classical in if bM l = true ∧ -1 ≤ n ∧ n < l.length then some (iv (aH l (n + 1).toNat)) else none
theorem abG {l : List It} {a : Nat} (h : bM l = true) (h2 : a ≤ l.length) : φSt [gG l, .val (.int .i64 ((a : Int) - 1))] = some (.val (.int .i64 (aH l a))) := (kX (A := nA) (B := dI) l ((a : Int) - 1)).trans ((if_pos ⟨h, by omega, by omega⟩).trans (by rw [show ((a : Int) - 1 + 1).toNat = a by omega]))
theorem aii {l : List It} {a : Nat} : aH l a = if a < l.length ∧ ¬ (l[a]?.getD it0).1 = 1 ∧ ¬ ((l[a]?.getD it0).1 = 3 ∧ (l[a]?.getD it0).2.2.2.2.2.1 = -10000) then aH l (a + 1) else a := by
 split
 ·rename_i h
  exact awR h.1 h.2.1 (decide_eq_false h.2.2)
 ·rename_i h
  refine akI fun q => h ⟨q.1, q.2.1, fun r => ?_⟩
  have := q.2.2
  rw [mP, decide_eq_true r] at this
  cases this
noncomputable def ath : Ctx := { fn := fun f => if f = 75 then some φFc else none, io := fun f => none }
theorem ars : aA Tryz.prog ath := ⟨(fun f φ h => by
 unfold ath at h
 dsimp only at h
 split at h
 ·rename_i hf; cases h; subst hf; exact ⟨⟨_, Tryz.func75, rfl, rfl⟩, aah⟩
 cases h), (fun f φ h => by
 unfold ath at h
 dsimp only at h
 cases h), rfl⟩
theorem asH (ob : aF) (ps : List PV) : ah ath ob 75 ps = (ps.mapM (reify false 0 ob fuel)).bind φFc := by
 have h : ath.fn 75 = some φFc := by simp [ath]
 unfold ah
 rw [h]
 cases ps.mapM (reify false 0 ob fuel) <;> rfl
set_option maxHeartbeats 8000000 in
theorem aht : Sound Tryz.prog 74 φSt := by
 refine ay mixed ars Tryz.func74 rfl 31 rfl [.tmp 4] rfl (by kernel_rfl) fun ps r hr => ?_
 obtain ⟨l, n, rfl, hq⟩ := dA hr
 clear hr
 split at hq
 case isFalse => cases hq
 case isTrue hpre =>
 cases hq
 refine ⟨by simp, ?_⟩
 simp only [dIs, dUs, dSs, eX, fq, eT, fE, bS, fA, bO, bP, bR, bQ]
 obtain ⟨hB, hn0, hn1⟩ := hpre
 obtain ⟨a, rfl⟩ : ∃ a : Nat, n = (a : Int) - 1 := ⟨(n + 1).toNat, by omega⟩
 have hl := cK hB
 have ha : a ≤ l.length := by omega
 show pq _ _ _ _ _ (eO [gG l, .val (.int .i64 ((a : Int) - 1))]).tm _ _
 rw [show ((a : Int) - 1 + 1).toNat = a by omega]
 have ap := @ajC
 clear hB hn0 hn1
 generalize hR : aH l a = R
 replace hR := Lib.hid hR
 have gsti_c75 := asH
 (refine wlk ?_; intros)
 refine aT (α := Nat) mixed (fun k => [(0, gG l), (5, iv k)]) (fun _ => []) (fun _ => 0)
  (fun k => k ≤ l.length ∧ aH l k = R) (fun k => l.length - k) (by kernel_rfl) a ⟨ha, hR.out⟩ ?_ ?_ rfl ?_
 ·exact agi
 ·exact agr
 rintro k ⟨hk, hI⟩
 rw [aii] at hI
 clear hR ha
 by_cases h0 : k < l.length
 ·generalize hx : l[k]?.getD it0 = x at *
  obtain ⟨kd, b, c, d, e, cost, g⟩ := x
  dsimp only at hI
  by_cases h1 : kd = 1
  ·rw [if_neg (by omega)] at hI
   subst hI
   exact wlkF
  ·by_cases h3 : kd = 3 ∧ cost = -10000
   ·rw [if_neg (by omega)] at hI
    have hf : forced (kd, b, c, d, e, cost, g) = true := by rw [mP]; exact decide_eq_true h3
    subst hI
    clear h3
    exact wlkF
   ·rw [if_pos ⟨h0, h1, h3⟩] at hI
    have hf : forced (kd, b, c, d, e, cost, g) = false := by rw [mP]; exact decide_eq_false h3
    replace hI := Lib.hid hI
    clear h3
    (refine wlk ?_; intros)
    refine ⟨k + 1, ⟨by omega, hI.out⟩, by dsimp only; omega, ?_, ?_, rfl⟩
    ·exact agr
    ·exact agr
 ·rw [if_neg (fun q => h0 q.1)] at hI
  subst hI
  exact wlkF
set_option maxHeartbeats 8000000 in
theorem zN : Sound Tryz.prog 79 φSt := by
 refine ay mixed jQ Tryz.func79 rfl 39 rfl [.tmp 4] rfl (by kernel_rfl) fun ps r hr => ?_
 obtain ⟨l, n, rfl, hq⟩ := dA hr
 clear hr
 split at hq
 case isFalse => cases hq
 case isTrue hpre =>
 cases hq
 refine ⟨by simp, ?_⟩
 simp only [dIs, dUs, dSs, eX, fq, eT, fE, bS, fA, bO, bP, bR, bQ]
 obtain ⟨hB, hn0, hn1⟩ := hpre
 obtain ⟨a, rfl⟩ : ∃ a : Nat, n = (a : Int) - 1 := ⟨(n + 1).toNat, by omega⟩
 have hl := cK hB
 have hat := fun k hk => (gZ hB (k := k) hk).cost
 have ha : a ≤ l.length := by omega
 show pq _ _ _ _ _ (eO [gG l, .val (.int .i64 ((a : Int) - 1))]).tm _ _
 rw [show ((a : Int) - 1 + 1).toNat = a by omega]
 clear hB hn0 hn1
 generalize hR : aH l a = R
 replace hR := Lib.hid hR
 (refine wlk ?_; intros)
 refine aT (α := Nat) mixed (fun k => [(0, gG l), (5, iv k)]) (fun _ => []) (fun _ => 0)
  (fun k => k ≤ l.length ∧ aH l k = R) (fun k => l.length - k) (by kernel_rfl) a ⟨ha, hR.out⟩ ?_ ?_ rfl ?_
 ·exact agi
 ·exact agr
 rintro k ⟨hk, hI⟩
 rw [aii] at hI
 clear hR ha
 by_cases h0 : k < l.length
 ·have hc : (0 ≤ (l[k]?.getD it0).2.2.2.2.2.1 ∧ (l[k]?.getD it0).2.2.2.2.2.1 ≤ 10000) ∨ (l[k]?.getD it0).2.2.2.2.2.1 = -10000 := hat k h0
  clear hat
  generalize hx : l[k]?.getD it0 = x at *
  obtain ⟨kd, b, c, d, e, cost, g⟩ := x
  dsimp only at hI hc
  by_cases h1 : kd = 1
  ·rw [if_neg (by omega)] at hI
   subst hI
   clear hc
   exact wlkF
  ·by_cases h3 : kd = 3 ∧ cost = -10000
   ·rw [if_neg (by omega)] at hI
    subst hI
    obtain ⟨h3, h4⟩ := h3
    subst h3
    subst h4
    clear hc h1
    exact wlkF
   ·rw [if_pos ⟨h0, h1, h3⟩] at hI
    replace hI := Lib.hid hI
    by_cases h5 : kd = 3
    ·have h6 : 0 ≤ cost := by omega
     clear hc h3 h1
     subst h5
     (refine wlk ?_; intros)
     refine ⟨k + 1, ⟨by omega, hI.out⟩, by dsimp only; omega, ?_, ?_, rfl⟩
     ·exact agr
     ·exact agr
    ·clear hc h3
     (refine wlk ?_; intros)
     refine ⟨k + 1, ⟨by omega, hI.out⟩, by dsimp only; omega, ?_, ?_, rfl⟩
     ·exact agr
     ·exact agr
 ·rw [if_neg (fun q => h0 q.1)] at hI
  subst hI
  clear hat
  exact wlkF
noncomputable def φNf : Fun := F3 nA dI dI fun l n m => open Classical in if bM l = true ∧ -1 ≤ n ∧ n < m ∧ m < l.length then some (bv (rA l (n + 1).toNat m.toNat)) else none
theorem aoO {l : List It} {a b : Nat} (h : bM l = true) (h2 : a ≤ b) (h3 : b < l.length) : φNf [gG l, .val (.int .i64 ((a : Int) - 1)), .val (.int .i64 b)] = some (.val (.bool (rA l a b))) := (aa0 (A := nA) (B := dI) (C := dI) l ((a : Int) - 1) b).trans ((if_pos ⟨h, by omega, by omega, by omega⟩).trans (by rw [show ((a : Int) - 1 + 1).toNat = a by omega, Int.toNat_natCast]))
set_option maxHeartbeats 8000000 in
theorem ajO : Sound Tryz.prog 80 φNf := by
 refine ay mixed jQ Tryz.func80 rfl 29 rfl [.tmp 6] rfl (by kernel_rfl) fun ps r hr => ?_
 obtain ⟨l, n, m, rfl, hq⟩ := jq hr
 clear hr
 split at hq
 case isFalse => cases hq
 case isTrue hpre =>
 cases hq
 refine ⟨by simp, ?_⟩
 simp only [dIs, dUs, dSs, eX, fq, eT, fE, bS, fA, bO, bP, bR, bQ]
 obtain ⟨hB, hn0, hn1, hn2⟩ := hpre
 obtain ⟨a, rfl⟩ : ∃ a : Nat, n = (a : Int) - 1 := ⟨(n + 1).toNat, by omega⟩
 obtain ⟨b, rfl⟩ : ∃ b : Nat, m = b := ⟨m.toNat, by omega⟩
 have hl := cK hB
 have hab : a ≤ b := by omega
 have hbl : b < l.length := by omega
 show pq _ _ _ _ _ (eO [gG l, .val (.int .i64 ((a : Int) - 1)), .val (.int .i64 b)]).tm _ _
 rw [show ((a : Int) - 1 + 1).toNat = a by omega, Int.toNat_natCast]
 clear hB hn0 hn1 hn2
 (refine wlk ?_; intros)
 refine aT (α := Nat) mixed (fun k => [(0, gG l), (2, iv b), (7, iv k)]) (fun _ => []) (fun _ => 0)
  (fun k => (a ≤ k ∧ k ≤ b) ∧ rA l a k = true) (fun k => b - k) (by kernel_rfl) a ⟨⟨Nat.le_refl _, hab⟩, xu (Nat.le_refl _)⟩ ?_ ?_ rfl ?_
 ·exact agi
 ·exact agr
 rintro k ⟨⟨hk1, hk2⟩, hI⟩
 by_cases h0 : k < b
 ·have hs := sW (l := l) hk1
  rw [hI, Bool.true_and] at hs
  have hno := fun h => acp (b := b) (l := l) h hk1 h0
  have hfr : forced (gI l k) = decide ((l[k]?.getD it0).1 = 3 ∧ (l[k]?.getD it0).2.2.2.2.2.1 = -10000) := rfl
  rw [hfr] at hs
  clear hI hfr
  generalize hx : l[k]?.getD it0 = x at *
  obtain ⟨kd, w9, c, d, e, cost, g⟩ := x
  dsimp only at hs
  by_cases h3 : kd = 3 ∧ cost = -10000
  ·rw [decide_eq_true h3] at hs
   rw [hno hs]
   obtain ⟨h3, h4⟩ := h3
   subst h3
   subst h4
   clear hs hno
   exact wlkF
  ·rw [decide_eq_false h3] at hs
   replace hs := Lib.hid hs
   clear hno
   by_cases h5 : kd = 3
   ·have h6 : ¬ cost = -10000 := fun q => h3 ⟨h5, q⟩
    clear h3
    subst h5
    (refine wlk ?_; intros)
    refine ⟨k + 1, ⟨⟨by omega, by omega⟩, hs.out⟩, by dsimp only; omega, ?_, ?_, rfl⟩
    ·exact agr
    ·exact agr
   ·clear h3
    (refine wlk ?_; intros)
    refine ⟨k + 1, ⟨⟨by omega, by omega⟩, hs.out⟩, by dsimp only; omega, ?_, ?_, rfl⟩
    ·exact agr
    ·exact agr
 ·obtain rfl : k = b := by omega
  rw [hI]
  clear hI
  exact wlkF
noncomputable def φLq : Fun := F3 nA dI dI fun l n m => open Classical in if bM l = true ∧ -1 ≤ n ∧ n < m ∧ m < l.length then some (bv (fI l (n + 1).toNat m.toNat)) else none
theorem agV {l : List It} {a b : Nat} (h : bM l = true) (h2 : a ≤ b) (h3 : b < l.length) : φLq [gG l, .val (.int .i64 ((a : Int) - 1)), .val (.int .i64 b)] = some (.val (.bool (fI l a b))) := (aa0 (A := nA) (B := dI) (C := dI) l ((a : Int) - 1) b).trans ((if_pos ⟨h, by omega, by omega, by omega⟩).trans (by rw [show ((a : Int) - 1 + 1).toNat = a by omega, Int.toNat_natCast]))
noncomputable def GLq : Ctx := { fn := fun f => if f = 51 then some φIn else if f = 52 then some φBq else if f = 79 then some φSt else if f = 80 then some φNf else none, io := fun f => none }
theorem avp : aA Tryz.prog GLq := ⟨(fun f φ h => by
 unfold GLq at h
 dsimp only at h
 split at h
 ·rename_i hf; cases h; subst hf; exact ⟨⟨_, Tryz.func51, rfl, rfl⟩, jK⟩
 split at h
 ·rename_i hf; cases h; subst hf; exact ⟨⟨_, Tryz.func52, rfl, rfl⟩, zP⟩
 split at h
 ·rename_i hf; cases h; subst hf; exact ⟨⟨_, Tryz.func79, rfl, rfl⟩, zN⟩
 split at h
 ·rename_i hf; cases h; subst hf; exact ⟨⟨_, Tryz.func80, rfl, rfl⟩, ajO⟩
 cases h), (fun f φ h => by
 unfold GLq at h
 dsimp only at h
 cases h), rfl⟩
theorem anF (ob : aF) (ps : List PV) : ah GLq ob 51 ps = (ps.mapM (reify false 0 ob fuel)).bind φIn := by
 have h : GLq.fn 51 = some φIn := by simp [GLq]
 unfold ah
 rw [h]
 cases ps.mapM (reify false 0 ob fuel) <;> rfl
theorem anu (ob : aF) (ps : List PV) : ah GLq ob 52 ps = (ps.mapM (reify false 0 ob fuel)).bind φBq := by
 have h : GLq.fn 52 = some φBq := by simp [GLq]
 unfold ah
 rw [h]
 cases ps.mapM (reify false 0 ob fuel) <;> rfl
theorem anT (ob : aF) (ps : List PV) : ah GLq ob 79 ps = (ps.mapM (reify false 0 ob fuel)).bind φSt := by
 have h : GLq.fn 79 = some φSt := by simp [GLq]
 unfold ah
 rw [h]
 cases ps.mapM (reify false 0 ob fuel) <;> rfl
theorem an4 (ob : aF) (ps : List PV) : ah GLq ob 80 ps = (ps.mapM (reify false 0 ob fuel)).bind φNf := by
 have h : GLq.fn 80 = some φNf := by simp [GLq]
 unfold ah
 rw [h]
 cases ps.mapM (reify false 0 ob fuel) <;> rfl
set_option maxHeartbeats 8000000 in
theorem ahZ : Sound Tryz.prog 53 φLq := by
 refine ay mixed avp Tryz.func53 rfl 45 rfl [.tmp 6] rfl (by kernel_rfl) fun ps r hr => ?_
 obtain ⟨l, n, m, rfl, hq⟩ := jq hr
 clear hr
 split at hq
 case isFalse => cases hq
 case isTrue hpre =>
 cases hq
 refine ⟨by simp, ?_⟩
 simp only [dIs, dUs, dSs, eX, fq, eT, fE, bS, fA, bO, bP, bR, bQ]
 obtain ⟨hB, hn0, hn1, hn2⟩ := hpre
 obtain ⟨a, rfl⟩ : ∃ a : Nat, n = (a : Int) - 1 := ⟨(n + 1).toNat, by omega⟩
 obtain ⟨b, rfl⟩ : ∃ b : Nat, m = b := ⟨m.toNat, by omega⟩
 have hl := cK hB
 have hab : a ≤ b := by omega
 have hbl : b < l.length := by omega
 show pq _ _ _ _ _ (eO [gG l, .val (.int .i64 ((a : Int) - 1)), .val (.int .i64 b)]).tm _ _
 rw [show ((a : Int) - 1 + 1).toNat = a by omega, Int.toNat_natCast]
 have ap1 : φIn [.val (.int .i64 ((a : Int) - 1)), .val (.int .i64 (-1)), .val (.int .i64 ((b : Int) - 1))] = some (.val (.bool true)) := (dR _ _ _).trans (by rw [aj.2 ⟨by omega, by omega⟩])
 have ap2 : φIn [.val (.int .i64 b), .val (.int .i64 0), .val (.int .i64 ((l.length : Int) - 1))] = some (.val (.bool true)) := (dR _ _ _).trans (by rw [aj.2 ⟨by omega, by omega⟩])
 have ap3 := yV hB hbl
 have ap5 := abG (a := a) hB (by omega)
 have ap6 := aoO hB hab hbl
 have hE : fI l a b = (lJ l b && ((decide (a = 0) || lJ l (a - 1)) && (decide (aH l a ≤ b) && rA l a b))) := by
  unfold fI
  rw [decide_eq_true ⟨hab, hbl⟩, Bool.true_and]
 rw [hE]
 clear hE hn0 hn1 hn2
 generalize lJ l b = q1 at *
 generalize rA l a b = q2 at *
 generalize aH l a = s9 at *
 by_cases h0 : a = 0
 ·subst h0
  clear hB
  simp only [Int.natCast_zero, Int.zero_sub] at ap1 ap5 ap6 ⊢
  have glq_c51 := anF; have glq_c52 := anu; have glq_c79 := anT; have glq_c80 := an4
  (repeat' (first | (with_reducible first | apply bF | apply av | apply aO | apply aJ | apply bC | apply dY | apply bA | apply bH | apply d9 | apply bE | apply bJ | apply dX | apply bI | apply bG | apply bD) | ((with_reducible apply au); (simp only [List.map_cons, List.map_nil] <;> exact rfl)) | ((with_reducible apply aI); (simp only [List.map_cons, List.map_nil] <;> exact rfl); decide +kernel) | ((with_reducible apply bB); rfl) | ((first | ((with_reducible apply i_V); rfl; rfl; rfl) | ((first | ((with_reducible apply i_E); rfl) | ((with_reducible apply i_S); rfl)); first | rfl | (simp only [push_cast, ↓reduceIte])) | ((with_reducible apply dW); rfl; rfl) | ((with_reducible apply dZ); rfl; rfl; rfl) | (with_reducible first | apply dV | apply aL)); (simp (disch := (first | omega | (simp only [push_cast]; first | done | omega))) only [push_cast, ↓reduceIte, Nat.reduceEqDiff, Nat.reduceBEq, Nat.reduceAdd, Nat.reduceSub, Int.reduceToNat, *] <;> with_reducible exact rfl); all_goals try (first | (with_reducible first | refine hyT ?_ | refine hyF ?_ | exact hyA | exact hyB) | (intro hX; first | (cases hX; done) | ((try simp only [decide_eq_true_eq, decide_eq_false_iff_not, Bool.not_eq_true', Bool.not_eq_false'] at hX); (try have hXb := aj.1 hX))))))); all_goals try (exfalso; omega)
  all_goals ((first | apply dw | apply bK); simp (disch := (first | omega | (simp only [push_cast]; first | done | omega))) only [push_cast, ↓reduceIte, Nat.reduceEqDiff, Nat.reduceBEq, Nat.reduceAdd, Nat.reduceSub, Int.reduceToNat, *])
  all_goals ((refine congrArg (fun z => some (PV.val (Value.bool z))) ?_); first | (simp_all; done) | (simp_all; omega))
 ·have ap4 := yV (n := a - 1) hB (by omega)
  rw [show ((a - 1 : Nat) : Int) = (a : Int) - 1 by omega] at ap4
  generalize lJ l (a - 1) = q3 at *
  clear hB
  have glq_c51 := anF; have glq_c52 := anu; have glq_c79 := anT; have glq_c80 := an4
  (repeat' (first | (with_reducible first | apply bF | apply av | apply aO | apply aJ | apply bC | apply dY | apply bA | apply bH | apply d9 | apply bE | apply bJ | apply dX | apply bI | apply bG | apply bD) | ((with_reducible apply au); (simp only [List.map_cons, List.map_nil] <;> exact rfl)) | ((with_reducible apply aI); (simp only [List.map_cons, List.map_nil] <;> exact rfl); decide +kernel) | ((with_reducible apply bB); rfl) | ((first | ((with_reducible apply i_V); rfl; rfl; rfl) | ((first | ((with_reducible apply i_E); rfl) | ((with_reducible apply i_S); rfl)); first | rfl | (simp only [push_cast, ↓reduceIte])) | ((with_reducible apply dW); rfl; rfl) | ((with_reducible apply dZ); rfl; rfl; rfl) | (with_reducible first | apply dV | apply aL)); (simp (disch := (first | omega | (simp only [push_cast]; first | done | omega))) only [push_cast, ↓reduceIte, Nat.reduceEqDiff, Nat.reduceBEq, Nat.reduceAdd, Nat.reduceSub, Int.reduceToNat, *] <;> with_reducible exact rfl); all_goals try (first | (with_reducible first | refine hyT ?_ | refine hyF ?_ | exact hyA | exact hyB) | (intro hX; first | (cases hX; done) | ((try simp only [decide_eq_true_eq, decide_eq_false_iff_not, Bool.not_eq_true', Bool.not_eq_false'] at hX); (try have hXb := aj.1 hX))))))); all_goals try (exfalso; omega)
  all_goals ((first | apply dw | apply bK); simp (disch := (first | omega | (simp only [push_cast]; first | done | omega))) only [push_cast, ↓reduceIte, Nat.reduceEqDiff, Nat.reduceBEq, Nat.reduceAdd, Nat.reduceSub, Int.reduceToNat, *])
  all_goals ((refine congrArg (fun z => some (PV.val (Value.bool z))) ?_); first | (simp_all; done) | (simp_all; omega))
end Go.Proofs.YtngcedklbinhjaaGreatDoor
