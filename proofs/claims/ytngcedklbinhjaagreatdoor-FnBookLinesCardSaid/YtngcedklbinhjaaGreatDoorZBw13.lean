/- What the proof rests on, part 13: contracts of functions. No condition beyond what each states. -/
import Derived.Test.YtngcedklbinhjaaGreatDoorZBw12
namespace Go.Proofs.YtngcedklbinhjaaGreatDoor
open Go.RowKit
set_option linter.all false
abbrev pvG (g : I4) : PV := .agg [.val (.int .i64 g.1), .val (.int .i64 g.2.1), .val (.int .i64 g.2.2.1), .val (.int .i64 g.2.2.2)]
theorem amI (a b c d a' b' c' d' : Int) : abz (a, b, c, d) (a', b', c', d') = (a + a', (if (if b = 0 then 0 else d) = max (if b = 0 then 0 else d) (if b' = 0 then 0 else d') then b else 0) + (if (if b' = 0 then 0 else d') = max (if b = 0 then 0 else d) (if b' = 0 then 0 else d') then b' else 0), c + c', max (if b = 0 then 0 else d) (if b' = 0 then 0 else d')) := rfl
abbrev aw1 (g : I4) : Prop := (0 ≤ g.1 ∧ g.1 ≤ 1000000) ∧ (0 ≤ g.2.1 ∧ g.2.1 ≤ 1000000) ∧ (0 ≤ g.2.2.1 ∧ g.2.2.1 ≤ 1000000) ∧ (g.2.2.2 = 0 ∨ g.2.2.2 = 1)
noncomputable def aiO : Fun := F2 dI4 dI4 fun a b => open Classical in if aw1 a ∧ aw1 b then some (pvG (abz a b)) else none
theorem adw {a b : I4} (h : aw1 a) (h2 : aw1 b) : aiO [pvG a, pvG b] = some (pvG (abz a b)) := (kX (A := dI4) (B := dI4) a b).trans (if_pos ⟨h, h2⟩)
set_option maxHeartbeats 8000000 in
theorem afH : Sound Tryz.prog 102 aiO := by
 refine ay mixed jQ Tryz.func102 rfl 58 rfl [.cell 4 54] rfl (by kernel_rfl) fun ps r hr => ?_
 obtain ⟨⟨a, b, c, d⟩, ⟨a', b', c', d'⟩, rfl, hq⟩ := dA hr
 clear hr
 split at hq
 case isFalse => cases hq
 case isTrue hpre =>
 cases hq
 refine ⟨by simp, ?_⟩
 simp only [dIs, dUs, dSs, eX, fq, eT, fE, bS, fA, bO, bP, bR, bQ]
 obtain ⟨⟨h1, h2, h3, h4⟩, h5, h6, h7, h8⟩ := hpre
 dsimp only at h1 h2 h3 h4 h5 h6 h7 h8
 rw [amI]
 have g00 : ¬ ((0 : Int) > 0) := by decide
 have g10 : (1 : Int) > 0 := by decide
 have g01 : ¬ ((0 : Int) > 1) := by decide
 have g11 : ¬ ((1 : Int) > 1) := by decide
 have n01 : ¬ ((0 : Int) = 1) := by decide
 have n10 : ¬ ((1 : Int) = 0) := by decide
 have m00 : max (0 : Int) 0 = 0 := by decide
 have m01 : max (0 : Int) 1 = 1 := by decide
 have m10 : max (1 : Int) 0 = 1 := by decide
 have m11 : max (1 : Int) 1 = 1 := by decide
 rcases h4 with rfl | rfl <;> rcases h8 with rfl | rfl <;>
 ·by_cases hb : b = 0 <;> by_cases hb' : b' = 0 <;>
  ·first | subst hb | skip
   first | subst hb' | skip
   simp only [if_true, if_false, m00, m01, m10, m11, n01, n10, *]
   (repeat' (first | (with_reducible first | apply bF | apply av | apply aO | apply aJ | apply bC | apply dY | apply bA | apply bH | apply d9 | apply bE | apply bJ | apply dX | apply bI | apply bG | apply bD) | ((with_reducible apply au); (simp only [List.map_cons, List.map_nil] <;> exact rfl)) | ((with_reducible apply aI); (simp only [List.map_cons, List.map_nil] <;> exact rfl); decide +kernel) | ((with_reducible apply bB); rfl) | ((first | ((with_reducible apply i_V); rfl; rfl; rfl) | ((first | ((with_reducible apply i_E); rfl) | ((with_reducible apply i_S); rfl)); first | rfl | (simp only [push_cast, ↓reduceIte])) | ((with_reducible apply dW); rfl; rfl) | ((with_reducible apply dZ); rfl; rfl; rfl) | (with_reducible first | apply dV | apply aL)); (simp (disch := (first | omega | (simp only [push_cast]; first | done | omega))) only [push_cast, ↓reduceIte, Nat.reduceEqDiff, Nat.reduceBEq, Nat.reduceAdd, Nat.reduceSub, Int.reduceToNat, *] <;> with_reducible exact rfl); all_goals try (first | (with_reducible first | refine hyT ?_ | refine hyF ?_ | exact hyA | exact hyB) | (intro hX; first | (cases hX; done) | ((try simp only [decide_eq_true_eq, decide_eq_false_iff_not, Bool.not_eq_true', Bool.not_eq_false'] at hX); (try have hXb := aj.1 hX))))))); all_goals try (exfalso; omega)
   all_goals ((first | apply dw | apply bK); simp (disch := (first | omega | (simp only [push_cast]; first | done | omega))) only [push_cast, ↓reduceIte, Nat.reduceEqDiff, Nat.reduceBEq, Nat.reduceAdd, Nat.reduceSub, Int.reduceToNat, *])
   all_goals (simp; try omega)
def lX (l : List It) (b en : Nat) : List I4 := ((mZ l b en).map fun n : Int => (gI l n.toNat).gl) ++ (if (gI l en).kd = 3 then [(gI l en).gl] else [])
def p9 (l : List It) (b k : Nat) : List I4 := (mZ l b k).map fun n : Int => (gI l n.toNat).gl
theorem als {l : List It} {b : Nat} : p9 l b b = [] := by unfold p9; rw [sG (Nat.le_refl _)]; rfl
theorem akD {l : List It} {b k : Nat} (h : b ≤ k) (hk : ¬ (gI l k).kd = 3) : p9 l b (k + 1) = p9 l b k ++ [(gI l k).gl] := by
 unfold p9
 rw [oD h hk, List.map_append]
 rfl
theorem aqD {l : List It} {b k : Nat} (h : b ≤ k) (hk : (gI l k).kd = 3) : p9 l b (k + 1) = p9 l b k := by
 unfold p9
 rw [xI h hk]
theorem xH (l : List It) (b k : Nat) : (p9 l b k).length ≤ k - b := by
 unfold p9
 rw [List.length_map]
 exact oN l b k
theorem acR {l : List It} {b k : Nat} (hB : bM l = true) (hk : k ≤ l.length) : ∀ g ∈ p9 l b k, GOk g := fun g hg => by
 obtain ⟨n, hn, rfl⟩ := List.mem_map.1 hg
 have := rU n hn
 exact (gZ hB (k := n.toNat) (by omega)).gl
theorem zf {l : List It} {b en : Nat} (hB : bM l = true) (hk : en < l.length) : (∀ g ∈ lX l b en, GOk g) ∧ (lX l b en).length ≤ 60 := by
 have hl := cK hB
 have h1 := xH l b en
 unfold lX
 refine ⟨fun g hg => ?_, ?_⟩
 ·rcases List.mem_append.1 hg with hg | hg
  ·exact acR hB (by omega) g hg
  ·split at hg
   ·rw [List.mem_singleton.1 hg]
    exact (gZ hB hk).gl
   ·simp at hg
 ·unfold p9 at h1
  rw [List.length_append]
  split
  ·rw [List.length_singleton]; omega
  ·rw [List.length_nil]; omega
theorem ahc {gs : List I4} (h : ∀ g ∈ gs, GOk g) (hl : gs.length ≤ 60) : aw1 (jE gs) ∧ (jE gs).1 ≤ 60000 ∧ (jE gs).2.1 ≤ 60000 ∧ (jE gs).2.2.1 ≤ 60000 := by
 obtain ⟨h1, h2, h3, h4⟩ := aom gs h
 exact ⟨⟨⟨h1.1, by omega⟩, ⟨h2.1, by omega⟩, ⟨h3.1, by omega⟩, h4⟩, by omega, by omega, by omega⟩
noncomputable def aiG : Fun := F3 nA dI dI fun l n m => open Classical in if bM l = true ∧ 0 ≤ n ∧ n ≤ m ∧ m < l.length then some (pvG (jE (lX l n.toNat m.toNat))) else none
theorem amE {l : List It} {b en : Nat} (h : bM l = true) (h2 : b ≤ en) (h3 : en < l.length) : aiG [gG l, .val (.int .i64 b), .val (.int .i64 en)] = some (pvG (jE (lX l b en))) := (aa0 (A := nA) (B := dI) (C := dI) l b en).trans (if_pos ⟨h, by omega, by omega, by omega⟩)
noncomputable def atl : Ctx := { fn := fun f => if f = 102 then some aiO else none, io := fun f => none }
theorem apA : aA Tryz.prog atl := ⟨(fun f φ h => by
 unfold atl at h
 dsimp only at h
 split at h
 ·rename_i hf; cases h; subst hf; exact ⟨⟨_, Tryz.func102, rfl, rfl⟩, afH⟩
 cases h), (fun f φ h => by
 unfold atl at h
 dsimp only at h
 cases h), rfl⟩
theorem alu (ob : aF) (ps : List PV) : ah atl ob 102 ps = (ps.mapM (reify false 0 ob fuel)).bind aiO := by
 have h : atl.fn 102 = some aiO := by simp [atl]
 unfold ah
 rw [h]
 cases ps.mapM (reify false 0 ob fuel) <;> rfl
set_option maxHeartbeats 16000000 in
theorem afM : Sound Tryz.prog 81 aiG := by
 refine ay mixed apA Tryz.func81 rfl 49 rfl [.cell 6 54] rfl (by kernel_rfl) fun ps r hr => ?_
 obtain ⟨l, n, m, rfl, hq⟩ := jq hr
 clear hr
 split at hq
 case isFalse => cases hq
 case isTrue hpre =>
 cases hq
 refine ⟨by simp, ?_⟩
 simp only [dIs, dUs, dSs, eX, fq, eT, fE, bS, fA, bO, bP, bR, bQ]
 obtain ⟨hB, hn0, hn1, hn2⟩ := hpre
 obtain ⟨b, rfl⟩ : ∃ b : Nat, n = b := ⟨n.toNat, by omega⟩
 obtain ⟨en, rfl⟩ : ∃ en : Nat, m = en := ⟨m.toNat, by omega⟩
 have hl := cK hB
 have hbe : b ≤ en := by omega
 have hel : en < l.length := by omega
 show pq _ _ _ _ _ (eO [gG l, .val (.int .i64 b), .val (.int .i64 en)]).tm _ _
 rw [Int.toNat_natCast, Int.toNat_natCast]
 clear hn0 hn1 hn2
 have hgs : lX l b en = p9 l b en ++ (if (gI l en).kd = 3 then [(gI l en).gl] else []) := rfl
 rw [hgs]
 have gsum_c102 := alu
 (refine wlk ?_; intros)
 refine aT (α := Nat) mixed (fun k => [(0, gG l), (2, iv en), (6, .own 0 4 0 0), (7, .own 1 4 0 0), (8, iv k)])
  (fun k => [(0, 54, 4, [pvG g40]), (1, 54, 4, [pvG (jE (p9 l b k))])]) (fun _ => 2)
  (fun k => b ≤ k ∧ k ≤ en) (fun k => en - k) (by kernel_rfl) b ⟨Nat.le_refl _, hbe⟩ ?_ ?_ rfl ?_
 ·exact agr
 ·simp (disch := (first | omega | (simp only [push_cast]; first | done | omega))) only [push_cast, ↓reduceIte, Nat.reduceEqDiff, Nat.reduceBEq, Nat.reduceAdd, Nat.reduceSub, Int.reduceToNat, als, jE, List.foldl_nil, g40, *]
 rintro k ⟨hk1, hk2⟩
 obtain ⟨ho, -⟩ := ahc (acR (b := b) hB (show k ≤ l.length by omega)) (by have := xH l b k; omega)
 by_cases h0 : k < en
 ·have hx1 := (gZ hB (k := k) (by omega)).gl
  have hy := @akD l b k hk1
  have hno := @aqD l b k hk1
  have hkx : gI l k = l[k]?.getD it0 := rfl
  rw [hkx] at hy hno
  generalize hx : l[k]?.getD it0 = x at *
  obtain ⟨kd, w9, c, d, e, cost, g⟩ := x
  replace hy : ¬ kd = 3 → p9 l b (k + 1) = p9 l b k ++ [(w9, c, d, e)] := hy
  replace hno : kd = 3 → p9 l b (k + 1) = p9 l b k := hno
  obtain ⟨g1, g2, g3, g4⟩ := hx1
  dsimp only at g1 g2 g3 g4
  have apa := adw ho (b := (w9, c, d, e)) ⟨⟨g1.1, by (try dsimp only); omega⟩, ⟨g2.1, by (try dsimp only); omega⟩, ⟨g3.1, by (try dsimp only); omega⟩, g4⟩
  by_cases h3 : kd = 3
  ·have hs := hno h3
   replace hs := Lib.hid hs
   clear hno hy apa ho g1 g2 g3 g4 hgs hB hkx
   generalize ht9 : jE (p9 l b k) = t at *
   obtain ⟨t1, t2, t3, t4⟩ := t
   subst h3
   (refine wlk ?_; intros)
   refine ⟨k + 1, ⟨by omega, by omega⟩, by dsimp only; omega, ?_, ?_, rfl⟩
   ·exact agr
   ·dsimp only
    rw [hs.out]
    simp (disch := (first | omega | (simp only [push_cast]; first | done | omega))) only [push_cast, ↓reduceIte, Nat.reduceEqDiff, Nat.reduceBEq, Nat.reduceAdd, Nat.reduceSub, Int.reduceToNat, *]
  ·have hs := hy h3
   have ht : jE (p9 l b (k + 1)) = abz (jE (p9 l b k)) (w9, c, d, e) := by rw [hs, o9]
   replace ht := Lib.hid ht
   clear hno hy hs ho g1 g2 g3 g4 hgs hB hkx
   generalize jE (p9 l b k) = t at *
   generalize abz t (w9, c, d, e) = u at *
   obtain ⟨t1, t2, t3, t4⟩ := t
   obtain ⟨u1, u2, u3, u4⟩ := u
   try dsimp only at apa
   (refine wlk ?_; intros)
   refine ⟨k + 1, ⟨by omega, by omega⟩, by dsimp only; omega, ?_, ?_, rfl⟩
   ·exact agr
   ·dsimp only
    rw [ht.out]
    exact agr
 ·obtain rfl : k = en := by omega
  have hx1 : GOk (l[k]?.getD it0).gl := (gZ hB hel).gl
  have hkx : gI l k = l[k]?.getD it0 := rfl
  rw [hkx]
  generalize hx : l[k]?.getD it0 = x at *
  obtain ⟨kd, w9, c, d, e, cost, g⟩ := x
  obtain ⟨g1, g2, g3, g4⟩ := hx1
  dsimp only at g1 g2 g3 g4
  have apa := adw ho (b := (w9, c, d, e)) ⟨⟨g1.1, by (try dsimp only); omega⟩, ⟨g2.1, by (try dsimp only); omega⟩, ⟨g3.1, by (try dsimp only); omega⟩, g4⟩
  by_cases h3 : kd = 3
  ·have ht : jE (p9 l b k ++ [(w9, c, d, e)]) = abz (jE (p9 l b k)) (w9, c, d, e) := o9 _ _
   rw [if_pos (show It.kd (kd, w9, c, d, e, cost, g) = 3 from h3)]
   have hz : It.gl (kd, w9, c, d, e, cost, g) = (w9, c, d, e) := rfl
   rw [hz, ht]
   clear ho g1 g2 g3 g4 hgs hB hkx ht hz
   generalize jE (p9 l b k) = t at *
   generalize abz t (w9, c, d, e) = u at *
   obtain ⟨t1, t2, t3, t4⟩ := t
   obtain ⟨u1, u2, u3, u4⟩ := u
   try dsimp only at apa
   subst h3
   exact wlkF
  ·rw [if_neg (show ¬ It.kd (kd, w9, c, d, e, cost, g) = 3 from h3), List.append_nil]
   clear ho g1 g2 g3 g4 hgs hB hkx apa
   generalize jE (p9 l b k) = t at *
   obtain ⟨t1, t2, t3, t4⟩ := t
   exact wlkF
theorem ad1 {need room : Int} (h : 0 ≤ need ∧ need ≤ 100000) (h2 : 0 < room ∧ room ≤ 100000) : (0 ≤ 100 * need * need ∧ 100 * need * need ≤ 1000000000000) ∧ (0 ≤ 100 * need * need * need ∧ 100 * need * need * need ≤ 100000000000000000) ∧ (0 < room * room ∧ room * room ≤ 10000000000) ∧ (0 < room * room * room ∧ room * room * room ≤ 1000000000000000) ∧ 0 ≤ 100 * need * need * need / (room * room * room) := by
 have a1 : 0 ≤ 100 * need * need := Int.mul_nonneg (by omega) h.1
 have a2 : 100 * need * need ≤ 10000000 * 100000 := Int.mul_le_mul (by omega) h.2 h.1 (by omega)
 have a3 : 0 ≤ 100 * need * need * need := Int.mul_nonneg a1 h.1
 have a4 : 100 * need * need * need ≤ 1000000000000 * 100000 := Int.mul_le_mul (by omega) h.2 h.1 (by omega)
 have b1 : 0 < room * room := Int.mul_pos h2.1 h2.1
 have b2 : room * room ≤ 100000 * 100000 := Int.mul_le_mul h2.2 h2.2 (by omega) (by omega)
 have b3 : 0 < room * room * room := Int.mul_pos b1 h2.1
 have b4 : room * room * room ≤ 10000000000 * 100000 := Int.mul_le_mul (by omega) h2.2 (by omega) (by omega)
 exact ⟨⟨a1, by omega⟩, ⟨a3, by omega⟩, ⟨b1, by omega⟩, ⟨b3, by omega⟩, Int.ediv_nonneg a3 (by omega)⟩
noncomputable def oQ : Fun := F2 dI dI fun need room => open Classical in if (0 ≤ need ∧ need ≤ 100000) ∧ 0 ≤ room ∧ room ≤ 100000 then some (iv (ab5 need room)) else none
theorem pR {need room : Int} (h : (0 ≤ need ∧ need ≤ 100000) ∧ 0 ≤ room ∧ room ≤ 100000) : oQ [.val (.int .i64 need), .val (.int .i64 room)] = some (.val (.int .i64 (ab5 need room))) := (kX (A := dI) (B := dI) need room).trans (if_pos h)
set_option maxHeartbeats 8000000 in
theorem acs : Sound Tryz.prog 107 oQ := by
 refine ay mixed jQ Tryz.func107 rfl 29 rfl [.tmp 4] rfl (by kernel_rfl) fun ps r hr => ?_
 obtain ⟨need, room, rfl, hq⟩ := dA hr
 clear hr
 split at hq
 case isFalse => cases hq
 case isTrue hpre =>
 cases hq
 refine ⟨by simp, ?_⟩
 simp only [dIs, dUs, dSs, eX, fq, eT, fE, bS, fA, bO, bP, bR, bQ]
 obtain ⟨h1, h2⟩ := hpre
 unfold ab5
 by_cases hn : need = 0
 ·subst hn
  exact wlkF
 ·rw [if_neg hn]
  by_cases hr : room = 0
  ·subst hr
   (repeat' (first | (with_reducible first | apply bF | apply av | apply aO | apply aJ | apply bC | apply dY | apply bA | apply bH | apply d9 | apply bE | apply bJ | apply dX | apply bI | apply bG | apply bD) | ((with_reducible apply au); (simp only [List.map_cons, List.map_nil] <;> exact rfl)) | ((with_reducible apply aI); (simp only [List.map_cons, List.map_nil] <;> exact rfl); decide +kernel) | ((with_reducible apply bB); rfl) | ((first | ((with_reducible apply i_V); rfl; rfl; rfl) | ((first | ((with_reducible apply i_E); rfl) | ((with_reducible apply i_S); rfl)); first | rfl | (simp only [push_cast, ↓reduceIte])) | ((with_reducible apply dW); rfl; rfl) | ((with_reducible apply dZ); rfl; rfl; rfl) | (with_reducible first | apply dV | apply aL)); (simp (disch := (first | omega | (simp only [push_cast]; first | done | omega))) only [push_cast, ↓reduceIte, Nat.reduceEqDiff, Nat.reduceBEq, Nat.reduceAdd, Nat.reduceSub, Int.reduceToNat, *] <;> with_reducible exact rfl); all_goals try (first | (with_reducible first | refine hyT ?_ | refine hyF ?_ | exact hyA | exact hyB) | (intro hX; first | (cases hX; done) | ((try simp only [decide_eq_true_eq, decide_eq_false_iff_not, Bool.not_eq_true', Bool.not_eq_false'] at hX); (try have hXb := aj.1 hX))))))); all_goals try (exfalso; omega)
   all_goals ((first | apply dw | apply bK); simp (disch := (first | omega | (simp only [push_cast]; first | done | omega))) only [push_cast, ↓reduceIte, Nat.reduceEqDiff, Nat.reduceBEq, Nat.reduceAdd, Nat.reduceSub, Int.reduceToNat, *])
   all_goals simp
  ·obtain ⟨c1, c2, c3, c4, c5⟩ := ad1 h1 (room := room) ⟨by omega, by omega⟩
   have hq : Int.tdiv (100 * need * need * need) (room * room * room) = 100 * need * need * need / (room * room * room) := Int.tdiv_eq_ediv_of_nonneg c2.1
   by_cases hb : 10 * room < need
   ·rw [if_pos (.inr hb)]
    clear c1 c2 c3 c4 c5 hq
    exact wlkF
   ·rw [if_neg (by omega)]
    have hz : ¬ room * room * room = 0 := by omega
    have w1 := eF (n := 100 * need * need) (by omega) (by omega)
    have w2 := eF (n := 100 * need * need * need) (by omega) (by omega)
    have w3 := eF (n := room * room) (by omega) (by omega)
    have w4 := eF (n := room * room * room) (by omega) (by omega)
    have c6 : 100 * need * need * need / (room * room * room) ≤ 100000000000000000 := by
     have := Int.ediv_le_self (room * room * room) c2.1
     omega
    have w5 := eF (n := 100 * need * need * need / (room * room * room)) (by omega) (by omega)
    (repeat' (first | (with_reducible first | apply bF | apply av | apply aO | apply aJ | apply bC | apply dY | apply bA | apply bH | apply d9 | apply bE | apply bJ | apply dX | apply bI | apply bG | apply bD) | ((with_reducible apply au); (simp only [List.map_cons, List.map_nil] <;> exact rfl)) | ((with_reducible apply aI); (simp only [List.map_cons, List.map_nil] <;> exact rfl); decide +kernel) | ((with_reducible apply bB); rfl) | ((first | ((with_reducible apply i_V); rfl; rfl; rfl) | ((first | ((with_reducible apply i_E); rfl) | ((with_reducible apply i_S); rfl)); first | rfl | (simp only [push_cast, ↓reduceIte])) | ((with_reducible apply dW); rfl; rfl) | ((with_reducible apply dZ); rfl; rfl; rfl) | (with_reducible first | apply dV | apply aL)); (simp (disch := (first | omega | (simp only [push_cast]; first | done | omega))) only [push_cast, ↓reduceIte, Nat.reduceEqDiff, Nat.reduceBEq, Nat.reduceAdd, Nat.reduceSub, Int.reduceToNat, *] <;> with_reducible exact rfl); all_goals try (first | (with_reducible first | refine hyT ?_ | refine hyF ?_ | exact hyA | exact hyB) | (intro hX; first | (cases hX; done) | ((try simp only [decide_eq_true_eq, decide_eq_false_iff_not, Bool.not_eq_true', Bool.not_eq_false'] at hX); (try have hXb := aj.1 hX))))))); all_goals try (exfalso; omega)
    all_goals ((first | apply dw | apply bK); simp (disch := (first | omega | (simp only [push_cast]; first | done | omega))) only [push_cast, ↓reduceIte, Nat.reduceEqDiff, Nat.reduceBEq, Nat.reduceAdd, Nat.reduceSub, Int.reduceToNat, *])
    all_goals ((refine congrArg (fun z => some (PV.val (Value.int IntKind.i64 z))) ?_); generalize 100 * need * need * need / (room * room * room) = q at *; (try (split)) <;> omega)
noncomputable def atf : Ctx := { fn := fun f => if f = 51 then some φIn else none, io := fun f => none }
theorem ap0 : aA Tryz.prog atf := ⟨(fun f φ h => by
 unfold atf at h
 dsimp only at h
 split at h
 ·rename_i hf; cases h; subst hf; exact ⟨⟨_, Tryz.func51, rfl, rfl⟩, jK⟩
 cases h), (fun f φ h => by
 unfold atf at h
 dsimp only at h
 cases h), rfl⟩
theorem wW (ob : aF) (ps : List PV) : ah atf ob 51 ps = (ps.mapM (reify false 0 ob fuel)).bind φIn := by
 have h : atf.fn 51 = some φIn := by simp [atf]
 unfold ah
 rw [h]
 cases ps.mapM (reify false 0 ob fuel) <;> rfl
set_option maxHeartbeats 8000000 in
theorem ab4 : Sound Tryz.prog 82 oQ := by
 refine ay mixed ap0 Tryz.func82 rfl 36 rfl [.tmp 4] rfl (by kernel_rfl) fun ps r hr => ?_
 obtain ⟨need, room, rfl, hq⟩ := dA hr
 clear hr
 split at hq
 case isFalse => cases hq
 case isTrue hpre =>
 cases hq
 refine ⟨by simp, ?_⟩
 simp only [dIs, dUs, dSs, eX, fq, eT, fE, bS, fA, bO, bP, bR, bQ]
 obtain ⟨h1, h2⟩ := hpre
 have ap1 : φIn [.val (.int .i64 need), .val (.int .i64 0), .val (.int .i64 100000)] = some (.val (.bool true)) := (dR _ _ _).trans (by rw [aj.2 h1])
 have ap2 : φIn [.val (.int .i64 room), .val (.int .i64 0), .val (.int .i64 100000)] = some (.val (.bool true)) := (dR _ _ _).trans (by rw [aj.2 h2])
 rw [aiT h1.1 h2.1]
 by_cases hn : need = 0
 ·subst hn
  have gbds_c51 := wW
  exact wlkF
 ·rw [if_neg hn]
  by_cases hr : room = 0
  ·subst hr
   have gbds_c51 := wW
   (repeat' (first | (with_reducible first | apply bF | apply av | apply aO | apply aJ | apply bC | apply dY | apply bA | apply bH | apply d9 | apply bE | apply bJ | apply dX | apply bI | apply bG | apply bD) | ((with_reducible apply au); (simp only [List.map_cons, List.map_nil] <;> exact rfl)) | ((with_reducible apply aI); (simp only [List.map_cons, List.map_nil] <;> exact rfl); decide +kernel) | ((with_reducible apply bB); rfl) | ((first | ((with_reducible apply i_V); rfl; rfl; rfl) | ((first | ((with_reducible apply i_E); rfl) | ((with_reducible apply i_S); rfl)); first | rfl | (simp only [push_cast, ↓reduceIte])) | ((with_reducible apply dW); rfl; rfl) | ((with_reducible apply dZ); rfl; rfl; rfl) | (with_reducible first | apply dV | apply aL)); (simp (disch := (first | omega | (simp only [push_cast]; first | done | omega))) only [push_cast, ↓reduceIte, Nat.reduceEqDiff, Nat.reduceBEq, Nat.reduceAdd, Nat.reduceSub, Int.reduceToNat, *] <;> with_reducible exact rfl); all_goals try (first | (with_reducible first | refine hyT ?_ | refine hyF ?_ | exact hyA | exact hyB) | (intro hX; first | (cases hX; done) | ((try simp only [decide_eq_true_eq, decide_eq_false_iff_not, Bool.not_eq_true', Bool.not_eq_false'] at hX); (try have hXb := aj.1 hX))))))); all_goals try (exfalso; omega)
   all_goals ((first | apply dw | apply bK); simp (disch := (first | omega | (simp only [push_cast]; first | done | omega))) only [push_cast, ↓reduceIte, Nat.reduceEqDiff, Nat.reduceBEq, Nat.reduceAdd, Nat.reduceSub, Int.reduceToNat, *])
   all_goals simp
  ·obtain ⟨c1, c2, c3, c4, c5⟩ := ad1 h1 (room := room) ⟨by omega, by omega⟩
   by_cases hb : 5 * room < need
   ·rw [if_pos (.inr hb)]
    clear c1 c2 c3 c4 c5
    have gbds_c51 := wW
    exact wlkF
   ·rw [if_neg (by omega)]
    have hz : ¬ room * room * room = 0 := by omega
    have w1 := eF (n := 100 * need * need) (by omega) (by omega)
    have w2 := eF (n := 100 * need * need * need) (by omega) (by omega)
    have w3 := eF (n := room * room) (by omega) (by omega)
    have w4 := eF (n := room * room * room) (by omega) (by omega)
    have c6 : 100 * need * need * need / (room * room * room) ≤ 100000000000000000 := by
     have := Int.ediv_le_self (room * room * room) c2.1
     omega
    have w5 := eF (n := 100 * need * need * need / (room * room * room)) (by omega) (by omega)
    have gbds_c51 := wW
    (repeat' (first | (with_reducible first | apply bF | apply av | apply aO | apply aJ | apply bC | apply dY | apply bA | apply bH | apply d9 | apply bE | apply bJ | apply dX | apply bI | apply bG | apply bD) | ((with_reducible apply au); (simp only [List.map_cons, List.map_nil] <;> exact rfl)) | ((with_reducible apply aI); (simp only [List.map_cons, List.map_nil] <;> exact rfl); decide +kernel) | ((with_reducible apply bB); rfl) | ((first | ((with_reducible apply i_V); rfl; rfl; rfl) | ((first | ((with_reducible apply i_E); rfl) | ((with_reducible apply i_S); rfl)); first | rfl | (simp only [push_cast, ↓reduceIte])) | ((with_reducible apply dW); rfl; rfl) | ((with_reducible apply dZ); rfl; rfl; rfl) | (with_reducible first | apply dV | apply aL)); (simp (disch := (first | omega | (simp only [push_cast]; first | done | omega))) only [push_cast, ↓reduceIte, Nat.reduceEqDiff, Nat.reduceBEq, Nat.reduceAdd, Nat.reduceSub, Int.reduceToNat, *] <;> with_reducible exact rfl); all_goals try (first | (with_reducible first | refine hyT ?_ | refine hyF ?_ | exact hyA | exact hyB) | (intro hX; first | (cases hX; done) | ((try simp only [decide_eq_true_eq, decide_eq_false_iff_not, Bool.not_eq_true', Bool.not_eq_false'] at hX); (try have hXb := aj.1 hX))))))); all_goals try (exfalso; omega)
    all_goals ((first | apply dw | apply bK); simp (disch := (first | omega | (simp only [push_cast]; first | done | omega))) only [push_cast, ↓reduceIte, Nat.reduceEqDiff, Nat.reduceBEq, Nat.reduceAdd, Nat.reduceSub, Int.reduceToNat, *])
    all_goals ((refine congrArg (fun z => some (PV.val (Value.int IntKind.i64 z))) ?_); generalize 100 * need * need * need / (room * room * room) = q at *; (try (split)) <;> omega)
noncomputable def φLk : Fun := F2 dB dI fun s bad => open Classical in if 0 ≤ bad ∧ bad ≤ 10000 then some (iv (gU s bad)) else none
theorem xw {s : Bool} {bad : Int} (h : 0 ≤ bad ∧ bad ≤ 10000) : φLk [.val (.bool s), .val (.int .i64 bad)] = some (.val (.int .i64 (gU s bad))) := (kX (A := dB) (B := dI) s bad).trans (if_pos h)
noncomputable def atr : Ctx := { fn := fun f => if f = 62 then some kG else none, io := fun f => none }
theorem aqO : aA Tryz.prog atr := ⟨(fun f φ h => by
 unfold atr at h
 dsimp only at h
 split at h
 ·rename_i hf; cases h; subst hf; exact ⟨⟨_, Tryz.func62, rfl, rfl⟩, pX⟩
 cases h), (fun f φ h => by
 unfold atr at h
 dsimp only at h
 cases h), rfl⟩
theorem aog (ob : aF) (ps : List PV) : ah atr ob 62 ps = (ps.mapM (reify false 0 ob fuel)).bind kG := by
 have h : atr.fn 62 = some kG := by simp [atr]
 unfold ah
 rw [h]
 cases ps.mapM (reify false 0 ob fuel) <;> rfl
theorem ah3 : Sound Tryz.prog 86 φLk := by
 refine ay mixed aqO Tryz.func86 rfl 18 rfl [.tmp 4] rfl (by kernel_rfl) fun ps r hr => ?_
 obtain ⟨s, bad, rfl, hq⟩ := dA hr
 clear hr
 split at hq
 case isFalse => cases hq
 case isTrue hpre =>
 cases hq
 refine ⟨by simp, ?_⟩
 simp only [dIs, dUs, dSs, eX, fq, eT, fE, bS, fA, bO, bP, bR, bQ]
 have ap : kG [.val (.int .i64 bad)] = some (.val (.bool true)) := (mI bad).trans (by rw [aj.2 hpre])
 unfold gU
 have glki_c62 := aog
 cases s <;>
 ·(repeat' (first | (with_reducible first | apply bF | apply av | apply aO | apply aJ | apply bC | apply dY | apply bA | apply bH | apply d9 | apply bE | apply bJ | apply dX | apply bI | apply bG | apply bD) | ((with_reducible apply au); (simp only [List.map_cons, List.map_nil] <;> exact rfl)) | ((with_reducible apply aI); (simp only [List.map_cons, List.map_nil] <;> exact rfl); decide +kernel) | ((with_reducible apply bB); rfl) | ((first | ((with_reducible apply i_V); rfl; rfl; rfl) | ((first | ((with_reducible apply i_E); rfl) | ((with_reducible apply i_S); rfl)); first | rfl | (simp only [push_cast, ↓reduceIte])) | ((with_reducible apply dW); rfl; rfl) | ((with_reducible apply dZ); rfl; rfl; rfl) | (with_reducible first | apply dV | apply aL)); (simp (disch := (first | omega | (simp only [push_cast]; first | done | omega))) only [push_cast, ↓reduceIte, Nat.reduceEqDiff, Nat.reduceBEq, Nat.reduceAdd, Nat.reduceSub, Int.reduceToNat, *] <;> with_reducible exact rfl); all_goals try (first | (with_reducible first | refine hyT ?_ | refine hyF ?_ | exact hyA | exact hyB) | (intro hX; first | (cases hX; done) | ((try simp only [decide_eq_true_eq, decide_eq_false_iff_not, Bool.not_eq_true', Bool.not_eq_false'] at hX); (try have hXb := aj.1 hX))))))); all_goals try (exfalso; omega)
  all_goals ((first | apply dw | apply bK); simp (disch := (first | omega | (simp only [push_cast]; first | done | omega))) only [push_cast, ↓reduceIte, Nat.reduceEqDiff, Nat.reduceBEq, Nat.reduceAdd, Nat.reduceSub, Int.reduceToNat, *])
  all_goals ((refine congrArg (fun z => some (PV.val (Value.int IntKind.i64 z))) ?_); (repeat' split) <;> first | rfl | omega | (simp_all; done))
noncomputable def atd : Ctx := { fn := fun f => if f = 51 then some φIn else none, io := fun f => none }
theorem arB : aA Tryz.prog atd := ⟨(fun f φ h => by
 unfold atd at h
 dsimp only at h
 split at h
 ·rename_i hf; cases h; subst hf; exact ⟨⟨_, Tryz.func51, rfl, rfl⟩, jK⟩
 cases h), (fun f φ h => by
 unfold atd at h
 dsimp only at h
 cases h), rfl⟩
theorem aqf (ob : aF) (ps : List PV) : ah atd ob 51 ps = (ps.mapM (reify false 0 ob fuel)).bind φIn := by
 have h : atd.fn 51 = some φIn := by simp [atd]
 unfold ah
 rw [h]
 cases ps.mapM (reify false 0 ob fuel) <;> rfl
theorem akc : Sound Tryz.prog 55 φLk := by
 refine ay mixed arB Tryz.func55 rfl 14 rfl [.tmp 4] rfl (by kernel_rfl) fun ps r hr => ?_
 obtain ⟨s, bad, rfl, hq⟩ := dA hr
 clear hr
 split at hq
 case isFalse => cases hq
 case isTrue hpre =>
 cases hq
 refine ⟨by simp, ?_⟩
 simp only [dIs, dUs, dSs, eX, fq, eT, fE, bS, fA, bO, bP, bR, bQ]
 have ap : φIn [.val (.int .i64 bad), .val (.int .i64 0), .val (.int .i64 10000)] = some (.val (.bool true)) := (dR _ _ _).trans (by rw [aj.2 hpre])
 unfold gU
 have glks_c51 := aqf
 cases s <;>
 ·(repeat' (first | (with_reducible first | apply bF | apply av | apply aO | apply aJ | apply bC | apply dY | apply bA | apply bH | apply d9 | apply bE | apply bJ | apply dX | apply bI | apply bG | apply bD) | ((with_reducible apply au); (simp only [List.map_cons, List.map_nil] <;> exact rfl)) | ((with_reducible apply aI); (simp only [List.map_cons, List.map_nil] <;> exact rfl); decide +kernel) | ((with_reducible apply bB); rfl) | ((first | ((with_reducible apply i_V); rfl; rfl; rfl) | ((first | ((with_reducible apply i_E); rfl) | ((with_reducible apply i_S); rfl)); first | rfl | (simp only [push_cast, ↓reduceIte])) | ((with_reducible apply dW); rfl; rfl) | ((with_reducible apply dZ); rfl; rfl; rfl) | (with_reducible first | apply dV | apply aL)); (simp (disch := (first | omega | (simp only [push_cast]; first | done | omega))) only [push_cast, ↓reduceIte, Nat.reduceEqDiff, Nat.reduceBEq, Nat.reduceAdd, Nat.reduceSub, Int.reduceToNat, *] <;> with_reducible exact rfl); all_goals try (first | (with_reducible first | refine hyT ?_ | refine hyF ?_ | exact hyA | exact hyB) | (intro hX; first | (cases hX; done) | ((try simp only [decide_eq_true_eq, decide_eq_false_iff_not, Bool.not_eq_true', Bool.not_eq_false'] at hX); (try have hXb := aj.1 hX))))))); all_goals try (exfalso; omega)
  all_goals ((first | apply dw | apply bK); simp (disch := (first | omega | (simp only [push_cast]; first | done | omega))) only [push_cast, ↓reduceIte, Nat.reduceEqDiff, Nat.reduceBEq, Nat.reduceAdd, Nat.reduceSub, Int.reduceToNat, *])
  all_goals ((refine congrArg (fun z => some (PV.val (Value.int IntKind.i64 z))) ?_); (repeat' split) <;> first | rfl | omega | (simp_all; done))
abbrev aha (c : Int) : Prop := (0 ≤ c ∧ c ≤ 10000) ∨ c = -10000
noncomputable def φCo : Fun := F2 dI dI fun bad c => open Classical in if (0 ≤ bad ∧ bad ≤ 10000) ∧ aha c then some (iv (mq bad c)) else none
theorem abK {bad c : Int} (h : 0 ≤ bad ∧ bad ≤ 10000) (h2 : aha c) : φCo [.val (.int .i64 bad), .val (.int .i64 c)] = some (.val (.int .i64 (mq bad c))) := (kX (A := dI) (B := dI) bad c).trans (if_pos ⟨h, h2⟩)
theorem adJ {bad : Int} (h : 0 ≤ bad ∧ bad ≤ 10010) : 0 ≤ bad * bad ∧ bad * bad ≤ 100200100 := by
 have h3 : 0 ≤ bad * bad := Int.mul_nonneg (by omega) (by omega)
 have h4 : bad * bad ≤ 10010 * 10010 := Int.mul_le_mul (by omega) (by omega) (by omega) (by omega)
 omega
noncomputable def al8 : Ctx := { fn := fun f => if f = 62 then some kG else if f = 105 then some oI else none, io := fun f => none }
theorem aq4 : aA Tryz.prog al8 := ⟨(fun f φ h => by
 unfold al8 at h
 dsimp only at h
 split at h
 ·rename_i hf; cases h; subst hf; exact ⟨⟨_, Tryz.func62, rfl, rfl⟩, pX⟩
 split at h
 ·rename_i hf; cases h; subst hf; exact ⟨⟨_, Tryz.func105, rfl, rfl⟩, aaN⟩
 cases h), (fun f φ h => by
 unfold al8 at h
 dsimp only at h
 cases h), rfl⟩
theorem ao2 (ob : aF) (ps : List PV) : ah al8 ob 62 ps = (ps.mapM (reify false 0 ob fuel)).bind kG := by
 have h : al8.fn 62 = some kG := by simp [al8]
 unfold ah
 rw [h]
 cases ps.mapM (reify false 0 ob fuel) <;> rfl
theorem ak5 (ob : aF) (ps : List PV) : ah al8 ob 105 ps = (ps.mapM (reify false 0 ob fuel)).bind oI := by
 have h : al8.fn 105 = some oI := by simp [al8]
 unfold ah
 rw [h]
 cases ps.mapM (reify false 0 ob fuel) <;> rfl
theorem agv : Sound Tryz.prog 87 φCo := by
 refine ay mixed aq4 Tryz.func87 rfl 27 rfl [.tmp 4] rfl (by kernel_rfl) fun ps r hr => ?_
 obtain ⟨bad, c, rfl, hq⟩ := dA hr
 clear hr
 split at hq
 case isFalse => cases hq
 case isTrue hpre =>
 cases hq
 refine ⟨by simp, ?_⟩
 simp only [dIs, dUs, dSs, eX, fq, eT, fE, bS, fA, bO, bP, bR, bQ]
 obtain ⟨h1, h2⟩ := hpre
 have ap : kG [.val (.int .i64 bad)] = some (.val (.bool true)) := (mI bad).trans (by rw [aj.2 h1])
 have ap2 : oI [.val (.int .i64 c)] = some (.val (.bool true)) := (zQ c).trans (by
  have : xQ c = true := by
   unfold xQ
   rcases h2 with h2 | h2
   ·rw [aj.2 h2]; rfl
   ·rw [decide_eq_true h2, Bool.or_true]
  rw [this])
 have s1 := adJ (bad := 10 + bad) ⟨by omega, by omega⟩
 have w1 := eF (n := (10 + bad) * (10 + bad)) (by omega) (by omega)
 unfold mq
 have gcoi_c62 := ao2; have gcoi_c105 := ak5
 by_cases hc : c = -10000
 ·subst hc
  rw [if_pos rfl]
  clear h2
  (repeat' (first | (with_reducible first | apply bF | apply av | apply aO | apply aJ | apply bC | apply dY | apply bA | apply bH | apply d9 | apply bE | apply bJ | apply dX | apply bI | apply bG | apply bD) | ((with_reducible apply au); (simp only [List.map_cons, List.map_nil] <;> exact rfl)) | ((with_reducible apply aI); (simp only [List.map_cons, List.map_nil] <;> exact rfl); decide +kernel) | ((with_reducible apply bB); rfl) | ((first | ((with_reducible apply i_V); rfl; rfl; rfl) | ((first | ((with_reducible apply i_E); rfl) | ((with_reducible apply i_S); rfl)); first | rfl | (simp only [push_cast, ↓reduceIte])) | ((with_reducible apply dW); rfl; rfl) | ((with_reducible apply dZ); rfl; rfl; rfl) | (with_reducible first | apply dV | apply aL)); (simp (disch := (first | omega | (simp only [push_cast]; first | done | omega))) only [push_cast, ↓reduceIte, Nat.reduceEqDiff, Nat.reduceBEq, Nat.reduceAdd, Nat.reduceSub, Int.reduceToNat, *] <;> with_reducible exact rfl); all_goals try (first | (with_reducible first | refine hyT ?_ | refine hyF ?_ | exact hyA | exact hyB) | (intro hX; first | (cases hX; done) | ((try simp only [decide_eq_true_eq, decide_eq_false_iff_not, Bool.not_eq_true', Bool.not_eq_false'] at hX); (try have hXb := aj.1 hX))))))); all_goals try (exfalso; omega)
  all_goals ((first | apply dw | apply bK); simp (disch := (first | omega | (simp only [push_cast]; first | done | omega))) only [push_cast, ↓reduceIte, Nat.reduceEqDiff, Nat.reduceBEq, Nat.reduceAdd, Nat.reduceSub, Int.reduceToNat, *])
  all_goals ((refine congrArg (fun z => some (PV.val (Value.int IntKind.i64 z))) ?_); omega)
 ·have s2 := adJ (bad := c) ⟨by omega, by omega⟩
  have w2 := eF (n := c * c) (by omega) (by omega)
  rw [if_neg hc]
  have w3 := eF (n := (10 + bad) * (10 + bad) + c * c) (by omega) (by omega)
  clear h2
  exact wlkF
noncomputable def atu : Ctx := { fn := fun f => if f = 51 then some φIn else none, io := fun f => none }
theorem aoy : aA Tryz.prog atu := ⟨(fun f φ h => by
 unfold atu at h
 dsimp only at h
 split at h
 ·rename_i hf; cases h; subst hf; exact ⟨⟨_, Tryz.func51, rfl, rfl⟩, jK⟩
 cases h), (fun f φ h => by
 unfold atu at h
 dsimp only at h
 cases h), rfl⟩
theorem ar9 (ob : aF) (ps : List PV) : ah atu ob 51 ps = (ps.mapM (reify false 0 ob fuel)).bind φIn := by
 have h : atu.fn 51 = some φIn := by simp [atu]
 unfold ah
 rw [h]
 cases ps.mapM (reify false 0 ob fuel) <;> rfl
theorem agw : Sound Tryz.prog 56 φCo := by
 refine ay mixed aoy Tryz.func56 rfl 31 rfl [.tmp 4] rfl (by kernel_rfl) fun ps r hr => ?_
 obtain ⟨bad, c, rfl, hq⟩ := dA hr
 clear hr
 split at hq
 case isFalse => cases hq
 case isTrue hpre =>
 cases hq
 refine ⟨by simp, ?_⟩
 simp only [dIs, dUs, dSs, eX, fq, eT, fE, bS, fA, bO, bP, bR, bQ]
 obtain ⟨h1, h2⟩ := hpre
 have ap : φIn [.val (.int .i64 bad), .val (.int .i64 0), .val (.int .i64 10000)] = some (.val (.bool true)) := (dR _ _ _).trans (by rw [aj.2 h1])
 have s1 := adJ (bad := 10 + bad) ⟨by omega, by omega⟩
 have w1 := eF (n := (10 + bad) * (10 + bad)) (by omega) (by omega)
 unfold mq
 have gcos_c51 := ar9
 by_cases hc : c = -10000
 ·have ap2 : φIn [.val (.int .i64 c), .val (.int .i64 0), .val (.int .i64 10000)] = some (.val (.bool false)) := (dR _ _ _).trans (by rw [show inB c 0 10000 = false from Bool.eq_false_iff.2 fun q => by have := aj.1 q; omega])
  subst hc
  rw [if_pos rfl]
  clear h2
  (repeat' (first | (with_reducible first | apply bF | apply av | apply aO | apply aJ | apply bC | apply dY | apply bA | apply bH | apply d9 | apply bE | apply bJ | apply dX | apply bI | apply bG | apply bD) | ((with_reducible apply au); (simp only [List.map_cons, List.map_nil] <;> exact rfl)) | ((with_reducible apply aI); (simp only [List.map_cons, List.map_nil] <;> exact rfl); decide +kernel) | ((with_reducible apply bB); rfl) | ((first | ((with_reducible apply i_V); rfl; rfl; rfl) | ((first | ((with_reducible apply i_E); rfl) | ((with_reducible apply i_S); rfl)); first | rfl | (simp only [push_cast, ↓reduceIte])) | ((with_reducible apply dW); rfl; rfl) | ((with_reducible apply dZ); rfl; rfl; rfl) | (with_reducible first | apply dV | apply aL)); (simp (disch := (first | omega | (simp only [push_cast]; first | done | omega))) only [push_cast, ↓reduceIte, Nat.reduceEqDiff, Nat.reduceBEq, Nat.reduceAdd, Nat.reduceSub, Int.reduceToNat, *] <;> with_reducible exact rfl); all_goals try (first | (with_reducible first | refine hyT ?_ | refine hyF ?_ | exact hyA | exact hyB) | (intro hX; first | (cases hX; done) | ((try simp only [decide_eq_true_eq, decide_eq_false_iff_not, Bool.not_eq_true', Bool.not_eq_false'] at hX); (try have hXb := aj.1 hX))))))); all_goals try (exfalso; omega)
  all_goals ((first | apply dw | apply bK); simp (disch := (first | omega | (simp only [push_cast]; first | done | omega))) only [push_cast, ↓reduceIte, Nat.reduceEqDiff, Nat.reduceBEq, Nat.reduceAdd, Nat.reduceSub, Int.reduceToNat, *])
  all_goals ((refine congrArg (fun z => some (PV.val (Value.int IntKind.i64 z))) ?_); omega)
 ·have h3 : 0 ≤ c ∧ c ≤ 10000 := by omega
  have ap2 : φIn [.val (.int .i64 c), .val (.int .i64 0), .val (.int .i64 10000)] = some (.val (.bool true)) := (dR _ _ _).trans (by rw [aj.2 h3])
  have s2 := adJ (bad := c) ⟨by omega, by omega⟩
  have w2 := eF (n := c * c) (by omega) (by omega)
  rw [if_neg hc]
  have w3 := eF (n := (10 + bad) * (10 + bad) + c * c) (by omega) (by omega)
  clear h2
  by_cases h0 : c = 0
  ·subst h0
   clear s2 w2 w3
   (repeat' (first | (with_reducible first | apply bF | apply av | apply aO | apply aJ | apply bC | apply dY | apply bA | apply bH | apply d9 | apply bE | apply bJ | apply dX | apply bI | apply bG | apply bD) | ((with_reducible apply au); (simp only [List.map_cons, List.map_nil] <;> exact rfl)) | ((with_reducible apply aI); (simp only [List.map_cons, List.map_nil] <;> exact rfl); decide +kernel) | ((with_reducible apply bB); rfl) | ((first | ((with_reducible apply i_V); rfl; rfl; rfl) | ((first | ((with_reducible apply i_E); rfl) | ((with_reducible apply i_S); rfl)); first | rfl | (simp only [push_cast, ↓reduceIte])) | ((with_reducible apply dW); rfl; rfl) | ((with_reducible apply dZ); rfl; rfl; rfl) | (with_reducible first | apply dV | apply aL)); (simp (disch := (first | omega | (simp only [push_cast]; first | done | omega))) only [push_cast, ↓reduceIte, Nat.reduceEqDiff, Nat.reduceBEq, Nat.reduceAdd, Nat.reduceSub, Int.reduceToNat, *] <;> with_reducible exact rfl); all_goals try (first | (with_reducible first | refine hyT ?_ | refine hyF ?_ | exact hyA | exact hyB) | (intro hX; first | (cases hX; done) | ((try simp only [decide_eq_true_eq, decide_eq_false_iff_not, Bool.not_eq_true', Bool.not_eq_false'] at hX); (try have hXb := aj.1 hX))))))); all_goals try (exfalso; omega)
   all_goals ((first | apply dw | apply bK); simp (disch := (first | omega | (simp only [push_cast]; first | done | omega))) only [push_cast, ↓reduceIte, Nat.reduceEqDiff, Nat.reduceBEq, Nat.reduceAdd, Nat.reduceSub, Int.reduceToNat, *])
   all_goals ((refine congrArg (fun z => some (PV.val (Value.int IntKind.i64 z))) ?_); omega)
  ·exact wlkF
end Go.Proofs.YtngcedklbinhjaaGreatDoor
namespace Go.Proofs.YtngcedklbinhjaaGreatDoor
open Go.RowKit
set_option linter.all false
abbrev apU (l : List It) (n m : Int) : Prop := bM l = true ∧ -1 ≤ n ∧ n < m ∧ m < l.length
section
variable {α β γ δ ε : Type} {A : Dec α} {B : Dec β} {C : Dec γ} {D : Dec δ} {E : Dec ε}
def F5 (A : Dec α) (B : Dec β) (C : Dec γ) (D : Dec δ) (E : Dec ε) (F : α → β → γ → δ → ε → Option PV) : Fun := fun ps => match ps with
 | [p, q, r, s, t] => (A.d p).bind fun a => (B.d q).bind fun b => (C.d r).bind fun c => (D.d s).bind fun d => (E.d t).bind fun e => F a b c d e
 | _ => none
theorem ajE {F : α → β → γ → δ → ε → Option PV} {ps : List PV} {r : PV} (h : F5 A B C D E F ps = some r) : ∃ a b c d e, ps = [A.e a, B.e b, C.e c, D.e d, E.e e] ∧ F a b c d e = some r := by
 unfold F5 at h
 split at h
 ·simp only [Option.bind_eq_some_iff] at h
  obtain ⟨a, h1, b, h2, c, h3, d, h4, e, h5, h6⟩ := h
  exact ⟨a, b, c, d, e, by rw [A.h _ _ h1, B.h _ _ h2, C.h _ _ h3, D.h _ _ h4, E.h _ _ h5], h6⟩
 ·cases h
theorem auJ {F : α → β → γ → δ → ε → Option PV} (a : α) (b : β) (c : γ) (d : δ) (e : ε) : F5 A B C D E F [A.e a, B.e b, C.e c, D.e d, E.e e] = F a b c d e := by simp [F5, A.h', B.h', C.h', D.h', E.h']
end
noncomputable def φBd : Fun := F4 nA dI dI dI fun l n m wd => open Classical in if apU l n m ∧ (0 ≤ wd ∧ wd ≤ 1000) ∧ aH l (n + 1).toNat ≤ m.toNat then some (.tup [iv (iL l wd (n + 1).toNat m.toNat).1, bv (iL l wd (n + 1).toNat m.toNat).2]) else none
theorem ac4 {l : List It} {a en : Nat} {wd : Int} (h : bM l = true) (h2 : a ≤ en) (h3 : en < l.length) (h4 : 0 ≤ wd ∧ wd ≤ 1000) (h5 : aH l a ≤ en) : φBd [gG l, .val (.int .i64 ((a : Int) - 1)), .val (.int .i64 en), .val (.int .i64 wd)] = some (.tup [.val (.int .i64 (iL l wd a en).1), .val (.bool (iL l wd a en).2)]) :=
 (axg (A := nA) (B := dI) (C := dI) (D := dI) l ((a : Int) - 1) en wd).trans (by
  rw [show ((a : Int) - 1 + 1).toNat = a by omega, Int.toNat_natCast]
  exact if_pos ⟨⟨h, by omega, by omega, by omega⟩, h4, h5⟩)
noncomputable def agj : Ctx := { fn := fun f => if f = 79 then some φSt else if f = 81 then some aiG else if f = 82 then some oQ else none, io := fun f => none }
theorem arH : aA Tryz.prog agj := ⟨(fun f φ h => by
 unfold agj at h
 dsimp only at h
 split at h
 ·rename_i hf; cases h; subst hf; exact ⟨⟨_, Tryz.func79, rfl, rfl⟩, zN⟩
 split at h
 ·rename_i hf; cases h; subst hf; exact ⟨⟨_, Tryz.func81, rfl, rfl⟩, afM⟩
 split at h
 ·rename_i hf; cases h; subst hf; exact ⟨⟨_, Tryz.func82, rfl, rfl⟩, ab4⟩
 cases h), (fun f φ h => by
 unfold agj at h
 dsimp only at h
 cases h), rfl⟩
theorem yg (ob : aF) (ps : List PV) : ah agj ob 79 ps = (ps.mapM (reify false 0 ob fuel)).bind φSt := by
 have h : agj.fn 79 = some φSt := by simp [agj]
 unfold ah
 rw [h]
 cases ps.mapM (reify false 0 ob fuel) <;> rfl
theorem yU (ob : aF) (ps : List PV) : ah agj ob 81 ps = (ps.mapM (reify false 0 ob fuel)).bind aiG := by
 have h : agj.fn 81 = some aiG := by simp [agj]
 unfold ah
 rw [h]
 cases ps.mapM (reify false 0 ob fuel) <;> rfl
theorem xR (ob : aF) (ps : List PV) : ah agj ob 82 ps = (ps.mapM (reify false 0 ob fuel)).bind oQ := by
 have h : agj.fn 82 = some oQ := by simp [agj]
 unfold ah
 rw [h]
 cases ps.mapM (reify false 0 ob fuel) <;> rfl
set_option maxHeartbeats 8000000 in
theorem aj2 : Sound Tryz.prog 54 φBd := by
 refine ay mixed arH Tryz.func54 rfl 45 rfl [.tmp 8, .tmp 9] rfl (by kernel_rfl) fun ps r hr => ?_
 obtain ⟨l, n, m, wd, rfl, hq⟩ := aio hr
 clear hr
 split at hq
 case isFalse => cases hq
 case isTrue hpre =>
 cases hq
 refine ⟨by simp, ?_⟩
 simp only [dIs, dUs, dSs, eX, fq, eT, fE, bS, fA, bO, bP, bR, bQ]
 obtain ⟨⟨hB, hn0, hn1, hn2⟩, hw, hst⟩ := hpre
 obtain ⟨a, rfl⟩ : ∃ a : Nat, n = (a : Int) - 1 := ⟨(n + 1).toNat, by omega⟩
 obtain ⟨en, rfl⟩ : ∃ en : Nat, m = en := ⟨m.toNat, by omega⟩
 show pq _ _ _ _ _ (eO [gG l, .val (.int .i64 ((a : Int) - 1)), .val (.int .i64 en), .val (.int .i64 wd)]).tm _ _
 rw [show ((a : Int) - 1 + 1).toNat = a by omega, Int.toNat_natCast] at hst ⊢
 have ap1 := abG (a := a) hB (by omega)
 have ap2 := amE hB hst (by omega)
 obtain ⟨g1, g2⟩ := zf (b := aH l a) hB (show en < l.length by omega)
 obtain ⟨⟨o1, o2, o3, o4⟩, t1, t2, t3⟩ := ahc g1 g2
 have hE : iL l wd a en = awW (jE (lX l (aH l a) en)) wd := rfl
 rw [hE]
 have hl := cK hB
 clear hB g1 g2 hE
 generalize aH l a = s9 at *
 generalize jE (lX l s9 en) = t at *
 obtain ⟨tw, ts, th, tod⟩ := t
 dsimp only at o1 o2 o3 o4 t1 t2 t3
 have hG : awW (tw, ts, th, tod) wd = if tw ≤ wd then (if tod = 1 then (0, true) else (ab5 (wd - tw) ts, true)) else if tw - wd ≤ th then (ab5 (tw - wd) th, false) else (-1, false) := rfl
 rw [hG]
 by_cases h1 : tw ≤ wd
 ·have ap3 := pR (need := wd - tw) (room := ts) ⟨⟨by omega, by omega⟩, by omega, by omega⟩
  rw [if_pos h1]
  by_cases h2 : tod = 1
  ·rw [if_pos h2]
   subst h2
   have gl7b_c79 := yg; have gl7b_c81 := yU; have gl7b_c82 := xR
   exact wlkF
  ·rw [if_neg h2]
   generalize ab5 (wd - tw) ts = bd at *
   have gl7b_c79 := yg; have gl7b_c81 := yU; have gl7b_c82 := xR
   exact wlkF
 ·rw [if_neg h1]
  by_cases h2 : tw - wd ≤ th
  ·have ap3 := pR (need := tw - wd) (room := th) ⟨⟨by omega, by omega⟩, by omega, by omega⟩
   rw [if_pos h2]
   generalize ab5 (tw - wd) th = bd at *
   have gl7b_c79 := yg; have gl7b_c81 := yU; have gl7b_c82 := xR
   exact wlkF
  ·rw [if_neg h2]
   have gl7b_c79 := yg; have gl7b_c81 := yU; have gl7b_c82 := xR
   exact wlkF
noncomputable def φBw : Fun := F5 nA dI dI dI dI fun l n m be lk => open Classical in if apU l n m ∧ (0 ≤ be ∧ be ≤ 3) ∧ 0 ≤ lk ∧ lk ≤ 3 then some (iv (jm l (n + 1).toNat m.toNat be lk)) else none
theorem ah0 {l : List It} {a en : Nat} {be lk : Int} (h : bM l = true) (h2 : a ≤ en) (h3 : en < l.length) (h4 : 0 ≤ be ∧ be ≤ 3) (h5 : 0 ≤ lk ∧ lk ≤ 3) : φBw [gG l, .val (.int .i64 ((a : Int) - 1)), .val (.int .i64 en), .val (.int .i64 be), .val (.int .i64 lk)] = some (.val (.int .i64 (jm l a en be lk))) :=
 (auJ (A := nA) (B := dI) (C := dI) (D := dI) (E := dI) l ((a : Int) - 1) en be lk).trans (by
  rw [show ((a : Int) - 1 + 1).toNat = a by omega, Int.toNat_natCast]
  exact if_pos ⟨⟨h, by omega, by omega, by omega⟩, h4, h5⟩)
set_option maxHeartbeats 8000000 in
theorem agQ : Sound Tryz.prog 57 φBw := by
 refine ay mixed jQ Tryz.func57 rfl 45 rfl [.tmp 10] rfl (by kernel_rfl) fun ps r hr => ?_
 obtain ⟨l, n, m, be, lk, rfl, hq⟩ := ajE hr
 clear hr
 split at hq
 case isFalse => cases hq
 case isTrue hpre =>
 cases hq
 refine ⟨by simp, ?_⟩
 simp only [dIs, dUs, dSs, eX, fq, eT, fE, bS, fA, bO, bP, bR, bQ]
 obtain ⟨⟨hB, hn0, hn1, hn2⟩, hbe, hlk⟩ := hpre
 obtain ⟨a, rfl⟩ : ∃ a : Nat, n = (a : Int) - 1 := ⟨(n + 1).toNat, by omega⟩
 obtain ⟨en, rfl⟩ : ∃ en : Nat, m = en := ⟨m.toNat, by omega⟩
 show pq _ _ _ _ _ (eO [gG l, .val (.int .i64 ((a : Int) - 1)), .val (.int .i64 en), .val (.int .i64 be), .val (.int .i64 lk)]).tm _ _
 rw [show ((a : Int) - 1 + 1).toNat = a by omega, Int.toNat_natCast]
 have hl := cK hB
 have hE : jm l a en be lk = (if 0 < a ∧ (l[a - 1]?.getD it0).2.2.2.2.2.2 = true ∧ (l[en]?.getD it0).2.2.2.2.2.2 = true then 3000 else 0) + (if 0 < a ∧ (1 < be - lk ∨ be - lk < -1) then 3000 else 0) := rfl
 rw [hE]
 have hti : 0 < a → ((a : Int) - 1).toNat = a - 1 := fun h => by omega
 clear hB hE
 by_cases h0 : 0 < a
 ·have hti := hti h0
  generalize hx : l[a - 1]?.getD it0 = x at *
  generalize hy : l[en]?.getD it0 = y at *
  obtain ⟨x1, x2, x3, x4, x5, x6, x7⟩ := x
  obtain ⟨y1, y2, y3, y4, y5, y6, y7⟩ := y
  dsimp only
  have hd : be - lk = -3 ∨ be - lk = -2 ∨ be - lk = -1 ∨ be - lk = 0 ∨ be - lk = 1 ∨ be - lk = 2 ∨ be - lk = 3 := by omega
  have hd2 : (if lk - be > be - lk then lk - be else be - lk) > 1 ↔ (1 < be - lk ∨ be - lk < -1) := by split <;> omega
  clear hd
  cases x7 <;> cases y7 <;> by_cases hz : 1 < be - lk ∨ be - lk < -1 <;>
  ·have hz2 := hz
   rw [← hd2] at hz2
   clear hd2
   (repeat' (first | (with_reducible first | apply bF | apply av | apply aO | apply aJ | apply bC | apply dY | apply bA | apply bH | apply d9 | apply bE | apply bJ | apply dX | apply bI | apply bG | apply bD) | ((with_reducible apply au); (simp only [List.map_cons, List.map_nil] <;> exact rfl)) | ((with_reducible apply aI); (simp only [List.map_cons, List.map_nil] <;> exact rfl); decide +kernel) | ((with_reducible apply bB); rfl) | ((first | ((with_reducible apply i_V); rfl; rfl; rfl) | ((first | ((with_reducible apply i_E); rfl) | ((with_reducible apply i_S); rfl)); first | rfl | (simp only [push_cast, ↓reduceIte])) | ((with_reducible apply dW); rfl; rfl) | ((with_reducible apply dZ); rfl; rfl; rfl) | (with_reducible first | apply dV | apply aL)); (simp (disch := (first | omega | (simp only [push_cast]; first | done | omega))) only [push_cast, ↓reduceIte, Nat.reduceEqDiff, Nat.reduceBEq, Nat.reduceAdd, Nat.reduceSub, Int.reduceToNat, *] <;> with_reducible exact rfl); all_goals try (first | (with_reducible first | refine hyT ?_ | refine hyF ?_ | exact hyA | exact hyB) | (intro hX; first | (cases hX; done) | ((try simp only [decide_eq_true_eq, decide_eq_false_iff_not, Bool.not_eq_true', Bool.not_eq_false'] at hX); (try have hXb := aj.1 hX))))))); all_goals try (exfalso; omega)
   all_goals ((first | apply dw | apply bK); simp (disch := (first | omega | (simp only [push_cast]; first | done | omega))) only [push_cast, ↓reduceIte, Nat.reduceEqDiff, Nat.reduceBEq, Nat.reduceAdd, Nat.reduceSub, Int.reduceToNat, *])
   all_goals (simp [h0]; try omega)
 ·obtain rfl : a = 0 := by omega
  generalize hy : l[en]?.getD it0 = y at *
  obtain ⟨y1, y2, y3, y4, y5, y6, y7⟩ := y
  clear hti
  rw [if_neg (fun q => h0 q.1), if_neg (fun q => h0 q.1)]
  simp only [Int.natCast_zero, Int.zero_sub]
  (repeat' (first | (with_reducible first | apply bF | apply av | apply aO | apply aJ | apply bC | apply dY | apply bA | apply bH | apply d9 | apply bE | apply bJ | apply dX | apply bI | apply bG | apply bD) | ((with_reducible apply au); (simp only [List.map_cons, List.map_nil] <;> exact rfl)) | ((with_reducible apply aI); (simp only [List.map_cons, List.map_nil] <;> exact rfl); decide +kernel) | ((with_reducible apply bB); rfl) | ((first | ((with_reducible apply i_V); rfl; rfl; rfl) | ((first | ((with_reducible apply i_E); rfl) | ((with_reducible apply i_S); rfl)); first | rfl | (simp only [push_cast, ↓reduceIte])) | ((with_reducible apply dW); rfl; rfl) | ((with_reducible apply dZ); rfl; rfl; rfl) | (with_reducible first | apply dV | apply aL)); (simp (disch := (first | omega | (simp only [push_cast]; first | done | omega))) only [push_cast, ↓reduceIte, Nat.reduceEqDiff, Nat.reduceBEq, Nat.reduceAdd, Nat.reduceSub, Int.reduceToNat, *] <;> with_reducible exact rfl); all_goals try (first | (with_reducible first | refine hyT ?_ | refine hyF ?_ | exact hyA | exact hyB) | (intro hX; first | (cases hX; done) | ((try simp only [decide_eq_true_eq, decide_eq_false_iff_not, Bool.not_eq_true', Bool.not_eq_false'] at hX); (try have hXb := aj.1 hX))))))); all_goals try (exfalso; omega)
  all_goals ((first | apply dw | apply bK); simp (disch := (first | omega | (simp only [push_cast]; first | done | omega))) only [push_cast, ↓reduceIte, Nat.reduceEqDiff, Nat.reduceBEq, Nat.reduceAdd, Nat.reduceSub, Int.reduceToNat, *])
  all_goals simp
noncomputable def φLi : Fun := F3 nA dI dI fun l n m => open Classical in if apU l n m then some (.tup [.lst true 1 ((if fI l (n + 1).toNat m.toNat = true then mZ l (aH l (n + 1).toNat) m.toNat else []).map fun n => .val (.int .i64 n)), bv (fI l (n + 1).toNat m.toNat)]) else none
theorem agN {l : List It} {a en : Nat} (h : bM l = true) (h2 : a ≤ en) (h3 : en < l.length) : φLi [gG l, .val (.int .i64 ((a : Int) - 1)), .val (.int .i64 en)] = some (.tup [.lst true 1 ((if fI l a en = true then mZ l (aH l a) en else []).map fun n => .val (.int .i64 n)), .val (.bool (fI l a en))]) :=
 (aa0 (A := nA) (B := dI) (C := dI) l ((a : Int) - 1) en).trans ((if_pos ⟨h, by omega, by omega, by omega⟩).trans (by rw [show ((a : Int) - 1 + 1).toNat = a by omega, Int.toNat_natCast]))
theorem l8 {b : Bool} : (PV.tup [.val (.slice none 0 0), .val (.bool b)]).le (.tup [.lst true 1 [], .val (.bool b)]) := tQ ⟨nil_le _ _, PV.le_refl _, trivial⟩
noncomputable def GLi : Ctx := { fn := fun f => if f = 61 then some rF else if f = 73 then some φMb else if f = 74 then some φSt else if f = 75 then some φFc else none, io := fun f => none }
theorem aun : aA Tryz.prog GLi := ⟨(fun f φ h => by
 unfold GLi at h
 dsimp only at h
 split at h
 ·rename_i hf; cases h; subst hf; exact ⟨⟨_, Tryz.func61, rfl, rfl⟩, wu⟩
 split at h
 ·rename_i hf; cases h; subst hf; exact ⟨⟨_, Tryz.func73, rfl, rfl⟩, ajt⟩
 split at h
 ·rename_i hf; cases h; subst hf; exact ⟨⟨_, Tryz.func74, rfl, rfl⟩, aht⟩
 split at h
 ·rename_i hf; cases h; subst hf; exact ⟨⟨_, Tryz.func75, rfl, rfl⟩, aah⟩
 cases h), (fun f φ h => by
 unfold GLi at h
 dsimp only at h
 cases h), rfl⟩
theorem wL (ob : aF) (ps : List PV) : ah GLi ob 61 ps = (ps.mapM (reify false 0 ob fuel)).bind rF := by
 have h : GLi.fn 61 = some rF := by simp [GLi]
 unfold ah
 rw [h]
 cases ps.mapM (reify false 0 ob fuel) <;> rfl
theorem wB (ob : aF) (ps : List PV) : ah GLi ob 73 ps = (ps.mapM (reify false 0 ob fuel)).bind φMb := by
 have h : GLi.fn 73 = some φMb := by simp [GLi]
 unfold ah
 rw [h]
 cases ps.mapM (reify false 0 ob fuel) <;> rfl
theorem vV (ob : aF) (ps : List PV) : ah GLi ob 74 ps = (ps.mapM (reify false 0 ob fuel)).bind φSt := by
 have h : GLi.fn 74 = some φSt := by simp [GLi]
 unfold ah
 rw [h]
 cases ps.mapM (reify false 0 ob fuel) <;> rfl
theorem wm (ob : aF) (ps : List PV) : ah GLi ob 75 ps = (ps.mapM (reify false 0 ob fuel)).bind φFc := by
 have h : GLi.fn 75 = some φFc := by simp [GLi]
 unfold ah
 rw [h]
 cases ps.mapM (reify false 0 ob fuel) <;> rfl
set_option maxHeartbeats 16000000 in
theorem zx : Sound Tryz.prog 46 φLi := by
 refine l7 mixed aun Tryz.func46 rfl 73 rfl [.tmp 6, .tmp 7] rfl (by kernel_rfl) fun ps r hr => ?_
 obtain ⟨l, n, m, rfl, hq⟩ := jq hr
 clear hr
 split at hq
 case isFalse => cases hq
 case isTrue hpre =>
 cases hq
 refine ⟨by simp, ?_⟩
 simp only [dIs, dUs, dSs, eX, fq, eT, fE, bS, fA, bO, bP, bR, bQ]
 obtain ⟨hB, hn0, hn1, hn2⟩ := hpre
 obtain ⟨a, rfl⟩ : ∃ a : Nat, n = (a : Int) - 1 := ⟨(n + 1).toNat, by omega⟩
 obtain ⟨en, rfl⟩ : ∃ en : Nat, m = en := ⟨m.toNat, by omega⟩
 have hl := cK hB
 have hae : a ≤ en := by omega
 have hel : en < l.length := by omega
 show pq _ _ _ _ _ (eO [gG l, .val (.int .i64 ((a : Int) - 1)), .val (.int .i64 en)]).tm _ _
 rw [show ((a : Int) - 1 + 1).toNat = a by omega, Int.toNat_natCast]
 have ap1 := xq (l := l) (by omega)
 rw [hB] at ap1
 have ap2 := ahl (n := en) hB ⟨by omega, by omega⟩
 rw [decide_eq_true (show (0 : Int) ≤ en ∧ (en : Int) < l.length by omega), Bool.true_and, Int.toNat_natCast] at ap2
 have ap3 := abG (a := a) hB (by omega)
 have hE : fI l a en = (lJ l en && ((decide (a = 0) || lJ l (a - 1)) && (decide (aH l a ≤ en) && rA l a en))) := by
  unfold fI
  rw [decide_eq_true ⟨hae, hel⟩, Bool.true_and]
 have ap4 : 0 < a → φMb [gG l, .val (.int .i64 ((a : Int) - 1))] = some (.val (.bool (lJ l (a - 1)))) := fun h => by
  have := ahl (n := (a : Int) - 1) hB ⟨by omega, by omega⟩
  rw [decide_eq_true (show (0 : Int) ≤ (a : Int) - 1 ∧ (a : Int) - 1 < l.length by omega), Bool.true_and, show ((a : Int) - 1).toNat = a - 1 by omega] at this
  exact this
 have apf := @ajC
 have hsr := (@wS l a).1
 rw [hE]
 clear hE hn0 hn1 hn2 hB
 by_cases hc : lJ l en = true ∧ (a = 0 ∨ lJ l (a - 1) = true) ∧ aH l a ≤ en
 ·obtain ⟨c1, c2, c3⟩ := hc
  rw [c1] at ap2
  have hE : (lJ l en && ((decide (a = 0) || lJ l (a - 1)) && (decide (aH l a ≤ en) && rA l a en))) = rA l a en := by
   rw [c1, decide_eq_true c3]
   rcases c2 with c2 | c2
   ·rw [decide_eq_true c2]; simp
   ·rw [c2]; simp
  rw [hE]
  rcases Nat.eq_zero_or_pos a with h9 | h9
  ·subst h9
   replace ap4 : True := trivial
   simp only [Int.natCast_zero, Int.zero_sub] at ap3 ⊢
   clear hE c1 c2
   have hq := fun k => sW (l := l) (a := 0) (b := k)
   have hno := fun k h1 h2 h3 => acp (l := l) (a := 0) (b := en) (k := k) h1 h2 h3
   have hz0 : rA l 0 0 = true := xu (Nat.le_refl _)
   have hiy := fun k => @oD l (aH l 0) k
   have hin := fun k => @xI l (aH l 0) k
   have hi0 : mZ l (aH l 0) (aH l 0) = [] := sG (Nat.le_refl _)
   have hil := oN l (aH l 0)
   generalize aH l 0 = s9 at *
   have gli_c61 := wL; have gli_c73 := wB; have gli_c74 := vV; have gli_c75 := wm
   (refine wlk ?_; intros)
   refine aT (α := Nat) mixed (fun k => [(0, gG l), (1, iv (-1)), (2, iv en), (8, iv k)]) (fun _ => []) (fun _ => 0)
    (fun k => (0 ≤ k ∧ k ≤ en) ∧ rA l 0 k = true) (fun k => en - k) (by kernel_rfl) 0 ⟨⟨Nat.le_refl _, hae⟩, hz0⟩ ?_ ?_ rfl ?_
   ·exact agi
   ·exact agr
   rintro k ⟨⟨hk1, hk2⟩, hI⟩
   clear hz0
   by_cases h0 : k < en
   ·have hfr : forced (gI l k) = forced (l[k]?.getD it0) := rfl
    have hs := hq k hk1
    rw [hI, Bool.true_and, hfr] at hs
    have hno := fun h => hno k h hk1 h0
    clear hfr hq hI hiy hin hi0 hil ap4 ap3 ap2
    generalize hx : l[k]?.getD it0 = x at *
    obtain ⟨kd, w9, c, d, e, cost, g⟩ := x
    cases hf : forced (kd, w9, c, d, e, cost, g) with
    | true =>
     rw [hf] at hs
     rw [hno hs]
     clear hs hno
     (refine wlk ?_; intros)
     all_goals ((with_reducible apply fP (by first | exact .inl rfl | exact .inr rfl)); (simp (disch := (first | omega | (simp only [push_cast]; first | done | omega))) only [push_cast, ↓reduceIte, Nat.reduceEqDiff, Nat.reduceBEq, Nat.reduceAdd, Nat.reduceSub, Int.reduceToNat, *] <;> with_reducible exact rfl))
     all_goals exact l8
    | false =>
     rw [hf] at hs
     replace hs := Lib.hid hs
     clear hno
     (refine wlk ?_; intros)
     refine ⟨k + 1, ⟨⟨by omega, by omega⟩, hs.out⟩, by dsimp only; omega, ?_, ?_, rfl⟩
     ·exact agr
     ·exact agr
   ·obtain rfl : k = en := by omega
    rw [hI, if_pos rfl]
    clear hI hq hno ap4
    (refine wlk ?_; intros)
    refine aT (α := Nat × LI × Nat × Nat) mixed (fun z => [(0, gG l), (2, iv k), (9, nP 1 (z.2.1.map pvN) z.2.2.1), (10, iv z.1)])
     (fun z => nO 3 1 (z.2.1.map pvN) z.2.2.1) (fun z => z.2.2.2)
     (fun z => (s9 ≤ z.1 ∧ z.1 ≤ k) ∧ z.2.1 = mZ l s9 z.1 ∧ (0 < z.2.1.length → z.2.2.1 < z.2.2.2)) (fun z => k - z.1) (by kernel_rfl) (s9, [], 0, 0) ⟨⟨Nat.le_refl _, c3⟩, hi0.symm, by simp⟩ ?_ ?_ rfl ?_
    ·exact agr
    ·exact agr
    rintro ⟨j, out, x, y⟩ ⟨⟨hj1, hj2⟩, hI, hxy⟩
    dsimp only at hj1 hj2 hI hxy
    have hol : out.length ≤ 60 := by rw [hI]; have := hil j; omega
    clear hil hi0 ap3 ap2
    by_cases h1 : j < k
    ·have hiy := hiy j hj1
     have hin := hin j hj1
     have hkx : (gI l j).kd = (l[j]?.getD it0).1 := rfl
     rw [hkx] at hiy hin
     clear hkx
     generalize hx : l[j]?.getD it0 = z9 at *
     obtain ⟨kd, w9, c, d, e, cost, g⟩ := z9
     dsimp only at hiy hin
     by_cases h3 : kd = 3
     ·have hI2 : out = mZ l s9 (j + 1) := by rw [hin h3, ← hI]
      replace hI2 := Lib.hid hI2
      clear hI hiy hin
      (refine wlk ?_; intros)
      refine ⟨(j + 1, out, x, y), ⟨⟨by dsimp only; omega, by dsimp only; omega⟩, hI2.out, hxy⟩, by dsimp only; omega, ?_, oq, rfl⟩
      ·exact agr
     ·have hI2 : out ++ [(j : Int)] = mZ l s9 (j + 1) := by rw [hiy h3, ← hI]
      replace hI2 := Lib.hid hI2
      clear hI hiy hin
      by_cases hz : out.length = 0
      ·obtain rfl : out = [] := List.eq_nil_of_length_eq_zero hz
       (refine wlk ?_; intros)
       refine ⟨(j + 1, [] ++ [(j : Int)], y + 1, y + 2), ⟨⟨by dsimp only; omega, by dsimp only; omega⟩, hI2.out, fun _ => by dsimp only; omega⟩, by dsimp only; omega, ?_, ?_, rfl⟩
       ·exact agr
       ·exact agr
      ·have hxy := hxy (by omega)
       have hap : 0 < (out.map pvN).length := by rw [List.length_map]; omega
       clear hz
       have hap3 : 0 < ((out ++ [(j : Int)]).map pvN).length := by simp
       simp only [aS hap, aU hap, List.length_map]
       (refine wlk ?_; intros)
       refine ⟨(j + 1, out ++ [(j : Int)], y + 1, y + 2), ⟨⟨by dsimp only; omega, by dsimp only; omega⟩, hI2.out, fun _ => by dsimp only; omega⟩, by dsimp only; omega, ?_, ?_, rfl⟩
       ·simp (disch := (first | omega | (simp only [push_cast]; first | done | omega))) only [push_cast, ↓reduceIte, Nat.reduceEqDiff, Nat.reduceBEq, Nat.reduceAdd, Nat.reduceSub, Int.reduceToNat, aS hap3, List.length_append, *]
       ·simp (disch := (first | omega | (simp only [push_cast]; first | done | omega))) only [push_cast, ↓reduceIte, Nat.reduceEqDiff, Nat.reduceBEq, Nat.reduceAdd, Nat.reduceSub, Int.reduceToNat, aU hap3, *]
    ·obtain rfl : j = k := by omega
     rw [← hI]
     clear hI hiy hin
     by_cases hz : out.length = 0
     ·obtain rfl : out = [] := List.eq_nil_of_length_eq_zero hz
      (refine wlk ?_; intros)
      all_goals ((with_reducible apply fP (by first | exact .inl rfl | exact .inr rfl)); (simp (disch := (first | omega | (simp only [push_cast]; first | done | omega))) only [push_cast, ↓reduceIte, Nat.reduceEqDiff, Nat.reduceBEq, Nat.reduceAdd, Nat.reduceSub, Int.reduceToNat, *] <;> with_reducible exact rfl))
      all_goals exact l8
     ·have hxy := hxy (by omega)
      have hap : 0 < (out.map pvN).length := by rw [List.length_map]; omega
      clear hz
      simp only [aS hap, aU hap, List.length_map]
      (refine wlk ?_; intros)
      all_goals ((with_reducible apply fP (by first | exact .inl rfl | exact .inr rfl)); (simp (disch := (first | omega | (simp only [push_cast]; first | done | omega))) only [push_cast, ↓reduceIte, Nat.reduceEqDiff, Nat.reduceBEq, Nat.reduceAdd, Nat.reduceSub, Int.reduceToNat, *] <;> with_reducible exact rfl))
      all_goals exact PV.le_refl _
  ·replace ap4 : φMb [gG l, .val (.int .i64 ((a : Int) - 1))] = some (.val (.bool true)) := by
    have := ap4 h9
    rcases c2 with c2 | c2
    ·omega
    ·rwa [c2] at this
   clear hE c1 c2
   have hq := fun k => sW (l := l) (a := a) (b := k)
   have hno := fun k h1 h2 h3 => acp (l := l) (a := a) (b := en) (k := k) h1 h2 h3
   have hz0 : rA l a a = true := xu (Nat.le_refl _)
   have hiy := fun k => @oD l (aH l a) k
   have hin := fun k => @xI l (aH l a) k
   have hi0 : mZ l (aH l a) (aH l a) = [] := sG (Nat.le_refl _)
   have hil := oN l (aH l a)
   generalize aH l a = s9 at *
   have gli_c61 := wL; have gli_c73 := wB; have gli_c74 := vV; have gli_c75 := wm
   (refine wlk ?_; intros)
   refine aT (α := Nat) mixed (fun k => [(0, gG l), (1, iv ((a : Int) - 1)), (2, iv en), (8, iv k)]) (fun _ => []) (fun _ => 0)
    (fun k => (a ≤ k ∧ k ≤ en) ∧ rA l a k = true) (fun k => en - k) (by kernel_rfl) a ⟨⟨Nat.le_refl _, hae⟩, hz0⟩ ?_ ?_ rfl ?_
   ·exact agi
   ·exact agr
   rintro k ⟨⟨hk1, hk2⟩, hI⟩
   clear hz0
   by_cases h0 : k < en
   ·have hfr : forced (gI l k) = forced (l[k]?.getD it0) := rfl
    have hs := hq k hk1
    rw [hI, Bool.true_and, hfr] at hs
    have hno := fun h => hno k h hk1 h0
    clear hfr hq hI hiy hin hi0 hil ap4 ap3 ap2
    generalize hx : l[k]?.getD it0 = x at *
    obtain ⟨kd, w9, c, d, e, cost, g⟩ := x
    cases hf : forced (kd, w9, c, d, e, cost, g) with
    | true =>
     rw [hf] at hs
     rw [hno hs]
     clear hs hno
     (refine wlk ?_; intros)
     all_goals ((with_reducible apply fP (by first | exact .inl rfl | exact .inr rfl)); (simp (disch := (first | omega | (simp only [push_cast]; first | done | omega))) only [push_cast, ↓reduceIte, Nat.reduceEqDiff, Nat.reduceBEq, Nat.reduceAdd, Nat.reduceSub, Int.reduceToNat, *] <;> with_reducible exact rfl))
     all_goals exact l8
    | false =>
     rw [hf] at hs
     replace hs := Lib.hid hs
     clear hno
     (refine wlk ?_; intros)
     refine ⟨k + 1, ⟨⟨by omega, by omega⟩, hs.out⟩, by dsimp only; omega, ?_, ?_, rfl⟩
     ·exact agr
     ·exact agr
   ·obtain rfl : k = en := by omega
    rw [hI, if_pos rfl]
    clear hI hq hno ap4
    (refine wlk ?_; intros)
    refine aT (α := Nat × LI × Nat × Nat) mixed (fun z => [(0, gG l), (2, iv k), (9, nP 1 (z.2.1.map pvN) z.2.2.1), (10, iv z.1)])
     (fun z => nO 3 1 (z.2.1.map pvN) z.2.2.1) (fun z => z.2.2.2)
     (fun z => (s9 ≤ z.1 ∧ z.1 ≤ k) ∧ z.2.1 = mZ l s9 z.1 ∧ (0 < z.2.1.length → z.2.2.1 < z.2.2.2)) (fun z => k - z.1) (by kernel_rfl) (s9, [], 0, 0) ⟨⟨Nat.le_refl _, c3⟩, hi0.symm, by simp⟩ ?_ ?_ rfl ?_
    ·exact agr
    ·exact agr
    rintro ⟨j, out, x, y⟩ ⟨⟨hj1, hj2⟩, hI, hxy⟩
    dsimp only at hj1 hj2 hI hxy
    have hol : out.length ≤ 60 := by rw [hI]; have := hil j; omega
    clear hil hi0 ap3 ap2
    by_cases h1 : j < k
    ·have hiy := hiy j hj1
     have hin := hin j hj1
     have hkx : (gI l j).kd = (l[j]?.getD it0).1 := rfl
     rw [hkx] at hiy hin
     clear hkx
     generalize hx : l[j]?.getD it0 = z9 at *
     obtain ⟨kd, w9, c, d, e, cost, g⟩ := z9
     dsimp only at hiy hin
     by_cases h3 : kd = 3
     ·have hI2 : out = mZ l s9 (j + 1) := by rw [hin h3, ← hI]
      replace hI2 := Lib.hid hI2
      clear hI hiy hin
      (refine wlk ?_; intros)
      refine ⟨(j + 1, out, x, y), ⟨⟨by dsimp only; omega, by dsimp only; omega⟩, hI2.out, hxy⟩, by dsimp only; omega, ?_, oq, rfl⟩
      ·exact agr
     ·have hI2 : out ++ [(j : Int)] = mZ l s9 (j + 1) := by rw [hiy h3, ← hI]
      replace hI2 := Lib.hid hI2
      clear hI hiy hin
      by_cases hz : out.length = 0
      ·obtain rfl : out = [] := List.eq_nil_of_length_eq_zero hz
       (refine wlk ?_; intros)
       refine ⟨(j + 1, [] ++ [(j : Int)], y + 1, y + 2), ⟨⟨by dsimp only; omega, by dsimp only; omega⟩, hI2.out, fun _ => by dsimp only; omega⟩, by dsimp only; omega, ?_, ?_, rfl⟩
       ·exact agr
       ·exact agr
      ·have hxy := hxy (by omega)
       have hap : 0 < (out.map pvN).length := by rw [List.length_map]; omega
       clear hz
       have hap3 : 0 < ((out ++ [(j : Int)]).map pvN).length := by simp
       simp only [aS hap, aU hap, List.length_map]
       (refine wlk ?_; intros)
       refine ⟨(j + 1, out ++ [(j : Int)], y + 1, y + 2), ⟨⟨by dsimp only; omega, by dsimp only; omega⟩, hI2.out, fun _ => by dsimp only; omega⟩, by dsimp only; omega, ?_, ?_, rfl⟩
       ·simp (disch := (first | omega | (simp only [push_cast]; first | done | omega))) only [push_cast, ↓reduceIte, Nat.reduceEqDiff, Nat.reduceBEq, Nat.reduceAdd, Nat.reduceSub, Int.reduceToNat, aS hap3, List.length_append, *]
       ·simp (disch := (first | omega | (simp only [push_cast]; first | done | omega))) only [push_cast, ↓reduceIte, Nat.reduceEqDiff, Nat.reduceBEq, Nat.reduceAdd, Nat.reduceSub, Int.reduceToNat, aU hap3, *]
    ·obtain rfl : j = k := by omega
     rw [← hI]
     clear hI hiy hin
     by_cases hz : out.length = 0
     ·obtain rfl : out = [] := List.eq_nil_of_length_eq_zero hz
      (refine wlk ?_; intros)
      all_goals ((with_reducible apply fP (by first | exact .inl rfl | exact .inr rfl)); (simp (disch := (first | omega | (simp only [push_cast]; first | done | omega))) only [push_cast, ↓reduceIte, Nat.reduceEqDiff, Nat.reduceBEq, Nat.reduceAdd, Nat.reduceSub, Int.reduceToNat, *] <;> with_reducible exact rfl))
      all_goals exact l8
     ·have hxy := hxy (by omega)
      have hap : 0 < (out.map pvN).length := by rw [List.length_map]; omega
      clear hz
      simp only [aS hap, aU hap, List.length_map]
      (refine wlk ?_; intros)
      all_goals ((with_reducible apply fP (by first | exact .inl rfl | exact .inr rfl)); (simp (disch := (first | omega | (simp only [push_cast]; first | done | omega))) only [push_cast, ↓reduceIte, Nat.reduceEqDiff, Nat.reduceBEq, Nat.reduceAdd, Nat.reduceSub, Int.reduceToNat, *] <;> with_reducible exact rfl))
      all_goals exact PV.le_refl _
 ·have hE : (lJ l en && ((decide (a = 0) || lJ l (a - 1)) && (decide (aH l a ≤ en) && rA l a en))) = false := by
   rw [Bool.eq_false_iff]
   intro q
   simp only [Bool.and_eq_true, Bool.or_eq_true, decide_eq_true_eq] at q
   exact hc ⟨q.1, q.2.1, q.2.2.1⟩
  rw [hE, if_neg (by decide)]
  clear hE
  generalize aH l a = s9 at *
  generalize lJ l en = q1 at *
  generalize lJ l (a - 1) = q2 at *
  have hq1 : q1 = false ∨ (q1 = true ∧ (s9 ≤ en → 0 < a ∧ q2 = false)) := by
   cases q1 with
   | false => exact .inl rfl
   | true =>
    refine .inr ⟨rfl, fun hs => ?_⟩
    rcases Nat.eq_zero_or_pos a with h | h
    ·exact absurd ⟨rfl, .inl h, hs⟩ hc
    ·refine ⟨h, ?_⟩
     cases q2 with
     | false => rfl
     | true => exact absurd ⟨rfl, .inr rfl, hs⟩ hc
  clear hc
  rcases Nat.eq_zero_or_pos a with h9 | h9
  ·subst h9
   clear ap4
   simp only [Int.natCast_zero, Int.zero_sub] at ap3 ⊢
   have hq2 : q1 = false ∨ (q1 = true ∧ ¬ s9 ≤ en) := hq1.imp id fun h => ⟨h.1, fun hs => absurd (h.2 hs).1 (by omega)⟩
   clear hq1
   rcases hq2 with rfl | ⟨rfl, hs⟩ <;>
   ·have gli_c61 := wL; have gli_c73 := wB; have gli_c74 := vV; have gli_c75 := wm
    (refine wlk ?_; intros)
    all_goals ((with_reducible apply fP (by first | exact .inl rfl | exact .inr rfl)); (simp (disch := (first | omega | (simp only [push_cast]; first | done | omega))) only [push_cast, ↓reduceIte, Nat.reduceEqDiff, Nat.reduceBEq, Nat.reduceAdd, Nat.reduceSub, Int.reduceToNat, *] <;> with_reducible exact rfl))
    all_goals exact l8
  ·have ap4 := ap4 h9
   rcases hq1 with rfl | ⟨rfl, hs⟩
   ·cases q2 <;>
    ·have gli_c61 := wL; have gli_c73 := wB; have gli_c74 := vV; have gli_c75 := wm
     (refine wlk ?_; intros)
     all_goals ((with_reducible apply fP (by first | exact .inl rfl | exact .inr rfl)); (simp (disch := (first | omega | (simp only [push_cast]; first | done | omega))) only [push_cast, ↓reduceIte, Nat.reduceEqDiff, Nat.reduceBEq, Nat.reduceAdd, Nat.reduceSub, Int.reduceToNat, *] <;> with_reducible exact rfl))
     all_goals exact l8
   ·by_cases h8 : s9 ≤ en
    ·obtain ⟨-, rfl⟩ := hs h8
     clear hs
     have gli_c61 := wL; have gli_c73 := wB; have gli_c74 := vV; have gli_c75 := wm
     (refine wlk ?_; intros)
     all_goals ((with_reducible apply fP (by first | exact .inl rfl | exact .inr rfl)); (simp (disch := (first | omega | (simp only [push_cast]; first | done | omega))) only [push_cast, ↓reduceIte, Nat.reduceEqDiff, Nat.reduceBEq, Nat.reduceAdd, Nat.reduceSub, Int.reduceToNat, *] <;> with_reducible exact rfl))
     all_goals exact l8
    ·clear hs
     cases q2 <;>
     ·have gli_c61 := wL; have gli_c73 := wB; have gli_c74 := vV; have gli_c75 := wm
      (refine wlk ?_; intros)
      all_goals ((with_reducible apply fP (by first | exact .inl rfl | exact .inr rfl)); (simp (disch := (first | omega | (simp only [push_cast]; first | done | omega))) only [push_cast, ↓reduceIte, Nat.reduceEqDiff, Nat.reduceBEq, Nat.reduceAdd, Nat.reduceSub, Int.reduceToNat, *] <;> with_reducible exact rfl))
      all_goals exact l8
end Go.Proofs.YtngcedklbinhjaaGreatDoor
namespace Go.Proofs.YtngcedklbinhjaaGreatDoor
open Go.RowKit
set_option linter.all false
def aa5 {α : Type} (f : Nat → Nat → α) (i : Nat) : List α := (List.range 4).map (f i)
def tab {α : Type} (n : Nat) (f : Nat → Nat → α) : List (List α) := (List.range (n + 1)).map (aa5 f)
def wC {α : Type} (f : Nat → Nat → α) (i k : Nat) (v : α) : Nat → Nat → α := fun i' k' => if i' = i ∧ k' = k then v else f i' k'
abbrev ate (b : Bool) : PV := .val (.bool b)
abbrev aa3 (r : List Int) : PV := .agg (r.map pvN)
abbrev ama (r : List Bool) : PV := .agg (r.map ate)
theorem yG {α : Type} (f : Nat → Nat → α) (i : Nat) : (aa5 f i).length = 4 := by simp [aa5]
theorem yT {α : Type} (n : Nat) (f : Nat → Nat → α) : (tab n f).length = n + 1 := by simp [tab]
theorem aln {α β : Type} {f : Nat → Nat → α} {g : α → β} {i k : Nat} (h : k < 4) : Option.map g (aa5 f i)[k]? = some (g (f i k)) := by
 unfold aa5
 rw [List.getElem?_map, List.getElem?_range h]
 rfl
theorem arI {α β : Type} {f : Nat → Nat → α} {g : List α → β} {n i : Nat} (h : i ≤ n) : Option.map g (tab n f)[i]? = some (g (aa5 f i)) := by
 unfold tab
 rw [List.getElem?_map, List.getElem?_range (by omega)]
 rfl
theorem akZ {α : Type} {f : Nat → Nat → α} {i k : Nat} {v : α} : aa5 (wC f i k v) i = (aa5 f i).set k v := by
 rcases k with _ | _ | _ | _ | k <;> simp [aa5, wC, List.range_succ]
theorem aqV {α : Type} {f : Nat → Nat → α} {i j k : Nat} {v : α} (h : ¬ j = i) : aa5 (wC f i k v) j = aa5 f j := by
 unfold aa5 wC
 refine List.map_congr_left fun x _ => ?_
 rw [if_neg fun q => h q.1]
theorem agy {α : Type} {n i k : Nat} {f : Nat → Nat → α} {v : α} : (tab n f).set i ((aa5 f i).set k v) = tab n (wC f i k v) := by
 apply List.ext_getElem?
 intro j
 rw [List.getElem?_set, yT]
 by_cases hj : j < n + 1
 ·by_cases h : i = j
  ·subst h
   rw [if_pos rfl, if_pos hj]
   unfold tab
   rw [List.getElem?_map, List.getElem?_range hj, Option.map_some, akZ]
  ·rw [if_neg h]
   unfold tab
   rw [List.getElem?_map, List.getElem?_map, List.getElem?_range hj, Option.map_some, Option.map_some, aqV (fun q => h q.symm)]
 ·rw [List.getElem?_eq_none (by rw [yT]; omega), List.getElem?_eq_none (by rw [yT]; omega)]
  split <;> (try split) <;> first | rfl | omega
theorem adZ {α : Type} {g : α → PV} {l : List α} {k : Nat} {v : α} (h : k < l.length) : gD (l.map g) k [g v] = (l.set k v).map g := by
 unfold gD
 rw [List.map_set, List.set_eq_take_append_cons_drop, List.length_map, if_pos h]
 simp
theorem amv {n i k : Nat} {f : Nat → Nat → Int} {v : Int} (h : k < 4) : ((tab n f).map aa3).set i (.agg (gD ((aa5 f i).map pvN) k [.val (.int .i64 v)])) = (tab n (wC f i k v)).map aa3 := by
 rw [← agy, List.map_set, adZ (g := pvN) (v := v) (by rw [yG]; exact h)]
theorem akx {n i k : Nat} {f : Nat → Nat → Bool} {v : Bool} (h : k < 4) : ((tab n f).map ama).set i (.agg (gD ((aa5 f i).map ate) k [.val (.bool v)])) = (tab n (wC f i k v)).map ama := by
 rw [← agy, List.map_set, adZ (g := ate) (v := v) (by rw [yG]; exact h)]
theorem iJ {α : Type} {n : Nat} {f f' : Nat → Nat → α} (h : ∀ i k, i ≤ n → k < 4 → f i k = f' i k) : tab n f = tab n f' := by
 unfold tab aa5
 refine List.map_congr_left fun i hi => List.map_congr_left fun k hk => ?_
 have h1 := List.mem_range.1 hi
 exact h i k (by omega) (List.mem_range.1 hk)
theorem ait {l : List Int} : dh (.agg (l.map pvN)) = some (l.map pvN) := wK (by simp [List.all_map, ny, Value.oneCell'])
theorem ah1 {l : List Bool} : dh (.agg (l.map ate)) = some (l.map ate) := wK (by simp [List.all_map, ny, Value.oneCell'])
theorem awY {n : Nat} : List.replicate (n + 1) (PV.agg [.val (.int .i64 0), .val (.int .i64 0), .val (.int .i64 0), .val (.int .i64 0)]) = (tab n (fun _ _ => (0 : Int))).map aa3 := by
 unfold tab
 rw [List.map_map]
 symm
 rw [List.eq_replicate_iff]
 exact ⟨by rw [List.length_map, List.length_range], fun b hb => by obtain ⟨x, -, rfl⟩ := List.mem_map.1 hb; rfl⟩
theorem avj {n : Nat} : List.replicate (n + 1) (PV.agg [.val (.bool false), .val (.bool false), .val (.bool false), .val (.bool false)]) = (tab n (fun _ _ => false)).map ama := by
 unfold tab
 rw [List.map_map]
 symm
 rw [List.eq_replicate_iff]
 exact ⟨by rw [List.length_map, List.length_range], fun b hb => by obtain ⟨x, -, rfl⟩ := List.mem_map.1 hb; rfl⟩
theorem ay6 {l : List Int} : (l.map pvN).all ny = true := by simp [List.all_map, ny, Value.oneCell']
theorem avo {l : List Bool} : (l.map ate).all ny = true := by simp [List.all_map, ny, Value.oneCell']
attribute [push_cast]
 ay6 avo yG yT aln arI amv akx ait ah1 awY avj
def tbA (l : List It) (wd most : Int) (m : Nat) : Nat → Nat → Option Ch := fun i k => if m ≤ i then aX l wd most i k else none
def tbJ (l : List It) (wd most : Int) (a j : Nat) : Nat → Nat → Option Ch := fun i k => if i = a then bW l wd most a k (aX l wd most) j else tbA l wd most (a + 1) i k
def tbK (l : List It) (wd most : Int) (a j b : Nat) : Nat → Nat → Option Ch := fun i k => if i = a then bW l wd most a k (aX l wd most) (if k < b then j + 1 else j) else tbA l wd most (a + 1) i k
def cB (x : Option Ch) : Int := match x with | some c => c.1 | none => 0
def cN (x : Option Ch) : Int := match x with | some c => (c.2.1 : Int) | none => 0
def tB (f : Nat → Nat → Option Ch) : Nat → Nat → Int := fun i k => cB (f i k)
def tG (f : Nat → Nat → Option Ch) : Nat → Nat → Bool := fun i k => (f i k).isSome
def tN (f : Nat → Nat → Option Ch) : Nat → Nat → Int := fun i k => cN (f i k)
theorem dn {n : Nat} {f f' : Nat → Nat → Option Ch} (h : ∀ i k, i ≤ n → k < 4 → f i k = f' i k) : tab n (tB f) = tab n (tB f') ∧ tab n (tG f) = tab n (tG f') ∧ tab n (tN f) = tab n (tN f') :=
 ⟨iJ fun i k h1 h2 => by unfold tB; rw [h i k h1 h2], iJ fun i k h1 h2 => by unfold tG; rw [h i k h1 h2], iJ fun i k h1 h2 => by unfold tN; rw [h i k h1 h2]⟩
variable {l : List It} {wd most : Int}
theorem abx : ∀ i k, i ≤ l.length → k < 4 → tbA l wd most l.length i k = if i = l.length then some (0, 0, 0) else none := fun i k h _ => by
 unfold tbA
 by_cases hi : i = l.length
 ·rw [if_pos (by omega), if_pos hi, hi, oL]
 ·rw [if_neg (by omega), if_neg hi]
theorem ak0 {a : Nat} (ha : a < l.length) (h0 : 0 < a) (h : lJ l (a - 1) = false) : ∀ i k, i ≤ l.length → k < 4 → tbA l wd most (a + 1) i k = tbA l wd most a i k := fun i k hi _ => by
 unfold tbA
 by_cases h1 : a + 1 ≤ i
 ·rw [if_pos h1, if_pos (by omega)]
 ·rw [if_neg h1]
  by_cases h2 : a ≤ i
  ·obtain rfl : i = a := by omega
   rw [if_pos h2, wZ ha h0 h]
  ·rw [if_neg h2]
theorem aev {a : Nat} : ∀ i k, i ≤ l.length → k < 4 → tbA l wd most (a + 1) i k = tbJ l wd most a 0 i k := fun i k hi _ => by
 unfold tbJ
 split
 ·rename_i h
  subst h
  unfold tbA
  rw [if_neg (by omega)]
  rfl
 ·rfl
theorem ahu {a : Nat} (ha : a < l.length) : ∀ i k, i ≤ l.length → k < 4 → tbJ l wd most a (l.length - a) i k = tbA l wd most a i k := fun i k hi _ => by
 unfold tbJ tbA
 split
 ·rename_i h
  subst h
  rw [if_pos (Nat.le_refl _), mV ha]
 ·by_cases h1 : a + 1 ≤ i
  ·rw [if_pos h1, if_pos (by omega)]
  ·rw [if_neg h1, if_neg (by omega)]
theorem adu {a j : Nat} (h : ∀ k : Int, bW l wd most a k (aX l wd most) (j + 1) = bW l wd most a k (aX l wd most) j) : ∀ i k, i ≤ l.length → k < 4 → tbJ l wd most a j i k = tbJ l wd most a (j + 1) i k := fun i k hi _ => by
 unfold tbJ
 split
 ·rw [h]
 ·rfl
theorem adT {a j : Nat} : ∀ i k, i ≤ l.length → k < 4 → tbJ l wd most a j i k = tbK l wd most a j 0 i k := fun i k hi _ => by
 unfold tbJ tbK
 split
 ·rw [if_neg (by omega)]
 ·rfl
theorem agI {a j : Nat} : ∀ i k, i ≤ l.length → k < 4 → tbK l wd most a j 4 i k = tbJ l wd most a (j + 1) i k := fun i k hi hk => by
 unfold tbJ tbK
 split
 ·first | rfl | rw [if_pos hk]
 ·rfl
theorem su {a j b : Nat} {x : Option Ch} (hx : bW l wd most a b (aX l wd most) (j + 1) = x) : ∀ i k, i ≤ l.length → k < 4 → wC (tbK l wd most a j b) a b x i k = tbK l wd most a j (b + 1) i k := fun i k hi hk => by
 unfold wC tbK
 by_cases h : i = a ∧ k = b
 ·obtain ⟨rfl, rfl⟩ := h
  rw [if_pos ⟨rfl, rfl⟩, if_pos rfl, if_pos (by omega), hx]
 ·rw [if_neg h]
  split
  ·have : ¬ k = b := fun q => h ⟨by assumption, q⟩
   by_cases h1 : k < b
   ·rw [if_pos h1, if_pos (by omega)]
   ·rw [if_neg h1, if_neg (by omega)]
  ·rfl
theorem adO {a j b : Nat} (hx : bW l wd most a b (aX l wd most) (j + 1) = bW l wd most a b (aX l wd most) j) : ∀ i k, i ≤ l.length → k < 4 → tbK l wd most a j b i k = tbK l wd most a j (b + 1) i k := fun i k hi hk => by
 unfold tbK
 split
 ·by_cases h : k = b
  ·subst h
   rw [if_neg (by omega), if_pos (by omega), hx]
  ·by_cases h1 : k < b
   ·rw [if_pos h1, if_pos (by omega)]
   ·rw [if_neg h1, if_neg (by omega)]
 ·rfl
theorem adB (f : Nat → Nat → Option Ch) (i k : Nat) (x : Ch) : wC (tB f) i k x.1 = tB (wC f i k (some x)) := by
 funext i' k'
 unfold tB wC
 split <;> rfl
theorem adV (f : Nat → Nat → Option Ch) (i k : Nat) (x : Ch) : wC (tG f) i k true = tG (wC f i k (some x)) := by
 funext i' k'
 unfold tG wC
 split <;> rfl
theorem adF (f : Nat → Nat → Option Ch) (i k : Nat) (x : Ch) : wC (tN f) i k (x.2.1 : Int) = tN (wC f i k (some x)) := by
 funext i' k'
 unfold tN wC
 split <;> rfl
theorem mJ {a j b : Nat} : tbK l wd most a j b a b = bW l wd most a b (aX l wd most) j := by
 unfold tbK
 rw [if_pos rfl, if_neg (Nat.lt_irrefl _)]
theorem jX {a j i k : Nat} (h : a < i) : tbJ l wd most a j i k = aX l wd most i k := by
 unfold tbJ tbA
 rw [if_neg (by omega), if_pos (by omega)]
theorem adx {i k : Nat} : tbA l wd most 0 i k = aX l wd most i k := if_pos (Nat.zero_le _)
end Go.Proofs.YtngcedklbinhjaaGreatDoor
