/- What the proof rests on, part 17: contracts of functions. No condition beyond what each states. -/
import Derived.Test.YtngcedklbinhjaaGreatDoorZBw16
namespace Go.Proofs.YtngcedklbinhjaaGreatDoor
open Go.RowKit
set_option linter.all false
abbrev LE := Int × Bool × Int
abbrev dLe : Dec LE := dA3 dI dB dI
abbrev awS (x : LE) : PV := .agg [.val (.int .i64 x.1), .val (.bool x.2.1), .val (.int .i64 x.2.2)]
def lcR (l : List It) (wd most : Int) (a en : Nat) (lk : Int) : Int × LE := match iT l wd most a en with
 | none => (-1, (0, false, 0))
 | some x => (x.1 + jm l a en lk x.2, ((en : Int), (l[en]?.getD it0).2.2.2.2.2.2, x.2))
abbrev aAB (l : List It) (wd most : Int) (e : LE) (m : Int) : Prop := apU l e.1 m ∧ (0 ≤ wd ∧ wd ≤ 1000) ∧ (0 ≤ most ∧ most ≤ 10000) ∧ (0 ≤ e.2.2 ∧ e.2.2 ≤ 3) ∧ (0 ≤ e.1 → e.2.1 = (l[e.1.toNat]?.getD it0).2.2.2.2.2.2)
noncomputable def φLc : Fun := F5 nA dI dI dLe dI fun l wd most e m => open Classical in if aAB l wd most e m then some (.tup [iv (lcR l wd most (e.1 + 1).toNat m.toNat e.2.2).1, awS (lcR l wd most (e.1 + 1).toNat m.toNat e.2.2).2]) else none
theorem aoI {l : List It} {wd most : Int} {a en : Nat} {mk : Bool} {lk : Int} (h : aAB l wd most ((a : Int) - 1, mk, lk) en) : φLc [gG l, .val (.int .i64 wd), .val (.int .i64 most), awS ((a : Int) - 1, mk, lk), .val (.int .i64 en)] = some (.tup [.val (.int .i64 (lcR l wd most a en lk).1), awS (lcR l wd most a en lk).2]) :=
 (auJ (A := nA) (B := dI) (C := dI) (D := dLe) (E := dI) l wd most ((a : Int) - 1, mk, lk) en).trans ((if_pos h).trans (by
  rw [show (((a : Int) - 1, mk, lk).1 + 1).toNat = a by dsimp only; omega, Int.toNat_natCast]))
noncomputable def GLc : Ctx := { fn := fun f => if f = 85 then some φLb else if f = 86 then some φLk else if f = 87 then some φCo else none, io := fun f => none }
theorem aya : aA Tryz.prog GLc := ⟨(fun f φ h => by
 unfold GLc at h
 dsimp only at h
 split at h
 ·rename_i hf; cases h; subst hf; exact ⟨⟨_, Tryz.func85, rfl, rfl⟩, aiQ⟩
 split at h
 ·rename_i hf; cases h; subst hf; exact ⟨⟨_, Tryz.func86, rfl, rfl⟩, ah3⟩
 split at h
 ·rename_i hf; cases h; subst hf; exact ⟨⟨_, Tryz.func87, rfl, rfl⟩, agv⟩
 cases h), (fun f φ h => by
 unfold GLc at h
 dsimp only at h
 cases h), rfl⟩
theorem aaQ (ob : aF) (ps : List PV) : ah GLc ob 85 ps = (ps.mapM (reify false 0 ob fuel)).bind φLb := by
 have h : GLc.fn 85 = some φLb := by simp [GLc]
 unfold ah
 rw [h]
 cases ps.mapM (reify false 0 ob fuel) <;> rfl
theorem aaM (ob : aF) (ps : List PV) : ah GLc ob 86 ps = (ps.mapM (reify false 0 ob fuel)).bind φLk := by
 have h : GLc.fn 86 = some φLk := by simp [GLc]
 unfold ah
 rw [h]
 cases ps.mapM (reify false 0 ob fuel) <;> rfl
theorem aax (ob : aF) (ps : List PV) : ah GLc ob 87 ps = (ps.mapM (reify false 0 ob fuel)).bind φCo := by
 have h : GLc.fn 87 = some φCo := by simp [GLc]
 unfold ah
 rw [h]
 cases ps.mapM (reify false 0 ob fuel) <;> rfl
set_option maxHeartbeats 16000000 in
theorem aij : Sound Tryz.prog 63 φLc := by
 refine ay mixed aya Tryz.func63 rfl 77 rfl [.tmp 10, .cell 11 66] rfl (by kernel_rfl) fun ps r hr => ?_
 obtain ⟨l, wd, most, ⟨n, mk, lk⟩, m, rfl, hq⟩ := ajE hr
 clear hr
 split at hq
 case isFalse => cases hq
 case isTrue hpre =>
 cases hq
 refine ⟨by simp, ?_⟩
 simp only [dIs, dUs, dSs, eX, fq, eT, fE, bS, fA, bO, bP, bR, bQ]
 obtain ⟨⟨hB, hn0, hn1, hn2⟩, hw, hm, hlk, hmk⟩ := hpre
 (try dsimp only at hn0 hn1 hn2 hlk hmk)
 obtain ⟨a, rfl⟩ : ∃ a : Nat, n = (a : Int) - 1 := ⟨(n + 1).toNat, by omega⟩
 obtain ⟨en, rfl⟩ : ∃ en : Nat, m = en := ⟨m.toNat, by omega⟩
 show pq _ _ _ _ _ (eO [gG l, .val (.int .i64 wd), .val (.int .i64 most), awS ((a : Int) - 1, mk, lk), .val (.int .i64 en)]).tm _ _
 (try dsimp only)
 rw [show ((a : Int) - 1 + 1).toNat = a by omega, Int.toNat_natCast]
 have hl := cK hB
 have hel : en < l.length := by omega
 have ap1 := aq0 hB (show a ≤ en by omega) hel hw
 have hcst : aha (l[en]?.getD it0).2.2.2.2.2.1 := (gZ hB hel).cost
 have hlr : iT l wd most a en = if fI l a en = true ∧ 0 ≤ (iL l wd a en).1 ∧ (iL l wd a en).1 ≤ most then some (mq (iL l wd a en).1 (l[en]?.getD it0).2.2.2.2.2.1, gU (iL l wd a en).2 (iL l wd a en).1) else none := rfl
 have hbw : ∀ k, jm l a en lk k = (if 0 < a ∧ (l[a - 1]?.getD it0).2.2.2.2.2.2 = true ∧ (l[en]?.getD it0).2.2.2.2.2.2 = true then 3000 else 0) + (if 0 < a ∧ (1 < lk - k ∨ lk - k < -1) then 3000 else 0) := fun k => rfl
 have hmk2 : 0 < a → (l[a - 1]?.getD it0).2.2.2.2.2.2 = mk := fun h => by
  have := hmk (by omega)
  rw [show ((a : Int) - 1).toNat = a - 1 by omega] at this
  exact this.symm
 unfold lcR
 rw [hlr]
 clear hlr hmk hn0 hn1 hn2 hB
 generalize iL l wd a en = B at *
 obtain ⟨bad, st⟩ := B
 (try dsimp only at ap1 ⊢)
 by_cases hL : fI l a en = true ∧ 0 ≤ bad ∧ bad ≤ most
 ·rw [if_pos hL]
  (try dsimp only)
  obtain ⟨h1, h2, h3⟩ := hL
  rw [h1, if_pos rfl, Bool.true_and] at ap1
  have ap2 := xw (s := st) (bad := bad) ⟨h2, by omega⟩
  have ap3 := abK (bad := bad) ⟨h2, by omega⟩ hcst
  have hkr := mE st bad
  have hcr := o7 (bad := bad) ⟨h2, by omega⟩ hcst
  rw [hbw]
  clear hbw h1 hcst
  by_cases h0 : 0 < a
  ·rw [hmk2 h0]
   clear hmk2
   generalize hy : l[en]?.getD it0 = y at *
   obtain ⟨y1, y2, y3, y4, y5, y6, y7⟩ := y
   (try dsimp only at ap3 hcr ⊢)
   generalize mq bad y6 = co at *
   generalize gU st bad = k at *
   cases mk <;> cases y7 <;> by_cases hz : 1 < lk - k ∨ lk - k < -1 <;>
   ·first
     | rw [if_pos (show 0 < a ∧ (1 < lk - k ∨ lk - k < -1) from ⟨h0, hz⟩)]
     | rw [if_neg (show ¬ (0 < a ∧ (1 < lk - k ∨ lk - k < -1)) from fun q => hz q.2)]
    have glc_c85 := aaQ; have glc_c86 := aaM; have glc_c87 := aax
    (refine wlk ?_; intros)
    refine mH 10 (by simp only [List.map_cons, List.map_nil] <;> exact rfl) (by simp only [List.take_succ_cons, List.take_zero] <;> exact rfl) (by simp only [List.drop_succ_cons, List.drop_zero] <;> exact rfl) afs (by decide +kernel) (by decide +kernel) ?_
    (refine wlk ?_; intros)
    refine atj (by (simp (disch := (first | omega | (simp only [push_cast]; first | done | omega))) only [push_cast, ↓reduceIte, Nat.reduceEqDiff, Nat.reduceBEq, Nat.reduceAdd, Nat.reduceSub, Int.reduceToNat, *] <;> with_reducible exact rfl)) ?_
    (repeat' (first | (with_reducible first | apply bF | apply av | apply aO | apply aJ | apply bC | apply dY | apply bA | apply bH | apply d9 | apply bE | apply bJ | apply dX | apply bI | apply bG | apply bD) | ((with_reducible apply au); (simp only [List.map_cons, List.map_nil] <;> exact rfl)) | ((with_reducible apply aI); (simp only [List.map_cons, List.map_nil] <;> exact rfl); decide +kernel) | ((with_reducible apply bB); rfl) | ((first | ((with_reducible apply i_V); rfl; rfl; rfl) | ((first | ((with_reducible apply i_E); rfl) | ((with_reducible apply i_S); rfl)); first | rfl | (simp only [push_cast, ↓reduceIte])) | ((with_reducible apply dW); rfl; rfl) | ((with_reducible apply dZ); rfl; rfl; rfl) | (with_reducible first | apply dV | apply aL)); (simp (disch := (first | omega | (simp only [push_cast]; first | done | omega))) only [push_cast, ↓reduceIte, Nat.reduceEqDiff, Nat.reduceBEq, Nat.reduceAdd, Nat.reduceSub, Int.reduceToNat, *] <;> with_reducible exact rfl); all_goals try (first | (with_reducible first | refine hyT ?_ | refine hyF ?_ | exact hyA | exact hyB) | (intro hX; first | (cases hX; done) | ((try simp only [decide_eq_true_eq, decide_eq_false_iff_not, Bool.not_eq_true', Bool.not_eq_false'] at hX); (try have hXb := aj.1 hX))))))); all_goals try (exfalso; omega)
    all_goals ((first | apply dw | apply bK); simp (disch := (first | omega | (simp only [push_cast]; first | done | omega))) only [push_cast, ↓reduceIte, Nat.reduceEqDiff, Nat.reduceBEq, Nat.reduceAdd, Nat.reduceSub, Int.reduceToNat, *])
    all_goals (simp [h0]; try omega)
  ·obtain rfl : a = 0 := by omega
   rw [if_neg (fun q => h0 q.1), if_neg (fun q => h0 q.1)]
   clear hmk2
   generalize hy : l[en]?.getD it0 = y at *
   obtain ⟨y1, y2, y3, y4, y5, y6, y7⟩ := y
   (try dsimp only at ap3 hcr ⊢)
   generalize mq bad y6 = co at *
   generalize gU st bad = k at *
   simp only [Int.natCast_zero, Int.zero_sub] at ap1 ⊢
   have glc_c85 := aaQ; have glc_c86 := aaM; have glc_c87 := aax
   (refine wlk ?_; intros)
   refine mH 10 (by simp only [List.map_cons, List.map_nil] <;> exact rfl) (by simp only [List.take_succ_cons, List.take_zero] <;> exact rfl) (by simp only [List.drop_succ_cons, List.drop_zero] <;> exact rfl) afs (by decide +kernel) (by decide +kernel) ?_
   (refine wlk ?_; intros)
   refine atj (by (simp (disch := (first | omega | (simp only [push_cast]; first | done | omega))) only [push_cast, ↓reduceIte, Nat.reduceEqDiff, Nat.reduceBEq, Nat.reduceAdd, Nat.reduceSub, Int.reduceToNat, *] <;> with_reducible exact rfl)) ?_
   (repeat' (first | (with_reducible first | apply bF | apply av | apply aO | apply aJ | apply bC | apply dY | apply bA | apply bH | apply d9 | apply bE | apply bJ | apply dX | apply bI | apply bG | apply bD) | ((with_reducible apply au); (simp only [List.map_cons, List.map_nil] <;> exact rfl)) | ((with_reducible apply aI); (simp only [List.map_cons, List.map_nil] <;> exact rfl); decide +kernel) | ((with_reducible apply bB); rfl) | ((first | ((with_reducible apply i_V); rfl; rfl; rfl) | ((first | ((with_reducible apply i_E); rfl) | ((with_reducible apply i_S); rfl)); first | rfl | (simp only [push_cast, ↓reduceIte])) | ((with_reducible apply dW); rfl; rfl) | ((with_reducible apply dZ); rfl; rfl; rfl) | (with_reducible first | apply dV | apply aL)); (simp (disch := (first | omega | (simp only [push_cast]; first | done | omega))) only [push_cast, ↓reduceIte, Nat.reduceEqDiff, Nat.reduceBEq, Nat.reduceAdd, Nat.reduceSub, Int.reduceToNat, *] <;> with_reducible exact rfl); all_goals try (first | (with_reducible first | refine hyT ?_ | refine hyF ?_ | exact hyA | exact hyB) | (intro hX; first | (cases hX; done) | ((try simp only [decide_eq_true_eq, decide_eq_false_iff_not, Bool.not_eq_true', Bool.not_eq_false'] at hX); (try have hXb := aj.1 hX))))))); all_goals try (exfalso; omega)
   all_goals ((first | apply dw | apply bK); simp (disch := (first | omega | (simp only [push_cast]; first | done | omega))) only [push_cast, ↓reduceIte, Nat.reduceEqDiff, Nat.reduceBEq, Nat.reduceAdd, Nat.reduceSub, Int.reduceToNat, *])
   all_goals (simp; try omega)
 ·rw [if_neg hL]
  (try dsimp only)
  have hbb : ∃ b9 : Int, φLb [gG l, .val (.int .i64 ((a : Int) - 1)), .val (.int .i64 en), .val (.int .i64 wd)] = some (.tup [.val (.int .i64 b9), .val (.bool (fI l a en && st))]) ∧ (b9 < 0 ∨ most < b9) := by
   refine ⟨_, ap1, ?_⟩
   split
   ·rename_i h
    by_cases hb0 : bad < 0
    ·exact .inl hb0
    ·refine .inr ?_
     by_cases hb1 : bad ≤ most
     ·exact absurd ⟨h, by omega, hb1⟩ hL
     ·omega
   ·exact .inl (by decide)
  clear hL ap1 hbw hmk2 hcst
  obtain ⟨b9, ap1, hb⟩ := hbb
  generalize (fI l a en && st) = q9 at *
  rcases hb with hb | hb
  ·have glc_c85 := aaQ; have glc_c86 := aaM; have glc_c87 := aax
   exact wlkF
  ·by_cases h00 : b9 < 0
   ·have glc_c85 := aaQ; have glc_c86 := aaM; have glc_c87 := aax
    exact wlkF
   ·have glc_c85 := aaQ; have glc_c86 := aaM; have glc_c87 := aax
    exact wlkF
end Go.Proofs.YtngcedklbinhjaaGreatDoor
namespace Go.Proofs.YtngcedklbinhjaaGreatDoor
open Go.RowKit
set_option linter.all false
theorem aoj : Tryz.prog.underlying 62 = some (.map 66 68) := by kernel_rfl
theorem aBD : (66 : TypeId) < Tryz.prog.types.size := of_decide_eq_true (by kernel_rfl)
theorem axO : (match Tryz.prog.underlying 66 with | some (.array _ _) | some (.struct _) => true | _ => false) = true := by kernel_rfl
set_option maxRecDepth 100000 in
theorem ayZ : laidOutB Tryz.prog = true := by kernel_rfl
set_option maxRecDepth 100000 in
theorem aDJ : Tryz.prog.keyTypeAt 3 66 = true := by kernel_rfl
theorem afc {P : Program} {k : TypeId} (hl : laidOutB P = true) (hrow : k < P.types.size) (hk : P.keyTypeAt 3 k = true) (hwide : (match P.underlying k with | some (.array _ _) | some (.struct _) => true | _ => false) = true) : Go.Maps.Keyed P k := Go.Maps.Keyed.of_law (deep_law_laid hl (m := 3) (by omega) hrow hk hwide)
set_option maxRecDepth 100000 in
theorem abk : Go.Maps.Keyed Tryz.prog 66 := afc ayZ aBD aDJ axO
abbrev afG (n : Int) (mk : Bool) (lk : Int) : Value := .agg #[.int .i64 n, .bool mk, .int .i64 lk]
def kl1 (n : Int) : Option (List Lit) := if IntKind.i64 = .i64 ∧ (Lit.int .i64 n).wf = true then some [.int .i64 n] else none
set_option maxRecDepth 100000 in
theorem af0 (n lk : Int) (mk : Bool) : Tryz.prog.keyLits (Tryz.prog.types.size + 1) 66 (afG n mk lk).cells.toList = (do let a ← kl1 n; let b ← some [Lit.bool mk]; let c ← kl1 lk; pure [a, b, c] : Option (List (List Lit))).map List.flatten := by kernel_rfl
theorem xL {n lk : Int} {mk : Bool} (h1 : okI n) (h2 : okI lk) : ∃ l, keyOf Tryz.prog 66 (afG n mk lk) = some l := by
 have hk : Tryz.prog.keyType 66 = true := by kernel_rfl
 have hf : (afG n mk lk).formed Tryz.prog 66 = true := by
  obtain ⟨fs, hu⟩ : ∃ fs, Tryz.prog.underlying 66 = some (.struct fs) := ⟨_, amt⟩
  have hc : Tryz.prog.cellsOf 66 = 3 := by kernel_rfl
  simp [Value.formed, hu, hc]
 have w1 : (Lit.int .i64 n).wf = true := by
  show (decide (-9223372036854775808 ≤ n) && decide (n ≤ 9223372036854775807)) = true
  simp [h1.1, h1.2]
 have w2 : (Lit.int .i64 lk).wf = true := by
  show (decide (-9223372036854775808 ≤ lk) && decide (lk ≤ 9223372036854775807)) = true
  simp [h2.1, h2.2]
 unfold keyOf
 rw [amt]
 dsimp only
 rw [hk, hf, Bool.and_self, if_pos rfl]
 rw [af0]
 unfold kl1
 rw [if_pos ⟨rfl, w1⟩, if_pos ⟨rfl, w2⟩]
 exact ⟨_, rfl⟩
theorem aBK : aR Tryz.prog 64 = some 4 := by kernel_rfl
theorem aAl : eu Tryz.prog 64 = some true := by kernel_rfl
theorem aon : aD Tryz.prog 64 0 = some 0 := by kernel_rfl
theorem apg : aD Tryz.prog 64 1 = some 1 := by kernel_rfl
theorem as3 : aD Tryz.prog 64 2 = some 2 := by kernel_rfl
theorem apE : aD Tryz.prog 64 3 = some 3 := by kernel_rfl
theorem axn : aR Tryz.prog 62 = some 1 := by kernel_rfl
theorem ay9 : eu Tryz.prog 62 = some false := by kernel_rfl
attribute [push_cast]
 aBK aAl aon apg as3 apE axn ay9
abbrev mkA (l : List It) (a : Nat) : Bool := if a = 0 then false else (gI l (a - 1)).2.2.2.2.2.2
def chV (l : List It) (a : Nat) (r : Option Ch) : Value := if a = l.length then .agg #[.int .i64 0, .int .i64 0, .bool false, .int .i64 0] else match r with
 | none => .agg #[.int .i64 (-1), .int .i64 0, .bool false, .int .i64 0]
 | some x => .agg #[.int .i64 x.1, .int .i64 x.2.1, .bool (gI l x.2.1).2.2.2.2.2.2, .int .i64 x.2.2]
def chP (l : List It) (a : Nat) (r : Option Ch) : PV := if a = l.length then .agg [iv 0, iv 0, bv false, iv 0] else match r with
 | none => .agg [iv (-1), iv 0, bv false, iv 0]
 | some x => .agg [iv x.1, iv x.2.1, bv (gI l x.2.1).2.2.2.2.2.2, iv x.2.2]
theorem sF (l : List It) (a : Nat) (r : Option Ch) : toVal (chP l a r) = some (chV l a r) := by
 unfold chP chV
 split
 ·rfl
 ·cases r <;> rfl
abbrev ai1 (l : List It) (wd most : Int) (b : Nat) : PV := .ptr false (.agg [gG l, iv wd, iv most, .val (.map (some b))]) 0
def rH (l : List It) (wd most : Int) (L : VL) : Prop := ∀ p ∈ L, ∃ (a : Nat) (lk : Int), a < l.length ∧ (0 ≤ lk ∧ lk ≤ 3) ∧ p.1 = afG ((a : Int) - 1) (mkA l a) lk ∧ p.2 = chV l a (aX l wd most a lk)
def aC (r : Option Ch) : Int := match r with | none => -1 | some x => x.1
def aN (r : Option Ch) : Int := match r with | none => 0 | some x => x.2.1
def aM (l : List It) (r : Option Ch) : Bool := match r with | none => false | some x => (gI l x.2.1).2.2.2.2.2.2
def aK (r : Option Ch) : Int := match r with | none => 0 | some x => x.2.2
theorem zK {l : List It} {a : Nat} {r : Option Ch} (h : ¬ a = l.length) : chP l a r = .agg [iv (aC r), iv (aN r), bv (aM l r), iv (aK r)] := by
 unfold chP
 rw [if_neg h]
 cases r <;> rfl
theorem akJ (l : List It) (a : Nat) (lk wd most : Int) : ∃ c n m k, chP l a (aX l wd most a lk) = .agg [iv c, iv n, bv m, iv k] ∧ ((aX l wd most a lk = none ∧ c = -1) ∨ ∃ r, aX l wd most a lk = some r ∧ c = r.1) := by
 by_cases h : a = l.length
 ·subst h
  exact ⟨0, 0, false, 0, if_pos rfl, .inr ⟨_, oL _ _ _ _, rfl⟩⟩
 ·refine ⟨_, _, _, _, zK h, ?_⟩
  cases hr : aX l wd most a lk with
  | none => exact .inl ⟨rfl, rfl⟩
  | some r => exact .inr ⟨r, rfl, rfl⟩
theorem akN {n : Nat} {ob : aF} (l : List It) (wd most : Int) (b : Nat) : reify false n ob 8 (ai1 l wd most b) = some (ai1 l wd most b) := by
 have h1 : reify false n ob 6 (gG l) = some (gG l) := by (simp (disch := (first | omega | (simp only [push_cast]; first | done | omega))) only [push_cast, ↓reduceIte, Nat.reduceEqDiff, Nat.reduceBEq, Nat.reduceAdd, Nat.reduceSub, Int.reduceToNat, *] <;> with_reducible exact rfl)
 show (if false = true ∧ false = false then none else (([gG l, iv wd, iv most, .val (.map (some b))].mapM (reify false n ob 6)).map PV.agg).map (PV.ptr false · 0)) = _
 rw [if_neg (by decide)]
 simp only [List.mapM_cons, List.mapM_nil, h1]
 rfl
attribute [push_cast]
 akN
theorem HY.aCF {P : Program} {k : TypeId} {N B : Nat} {w00 : World} {Γ : Ctx} {K : X → AS → Sg → Prop} {s : AS} {b : Nat} {L : VL} {id : Nat} (n : Nat) {os pre : List Oper} {t e : TypeId} {x y z : Operand} {ty : Nat} {pos : String} {af : Array Edge} (hm : P.follows .mixedOrders = true) (hΓ : aA P Γ) (Ky : Go.Maps.Keyed P k) (ht : P.underlying t = some (.map k e))
  (h1 : os.take n = pre) (h2 : os.drop n = [{ dst := none, op := .mapUpdate t x y z, type := ty, pos := pos, after := af, guard := none }]) {gs : List (Option Nat)} (hgs : os.map (·.dst) = gs) (hd : os.toArray.all (jJ N) = true) (hok : oz Γ (ank true os.toArray) os.toArray = true) (hlast : (List.range n).all (fun i => aa2 os.toArray os.toArray.size i n) = true) (hn : pre.length = n)
  (hp : wq P Γ (ank true os.toArray) gs pre (fun s1 => ∃ key val kl, look s1.tm x = .val (.map (some b)) ∧ toVal (look s1.tm y) = some key ∧ toVal (look s1.tm z) = some val ∧ keyOf P k key = some kl ∧ ∀ L', Upd L key val L' → K .normal s1 (some (b, L'))) s.tm s.ob s.nx) : HY P k N B w00 (.region id os.toArray true) K s (some (b, L)) :=
 HY.aEt hm hΓ Ky ht hd hok hlast (show os = pre ++ _ by rw [← h1, ← h2, List.take_append_drop]) hn rfl rfl rfl hgs hp
theorem rH.upd {l : List It} {wd most : Int} {L L' : VL} {a : Nat} {lk : Int} (h : rH l wd most L) (ha : a < l.length) (hk : 0 ≤ lk ∧ lk ≤ 3) (hu : Upd L (afG ((a : Int) - 1) (mkA l a) lk) (chV l a (aX l wd most a lk)) L') : rH l wd most L' := by
 cases hu with
 | new h1 =>
  intro p hp
  rcases List.mem_append.1 hp with hp | hp
  ·exact h p hp
  ·rw [List.mem_singleton.1 hp]
   exact ⟨a, lk, ha, hk, rfl, rfl⟩
 | old h1 =>
  subst h1
  intro p hp
  rcases List.mem_append.1 hp with hp | hp
  ·exact h p (List.mem_append.2 (.inl hp))
  ·rcases List.mem_cons.1 hp with rfl | hp
   ·exact ⟨a, lk, ha, hk, rfl, rfl⟩
   ·exact h p (List.mem_append.2 (.inr (List.mem_cons_of_mem _ hp)))
noncomputable def an1 : Ctx := { fn := fun f => if f = 63 then some φLc else none, io := fun f => none }
theorem dP : aA Tryz.prog an1 := ⟨(fun f φ h => by
 unfold an1 at h
 dsimp only at h
 split at h
 ·rename_i hf; cases h; subst hf; exact ⟨⟨_, Tryz.func63, rfl, rfl⟩, aij⟩
 cases h), (fun f φ h => by
 unfold an1 at h
 dsimp only at h
 cases h), rfl⟩
theorem aqX (ob : aF) (ps : List PV) : ah an1 ob 63 ps = (ps.mapM (reify false 0 ob fuel)).bind φLc := by
 have h : an1.fn 63 = some φLc := by simp [an1]
 unfold ah
 rw [h]
 cases ps.mapM (reify false 0 ob fuel) <;> rfl
set_option maxHeartbeats 16000000 in
set_option maxRecDepth 100000 in
theorem alX {l : List It} {wd most : Int} (hl : bM l = true) (hpos : 0 < l.length) (hw : 0 ≤ wd ∧ wd ≤ 1000) (hm : 0 ≤ most ∧ most ≤ 10000) : ∀ (n a : Nat) (lk : Int), l.length - a = n → a ≤ l.length → (0 ≤ lk ∧ lk ≤ 3) → ∀ (b : Nat) (L : VL), rH l wd most L →
  ∀ (w : World) (Jm : Nat → Prop) (args : Array Value), (∀ i, Jm i → i < w.heap.size ∧ i ≠ b) → dQ (ad4 Jm) w [ai1 l wd most b, awS ((a : Int) - 1, mkA l a, lk)] args.toList → mg Tryz.prog 66 w b L → rM w (fun i => i = b) →
  Calls Tryz.prog 30 args w fun e w' => ∃ p v L', e = .returned v ∧ (∀ (g : Gh) (w : World), Rep g w p v) ∧ w.grownBy w' (some b) ∧ mg Tryz.prog 66 w' b L' ∧ (p = chP l a (aX l wd most a lk) ∧ rH l wd most L') := by
 intro n
 induction n using Nat.strongRecOn with
 | _ n ih =>
 intro a lk hn ha hlk b L hL w Jm args hJ hargs hM hT
 have hlen := cK hl
 refine HY.calls (N := 99) (rs := [.cell 4 68]) (R := fun p L' => p = chP l a (aX l wd most a lk) ∧ rH l wd most L') Tryz.func30 rfl rfl rfl (by simp) hJ hargs hM hT (HY.start ?_)
 refine HY.seq (HY.eng mixed dP (by kernel_rfl) ?_)
 (try dsimp only)
 (refine wlk ?_; intros)
 refine HY.seq (HY.eng mixed dP (by kernel_rfl) ?_)
 (try dsimp only)
 have hll : ((l.map gJ).length : Int) = (l.length : Int) := by simp
 have IH := Lib.hid ih
 have HL := Lib.hid hL
 clear ih hL hJ hargs hM hT
 by_cases han : a = l.length
 ·have hch : chP l a (aX l wd most a lk) = .agg [iv 0, iv 0, bv false, iv 0] := if_pos han
  have hv := sF l a (aX l wd most a lk)
  generalize mkA l a = mk
  subst han
  (refine wlk ?_; intros)
  dsimp only
  refine ⟨.inr rfl, _, _, L, ?_, hv, rfl, rfl, HL.out⟩
  rw [hch]
  clear hv hch
  exact agr
 have hal : a < l.length := by omega
 have hkn : okI ((a : Int) - 1) := by omega
 have hkk : okI lk := by omega
 obtain ⟨c0, n0, m0, k0, hch⟩ : ∃ c n m k, chP l a (aX l wd most a lk) = .agg [iv c, iv n, bv m, iv k] := by
  unfold chP
  rw [if_neg han]
  cases aX l wd most a lk <;> exact ⟨_, _, _, _, rfl⟩
 have hv := sF l a (aX l wd most a lk)
 rw [hch] at hv
 by_cases hit : ∃ v, (afG ((a : Int) - 1) (mkA l a) lk, v) ∈ L
 ·obtain ⟨v, hin⟩ := hit
  obtain ⟨a', lk', h1, h2, h3, h4⟩ := HL.out _ hin
  obtain ⟨rfl, rfl⟩ : a' = a ∧ lk' = lk := by
   simp only [afG, Value.agg.injEq] at h3
   have := congrArg Array.toList h3
   simp at this
   omega
  have h4' : v = chV l a' (aX l wd most a' lk') := h4
  subst h4'
  clear h1 h2 h3 h4
  have HIN := Lib.hid hin
  have HCH := Lib.hid hch
  have HV := Lib.hid hv
  clear hin hch hv
  generalize mkA l a' = mk at *
  (refine wlk ?_; intros)
  dsimp only
  have hlk := anO (Γ := an1) (t := 62) (b := b) (c := true) (k0 := afG ((a' : Int) - 1) mk lk') (p := .tup [.agg [iv c0, iv n0, bv m0, iv k0], bv true])
  refine HY.seq (HY.see (M := ⟨62, b, wE true (afG ((a' : Int) - 1) mk lk') (.tup [.agg [iv c0, iv n0, bv m0, iv k0], bv true])⟩) mixed dP rfl ?_ (by kernel_rfl) ?_)
  ·intro key c p hp w1 g1 hM1
   obtain ⟨rfl, rfl, rfl⟩ := vC hp
   obtain ⟨kl, hkl⟩ := xL (mk := mk) hkn hkk
   refine ⟨_, hM1.adW abk aoj true hkl HIN.out, ?_⟩
   exact aes (sI HV.out) (by simp [Rep])
  (try dsimp only)
  (refine wlk ?_; intros)
  refine mH 9 (by simp only [List.map_cons, List.map_nil] <;> exact rfl) (by simp only [List.take_succ_cons, List.take_zero] <;> exact rfl) (by simp only [List.drop_succ_cons, List.drop_zero] <;> exact rfl) ae9 (by kernel_rfl) (by kernel_rfl) ?_
  (refine wlk ?_; intros)
  refine atj (by (simp (disch := (first | omega | (simp only [push_cast]; first | done | omega))) only [push_cast, ↓reduceIte, Nat.reduceEqDiff, Nat.reduceBEq, Nat.reduceAdd, Nat.reduceSub, Int.reduceToNat, *] <;> with_reducible exact rfl)) ?_
  (refine wlk ?_; intros)
  dsimp only
  refine ⟨.inr rfl, _, _, L, ?_, HV.out, rfl, HCH.out.symm, HL.out⟩
  exact agr
 ·have hmiss : ∀ p ∈ L, p.1 ≠ afG ((a : Int) - 1) (mkA l a) lk := fun p hp e => hit ⟨p.2, by rw [← e]; exact hp⟩
  have HMI := Lib.hid hmiss
  have HCH := Lib.hid hch
  have HV := Lib.hid hv
  clear hit hch hv hmiss
  obtain ⟨mk, hmk⟩ : ∃ mk, mk = mkA l a := ⟨_, rfl⟩
  rw [← hmk] at HMI ⊢
  have HMK := Lib.hid hmk
  clear hmk
  (refine wlk ?_; intros)
  dsimp only
  have hlk := anO (Γ := an1) (t := 62) (b := b) (c := true) (k0 := afG ((a : Int) - 1) mk lk) (p := .tup [.agg [iv 0, iv 0, bv false, iv 0], bv false])
  refine HY.seq (HY.see (M := ⟨62, b, wE true (afG ((a : Int) - 1) mk lk) (.tup [.agg [iv 0, iv 0, bv false, iv 0], bv false])⟩) mixed dP rfl ?_ (by kernel_rfl) ?_)
  ·intro key c p hp w1 g1 hM1
   obtain ⟨rfl, rfl, rfl⟩ := vC hp
   obtain ⟨kl, hkl⟩ := xL (mk := mk) hkn hkk
   refine ⟨_, hM1.aqt abk aoj true hkl (mK ae9 w1) HMI.out, ?_⟩
   exact aes (sI rfl) (by simp [Rep])
  (try dsimp only)
  (refine wlk ?_; intros)
  refine mH 9 (by simp only [List.map_cons, List.map_nil] <;> exact rfl) (by simp only [List.take_succ_cons, List.take_zero] <;> exact rfl) (by simp only [List.drop_succ_cons, List.drop_zero] <;> exact rfl) ae9 (by kernel_rfl) (by kernel_rfl) ?_
  (refine wlk ?_; intros)
  refine atj (by (simp (disch := (first | omega | (simp only [push_cast]; first | done | omega))) only [push_cast, ↓reduceIte, Nat.reduceEqDiff, Nat.reduceBEq, Nat.reduceAdd, Nat.reduceSub, Int.reduceToNat, *] <;> with_reducible exact rfl)) ?_
  (refine wlk ?_; intros)
  dsimp only
  clear hlk
  refine HY.cut (Lf := [(0, ai1 l wd most b), (3, .own 0 3 0 0), (4, .own 1 4 0 0)]) (O := [(0, 66, 3, [.agg [iv ((a : Int) - 1), bv mk, iv lk]]), (1, 68, 4, [.agg [iv 0, iv 0, bv false, iv 0]])]) (x := 3) (by exact agr) (by exact agr) rfl ?_
  refine HY.seq (HY.eng mixed dP (by kernel_rfl) ?_)
  dsimp only
  (refine wlk ?_; intros)
  dsimp only
  refine HY.seq (HY.seq (HY.eng mixed dP (by kernel_rfl) ?_))
  dsimp only
  (refine wlk ?_; intros)
  dsimp only
  refine HY.block (HY.asQ (α := Nat × Nat) (fun i => [(0, ai1 l wd most b), (3, .own 0 3 0 0), (4, .own 1 4 0 0), (7, .own 3 4 0 0), (8, iv ((l.length : Int) - 1 - i.1))])
    (fun i => [(0, 66, 3, [.agg [iv ((a : Int) - 1), bv mk, iv lk]]), (1, 68, 4, [.agg [iv 0, iv 0, bv false, iv 0]]), (3, 68, 4, [.agg [iv (aC (bW l wd most a lk (aX l wd most) i.1)), iv (aN (bW l wd most a lk (aX l wd most) i.1)), bv (aM l (bW l wd most a lk (aX l wd most) i.1)), iv (aK (bW l wd most a lk (aX l wd most) i.1))]])])
    (fun i => i.2) (fun i σ => i.1 ≤ l.length - a ∧ 4 ≤ i.2 ∧ ∃ L', σ = some (b, L') ∧ rH l wd most L') (fun i => l.length - a - i.1) (0, 4) ⟨Nat.zero_le _, Nat.le_refl _, L, rfl, HL.out⟩ ?_ ?_ rfl ?_)
  ·exact agi
  ·simp only [bW, aC, aN, aM, aK]
   exact agr
  ·rintro ⟨j, y⟩ σ ⟨hj, hy, L', rfl, hL'⟩
   dsimp only at hj hy
   have HL2 := Lib.hid hL'
   clear hL'
   by_cases hja : j < l.length - a
   ·refine HY.seq (HY.eng mixed dP (by kernel_rfl) ?_)
    obtain ⟨en, hen⟩ : ∃ en : Nat, en + 1 + j = l.length := ⟨l.length - 1 - j, by omega⟩
    have he8 : (l.length : Int) - 1 - (j : Int) = (en : Int) := by omega
    dsimp only
    rw [he8]
    generalize hR : bW l wd most a lk (aX l wd most) j = R at *
    have HR := Lib.hid hR
    clear hR he8
    have hap : aAB l wd most ((a : Int) - 1, mk, lk) en := ⟨⟨hl, by dsimp only; omega, by dsimp only; omega, by omega⟩, hw, hm, hlk, fun h0 => by
     have := HMK.out
     dsimp only at h0 ⊢
     rw [this]
     unfold mkA
     rw [if_neg (by omega), show ((a : Int) - 1).toNat = a - 1 by omega]⟩
    have ap := aoI hap
    clear hap
    generalize hE : lcR l wd most a en lk = E at *
    obtain ⟨c9, e9, m9, k9⟩ := E
    have HE := Lib.hid hE
    clear hE
    dsimp only at ap
    have hy1 : ¬ y = 0 := by omega
    have hy2 : ¬ y = 1 := by omega
    have hy3 : ¬ y = 3 := by omega
    have gbst_c63 := aqX
    (refine wlk ?_; intros)
    dsimp only
    refine HY.seq (HY.block (HY.seq (HY.eng mixed dP (by kernel_rfl) ?_)))
    dsimp only
    (refine wlk ?_; intros)
    refine mH 18 (by simp only [List.map_cons, List.map_nil] <;> exact rfl) (by simp only [List.take_succ_cons, List.take_zero] <;> exact rfl) (by simp only [List.drop_succ_cons, List.drop_zero] <;> exact rfl) afs (by kernel_rfl) (by kernel_rfl) ?_
    (refine wlk ?_; intros)
    refine atj (by (simp (disch := (first | omega | (simp only [push_cast]; first | done | omega))) only [push_cast, ↓reduceIte, Nat.reduceEqDiff, Nat.reduceBEq, Nat.reduceAdd, Nat.reduceSub, Int.reduceToNat, *] <;> with_reducible exact rfl)) ?_
    (refine wlk ?_; intros)
    dsimp only
    refine HY.cut (Lf := [(0, ai1 l wd most b), (3, .own 0 3 0 0), (4, .own 1 4 0 0), (7, .own 3 4 0 0), (8, iv (en : Int)), (9, iv c9), (10, .own y 3 0 0)]) (O := [(0, 66, 3, [.agg [iv ((a : Int) - 1), bv mk, iv lk]]), (1, 68, 4, [.agg [iv 0, iv 0, bv false, iv 0]]), (3, 68, 4, [.agg [iv (aC R), iv (aN R), bv (aM l R), iv (aK R)]]), (y, 66, 3, [.agg [iv e9, bv m9, iv k9]])]) (x := y + 1) (by exact agr) (by exact agr) rfl ?_
    have hbn : ∀ z, iE l wd most a lk (aX l wd most) R en = z → bW l wd most a lk (aX l wd most) (j + 1) = z := fun z hz => by
     rw [bW, show l.length - (j + 1) = en by omega, HR.out, hz]
    clear ap
    cases hL : iT l wd most a en with
    | none =>
     have hE2 := HE.out
     unfold lcR at hE2
     rw [hL] at hE2
     cases hE2
     have hN := Lib.hid (hbn _ (iR hL))
     clear hbn hL
     refine HY.seq (HY.eng mixed dP (by kernel_rfl) ?_)
     (refine wlk ?_; intros)
     refine HY.eng mixed dP (by kernel_rfl) ?_
     dsimp only
     (refine wlk ?_; intros)
     (try dsimp only)
     refine ⟨(j + 1, y + 1), ⟨by dsimp only; omega, by dsimp only; omega, L', rfl, HL2.out⟩, by dsimp only; omega, ?_, ?_, rfl⟩
     ·dsimp only
      exact agi
     ·dsimp only
      rw [hN.out]
      exact agr
    | some ck =>
     obtain ⟨c, k⟩ := ck
     have hE2 := HE.out
     unfold lcR at hE2
     rw [hL] at hE2
     obtain ⟨⟨-, -⟩, g2, g3⟩ := oW hl hm.2 hL
     have g4 := lU l a en lk k
     dsimp only at hE2 g2 g3
     have hmn : mkA l (en + 1) = (l[en]?.getD it0).2.2.2.2.2.2 := rfl
     have IHn := IH.out (l.length - (en + 1)) (by omega) (en + 1) k rfl (by omega) g3 b L' HL2.out
     rw [show ((en + 1 : Nat) : Int) - 1 = (en : Int) by omega, hmn] at IHn
     simp only [Prod.mk.injEq] at hE2
     obtain ⟨rfl, rfl, rfl, rfl⟩ := hE2
     have hc9 : 0 ≤ c + jm l a en lk k ∧ c + jm l a en lk k ≤ 400000000 := by omega
     have hbs := fun r (h2 : aX l wd most (en + 1) k = some r) => hbn _ (kU hL h2)
     have hbd := fun (h2 : aX l wd most (en + 1) k = none) => hbn _ (kJ hL h2)
     have hbr := fun r (h2 : aX l wd most (en + 1) k = some r) => eD hl hm.2 (show en + 1 ≤ l.length by omega) h2
     have hRr : ∀ x, R = some x → 0 ≤ x.1 ∧ x.1 ≤ 20000000000 := fun x hx => (qb (a := a) hl hm.2 hal (HR.out.trans hx)).1
     have hcp := akJ l (en + 1) k wd most
     clear hbn g2 g4
     generalize hc8 : c + jm l a en lk k = c9 at *
     generalize hme : (l[en]?.getD it0).2.2.2.2.2.2 = m9 at *
     generalize aX l wd most (en + 1) k = rr at *
     have HME := Lib.hid hme
     have HB := Lib.hid (And.intro hbs (And.intro hbd (And.intro hbr hRr)))
     have HIH := Lib.hid IHn
     clear hc8 hL HE hme hbs hbd hbr hRr IHn hmn
     obtain ⟨c2, n2, m2, k2, hp2, hc2⟩ := hcp
     have HC2 := Lib.hid hc2
     have HP2 := Lib.hid hp2
     clear hc2 hp2
     refine HY.seq (HY.eng mixed dP (by kernel_rfl) ?_)
     (refine wlk ?_; intros)
     refine HY.seq (HY.each (HO.pre (imm := ⟨[], [], []⟩) 2 dP (by kernel_rfl) (by simp only [List.take_succ_cons, List.take_zero] <;> exact rfl) (by simp only [List.drop_succ_cons, List.drop_zero] <;> exact rfl) (by simp only [List.map_cons, List.map_nil] <;> exact rfl) ?_))
     (refine wlk ?_; intros)
     refine HO.call (ps := [ai1 l wd most b, .agg [iv (en : Int), bv m9, iv k]]) (R := fun p L' => p = chP l (en + 1) rr ∧ rH l wd most L') rfl rfl ⟨_, Tryz.func30, rfl, rfl⟩ rfl ?_ ?_ HIH.out ?_
     ·intro x e
      cases e
      decide
     ·dsimp only
      (simp (disch := (first | omega | (simp only [push_cast]; first | done | omega))) only [push_cast, ↓reduceIte, Nat.reduceEqDiff, Nat.reduceBEq, Nat.reduceAdd, Nat.reduceSub, Int.reduceToNat, *] <;> with_reducible exact rfl)
     ·rintro p L3 ⟨rfl, hL3⟩
      rw [HP2.out]
      have HL3 := Lib.hid hL3
      clear hL3
      refine HO.pre (imm := ⟨[], [], []⟩) 2 dP (by kernel_rfl) (by simp only [List.take_succ_cons, List.take_zero] <;> exact rfl) (by simp only [List.drop_succ_cons, List.drop_zero] <;> exact rfl) (by simp only [List.map_cons, List.map_nil] <;> exact rfl) ?_
      dsimp only [AS.put]
      (refine wlk ?_; intros)
      refine HO.nil ?_
      refine HY.cut (Lf := [(0, ai1 l wd most b), (3, .own 0 3 0 0), (4, .own 1 4 0 0), (7, .own 3 4 0 0), (8, iv (en : Int)), (9, iv c9), (10, .own y 3 0 0), (11, .own (y + 1) 4 0 0)]) (O := [(0, 66, 3, [.agg [iv ((a : Int) - 1), bv mk, iv lk]]), (1, 68, 4, [.agg [iv 0, iv 0, bv false, iv 0]]), (3, 68, 4, [.agg [iv (aC R), iv (aN R), bv (aM l R), iv (aK R)]]), (y, 66, 3, [.agg [iv (en : Int), bv m9, iv k]]), (y + 1, 68, 4, [.agg [iv c2, iv n2, bv m2, iv k2]])]) (x := y + 2) (by exact agr) (by exact agr) rfl ?_
      rcases HC2.out with ⟨hr, rfl⟩ | ⟨r, hr, rfl⟩
      ·have hN := Lib.hid (HB.out.2.1 hr)
       clear hr
       refine HY.eng mixed dP (by kernel_rfl) ?_
       (refine wlk ?_; intros)
       refine HY.eng mixed dP (by kernel_rfl) ?_
       dsimp only
       (refine wlk ?_; intros)
       (try dsimp only)
       refine ⟨(j + 1, y + 2), ⟨by dsimp only; omega, by dsimp only; omega, L3, rfl, HL3.out⟩, by dsimp only; omega, ?_, ?_, rfl⟩
       ·dsimp only
        exact agi
       ·dsimp only
        rw [hN.out]
        (try simp only [aC, aN, aM, aK, HME.out])
        exact agr
      ·have hN1 := HB.out.1 r hr
       have hr1 := (HB.out.2.2.1 r hr).1
       have hRR := HB.out.2.2.2
       clear hr
       generalize r.1 = r1 at *
       cases R with
       | none =>
        have hN := Lib.hid (hN1.trans (if_pos rfl))
        clear hN1 hRR
        dsimp only [aC, aN, aM, aK]
        refine HY.eng mixed dP (by kernel_rfl) ?_
        (refine wlk ?_; intros)
        refine HY.eng mixed dP (by kernel_rfl) ?_
        dsimp only
        (refine wlk ?_; intros)
        (try dsimp only)
        refine ⟨(j + 1, y + 2), ⟨by dsimp only; omega, by dsimp only; omega, L3, rfl, HL3.out⟩, by dsimp only; omega, ?_, ?_, rfl⟩
        ·dsimp only
         exact agi
        ·dsimp only
         rw [hN.out]
         (try simp only [aC, aN, aM, aK, HME.out])
         exact agr
       | some x =>
        have hx1 := hRR x rfl
        clear hRR
        obtain ⟨x1, x2, x3⟩ := x
        dsimp only at hx1
        dsimp only [aC, aN, aM, aK]
        by_cases hlt : c9 + r1 < x1
        ·have hN := Lib.hid (hN1.trans (if_pos (by simpa using hlt)))
         clear hN1
         refine HY.eng mixed dP (by kernel_rfl) ?_
         (refine wlk ?_; intros)
         refine HY.eng mixed dP (by kernel_rfl) ?_
         dsimp only
         (refine wlk ?_; intros)
         (try dsimp only)
         refine ⟨(j + 1, y + 2), ⟨by dsimp only; omega, by dsimp only; omega, L3, rfl, HL3.out⟩, by dsimp only; omega, ?_, ?_, rfl⟩
         ·dsimp only
          exact agi
         ·dsimp only
          rw [hN.out]
          (try simp only [aC, aN, aM, aK, HME.out])
          exact agr
        ·have hN := Lib.hid (hN1.trans (if_neg (by simpa using hlt)))
         clear hN1
         refine HY.eng mixed dP (by kernel_rfl) ?_
         (refine wlk ?_; intros)
         refine HY.eng mixed dP (by kernel_rfl) ?_
         dsimp only
         (refine wlk ?_; intros)
         (try dsimp only)
         refine ⟨(j + 1, y + 2), ⟨by dsimp only; omega, by dsimp only; omega, L3, rfl, HL3.out⟩, by dsimp only; omega, ?_, ?_, rfl⟩
         ·dsimp only
          exact agi
         ·dsimp only
          rw [hN.out]
          (try simp only [aC, aN, aM, aK, HME.out])
          exact agr
   ·refine HY.seq (HY.eng mixed dP (by kernel_rfl) ?_)
    obtain rfl : j = l.length - a := by omega
    have hR := (mV (wd := wd) (most := most) (lk := lk) hal).symm
    dsimp only
    rw [hR, show (l.length : Int) - 1 - ((l.length - a : Nat) : Int) = (a : Int) - 1 by omega]
    generalize hrr : aX l wd most a lk = R at *
    have HRR := Lib.hid hrr
    clear hR hrr
    obtain ⟨kl, hkl⟩ := xL (mk := mk) hkn hkk
    have HKL := Lib.hid hkl
    clear hkl
    (refine wlk ?_; intros)
    refine HY.seq (HY.aCF 6 mixed dP abk aoj (by simp only [List.take_succ_cons, List.take_zero] <;> exact rfl) (by simp only [List.drop_succ_cons, List.drop_zero] <;> exact rfl) (by simp only [List.map_cons, List.map_nil] <;> exact rfl) (by kernel_rfl) (by kernel_rfl) (by kernel_rfl) rfl ?_)
    (try dsimp only)
    (refine wlk ?_; intros)
    refine ⟨afG ((a : Int) - 1) mk lk, chV l a R, kl, by (simp (disch := (first | omega | (simp only [push_cast]; first | done | omega))) only [push_cast, ↓reduceIte, Nat.reduceEqDiff, Nat.reduceBEq, Nat.reduceAdd, Nat.reduceSub, Int.reduceToNat, *] <;> with_reducible exact rfl), ?_, ?_, HKL.out, fun L9 hu => ?_⟩
    ·refine Eq.trans (congrArg toVal (show _ = PV.agg [iv ((a : Int) - 1), bv mk, iv lk] by (simp (disch := (first | omega | (simp only [push_cast]; first | done | omega))) only [push_cast, ↓reduceIte, Nat.reduceEqDiff, Nat.reduceBEq, Nat.reduceAdd, Nat.reduceSub, Int.reduceToNat, *] <;> with_reducible exact rfl))) rfl
    ·refine Eq.trans (congrArg toVal (show _ = chP l a R by rw [zK han]; (simp (disch := (first | omega | (simp only [push_cast]; first | done | omega))) only [push_cast, ↓reduceIte, Nat.reduceEqDiff, Nat.reduceBEq, Nat.reduceAdd, Nat.reduceSub, Int.reduceToNat, *] <;> with_reducible exact rfl))) (sF l a R)
    have hG : rH l wd most L9 := HL2.out.upd hal hlk (by rw [← HMK.out, HRR.out]; exact hu)
    replace hG := Lib.hid hG
    clear hu
    (try dsimp only)
    refine HY.seq (HY.eng mixed dP (by kernel_rfl) ?_)
    (try dsimp only)
    (refine wlk ?_; intros)
    refine HY.eng mixed dP (by kernel_rfl) ?_
    (refine wlk ?_; intros)
    (try dsimp only)
    refine ⟨.inr rfl, _, _, L9, ?_, sF l a R, rfl, rfl, hG.out⟩
    rw [zK han]
    exact agr
end Go.Proofs.YtngcedklbinhjaaGreatDoor
namespace Go.Proofs.YtngcedklbinhjaaGreatDoor
open Go.RowKit
set_option linter.all false
structure BkI (l : List It) (wd most : Int) (a : Nat) (lk : Int) (br : List Int) : Prop where
 le : a ≤ l.length
 lk0 : 0 ≤ lk ∧ lk ≤ 3
 len : br.length ≤ a
 pos : 0 < a → 0 < br.length
 ok : (aX l wd most a lk).isSome = (aX l wd most 0 1).isSome
 go : (aX l wd most 0 1).isSome = true → dN l wd most = br ++ bkF l wd most (l.length + 1 - br.length) a lk
theorem BkI.start (l : List It) (wd most : Int) : BkI l wd most 0 0 [] := ⟨Nat.zero_le _, by decide, Nat.le_refl _, fun h => by omega, by rw [uU 0 1], fun _ => by
 show dN l wd most = bkF l wd most (l.length + 1) 0 0
 unfold dN
 rw [bkF, bkF, uU 1 0]⟩
theorem BkI.next {l : List It} {wd most : Int} {a : Nat} {lk : Int} {br : List Int} {r : Ch} (h : BkI l wd most a lk br) (hl : bM l = true) (hm : most ≤ 10000) (ha : a < l.length) (hr : aX l wd most a lk = some r) : BkI l wd most (r.2.1 + 1) r.2.2 (br ++ [(r.2.1 : Int)]) := by
 obtain ⟨h1, h2⟩ := eD hl hm h.le hr
 obtain ⟨h3, h4⟩ := h2 ha
 obtain ⟨x, c0, h5, h6⟩ := mU ha hr
 have hok := h.ok
 rw [hr] at hok
 have h7 := h.len
 refine ⟨by omega, h4, by rw [List.length_append, List.length_singleton]; omega, fun _ => by simp, by rw [h5, ← hok]; rfl, fun hs => ?_⟩
 rw [h.go hs, show l.length + 1 - br.length = (l.length - br.length) + 1 by omega, mQ (by omega) hr]
 simp
theorem BkI.last {l : List It} {wd most : Int} {lk : Int} {br : List Int} (h : BkI l wd most l.length lk br) : (aX l wd most 0 1).isSome = true ∧ dN l wd most = br := by
 have h1 := h.ok
 rw [oL] at h1
 have h2 : (aX l wd most 0 1).isSome = true := h1.symm
 refine ⟨h2, ?_⟩
 rw [h.go h2, vH, List.append_nil]
theorem aAc : zeroOf Tryz.prog 64 = some (.agg #[.slice none 0 0, .int .i64 0, .int .i64 0, .map none]) := by kernel_rfl
theorem aBM : aZ Tryz.prog 64 = some #[(0, 1), (1, 1), (2, 1), (3, 1)] := by kernel_rfl
theorem azY (ps : List (Nat × PV)) : bN Tryz.prog 64 ps = (gT (plF [(0, 1), (1, 1), (2, 1), (3, 1)]) [.val (.slice none 0 0), .val (.int .i64 0), .val (.int .i64 0), .val (.map none)] ps).map .agg := lI aAc rfl aBM ps
theorem zn {ob : aF} {l : List It} {wd most : Int} {b : Nat} (h : ob 0 = some (64, 4, [.agg [gG l, iv wd, iv most, .val (.map (some b))]])) : reify false 0 ob 8 (.own 0 4 0 0) = some (ai1 l wd most b) := by
 have h1 : reify false 0 ob 6 (gG l) = some (gG l) := by (simp (disch := (first | omega | (simp only [push_cast]; first | done | omega))) only [push_cast, ↓reduceIte, Nat.reduceEqDiff, Nat.reduceBEq, Nat.reduceAdd, Nat.reduceSub, Int.reduceToNat, *] <;> with_reducible exact rfl)
 have h2 : reify false 0 ob 7 (.agg [gG l, iv wd, iv most, .val (.map (some b))]) = some (.agg [gG l, iv wd, iv most, .val (.map (some b))]) := by
  show ([gG l, iv wd, iv most, .val (.map (some b))].mapM (reify false 0 ob 6)).map PV.agg = _
  simp only [List.mapM_cons, List.mapM_nil, h1]
  rfl
 show (if false = true ∧ 0 < 0 then none else match ob 0 with
     | some (_, sz', es) => if 4 = sz' then (es[0]?).bind fun e => (reify false 0 ob 7 e).map (PV.ptr false · 0) else none
     | none => none) = _
 rw [if_neg (by decide), h]
 dsimp only
 rw [if_pos rfl]
 show (reify false 0 ob 7 (.agg [gG l, iv wd, iv most, .val (.map (some b))])).map (PV.ptr false · 0) = _
 rw [h2]
 rfl
theorem avZ (m : Option Nat) : dh (.val (.map m)) = some [.val (.map m)] := rfl
attribute [push_cast]
 azY avZ
noncomputable def ati : Ctx := { fn := fun f => if f = 29 then some φLa else none, io := fun f => none }
theorem eP : aA Tryz.prog ati := ⟨(fun f φ h => by
 unfold ati at h
 dsimp only at h
 split at h
 ·rename_i hf; cases h; subst hf; exact ⟨⟨_, Tryz.func29, rfl, rfl⟩, ag3⟩
 cases h), (fun f φ h => by
 unfold ati at h
 dsimp only at h
 cases h), rfl⟩
theorem ai7 (ob : aF) (ps : List PV) : ah ati ob 29 ps = (ps.mapM (reify false 0 ob fuel)).bind φLa := by
 have h : ati.fn 29 = some φLa := by simp [ati]
 unfold ah
 rw [h]
 cases ps.mapM (reify false 0 ob fuel) <;> rfl
set_option maxHeartbeats 16000000 in
set_option maxRecDepth 100000 in
theorem ag2 : Sound Tryz.prog 11 φBb := by
 refine HY.sound (k := 66) (N := 44) (rs := [.tmp 6, .tmp 7]) Tryz.func11 rfl rfl rfl fun ps r hr => ?_
 obtain ⟨l, wd, most, rfl, hq⟩ := jq hr
 clear hr
 split at hq
 case isFalse => cases hq
 case isTrue hpre =>
 cases hq
 refine ⟨by simp, ?_⟩
 simp only [dIs, dUs, dSs, eX, fq, eT, fE, bS, fA, bO, bP, bR, bQ]
 intro B w00
 show HY _ _ _ _ _ _ _ (eO [gG l, .val (.int .i64 wd), .val (.int .i64 most)]) _
 refine HY.start ?_
 have apa := apT (wd := wd) (most := most) hpre
 have hl0 : l.length ≤ 1000 := hpre
 clear hpre
 have hll : ((l.map gJ).length : Int) = (l.length : Int) := by simp
 unfold apK
 refine HY.seq (HY.eng mixed eP (by kernel_rfl) ?_)
 by_cases hg : bM l = true ∧ 0 < l.length ∧ (0 ≤ wd ∧ wd ≤ 1000) ∧ (0 ≤ most ∧ most ≤ 10000)
 ·obtain ⟨hB, hpos, hw, hm⟩ := hg
  have hok : jO l wd most = (aX l wd most 0 1).isSome := by
   unfold jO
   rw [hB, decide_eq_true hpos, aj.2 hw, aj.2 hm]
   simp
  rw [hok]
  rw [hB, decide_eq_true hpos, aj.2 hw, aj.2 hm] at apa
  simp only [Bool.and_self] at apa
  clear hok
  have gbki_c29 := ai7
  (refine wlk ?_; intros)
  refine HY.seq (HY.eng mixed eP (by kernel_rfl) ?_)
  dsimp only
  (refine wlk ?_; intros)
  refine HY.seq (HY.each (HO.pre (imm := ⟨[], [], []⟩) 3 eP (by kernel_rfl) (by simp only [List.take_succ_cons, List.take_zero] <;> exact rfl) (by simp only [List.drop_succ_cons, List.drop_zero] <;> exact rfl) (by simp only [List.map_cons, List.map_nil] <;> exact rfl) ?_))
  dsimp only
  (refine wlk ?_; intros)
  refine HO.make rfl rfl (by decide) rfl fun b hb => ?_
  dsimp only [AS.put]
  refine HO.pre (imm := ⟨[], [], []⟩) 3 eP (by kernel_rfl) (by simp only [List.take_succ_cons, List.take_zero] <;> exact rfl) (by simp only [List.drop_succ_cons, List.drop_zero] <;> exact rfl) (by simp only [List.map_cons, List.map_nil] <;> exact rfl) ?_
  dsimp only
  (refine wlk ?_; intros)
  refine HO.nil ?_
  refine HY.seq (HY.eng mixed eP (by kernel_rfl) ?_)
  (try dsimp only)
  (refine wlk ?_; intros)
  refine HY.seq (HY.eng mixed eP (by kernel_rfl) ?_)
  (try dsimp only)
  (refine wlk ?_; intros)
  (try dsimp only)
  refine HY.seq (HY.block (HY.asQ (α := Nat × Int × List Int × Nat × Nat) (fun i => [(0, gG l), (8, .own 0 4 0 0), (9, .own 1 3 0 0), (10, nP 1 (i.2.2.1.map pvN) i.2.2.2.1)])
    (fun i => [(0, 64, 4, [.agg [gG l, iv wd, iv most, .val (.map (some b))]]), (1, 66, 3, [.agg [iv ((i.1 : Int) - 1), bv (mkA l i.1), iv i.2.1]])] ++ nO 3 1 (i.2.2.1.map pvN) i.2.2.2.1)
    (fun i => i.2.2.2.2) (fun i σ => BkI l wd most i.1 i.2.1 i.2.2.1 ∧ (2 ≤ i.2.2.2.2 ∧ (i.2.2.1 ≠ [] → 2 ≤ i.2.2.2.1 ∧ i.2.2.2.1 < i.2.2.2.2)) ∧ ∃ L', σ = some (b, L') ∧ rH l wd most L') (fun i => l.length - i.1) (0, 0, [], 0, 2) ⟨BkI.start l wd most, ⟨by decide, fun h => absurd rfl h⟩, [], rfl, fun p hp => by cases hp⟩ ?_ ?_ rfl ?_))
  ·dsimp only
   exact agi
  ·dsimp only
   rw [show ((0 : Nat) : Int) - 1 = -1 from rfl, show mkA l 0 = false from rfl]
   simp (disch := (first | omega | (simp only [push_cast]; first | done | omega))) only [push_cast, ↓reduceIte, Nat.reduceEqDiff, Nat.reduceBEq, Nat.reduceAdd, Nat.reduceSub, Int.reduceToNat, List.map_nil, List.append_nil, *]
  rintro ⟨a, lk, br, x, y⟩ σ ⟨hI, ⟨hy, hx⟩, L', rfl, hG⟩
  dsimp only at hI hy hx
  have HI := Lib.hid hI
  have HG := Lib.hid hG
  have hle := hI.le
  have hlk := hI.lk0
  have hbl := hI.len
  clear hI hG
  have ih := fun (h : a ≤ l.length) => alX hB hpos hw hm (l.length - a) a lk rfl h hlk b L' HG.out
  have IH := Lib.hid (ih hle)
  clear ih
  dsimp only
  refine HY.seq (HY.eng mixed eP (by kernel_rfl) ?_)
  by_cases hal : a < l.length
  ·by_cases hnil : br = []
   ·skip
    subst hnil
    simp only [List.map_nil, lK, lg, List.append_nil]
    (refine wlk ?_; intros)
    refine HY.block (HY.seq (HY.each (HO.pre (imm := ⟨[], [], []⟩) 2 eP (by kernel_rfl) (by simp only [List.take_succ_cons, List.take_zero] <;> exact rfl) (by simp only [List.drop_succ_cons, List.drop_zero] <;> exact rfl) (by simp only [List.map_cons, List.map_nil] <;> exact rfl) ?_)))
    (try dsimp only)
    (refine wlk ?_; intros)
    refine HO.call (ps := [ai1 l wd most b, .agg [iv ((a : Int) - 1), bv (mkA l a), iv lk]]) (R := fun p L' => p = chP l a (aX l wd most a lk) ∧ rH l wd most L') rfl rfl ⟨_, Tryz.func30, rfl, rfl⟩ rfl ?_ ?_ IH.out ?_
    ·intro x e
     cases e
     decide
    ·(try dsimp only)
     simp (disch := (first | omega | (simp only [push_cast]; first | done | omega))) only [push_cast, ↓reduceIte, Nat.reduceEqDiff, Nat.reduceBEq, Nat.reduceAdd, Nat.reduceSub, Int.reduceToNat, zn (l := l) (wd := wd) (most := most) (b := b), *]
    rintro p L3 ⟨rfl, hL3⟩
    rw [zK (show ¬ a = l.length by omega)]
    have HL3 := Lib.hid hL3
    clear hL3
    cases hr : aX l wd most a lk with
    | none =>
     have hno : (aX l wd most 0 1).isSome = false := by rw [← HI.out.ok, hr]; rfl
     rw [hno, if_neg (by decide)]
     dsimp only [aC, aN, aM, aK, AS.put]
     refine HO.pre (imm := ⟨[], [], []⟩) 2 eP (by kernel_rfl) (by simp only [List.take_succ_cons, List.take_zero] <;> exact rfl) (by simp only [List.drop_succ_cons, List.drop_zero] <;> exact rfl) (by simp only [List.map_cons, List.map_nil] <;> exact rfl) ?_
     (try dsimp only)
     (refine wlk ?_; intros)
     refine HO.nil ?_
     refine HY.seq (HY.eng mixed eP (by kernel_rfl) ?_)
     (try dsimp only)
     (refine wlk ?_; intros)
     refine ⟨by simp, ⟨_, tQ (ps := [.val (.slice none 0 0), bv false]) ⟨nil_le _ _, PV.le_refl _, trivial⟩, ?_⟩, fun b2 L2 e => by cases e; exact hb⟩
     (simp (disch := (first | omega | (simp only [push_cast]; first | done | omega))) only [push_cast, ↓reduceIte, Nat.reduceEqDiff, Nat.reduceBEq, Nat.reduceAdd, Nat.reduceSub, Int.reduceToNat, *] <;> with_reducible exact rfl)
    | some r =>
     have hn := HI.out.next hB hm.2 hal hr
     replace hn := Lib.hid hn
     have hr1 := (eD hB hm.2 hle hr).1
     have hr2 := ((eD hB hm.2 hle hr).2 hal).1
     clear hr
     obtain ⟨r1, r2, r3⟩ := r
     dsimp only at hr1 hr2
     dsimp only [aC, aN, aM, aK, AS.put]
     refine HO.pre (imm := ⟨[], [], []⟩) 2 eP (by kernel_rfl) (by simp only [List.take_succ_cons, List.take_zero] <;> exact rfl) (by simp only [List.drop_succ_cons, List.drop_zero] <;> exact rfl) (by simp only [List.map_cons, List.map_nil] <;> exact rfl) ?_
     (try dsimp only)
     (refine wlk ?_; intros)
     refine HO.nil ?_
     refine HY.seq (HY.eng mixed eP (by kernel_rfl) ?_)
     (try dsimp only)
     (refine wlk ?_; intros)
     refine HY.eng mixed eP (by kernel_rfl) ?_
     (try dsimp only)
     (refine wlk ?_; intros)
     (try dsimp only)
     show ∃ j : Nat × Int × List Int × Nat × Nat, _
     refine ⟨(r2 + 1, r3, [(r2 : Int)], y + 2, y + 3), ⟨hn.out, ⟨by dsimp only; omega, fun _ => ⟨by dsimp only; omega, by dsimp only; omega⟩⟩, L3, rfl, HL3.out⟩, by dsimp only; omega, ?_, ?_, rfl⟩
     ·dsimp only
      rw [aS (by simp)]
      exact agi
     ·dsimp only
      rw [aU (by simp), show mkA l (r2 + 1) = (gI l r2).2.2.2.2.2.2 from rfl]
      simp (disch := (first | omega | (simp only [push_cast]; first | done | omega))) only [push_cast, ↓reduceIte, Nat.reduceEqDiff, Nat.reduceBEq, Nat.reduceAdd, Nat.reduceSub, Int.reduceToNat, List.cons_append, List.nil_append, *]
   ·skip
    have hbp : 0 < (br.map pvN).length := by rw [List.length_map]; exact List.length_pos_iff.2 hnil
    obtain ⟨hx2, hxy⟩ := hx hnil
    rw [aS hbp, aU hbp, List.length_map]
    simp only [List.cons_append, List.nil_append]
    have hx0 : ¬ x = 0 := by omega
    have hx1 : ¬ x = 1 := by omega
    have hxy2 : ¬ x = y := by omega
    have hyx : ¬ y = x := by omega
    (refine wlk ?_; intros)
    refine HY.block (HY.seq (HY.each (HO.pre (imm := ⟨[], [], []⟩) 2 eP (by kernel_rfl) (by simp only [List.take_succ_cons, List.take_zero] <;> exact rfl) (by simp only [List.drop_succ_cons, List.drop_zero] <;> exact rfl) (by simp only [List.map_cons, List.map_nil] <;> exact rfl) ?_)))
    (try dsimp only)
    (refine wlk ?_; intros)
    refine HO.call (ps := [ai1 l wd most b, .agg [iv ((a : Int) - 1), bv (mkA l a), iv lk]]) (R := fun p L' => p = chP l a (aX l wd most a lk) ∧ rH l wd most L') rfl rfl ⟨_, Tryz.func30, rfl, rfl⟩ rfl ?_ ?_ IH.out ?_
    ·intro x e
     cases e
     decide
    ·(try dsimp only)
     simp (disch := (first | omega | (simp only [push_cast]; first | done | omega))) only [push_cast, ↓reduceIte, Nat.reduceEqDiff, Nat.reduceBEq, Nat.reduceAdd, Nat.reduceSub, Int.reduceToNat, zn (l := l) (wd := wd) (most := most) (b := b), *]
    rintro p L3 ⟨rfl, hL3⟩
    rw [zK (show ¬ a = l.length by omega)]
    have HL3 := Lib.hid hL3
    clear hL3
    cases hr : aX l wd most a lk with
    | none =>
     have hno : (aX l wd most 0 1).isSome = false := by rw [← HI.out.ok, hr]; rfl
     rw [hno, if_neg (by decide)]
     dsimp only [aC, aN, aM, aK, AS.put]
     refine HO.pre (imm := ⟨[], [], []⟩) 2 eP (by kernel_rfl) (by simp only [List.take_succ_cons, List.take_zero] <;> exact rfl) (by simp only [List.drop_succ_cons, List.drop_zero] <;> exact rfl) (by simp only [List.map_cons, List.map_nil] <;> exact rfl) ?_
     (try dsimp only)
     (refine wlk ?_; intros)
     refine HO.nil ?_
     refine HY.seq (HY.eng mixed eP (by kernel_rfl) ?_)
     (try dsimp only)
     (refine wlk ?_; intros)
     refine ⟨by simp, ⟨_, tQ (ps := [.val (.slice none 0 0), bv false]) ⟨nil_le _ _, PV.le_refl _, trivial⟩, ?_⟩, fun b2 L2 e => by cases e; exact hb⟩
     (simp (disch := (first | omega | (simp only [push_cast]; first | done | omega))) only [push_cast, ↓reduceIte, Nat.reduceEqDiff, Nat.reduceBEq, Nat.reduceAdd, Nat.reduceSub, Int.reduceToNat, *] <;> with_reducible exact rfl)
    | some r =>
     have hn := HI.out.next hB hm.2 hal hr
     replace hn := Lib.hid hn
     have hr1 := (eD hB hm.2 hle hr).1
     have hr2 := ((eD hB hm.2 hle hr).2 hal).1
     clear hr
     obtain ⟨r1, r2, r3⟩ := r
     dsimp only at hr1 hr2
     dsimp only [aC, aN, aM, aK, AS.put]
     refine HO.pre (imm := ⟨[], [], []⟩) 2 eP (by kernel_rfl) (by simp only [List.take_succ_cons, List.take_zero] <;> exact rfl) (by simp only [List.drop_succ_cons, List.drop_zero] <;> exact rfl) (by simp only [List.map_cons, List.map_nil] <;> exact rfl) ?_
     (try dsimp only)
     (refine wlk ?_; intros)
     refine HO.nil ?_
     refine HY.seq (HY.eng mixed eP (by kernel_rfl) ?_)
     (try dsimp only)
     (refine wlk ?_; intros)
     refine HY.eng mixed eP (by kernel_rfl) ?_
     (try dsimp only)
     (refine wlk ?_; intros)
     (try dsimp only)
     show ∃ j : Nat × Int × List Int × Nat × Nat, _
     refine ⟨(r2 + 1, r3, br ++ [(r2 : Int)], y + 2, y + 3), ⟨hn.out, ⟨by dsimp only; omega, fun _ => ⟨by dsimp only; omega, by dsimp only; omega⟩⟩, L3, rfl, HL3.out⟩, by dsimp only; omega, ?_, ?_, rfl⟩
     ·dsimp only
      rw [aS (by simp)]
      exact agi
     ·dsimp only
      rw [aU (by simp), show mkA l (r2 + 1) = (gI l r2).2.2.2.2.2.2 from rfl]
      simp (disch := (first | omega | (simp only [push_cast]; first | done | omega))) only [push_cast, ↓reduceIte, Nat.reduceEqDiff, Nat.reduceBEq, Nat.reduceAdd, Nat.reduceSub, Int.reduceToNat, List.cons_append, List.nil_append, *]
  ·obtain rfl : a = l.length := by omega
   obtain ⟨hs, hbr⟩ := HI.out.last
   rw [hs, if_pos rfl, hbr]
   have hne : br ≠ [] := fun h => by
    have := HI.out.pos hpos
    rw [h] at this
    simp at this
   have hbp : 0 < (br.map pvN).length := by rw [List.length_map]; exact List.length_pos_iff.2 hne
   obtain ⟨hx2, hxy⟩ := hx hne
   rw [aS hbp, aU hbp, List.length_map]
   simp only [List.cons_append, List.nil_append]
   have hx0 : ¬ x = 0 := by omega
   have hx1 : ¬ x = 1 := by omega
   clear hbr hs
   (refine wlk ?_; intros)
   refine HY.seq (HY.eng mixed eP (by kernel_rfl) ?_)
   (try dsimp only)
   (refine wlk ?_; intros)
   refine HY.ret ?_
   refine ⟨by simp, ⟨_, PV.le_refl _, ?_⟩, fun b2 L2 e => by cases e; exact hb⟩
   (try dsimp only)
   (simp (disch := (first | omega | (simp only [push_cast]; first | done | omega))) only [push_cast, ↓reduceIte, Nat.reduceEqDiff, Nat.reduceBEq, Nat.reduceAdd, Nat.reduceSub, Int.reduceToNat, *] <;> with_reducible exact rfl)
 ·have hno : jO l wd most = false := by
   cases h : jO l wd most with
   | false => rfl
   | true =>
    obtain ⟨h1, h2, h3, h4, -⟩ := gu.1 h
    exact absurd ⟨h1, h2, h3, h4⟩ hg
  have hno2 : (bM l && (decide (0 < l.length) && (inB wd 0 1000 && inB most 0 10000))) = false := by
   cases h : (bM l && (decide (0 < l.length) && (inB wd 0 1000 && inB most 0 10000))) with
   | false => rfl
   | true =>
    simp only [Bool.and_eq_true, decide_eq_true_eq, aj] at h
    exact absurd h hg
  rw [hno, if_neg (by decide)]
  rw [hno2] at apa
  clear hno hno2 hg
  have gbki_c29 := ai7
  (refine wlk ?_; intros)
  refine HY.seq (HY.eng mixed eP (by kernel_rfl) ?_)
  (try dsimp only)
  (refine wlk ?_; intros)
  refine ⟨by simp, ⟨_, tQ (ps := [.val (.slice none 0 0), bv false]) ⟨nil_le _ _, PV.le_refl _, trivial⟩, ?_⟩, fun b2 L2 e => by cases e⟩
  (simp (disch := (first | omega | (simp only [push_cast]; first | done | omega))) only [push_cast, ↓reduceIte, Nat.reduceEqDiff, Nat.reduceBEq, Nat.reduceAdd, Nat.reduceSub, Int.reduceToNat, *] <;> with_reducible exact rfl)
end Go.Proofs.YtngcedklbinhjaaGreatDoor
