/- What the proof rests on, part 21: contracts of functions. No condition beyond what each states. -/
import Derived.Test.YtngcedklbinhjaaGreatDoorZBw20
namespace Go.Proofs.YtngcedklbinhjaaGreatDoor
open Go.RowKit
set_option linter.all false
theorem akg {l : LS} (h : l.length ≤ 500) (h2 : ∀ s ∈ l, s.size ≤ 2000) : auQ l := ⟨by omega, by
 have := asK (l := l) (c := 2000) fun i => by
  by_cases hi : i < l.length
  ·rw [List.getElem?_eq_getElem hi, Option.getD_some]
   exact h2 _ (List.getElem_mem hi)
  ·rw [List.getElem?_eq_none (by omega)]
   decide
 have : l.length * 2000 ≤ 500 * 2000 := Nat.mul_le_mul_right _ h
 omega⟩
theorem aen {p : List LS} {q : LS} {x y : Int} : ∀ k, ∀ s ∈ blK p q x y k, s.size ≤ 2000
 | 0, s, h => by simp [blK] at h
 | k + 1, s, h => by
  rw [blK] at h
  rcases List.mem_append.1 h with h | h
  ·exact aen k s h
  ·exact (uV _ _ _ _).2 s h
theorem axH {p : List LS} {q : LS} {x y z : Int} (h : blB p q x y z = true) : xB (blK p q x y p.length) = p.flatten := by
 have := adn (p := p) (q := q) (x := x) (y := y) p.length (fun j hj => anY h hj) []
 rw [List.append_nil] at this
 unfold xB
 rw [this, List.take_length, show fV [] [] = [] from rfl, List.append_nil, ajo]
theorem alC {l : List LS} {c : Nat} (h : ∀ x ∈ l, x.length ≤ c) : (l.flatten).length ≤ l.length * c := by
 induction l with
 | nil => simp
 | cons x l ih =>
  have h1 := ih fun y hy => h y (by simp [hy])
  have h2 := h x (by simp)
  rw [List.flatten_cons, List.length_append, List.length_cons, Nat.succ_mul]
  omega
theorem wY {l : List LS} (k : Nat) : ((l.take k).flatten).length ≤ (l.flatten).length := by
 conv => rhs; rw [← List.take_append_drop k l, List.flatten_append, List.length_append]
 omega
theorem aiI (p : List LS) (q : LS) (x y : Int) : ∀ k, adv (bcK p q x y k) = (blK p q x y k).length
 | 0 => rfl
 | k + 1 => by
  have ih := aiI p q x y k
  unfold adv at ih ⊢
  rw [bcK, blK, List.sum_append, ih, List.length_append]
  simp
theorem ayR (p : List LS) (q : LS) (x y : Int) : ∀ k, k ≤ 6 → ahX (bcK p q x y k) := fun k hk => ⟨by rw [og]; omega, by
 induction k with
 | zero => intro i; simp [bcK]
 | succ k ih =>
  intro i
  have h6 := (uV (p[k]?.getD []) q x y).1
  have hl := og p q x y k
  rw [bcK]
  rcases Nat.lt_trichotomy i k with h | h | h
  ·rw [List.getElem?_append_left (by omega)]
   exact ih (by omega) i
  ·rw [List.getElem?_append_right (by omega), hl, h, Nat.sub_self]
   simp
   omega
  ·rw [List.getElem?_eq_none (by rw [List.length_append, List.length_singleton]; omega)]
   decide⟩
noncomputable def o8 : Fun := atp 1 ab8
theorem acQ {l : List Int} (h : ahX l) : o8 [.lst false 1 (l.map fun n => .val (.int .i64 n))] = some (.val (.int .i64 (adv l))) := vZ h
theorem aaV : o8 [.val (.slice none 0 0)] = some (.val (.int .i64 0)) := vZ (l := []) ⟨by simp, by simp⟩
noncomputable def agF : Fun := F1 dUs fun code => if okL axu code then some (bv true) else none
noncomputable def qw : Ctx := { fn := fun f => if f = 13 then some oP else if f = 14 then some vI else if f = 15 then some wR else if f = 12 then some uZ else if f = 17 then some o8 else if f = 8 then some wQ else if f = 16 then some aaj else if f = 9 then some zM else none, io := fun f => none }
theorem ao0 : aA Tryz.prog qw := ⟨(fun f φ h => by
 unfold qw at h
 dsimp only at h
 split at h
 ·rename_i hf; cases h; subst hf; exact ⟨⟨_, Tryz.func13, rfl, rfl⟩, ah5⟩
 split at h
 ·rename_i hf; cases h; subst hf; exact ⟨⟨_, Tryz.func14, rfl, rfl⟩, (agZ.atn 1)⟩
 split at h
 ·rename_i hf; cases h; subst hf; exact ⟨⟨_, Tryz.func15, rfl, rfl⟩, (aiK.atn 1)⟩
 split at h
 ·rename_i hf; cases h; subst hf; exact ⟨⟨_, Tryz.func12, rfl, rfl⟩, (afy.nil 1)⟩
 split at h
 ·rename_i hf; cases h; subst hf; exact ⟨⟨_, Tryz.func17, rfl, rfl⟩, (akC.nil 1)⟩
 split at h
 ·rename_i hf; cases h; subst hf; exact ⟨⟨_, Tryz.func8, rfl, rfl⟩, (ayr.nil 1)⟩
 split at h
 ·rename_i hf; cases h; subst hf; exact ⟨⟨_, Tryz.func16, rfl, rfl⟩, (acK.nil 1)⟩
 split at h
 ·rename_i hf; cases h; subst hf; exact ⟨⟨_, Tryz.func9, rfl, rfl⟩, amW⟩
 cases h), (fun f φ h => by
 unfold qw at h
 dsimp only at h
 cases h), rfl⟩
theorem uj (ob : aF) (ps : List PV) : ah qw ob 13 ps = (ps.mapM (reify false 0 ob fuel)).bind oP := by
 have h : qw.fn 13 = some oP := by simp [qw]
 unfold ah
 rw [h]
 cases ps.mapM (reify false 0 ob fuel) <;> rfl
theorem vw (ob : aF) (ps : List PV) : ah qw ob 14 ps = (ps.mapM (reify false 0 ob fuel)).bind vI := by
 have h : qw.fn 14 = some vI := by simp [qw]
 unfold ah
 rw [h]
 cases ps.mapM (reify false 0 ob fuel) <;> rfl
theorem uW (ob : aF) (ps : List PV) : ah qw ob 15 ps = (ps.mapM (reify false 0 ob fuel)).bind wR := by
 have h : qw.fn 15 = some wR := by simp [qw]
 unfold ah
 rw [h]
 cases ps.mapM (reify false 0 ob fuel) <;> rfl
theorem uh (ob : aF) (ps : List PV) : ah qw ob 12 ps = (ps.mapM (reify false 0 ob fuel)).bind uZ := by
 have h : qw.fn 12 = some uZ := by simp [qw]
 unfold ah
 rw [h]
 cases ps.mapM (reify false 0 ob fuel) <;> rfl
theorem uy (ob : aF) (ps : List PV) : ah qw ob 17 ps = (ps.mapM (reify false 0 ob fuel)).bind o8 := by
 have h : qw.fn 17 = some o8 := by simp [qw]
 unfold ah
 rw [h]
 cases ps.mapM (reify false 0 ob fuel) <;> rfl
theorem aai (ob : aF) (ps : List PV) : ah qw ob 8 ps = (ps.mapM (reify false 0 ob fuel)).bind wQ := by
 have h : qw.fn 8 = some wQ := by simp [qw]
 unfold ah
 rw [h]
 cases ps.mapM (reify false 0 ob fuel) <;> rfl
theorem vB (ob : aF) (ps : List PV) : ah qw ob 16 ps = (ps.mapM (reify false 0 ob fuel)).bind aaj := by
 have h : qw.fn 16 = some aaj := by simp [qw]
 unfold ah
 rw [h]
 cases ps.mapM (reify false 0 ob fuel) <;> rfl
theorem aaH (ob : aF) (ps : List PV) : ah qw ob 9 ps = (ps.mapM (reify false 0 ob fuel)).bind zM := by
 have h : qw.fn 9 = some zM := by simp [qw]
 unfold ah
 rw [h]
 cases ps.mapM (reify false 0 ob fuel) <;> rfl
set_option maxHeartbeats 16000000 in
theorem lawBw_ok : Sound Tryz.prog 4 agF := by
 refine ay mixed ao0 Tryz.func4 rfl 91 rfl [.tmp 2] rfl (by kernel_rfl) fun ps r hr => ?_
 obtain ⟨code, rfl, hq⟩ := bY hr
 clear hr
 split at hq
 case isFalse => cases hq
 case isTrue hpre =>
 cases hq
 refine ⟨by simp, ?_⟩
 simp only [dIs, dUs, dSs, eX, fq, eT, fE, bS, fA, bO, bP, bR, bQ]
 have hbyte := akU hpre
 by_cases hlen : code.length ≤ 1048576
 ·obtain ⟨⟨L, ps, wd, mo, li⟩, e, ⟨hL, hL2⟩, hps, hwd, hmo, hli⟩ := afq code hbyte hlen
  have apt := aiW
  dsimp only at hL hL2 hps hwd hmo hli e
  have hok := asw (L := L) (ps := ps) (by omega) hL2 hps
  have hl1 := ase (p := L) (q := ps) (x := wd) (y := mo) (z := li) (by omega)
  have hL13 : ∀ k : Nat, (L[k]?.getD []).length ≤ 13 := fun k => by
   by_cases hk : k < L.length
   ·rw [List.getElem?_eq_getElem hk, Option.getD_some]
    exact (hL2 _ (List.getElem_mem hk)).1
   ·rw [List.getElem?_eq_none (by omega)]
    exact Nat.zero_le _
  have ap2 : wR [.agg [.lst false 1 (lsF L), .lst false 1 (ps.map fun s => .val (.string s)), .val (.int .i64 wd), .val (.int .i64 mo), .val (.int .i64 li)]] = _ := apR hok
  by_cases h0 : (blL L ps wd mo li).length = 0
  ·have ap1 : vI [.agg [.lst false 1 (lsF L), .lst false 1 (ps.map fun s => .val (.string s)), .val (.int .i64 wd), .val (.int .i64 mo), .val (.int .i64 li)]] = _ := amz hok h0
   obtain ⟨hc0, hp0⟩ := aki h0
   have he0 := List.eq_nil_of_length_eq_zero h0
   rw [hc0, he0, List.map_nil, List.map_nil] at ap2
   have ap3 := aez
   have ap4 := ae4
   have ap5 := acn
   have ap6 := aaV
   have ap7 := zR
   clear hc0 he0 h0 hl1 hok hL2 hps hpre hbyte hL13
   cases hB : blB L ps wd mo li with
   | false =>
    rw [hB] at ap1 ap2
    clear hp0 hB
    by_cases hL0 : L.length = 0
    ·obtain rfl : L = [] := List.eq_nil_of_length_eq_zero hL0
     have ap1' : vI [.agg [.val (.slice none 0 0), .lst false 1 (ps.map fun s => .val (.string s)), .val (.int .i64 wd), .val (.int .i64 mo), .val (.int .i64 li)]] = _ := ap1
     have ap2' : wR [.agg [.val (.slice none 0 0), .lst false 1 (ps.map fun s => .val (.string s)), .val (.int .i64 wd), .val (.int .i64 mo), .val (.int .i64 li)]] = _ := ap2
     clear ap1 ap2
     have glbw_c13 := uj; have glbw_c14 := vw; have glbw_c15 := uW; have glbw_c12 := uh; have glbw_c17 := uy; have glbw_c8 := aai; have glbw_c16 := vB; have glbw_c9 := aaH
     (repeat' (first | (with_reducible first | apply bF | apply av | apply aO | apply aJ | apply bC | apply dY | apply bA | apply bH | apply d9 | apply bE | apply bJ | apply dX | apply bI | apply bG | apply bD) | ((with_reducible apply au); (simp only [List.map_cons, List.map_nil] <;> exact rfl)) | ((with_reducible apply aI); (simp only [List.map_cons, List.map_nil] <;> exact rfl); decide +kernel) | ((with_reducible apply bB); rfl) | ((first | ((with_reducible apply i_V); rfl; rfl; rfl) | ((first | ((with_reducible apply i_E); rfl) | ((with_reducible apply i_S); rfl)); first | rfl | (simp only [push_cast, ↓reduceIte])) | ((with_reducible apply dW); rfl; rfl) | ((with_reducible apply dZ); rfl; rfl; rfl) | (with_reducible first | apply dV | apply aL)); (simp (disch := (first | omega | (simp only [push_cast]; first | done | omega))) only [push_cast, ↓reduceIte, Nat.reduceEqDiff, Nat.reduceBEq, Nat.reduceAdd, Nat.reduceSub, Int.reduceToNat, *] <;> with_reducible exact rfl); all_goals try (first | (with_reducible first | refine hyT ?_ | refine hyF ?_ | exact hyA | exact hyB) | (intro hX; first | (cases hX; done) | ((try simp only [decide_eq_true_eq, decide_eq_false_iff_not, Bool.not_eq_true', Bool.not_eq_false'] at hX); (try have hXb := aj.1 hX))))))); all_goals try (exfalso; omega)
     all_goals (first | (exfalso; omega) | ((first | apply dw | apply bK); simp (disch := (first | omega | (simp only [push_cast]; first | done | omega))) only [push_cast, ↓reduceIte, Nat.reduceEqDiff, Nat.reduceBEq, Nat.reduceAdd, Nat.reduceSub, Int.reduceToNat, *]) | skip)
    ·have glbw_c13 := uj; have glbw_c14 := vw; have glbw_c15 := uW; have glbw_c12 := uh; have glbw_c17 := uy; have glbw_c8 := aai; have glbw_c16 := vB; have glbw_c9 := aaH
     (repeat' (first | (with_reducible first | apply bF | apply av | apply aO | apply aJ | apply bC | apply dY | apply bA | apply bH | apply d9 | apply bE | apply bJ | apply dX | apply bI | apply bG | apply bD) | ((with_reducible apply au); (simp only [List.map_cons, List.map_nil] <;> exact rfl)) | ((with_reducible apply aI); (simp only [List.map_cons, List.map_nil] <;> exact rfl); decide +kernel) | ((with_reducible apply bB); rfl) | ((first | ((with_reducible apply i_V); rfl; rfl; rfl) | ((first | ((with_reducible apply i_E); rfl) | ((with_reducible apply i_S); rfl)); first | rfl | (simp only [push_cast, ↓reduceIte])) | ((with_reducible apply dW); rfl; rfl) | ((with_reducible apply dZ); rfl; rfl; rfl) | (with_reducible first | apply dV | apply aL)); (simp (disch := (first | omega | (simp only [push_cast]; first | done | omega))) only [push_cast, ↓reduceIte, Nat.reduceEqDiff, Nat.reduceBEq, Nat.reduceAdd, Nat.reduceSub, Int.reduceToNat, *] <;> with_reducible exact rfl); all_goals try (first | (with_reducible first | refine hyT ?_ | refine hyF ?_ | exact hyA | exact hyB) | (intro hX; first | (cases hX; done) | ((try simp only [decide_eq_true_eq, decide_eq_false_iff_not, Bool.not_eq_true', Bool.not_eq_false'] at hX); (try have hXb := aj.1 hX))))))); all_goals try (exfalso; omega)
     all_goals (first | (exfalso; omega) | ((first | apply dw | apply bK); simp (disch := (first | omega | (simp only [push_cast]; first | done | omega))) only [push_cast, ↓reduceIte, Nat.reduceEqDiff, Nat.reduceBEq, Nat.reduceAdd, Nat.reduceSub, Int.reduceToNat, *]) | skip)
   | true =>
    obtain rfl := hp0 hB
    rw [hB] at ap1 ap2
    have ap1' : vI [.agg [.val (.slice none 0 0), .lst false 1 (ps.map fun s => .val (.string s)), .val (.int .i64 wd), .val (.int .i64 mo), .val (.int .i64 li)]] = _ := ap1
    have ap2' : wR [.agg [.val (.slice none 0 0), .lst false 1 (ps.map fun s => .val (.string s)), .val (.int .i64 wd), .val (.int .i64 mo), .val (.int .i64 li)]] = _ := ap2
    clear ap1 ap2 hp0 hB
    have glbw_c13 := uj; have glbw_c14 := vw; have glbw_c15 := uW; have glbw_c12 := uh; have glbw_c17 := uy; have glbw_c8 := aai; have glbw_c16 := vB; have glbw_c9 := aaH
    (repeat' (first | (with_reducible first | apply bF | apply av | apply aO | apply aJ | apply bC | apply dY | apply bA | apply bH | apply d9 | apply bE | apply bJ | apply dX | apply bI | apply bG | apply bD) | ((with_reducible apply au); (simp only [List.map_cons, List.map_nil] <;> exact rfl)) | ((with_reducible apply aI); (simp only [List.map_cons, List.map_nil] <;> exact rfl); decide +kernel) | ((with_reducible apply bB); rfl) | ((first | ((with_reducible apply i_V); rfl; rfl; rfl) | ((first | ((with_reducible apply i_E); rfl) | ((with_reducible apply i_S); rfl)); first | rfl | (simp only [push_cast, ↓reduceIte])) | ((with_reducible apply dW); rfl; rfl) | ((with_reducible apply dZ); rfl; rfl; rfl) | (with_reducible first | apply dV | apply aL)); (simp (disch := (first | omega | (simp only [push_cast]; first | done | omega))) only [push_cast, ↓reduceIte, Nat.reduceEqDiff, Nat.reduceBEq, Nat.reduceAdd, Nat.reduceSub, Int.reduceToNat, *] <;> with_reducible exact rfl); all_goals try (first | (with_reducible first | refine hyT ?_ | refine hyF ?_ | exact hyA | exact hyB) | (intro hX; first | (cases hX; done) | ((try simp only [decide_eq_true_eq, decide_eq_false_iff_not, Bool.not_eq_true', Bool.not_eq_false'] at hX); (try have hXb := aj.1 hX))))))); all_goals try (exfalso; omega)
    refine aT (α := Unit) mixed (fun _ => [(3, .own 0 5 0 0), (4, .val (.slice none 0 0)), (5, .val (.slice none 0 0)), (10, .row 1 1 0 0), (11, iv 0)])
     (fun _ => [(0, 40, 5, [.agg [.val (.slice none 0 0), .lst true 1 (ps.map fun s => .val (.string s)), .val (.int .i64 wd), .val (.int .i64 mo), .val (.int .i64 li)]]), (1, 9, 1, [])])
     (fun _ => 2) (fun _ => True) (fun _ => 0) (by kernel_rfl) () trivial ?_ ?_ rfl ?_
    ·(simp (disch := (first | omega | (simp only [push_cast]; first | done | omega))) only [push_cast, ↓reduceIte, Nat.reduceEqDiff, Nat.reduceBEq, Nat.reduceAdd, Nat.reduceSub, Int.reduceToNat, List.length_append, *]; try exact congrArg (fun z => PV.val (Value.int IntKind.i64 z)) (by omega))
    ·simp (disch := (first | omega | (simp only [push_cast]; first | done | omega))) only [push_cast, ↓reduceIte, Nat.reduceEqDiff, Nat.reduceBEq, Nat.reduceAdd, Nat.reduceSub, Int.reduceToNat, List.length_append, *]
    rintro _ _
    (repeat' (first | (with_reducible first | apply bF | apply av | apply aO | apply aJ | apply bC | apply dY | apply bA | apply bH | apply d9 | apply bE | apply bJ | apply dX | apply bI | apply bG | apply bD) | ((with_reducible apply au); (simp only [List.map_cons, List.map_nil] <;> exact rfl)) | ((with_reducible apply aI); (simp only [List.map_cons, List.map_nil] <;> exact rfl); decide +kernel) | ((with_reducible apply bB); rfl) | ((first | ((with_reducible apply i_V); rfl; rfl; rfl) | ((first | ((with_reducible apply i_E); rfl) | ((with_reducible apply i_S); rfl)); first | rfl | (simp only [push_cast, ↓reduceIte])) | ((with_reducible apply dW); rfl; rfl) | ((with_reducible apply dZ); rfl; rfl; rfl) | (with_reducible first | apply dV | apply aL)); (simp (disch := (first | omega | (simp only [push_cast]; first | done | omega))) only [push_cast, ↓reduceIte, Nat.reduceEqDiff, Nat.reduceBEq, Nat.reduceAdd, Nat.reduceSub, Int.reduceToNat, *] <;> with_reducible exact rfl); all_goals try (first | (with_reducible first | refine hyT ?_ | refine hyF ?_ | exact hyA | exact hyB) | (intro hX; first | (cases hX; done) | ((try simp only [decide_eq_true_eq, decide_eq_false_iff_not, Bool.not_eq_true', Bool.not_eq_false'] at hX); (try have hXb := aj.1 hX))))))); all_goals try (exfalso; omega)
    all_goals (first | (exfalso; omega) | ((first | apply dw | apply bK); simp (disch := (first | omega | (simp only [push_cast]; first | done | omega))) only [push_cast, ↓reduceIte, Nat.reduceEqDiff, Nat.reduceBEq, Nat.reduceAdd, Nat.reduceSub, Int.reduceToNat, *]) | skip)
  ·have ap1 : vI [.agg [.lst false 1 (lsF L), .lst false 1 (ps.map fun s => .val (.string s)), .val (.int .i64 wd), .val (.int .i64 mo), .val (.int .i64 li)]] = _ := aiU hok (by omega)
   have hB : blB L ps wd mo li = true := by
    cases hB : blB L ps wd mo li with
    | true => rfl
    | false => unfold blL at h0; rw [if_neg (by rw [hB]; decide)] at h0; simp at h0
   have hBL : blL L ps wd mo li = blK L ps wd mo L.length := if_pos hB
   have hBC : blC L ps wd mo li = bcK L ps wd mo L.length := if_pos hB
   have hwol : xB (blL L ps wd mo li) = L.flatten := by rw [hBL]; exact axH hB
   have hL0 : ¬ L.length = 0 := fun h => by
    rw [hBL, h] at h0
    exact h0 rfl
   have hwp : 0 < (L.flatten).length := by
    obtain ⟨n, hn⟩ : ∃ n, L.length = n + 1 := ⟨L.length - 1, by omega⟩
    have h1 := anY hB (k := 0) (by omega)
    unfold lC at h1
    rw [Bool.and_eq_true] at h1
    have h2 := (pJ.1 h1.1).2.2.1
    cases hLL : L with
    | nil => rw [hLL] at hL0; exact absurd rfl hL0
    | cons a t =>
     rw [hLL] at h2
     have h3 : 0 < a.length := h2
     rw [List.flatten_cons, List.length_append]
     omega
   have apw := afX (akg (l := blL L ps wd mo li) (by omega) (by rw [hBL]; exact aen _)) (by rw [hwol]; exact hwp)
   rw [hwol] at apw
   have aps := acQ (l := blC L ps wd mo li) (by rw [hBC]; exact ayR L ps wd mo _ (by omega))
   have hsum : adv (blC L ps wd mo li) = ((blL L ps wd mo li).length : Int) := by rw [hBL, hBC]; exact aiI L ps wd mo _
   have hcl : (blC L ps wd mo li).length = L.length := by rw [hBC]; exact og L ps wd mo _
   have hfl : (L.flatten).length ≤ 78 := by
    have := alC (l := L) (c := 13) fun x hx => (hL2 x hx).1
    have : L.length * 13 ≤ 5 * 13 := Nat.mul_le_mul_right _ (by omega)
    omega
   have hft := fun k => wY (l := L) k
   rw [hB] at ap1 ap2
   rw [hsum] at aps
   have ap3 := zV (a := blL L ps wd mo li) (b := blL L ps wd mo li) (by omega) (by omega)
   have ap4 := agx (a := blC L ps wd mo li) (b := blC L ps wd mo li) (by omega) (by omega)
   have ap9 := zV (a := L.flatten) (b := L.flatten) (by omega) (by omega)
   clear hpre hbyte hL2 hok hps hB hBL hBC hwol hwp hsum
   generalize blL L ps wd mo li = BL at *
   generalize blC L ps wd mo li = BC at *
   have glbw_c13 := uj; have glbw_c14 := vw; have glbw_c15 := uW; have glbw_c12 := uh; have glbw_c17 := uy; have glbw_c8 := aai; have glbw_c16 := vB; have glbw_c9 := aaH
   (repeat' (first | (with_reducible first | apply bF | apply av | apply aO | apply aJ | apply bC | apply dY | apply bA | apply bH | apply d9 | apply bE | apply bJ | apply dX | apply bI | apply bG | apply bD) | ((with_reducible apply au); (simp only [List.map_cons, List.map_nil] <;> exact rfl)) | ((with_reducible apply aI); (simp only [List.map_cons, List.map_nil] <;> exact rfl); decide +kernel) | ((with_reducible apply bB); rfl) | ((first | ((with_reducible apply i_V); rfl; rfl; rfl) | ((first | ((with_reducible apply i_E); rfl) | ((with_reducible apply i_S); rfl)); first | rfl | (simp only [push_cast, ↓reduceIte])) | ((with_reducible apply dW); rfl; rfl) | ((with_reducible apply dZ); rfl; rfl; rfl) | (with_reducible first | apply dV | apply aL)); (simp (disch := (first | omega | (simp only [push_cast]; first | done | omega))) only [push_cast, ↓reduceIte, Nat.reduceEqDiff, Nat.reduceBEq, Nat.reduceAdd, Nat.reduceSub, Int.reduceToNat, *] <;> with_reducible exact rfl); all_goals try (first | (with_reducible first | refine hyT ?_ | refine hyF ?_ | exact hyA | exact hyB) | (intro hX; first | (cases hX; done) | ((try simp only [decide_eq_true_eq, decide_eq_false_iff_not, Bool.not_eq_true', Bool.not_eq_false'] at hX); (try have hXb := aj.1 hX))))))); all_goals try (exfalso; omega)
   refine aT (α := Nat × Nat × Nat) mixed (fun i => [(3, .own 0 5 0 0), (4, .lst true 1 (BL.map fun s => .val (.string s))), (5, .lst true 1 (BC.map fun n => .val (.int .i64 n))), (10, .row i.2.1 1 0 ((L.take i.1).flatten).length), (11, iv i.1)])
    (fun i => [(0, 40, 5, [.agg [.lst true 1 (lsE L), .lst true 1 (ps.map fun s => .val (.string s)), .val (.int .i64 wd), .val (.int .i64 mo), .val (.int .i64 li)]]), (i.2.1, 9, 1, ((L.take i.1).flatten).map fun s => .val (.string s))])
    (fun i => i.2.2) (fun i => i.1 ≤ L.length ∧ 0 < i.2.1 ∧ i.2.1 < i.2.2) (fun i => L.length - i.1) (by kernel_rfl) (0, 1, 2) ⟨Nat.zero_le _, by decide, by decide⟩ ?_ ?_ rfl ?_
   ·simp (disch := (first | omega | (simp only [push_cast]; first | done | omega))) only [push_cast, ↓reduceIte, Nat.reduceEqDiff, Nat.reduceBEq, Nat.reduceAdd, Nat.reduceSub, Int.reduceToNat, List.length_append, *]
    rfl
   ·simp (disch := (first | omega | (simp only [push_cast]; first | done | omega))) only [push_cast, ↓reduceIte, Nat.reduceEqDiff, Nat.reduceBEq, Nat.reduceAdd, Nat.reduceSub, Int.reduceToNat, List.length_append, *]
    rfl
   rintro ⟨k, o, nx⟩ ⟨hk, ho, hon⟩
   dsimp only at hk ho hon
   have hbl := hft k
   by_cases hkl : k < L.length
   ·have h13 := hL13 k
    have hn1 : (L.take (k + 1)).flatten = (L.take k).flatten ++ (L[k]?.getD []) := by
     rw [List.take_succ_eq_append_getElem hkl, List.flatten_append, List.getElem?_eq_getElem hkl, Option.getD_some]
     simp
    replace hn1 := Lib.hid hn1
    clear hft hL13
    generalize (L.take k).flatten = B at *
    (repeat' (first | (with_reducible first | apply bF | apply av | apply aO | apply aJ | apply bC | apply dY | apply bA | apply bH | apply d9 | apply bE | apply bJ | apply dX | apply bI | apply bG | apply bD) | ((with_reducible apply au); (simp only [List.map_cons, List.map_nil] <;> exact rfl)) | ((with_reducible apply aI); (simp only [List.map_cons, List.map_nil] <;> exact rfl); decide +kernel) | ((with_reducible apply bB); rfl) | ((first | ((with_reducible apply i_V); rfl; rfl; rfl) | ((first | ((with_reducible apply i_E); rfl) | ((with_reducible apply i_S); rfl)); first | rfl | (simp only [push_cast, ↓reduceIte])) | ((with_reducible apply dW); rfl; rfl) | ((with_reducible apply dZ); rfl; rfl; rfl) | (with_reducible first | apply dV | apply aL)); (simp (disch := (first | omega | (simp only [push_cast]; first | done | omega))) only [push_cast, ↓reduceIte, Nat.reduceEqDiff, Nat.reduceBEq, Nat.reduceAdd, Nat.reduceSub, Int.reduceToNat, *] <;> with_reducible exact rfl); all_goals try (first | (with_reducible first | refine hyT ?_ | refine hyF ?_ | exact hyA | exact hyB) | (intro hX; first | (cases hX; done) | ((try simp only [decide_eq_true_eq, decide_eq_false_iff_not, Bool.not_eq_true', Bool.not_eq_false'] at hX); (try have hXb := aj.1 hX))))))); all_goals try (exfalso; omega)
    refine ⟨(k + 1, nx, nx + 1), ⟨by dsimp only; omega, by dsimp only; omega, by dsimp only; omega⟩, by dsimp only; omega, ?_, ?_, rfl⟩
    ·dsimp only
     rw [hn1.out]
     exact agi
    ·dsimp only
     rw [hn1.out]
     exact agr
   ·obtain rfl : k = L.length := by omega
    have hall : L.take L.length = L := List.take_length
    rw [hall] at *
    clear hft hL13
    generalize L.flatten = F at *
    exact wlkS
 ·have glbw_c13 := uj; have glbw_c14 := vw; have glbw_c15 := uW; have glbw_c12 := uh; have glbw_c17 := uy; have glbw_c8 := aai; have glbw_c16 := vB; have glbw_c9 := aaH
  exact wlkS
end Go.Proofs.YtngcedklbinhjaaGreatDoor
namespace Go.Proofs.YtngcedklbinhjaaGreatDoor
open Go.ChangeShapes Go.WideShapes Go.ChangeAt Go.RowKit
open Go.ChangeMaps (open_string shut_string)
set_option linter.all false
theorem own : ownKnob Tryz.prog.godebug = none := by kernel_rfl
theorem laidOut : laidOutB Tryz.prog = true := by kernel_rfl
theorem wf_u8 {x : Int} (h : (Lit.int .u8 x).wf = true) : 0 ≤ x ∧ x ≤ 255 := by
 simpa [Lit.wf, IntKind.min, IntKind.max, IntKind.signed, IntKind.bits] using h
theorem addr_add (b off i : Nat) : (⟨b, off, none⟩ : Addr).add i = ⟨b, off + i, none⟩ := by
 unfold Addr.add
 by_cases h : i = 0 <;> simp [h]
theorem apV {w : World} {a : Addr} {v : Value} (h : w.cell? a = some v) : a.block < w.heap.size := by
 unfold World.cell? at h
 by_cases hb : a.block < w.heap.size
 ·exact hb
 ·rw [Array.getElem?_eq_none (by omega)] at h
  cases a.spot <;> simp at h
abbrev gW (W : World) : Gh := ad4 fun b => b < W.heap.size
section
variable {H : Type} {enc : TypeId × Value → H} {P : Program} {W : World} {base : Nat} {α β γ δ ε : Type}
def OpC (enc : TypeId × Value → H) (P : Program) (W : World) (base : Nat) (t : TypeId) (A : Dec α) (ok : α → Prop) : Prop :=
 ∀ fuel cs x, DataW.trod enc P W base (fun _ => true) true fuel t cs = some x → ∃ a v, ok a ∧ Rep (gW W) W (A.e a) v ∧ v.cells.toList = cs ∧ v.cells.all (·.oneCell') = true
theorem opU {t : TypeId} (ht : P.underlying t = some (.int .u8)) : OpC enc P W base t dU axu := fun fuel cs x h => by
 obtain ⟨n, rfl, _, hw⟩ := DataW.trod_int ht h
 exact ⟨n, .int .u8 n, wf_u8 hw, rfl, rfl, by simp [Value.cells, Value.oneCell']⟩
theorem asE {n : Nat} {p : Nat → α → Prop} (h : ∀ i, i < n → ∃ x, p i x) : ∃ l : List α, l.length = n ∧ ∀ i a, l[i]? = some a → p i a := by
 induction n with
 | zero => exact ⟨[], rfl, fun i a h => by simp at h⟩
 | succ n ih =>
  obtain ⟨l, hl, hp⟩ := ih fun i hi => h i (by omega)
  obtain ⟨x, hx⟩ := h n (by omega)
  refine ⟨l ++ [x], by simp [hl], fun i a hi => ?_⟩
  rw [List.getElem?_append] at hi
  split at hi
  ·exact hp i a hi
  ·rename_i hlt
   have : i - l.length = 0 := by
    by_cases h0 : i - l.length = 0
    ·exact h0
    ·rw [List.getElem?_eq_none (by simp; omega)] at hi
     cases hi
   rw [this] at hi
   simp at hi
   subst hi
   have : i = n := by omega
   subst this
   exact hx
theorem opL {t e : TypeId} {A : Dec α} {ok : α → Prop} (sz : Nat) (ht : P.underlying t = some (.slice e)) (hs : P.cellsOf e = sz) (h0 : 0 < sz) (hA : OpC enc P W base e A ok) : OpC enc P W base t (dL sz A) (okL ok) := fun fuel cs x h => by
 rcases Go.Deep.open_slice ht h with ⟨rfl, _⟩ | ⟨x, len, cap, m, n, D, Pl, rfl, hb, hl, hm, hmm, _, hx⟩
 ·exact ⟨[], .slice none 0 0, ⟨by simp, by simp⟩, ⟨none, 0, rfl, by simp, by simp, .inl rfl⟩, rfl, by simp [Value.cells, Value.oneCell']⟩
 have hm2 : m = cap := by simpa using hmm
 have hcap : cap ≤ 9223372036854775807 := hm
 obtain ⟨l, hlen, hp⟩ := asE (n := len) (p := fun i a => ok a ∧ ∃ v, Rep (gW W) W (A.e a) v ∧ v.cells.size = sz ∧ v.cells.all (·.oneCell') = true ∧ ∀ j, j < sz → W.cell? ((x.add (i * sz)).add j) = v.cells[j]?) (fun i hi => by
  obtain ⟨cs', h1, h2⟩ := hx i (by omega)
  obtain ⟨a, v, h3, h4, h5, h6⟩ := hA _ _ _ h2
  obtain ⟨_, h7, h8⟩ := World.cells?_some h1
  rw [hs] at h7 h8
  refine ⟨a, h3, v, h4, ?_, h6, fun j hj => ?_⟩
  ·rw [← h7, ← h5]; simp
  ·rw [h8 j hj, ← h5]; simp)
 refine ⟨l, .slice (some x) len cap, ⟨by omega, fun a ha => ?_⟩, ?_, rfl, by simp [Value.cells, Value.oneCell']⟩
 ·obtain ⟨i, hi, rfl⟩ := List.getElem_of_mem ha
  exact (hp i _ (by simp [hi])).1
 ·refine ⟨some x, cap, by simp [hlen], by simp [hlen]; omega, hcap, ?_⟩
  by_cases hn : l = []
  ·exact .inl (by simp [hn])
  right
  have hl0 : 0 < l.length := List.length_pos_iff.2 hn
  obtain ⟨_, v, h4, h5, h6, h7⟩ := hp 0 l[0] (by simp [hl0])
  have h8 := h7 0 h0
  have h9 : v.cells[0]? = some v.cells[0] := by simp
  rw [h9] at h8
  have hspot := World.cell?_spot h8
  have hlt := apV h8
  obtain ⟨b, off, spot⟩ := x
  simp only [Nat.zero_mul, Addr.add, if_true] at hspot hlt
  subst hspot
  refine ⟨b, off, rfl, ⟨rfl, hlt⟩, dx.of fun i p hi => ?_⟩
  rw [List.getElem?_map, Option.map_eq_some_iff] at hi
  obtain ⟨a, ha, rfl⟩ := hi
  obtain ⟨_, v, h4, h5, h6, h7⟩ := hp i a ha
  refine ⟨v, h4, ⟨h6, fun j hj => ?_⟩, h5⟩
  have := h7 j (by omega)
  rwa [addr_add, addr_add] at this
theorem opF {t : TypeId} {A : Dec α} {ok : α → Prop} {n : Nat} {cs : List Value} {y : DataW H × List MemPlace} (hA : OpC enc P W base t A ok) (h1 : ∀ a, ny (A.e a) = true)
  (h : DataW.trod enc P W base (fun _ => true) true n t cs = some y) : ∃ a v, ok a ∧ Rep (gW W) W (A.e a) v ∧ v.oneCell' = true ∧ cs = [v] := by
 obtain ⟨a, v, h3, h4, h5, h6⟩ := hA _ _ _ h
 have := yj h4 (h1 a)
 exact ⟨a, v, h3, h4, this, by rw [← h5, oK this]⟩
theorem op1 {t : TypeId} {A : Dec α} {ok : α → Prop} {v : Value} {d : DataW H} {p : List MemPlace} (hA : OpC enc P W base t A ok) (h1 : ∀ a, ny (A.e a) = true) (hv : v.cells = #[v])
  (h : DataW.Trod enc P W base (fun _ => true) true t v d p) : ∃ a, ok a ∧ Rep (gW W) W (A.e a) v := by
 obtain ⟨fuel, hf⟩ := h
 obtain ⟨a, u, h3, h4, h5, h6⟩ := opF hA h1 hf
 rw [hv] at h6
 have : v = u := by simpa using h6
 subst this
 exact ⟨a, h3, h4⟩
theorem asZ {f : Nat} {φ : Fun} {ps : List PV} {args : Array Value} (h : Sound P f φ) (hT : rM W fun _ => False) (ha : φ ps = some (bv true)) (hr : dQ (gW W) W ps args.toList) :
  Calls P f args W fun e w' => e = .returned (.bool true) ∧ Below W.heap.size W w' := by
 refine (h W (fun b => b < W.heap.size) ps args _ ha (fun b hb => hb) hT hr).mono ?_
 rintro e w' ⟨v, rfl, hb, hv⟩
 have := hv { I := fun _ _ => True, β := fun _ => 0, κ := fun _ => 0, nx := 0 } fun b _ _ => trivial
 have hv2 : v = .bool true := this
 subst hv2
 exact ⟨rfl, hb⟩
end
end Go.Proofs.YtngcedklbinhjaaGreatDoor
