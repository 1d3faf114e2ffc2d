/- What the proof rests on, part 19: contracts of functions. No condition beyond what each states. -/
import Derived.Test.YtngcedklbinhjaaZBp18
namespace Go.Proofs.Ytngcedklbinhjaa
open Go.RowKit
set_option linter.all false
noncomputable def blK (p : List LS) (q : LS) (x y : Int) : Nat → LS
  | 0 => []
  | k + 1 => blK p q x y k ++ pglV (p[k]?.getD []) q x y
noncomputable def bcK (p : List LS) (q : LS) (x y : Int) : Nat → List Int
  | 0 => []
  | k + 1 => bcK p q x y k ++ [((pglV (p[k]?.getD []) q x y).length : Int)]
noncomputable def blB (p : List LS) (q : LS) (x y z : Int) : Bool := bookB p q x y z && p.all fun w => pglB w q x y
noncomputable def blL (p : List LS) (q : LS) (x y z : Int) : LS := if blB p q x y z = true then blK p q x y p.length else []
noncomputable def blC (p : List LS) (q : LS) (x y z : Int) : List Int := if blB p q x y z = true then bcK p q x y p.length else []
theorem blK_len (p : List LS) (q : LS) (x y : Int) : ∀ k, (blK p q x y k).length ≤ 60 * k
  | 0 => by simp [blK]
  | k + 1 => by
    have := blK_len p q x y k
    have h2 := (pglV_ok (p[k]?.getD []) q x y).1
    rw [blK, List.length_append]
    omega
theorem bcK_len (p : List LS) (q : LS) (x y : Int) : ∀ k, (bcK p q x y k).length = k
  | 0 => rfl
  | k + 1 => by rw [bcK, List.length_append, bcK_len p q x y k]; rfl
theorem pgl_pos {ws pats : LS} {wd most : Int} (h : pglB ws pats wd most = true) : 0 < (pglV ws pats wd most).length := by
  unfold pglV
  rw [if_pos h, lnsK_len]
  unfold pglB at h
  rw [Bool.and_eq_true] at h
  obtain ⟨h1, h2⟩ := h
  have hV : piV ws pats = piR ws pats := if_pos h1
  rw [hV] at h2
  exact bkF_pos (brkOk_iff.1 h2).2.1 (brkOk_iff.1 h2).2.2.2.2
theorem pgl_nil {ws pats : LS} {wd most : Int} (h : pglB ws pats wd most = false) : pglV ws pats wd most = [] := by
  unfold pglV
  rw [if_neg (by rw [h]; decide)]
theorem blK_pos {p : List LS} {q : LS} {x y : Int} : ∀ {k : Nat}, (∀ j, j < k → pglB (p[j]?.getD []) q x y = true) → 0 < k → 0 < (blK p q x y k).length
  | 0, _, h => by omega
  | k + 1, h, _ => by
    have := pgl_pos (h k (by omega))
    rw [blK, List.length_append]
    omega
noncomputable def φBl : Fun := F1 dBook fun b => if okBk b.1 b.2.1 then some (.tup [.lst true 1 ((blL b.1 b.2.1 b.2.2.1 b.2.2.2.1 b.2.2.2.2).map fun s => .val (.string s)), .lst true 1 ((blC b.1 b.2.1 b.2.2.1 b.2.2.2.1 b.2.2.2.2).map fun n => .val (.int .i64 n)), bv (blB b.1 b.2.1 b.2.2.1 b.2.2.2.1 b.2.2.2.2)]) else none
theorem φBl_ap {p : List LS} {q : LS} {x y z : Int} (h : okBk p q) : φBl [.agg [.lst false 1 (p.map fun p => .lst false 1 (p.map fun s => .val (.string s))), .lst false 1 (q.map fun s => .val (.string s)), .val (.int .i64 x), .val (.int .i64 y), .val (.int .i64 z)]] = some (.tup [.lst true 1 ((blL p q x y z).map fun s => .val (.string s)), .lst true 1 ((blC p q x y z).map fun n => .val (.int .i64 n)), .val (.bool (blB p q x y z))]) :=
  (F1_ap (A := dBook) (p, q, x, y, z)).trans (if_pos h)
noncomputable def φPgi : Fun := pureN ΨPgi
theorem implPgi_ok : Sound Try.prog 15 φPgi := implPgiN.pure
theorem φPgi_ap {ws pats : LS} {wd most : Int} (h : okSs ws ∧ okSs pats) (h0 : 0 < (pglV ws pats wd most).length) : φPgi [.lst false 1 (ws.map fun s => .val (.string s)), .lst false 1 (pats.map fun s => .val (.string s)), .val (.int .i64 wd), .val (.int .i64 most)] = some (.tup [.lst true 1 ((pglV ws pats wd most).map fun s => .val (.string s)), .val (.bool (pglB ws pats wd most))]) := by
  have hp : 0 < ((pglV ws pats wd most).map fun s => PV.val (.string s)).length := by simpa using h0
  refine pureN_of (r := .tup [.row 0 1 0 (pglV ws pats wd most).length, .val (.bool (pglB ws pats wd most))]) (cs0 := [(9, 1, (pglV ws pats wd most).map fun s => .val (.string s))]) ((G4_ap (A := dSs) (B := dSs) (C := dI) (D := dI) ws pats wd most).trans ((if_pos h).trans (by rw [nP_pos hp, nC_pos hp, List.length_map]))) ?_
  rw [ls_one]
  (simp (disch := (first | omega | (simp only [push_cast]; first | done | omega))) only [push_cast, ↓reduceIte, Nat.reduceEqDiff, Nat.reduceBEq, Nat.reduceAdd, Nat.reduceSub, Int.reduceToNat, *] <;> with_reducible exact rfl)
theorem φPgi_no {ws pats : LS} {wd most : Int} (h : okSs ws ∧ okSs pats) (h0 : pglB ws pats wd most = false) : φPgi [.lst false 1 (ws.map fun s => .val (.string s)), .lst false 1 (pats.map fun s => .val (.string s)), .val (.int .i64 wd), .val (.int .i64 most)] = some (.tup [.val (.slice none 0 0), .val (.bool false)]) := by
  refine pureN_of (r := .tup [.val (.slice none 0 0), .val (.bool false)]) (cs0 := []) ((G4_ap (A := dSs) (B := dSs) (C := dI) (D := dI) ws pats wd most).trans ((if_pos h).trans (by rw [pgl_nil h0, h0]; rfl))) ?_
  (simp (disch := (first | omega | (simp only [push_cast]; first | done | omega))) only [push_cast, ↓reduceIte, Nat.reduceEqDiff, Nat.reduceBEq, Nat.reduceAdd, Nat.reduceSub, Int.reduceToNat, *] <;> with_reducible exact rfl)
abbrev lsP (p : List LS) : PV := .lst false 1 (p.map fun p => .lst false 1 (p.map fun s => .val (.string s)))
noncomputable def GBls : Ctx := { fn := fun f => if f = 49 then some φBookV else if f = 13 then some φPgl else none, io := fun f => none }
theorem GBls_ok : SoundΓ Try.prog GBls := ⟨(fun f φ h => by
  unfold GBls at h
  dsimp only at h
  split at h
  · rename_i hf; cases h; subst hf; exact ⟨⟨_, Try.func49, rfl, rfl⟩, specBookValid_ok⟩
  split at h
  · rename_i hf; cases h; subst hf; exact ⟨⟨_, Try.func13, rfl, rfl⟩, specPgl_ok⟩
  cases h), (fun f φ h => by
  unfold GBls at h
  dsimp only at h
  cases h), rfl⟩
theorem GBls_49 (ob : Objs) (ps : List PV) : evCall GBls ob 49 ps = (ps.mapM (reify false 0 ob fuel)).bind φBookV := by
  have h : GBls.fn 49 = some φBookV := by simp [GBls]
  unfold evCall
  rw [h]
  cases ps.mapM (reify false 0 ob fuel) <;> rfl
theorem GBls_13 (ob : Objs) (ps : List PV) : evCall GBls ob 13 ps = (ps.mapM (reify false 0 ob fuel)).bind φPgl := by
  have h : GBls.fn 13 = some φPgl := by simp [GBls]
  unfold evCall
  rw [h]
  cases ps.mapM (reify false 0 ob fuel) <;> rfl
set_option maxHeartbeats 16000000 in
theorem specBl_ok : Sound Try.prog 23 φBl := by
  refine sound_pq mixed GBls_ok Try.func23 rfl 53 rfl [.tmp 2, .tmp 3, .tmp 4] rfl (by kernel_rfl) fun ps r hr => ?_
  obtain ⟨⟨p, q, x, y, z⟩, rfl, hq⟩ := F1_some hr
  clear hr
  split at hq
  case isFalse => cases hq
  case isTrue hpre =>
  cases hq
  refine ⟨by simp, ?_⟩
  simp only [dIs, dUs, dSs, dI_e, dU_e, dB_e, dS_e, dFn_e, dL_e, dA2_e, dA3_e, dA4_e, dA5_e]
  (try dsimp only at hpre ⊢)
  have apv := φBookV_ap (x := x) (y := y) (z := z) hpre
  obtain ⟨hlen, hall, hoq⟩ := hpre
  have api := fun k : Nat => φPgl_ap (wd := x) (most := y) ⟨hall k, hoq⟩
  have hp60 := fun k : Nat => (pglV_ok (p[k]?.getD []) q x y).1
  have hbk := blK_len p q x y
  have hck := bcK_len p q x y
  unfold blL blC blB
  cases hb : bookB p q x y z with
  | false =>
    rw [hb] at apv
    simp only [Bool.false_and, Bool.false_eq_true, if_false, List.map_nil]
    clear api hp60 hbk hck hall hoq hb
    have gbls_c49 := GBls_49; have gbls_c13 := GBls_13
    exact wlkF
  | true =>
    rw [hb] at apv
    have h6 : p.length ≤ 6 := by
      unfold bookB at hb
      simp only [Bool.and_eq_true, decide_eq_true_eq] at hb
      exact hb.2.1
    simp only [Bool.true_and]
    clear hall hoq hb
    have gbls_c49 := GBls_49; have gbls_c13 := GBls_13
    (refine wlk ?_; intros)
    refine i_loop (α := Nat × Nat × Nat × Nat) mixed (fun i => [(1, .own 0 5 0 0), (5, .row i.2.1 1 0 (blK p q x y i.1).length), (6, .row i.2.2.1 1 0 i.1), (7, iv i.1)])
      (fun i => [(0, 38, 5, [.agg [lsP p, .lst false 1 (q.map fun s => .val (.string s)), .val (.int .i64 x), .val (.int .i64 y), .val (.int .i64 z)]]), (i.2.1, 9, 1, (blK p q x y i.1).map fun s => .val (.string s)), (i.2.2.1, 3, 1, (bcK p q x y i.1).map fun n => .val (.int .i64 n))])
      (fun i => i.2.2.2) (fun i => i.1 ≤ p.length ∧ (0 < i.2.1 ∧ 0 < i.2.2.1 ∧ i.2.1 ≠ i.2.2.1 ∧ i.2.1 < i.2.2.2 ∧ i.2.2.1 < i.2.2.2) ∧ ∀ j, j < i.1 → pglB (p[j]?.getD []) q x y = true) (fun i => p.length - i.1) (by kernel_rfl) (0, 1, 2, 3) ⟨Nat.zero_le _, by decide, fun j hj => by dsimp only at hj; omega⟩ ?_ ?_ rfl ?_
    · have h0 : (blK p q x y 0).length = 0 := rfl
      exact agi
    · have h0 : blK p q x y 0 = [] := rfl
      have h1 : bcK p q x y 0 = [] := rfl
      exact agr
    rintro ⟨k, o1, o2, nx⟩ ⟨hk, ⟨ho1, ho2, ho3, ho4, ho5⟩, hok⟩
    dsimp only at hk ho1 ho2 ho3 ho4 ho5 hok
    have ho6 : ¬ o2 = o1 := fun e => ho3 e.symm
    replace ho3 : ¬ o1 = o2 := ho3
    have hok' := Lib.hid hok
    clear hok
    have hbl := hbk k
    have hcl := hck k
    by_cases hkl : k < p.length
    · have ap := api k
      have h60 := hp60 k
      have hn1 : blK p q x y (k + 1) = blK p q x y k ++ pglV (p[k]?.getD []) q x y := rfl
      have hn2 : bcK p q x y (k + 1) = bcK p q x y k ++ [((pglV (p[k]?.getD []) q x y).length : Int)] := rfl
      have hno : pglB (p[k]?.getD []) q x y = false → (p.all fun w => pglB w q x y) = false := fun h => all_noK (d := []) hkl h
      have hys : pglB (p[k]?.getD []) q x y = true → ∀ j, j < k + 1 → pglB (p[j]?.getD []) q x y = true := fun h j hj => by
        rcases Nat.lt_or_ge j k with h1 | h1
        · exact hok'.out j h1
        · obtain rfl : j = k := by omega
          exact h
      replace hn1 := Lib.hid hn1
      replace hn2 := Lib.hid hn2
      replace hys := Lib.hid hys
      clear api hp60 hbk hck
      generalize pglV (p[k]?.getD []) q x y = L at *
      generalize blK p q x y k = B at *
      generalize bcK p q x y k = C at *
      cases hB : pglB (p[k]?.getD []) q x y with
      | false =>
        rw [hB] at ap
        rw [hno hB]
        clear hno hys hB hn1 hn2
        simp only [Bool.false_eq_true, if_false, List.map_nil]
        exact wlkF
      | true =>
        rw [hB] at ap
        have hys2 := hys.out hB
        replace hys2 := Lib.hid hys2
        clear hno hys hB
        (refine wlk ?_; intros)
        refine ⟨(k + 1, nx, nx + 2, nx + 3), ⟨by dsimp only; omega, by refine ⟨?_, ?_, ?_, ?_, ?_⟩ <;> (dsimp only; omega), hys2.out⟩, by dsimp only; omega, ?_, ?_, rfl⟩
        · dsimp only
          rw [hn1.out]
          exact agi
        · dsimp only
          rw [hn1.out, hn2.out]
          exact agr
    · obtain rfl : k = p.length := by omega
      have hall2 : (p.all fun w => pglB w q x y) = true := all_yesK (d := []) fun j hj => hok'.out j hj
      rw [hall2]
      simp only [if_true]
      clear api hp60 hbk hck hall2
      generalize blK p q x y p.length = B at *
      generalize bcK p q x y p.length = C at *
      exact wlkF
theorem i_endN2 {P : Program} {rs : List ResultVar} {tm : Nat → PV} {ob : Objs} {nx : Nat} {x : X} {r : PV} {c' d' : CellIO} (a b : Nat) (hab : ¬ a = b) (hx : x = .normal ∨ x = .ret) (h1 : ((resPs P ⟨tm, ob, nx⟩ rs).bind fun qs => handF [a, b] ob fuel (onePV qs)) = some r) (h2 : handC [a, b] ob fuel a = some c') (h3 : handC [a, b] ob fuel b = some d') : PostIO P rs 0 r [c', d'] x ⟨tm, ob, nx⟩ :=
  ⟨hx, [a, b], by simp, by simp [hab], h1, by
    show [a, b].mapM (handC [a, b] ob fuel) = some [c', d']
    rw [mapM_cons', h2, Option.bind_some, mapM_cons', h3, Option.bind_some, mapM_nil']
    rfl⟩
noncomputable def ΨBl : FunN := G1 dBook fun b => if okBk b.1 b.2.1 then some (if 0 < (blL b.1 b.2.1 b.2.2.1 b.2.2.2.1 b.2.2.2.2).length then (.tup [.row 0 1 0 (blL b.1 b.2.1 b.2.2.1 b.2.2.2.1 b.2.2.2.2).length, .row 1 1 0 (blC b.1 b.2.1 b.2.2.1 b.2.2.2.1 b.2.2.2.2).length, bv (blB b.1 b.2.1 b.2.2.1 b.2.2.2.1 b.2.2.2.2)], [(9, 1, (blL b.1 b.2.1 b.2.2.1 b.2.2.2.1 b.2.2.2.2).map fun s => .val (.string s)), (3, 1, (blC b.1 b.2.1 b.2.2.1 b.2.2.2.1 b.2.2.2.2).map fun n => .val (.int .i64 n))]) else (.tup [.val (.slice none 0 0), .val (.slice none 0 0), bv (blB b.1 b.2.1 b.2.2.1 b.2.2.2.1 b.2.2.2.2)], [])) else none
noncomputable def GBli : Ctx := { fn := fun f => if f = 48 then some φBookV else if f = 15 then some φPgi else none, io := fun f => none }
theorem GBli_ok : SoundΓ Try.prog GBli := ⟨(fun f φ h => by
  unfold GBli at h
  dsimp only at h
  split at h
  · rename_i hf; cases h; subst hf; exact ⟨⟨_, Try.func48, rfl, rfl⟩, implBookValid_ok⟩
  split at h
  · rename_i hf; cases h; subst hf; exact ⟨⟨_, Try.func15, rfl, rfl⟩, implPgi_ok⟩
  cases h), (fun f φ h => by
  unfold GBli at h
  dsimp only at h
  cases h), rfl⟩
theorem GBli_48 (ob : Objs) (ps : List PV) : evCall GBli ob 48 ps = (ps.mapM (reify false 0 ob fuel)).bind φBookV := by
  have h : GBli.fn 48 = some φBookV := by simp [GBli]
  unfold evCall
  rw [h]
  cases ps.mapM (reify false 0 ob fuel) <;> rfl
theorem GBli_15 (ob : Objs) (ps : List PV) : evCall GBli ob 15 ps = (ps.mapM (reify false 0 ob fuel)).bind φPgi := by
  have h : GBli.fn 15 = some φPgi := by simp [GBli]
  unfold evCall
  rw [h]
  cases ps.mapM (reify false 0 ob fuel) <;> rfl
set_option maxHeartbeats 16000000 in
theorem implBlN : SoundN Try.prog 22 ΨBl := by
  refine sound_pqN mixed GBli_ok Try.func22 rfl 45 rfl [.tmp 2, .tmp 3, .tmp 4] rfl (by kernel_rfl) fun ps r cs' hr => ?_
  obtain ⟨⟨p, q, x, y, z⟩, rfl, hq⟩ := G1_some hr
  clear hr
  split at hq
  case isFalse => cases hq
  case isTrue hpre =>
  simp only [Option.some.injEq] at hq
  refine ⟨by simp, ?_⟩
  simp only [dIs, dUs, dSs, dI_e, dU_e, dB_e, dS_e, dFn_e, dL_e, dA2_e, dA3_e, dA4_e, dA5_e]
  dsimp only at hpre hq ⊢
  have apv := φBookV_ap (x := x) (y := y) (z := z) hpre
  obtain ⟨hlen, hall, hoq⟩ := hpre
  have api := fun (k : Nat) h => φPgi_ap (wd := x) (most := y) ⟨hall k, hoq⟩ h
  have apn := fun (k : Nat) h => φPgi_no (wd := x) (most := y) ⟨hall k, hoq⟩ h
  have hp60 := fun k : Nat => (pglV_ok (p[k]?.getD []) q x y).1
  have hbk := blK_len p q x y
  have hck := bcK_len p q x y
  unfold blL blC blB at hq
  cases hb : bookB p q x y z with
  | false =>
    rw [hb] at apv hq
    simp only [Bool.false_and, Bool.false_eq_true, if_false, List.length_nil, Nat.lt_irrefl, Prod.mk.injEq] at hq
    obtain ⟨rfl, rfl⟩ := hq
    clear api apn hp60 hbk hck hall hoq hb
    have gbli_c48 := GBli_48; have gbli_c15 := GBli_15
    (refine wlk ?_; intros)
    all_goals ((with_reducible apply i_endN0 (by first | exact .inl rfl | exact .inr rfl)); (simp (disch := (first | omega | (simp only [push_cast]; first | done | omega))) only [push_cast, ↓reduceIte, Nat.reduceEqDiff, Nat.reduceBEq, Nat.reduceAdd, Nat.reduceSub, Int.reduceToNat, *] <;> with_reducible exact rfl))
  | true =>
    rw [hb] at apv hq
    have h6 : p.length ≤ 6 := by
      unfold bookB at hb
      simp only [Bool.and_eq_true, decide_eq_true_eq] at hb
      exact hb.2.1
    simp only [Bool.true_and] at hq
    replace hq := Lib.hid hq
    clear hall hoq hb
    have gbli_c48 := GBli_48; have gbli_c15 := GBli_15
    (refine wlk ?_; intros)
    refine i_loop (α := Nat × Nat × Nat × Nat) mixed (fun i => [(1, .own 0 5 0 0), (5, nP 1 ((blK p q x y i.1).map fun s => .val (.string s)) i.2.1), (6, nP 1 ((bcK p q x y i.1).map fun n => .val (.int .i64 n)) i.2.2.1), (15, lsP p), (16, iv p.length), (17, iv i.1)])
      (fun i => [(0, 38, 5, [.agg [lsP p, .lst false 1 (q.map fun s => .val (.string s)), .val (.int .i64 x), .val (.int .i64 y), .val (.int .i64 z)]])] ++ (nO 9 1 ((blK p q x y i.1).map fun s => .val (.string s)) i.2.1 ++ nO 3 1 ((bcK p q x y i.1).map fun n => .val (.int .i64 n)) i.2.2.1))
      (fun i => i.2.2.2) (fun i => i.1 ≤ p.length ∧ 0 < i.2.2.2 ∧ (0 < i.1 → 0 < i.2.1 ∧ 0 < i.2.2.1 ∧ i.2.1 ≠ i.2.2.1 ∧ i.2.1 < i.2.2.2 ∧ i.2.2.1 < i.2.2.2) ∧ ∀ j, j < i.1 → pglB (p[j]?.getD []) q x y = true) (fun i => p.length - i.1) (by kernel_rfl) (0, 0, 0, 1) ⟨Nat.zero_le _, by decide, fun h => absurd h (Nat.lt_irrefl 0), fun j hj => by dsimp only at hj; omega⟩ ?_ ?_ rfl ?_
    · dsimp only
      rw [show blK p q x y 0 = [] from rfl, show bcK p q x y 0 = [] from rfl, List.map_nil, List.map_nil, nP_nil]
      exact agi
    · dsimp only
      rw [show blK p q x y 0 = [] from rfl, show bcK p q x y 0 = [] from rfl, List.map_nil, List.map_nil, nO_nil, nO_nil]
      simp (disch := (first | omega | (simp only [push_cast]; first | done | omega))) only [push_cast, ↓reduceIte, Nat.reduceEqDiff, Nat.reduceBEq, Nat.reduceAdd, Nat.reduceSub, Int.reduceToNat, List.cons_append, List.nil_append, List.append_nil, *]
    rintro ⟨k, o1, o2, nx⟩ ⟨hk, hnx, hoo, hok⟩
    dsimp only at hk hnx hoo hok ⊢
    have hok' := Lib.hid hok
    have hbp := fun h => blK_pos (k := k) hok h
    clear hok
    have hbl := hbk k
    have hcl := hck k
    by_cases hkl : k < p.length
    · have ap := api k
      have apk := apn k
      have h60 := hp60 k
      have hn1 : blK p q x y (k + 1) = blK p q x y k ++ pglV (p[k]?.getD []) q x y := rfl
      have hn2 : bcK p q x y (k + 1) = bcK p q x y k ++ [((pglV (p[k]?.getD []) q x y).length : Int)] := rfl
      have hno : pglB (p[k]?.getD []) q x y = false → (p.all fun w => pglB w q x y) = false := fun h => all_noK (d := []) hkl h
      have hps := fun h => pgl_pos (ws := p[k]?.getD []) (pats := q) (wd := x) (most := y) h
      have hys : pglB (p[k]?.getD []) q x y = true → ∀ j, j < k + 1 → pglB (p[j]?.getD []) q x y = true := fun h j hj => by
        rcases Nat.lt_or_ge j k with h1 | h1
        · exact hok'.out j h1
        · obtain rfl : j = k := by omega
          exact h
      replace hn1 := Lib.hid hn1
      replace hn2 := Lib.hid hn2
      replace hys := Lib.hid hys
      clear api apn hp60 hbk hck
      generalize pglV (p[k]?.getD []) q x y = L at *
      cases hB : pglB (p[k]?.getD []) q x y with
      | false =>
        have ap2 := apk hB
        have hq2 := hq.out
        rw [hno hB] at hq2
        simp only [Bool.false_eq_true, if_false, List.length_nil, Nat.lt_irrefl, Prod.mk.injEq] at hq2
        obtain ⟨rfl, rfl⟩ := hq2
        clear ap apk hno hys hB hn1 hn2 hps hq
        by_cases hk0 : k = 0
        · subst hk0
          rw [show blK p q x y 0 = [] from rfl, show bcK p q x y 0 = [] from rfl, List.map_nil, List.map_nil, nP_nil, nO_nil, nO_nil]
          simp only [List.append_nil]
          (refine wlk ?_; intros)
          all_goals ((with_reducible apply i_endN0 (by first | exact .inl rfl | exact .inr rfl)); (simp (disch := (first | omega | (simp only [push_cast]; first | done | omega))) only [push_cast, ↓reduceIte, Nat.reduceEqDiff, Nat.reduceBEq, Nat.reduceAdd, Nat.reduceSub, Int.reduceToNat, *] <;> with_reducible exact rfl))
        · obtain ⟨ho1, ho2, ho3, ho4, ho5⟩ := hoo (by omega)
          have hb1 := hbp (by omega)
          have hb2 : 0 < ((blK p q x y k).map fun s => PV.val (.string s)).length := by rw [List.length_map]; exact hb1
          have hb3 : 0 < ((bcK p q x y k).map fun n => PV.val (.int .i64 n)).length := by rw [List.length_map]; omega
          rw [nP_pos hb2, nP_pos hb3, nO_pos hb2, nO_pos hb3]
          generalize blK p q x y k = B at *
          generalize bcK p q x y k = C at *
          simp only [List.cons_append, List.nil_append, List.length_map, hcl]
          (refine wlk ?_; intros)
          all_goals ((with_reducible apply i_endN0 (by first | exact .inl rfl | exact .inr rfl)); (simp (disch := (first | omega | (simp only [push_cast]; first | done | omega))) only [push_cast, ↓reduceIte, Nat.reduceEqDiff, Nat.reduceBEq, Nat.reduceAdd, Nat.reduceSub, Int.reduceToNat, *] <;> with_reducible exact rfl))
      | true =>
        have hL0 := hps hB
        have ap2 := ap hL0
        rw [hB] at ap2
        have hys2 := hys.out hB
        replace hys2 := Lib.hid hys2
        clear ap apk hno hys hB hps
        by_cases hk0 : k = 0
        · subst hk0
          rw [show blK p q x y 0 = [] from rfl, show bcK p q x y 0 = [] from rfl, List.map_nil, List.map_nil, nP_nil, nO_nil, nO_nil]
          rw [show blK p q x y 0 = [] from rfl, List.nil_append] at hn1
          rw [show bcK p q x y 0 = [] from rfl, List.nil_append] at hn2
          have hLp : 0 < (L.map fun s => PV.val (.string s)).length := by rw [List.length_map]; exact hL0
          simp only [List.append_nil]
          clear hbl hcl hbp
          (refine wlk ?_; intros)
          refine ⟨(0 + 1, nx, nx + 2, nx + 3), ⟨by dsimp only; omega, by dsimp only; omega, fun _ => by refine ⟨?_, ?_, ?_, ?_, ?_⟩ <;> (dsimp only; omega), hys2.out⟩, by dsimp only; omega, ?_, ?_, rfl⟩
          · dsimp only
            rw [hn1.out, hn2.out, nP_pos hLp, nP_pos (show 0 < ([((L.length : Nat) : Int)].map fun n => PV.val (.int .i64 n)).length from Nat.zero_lt_one)]
            exact agi
          · dsimp only
            rw [hn1.out, hn2.out, nO_pos hLp, nO_pos (show 0 < ([((L.length : Nat) : Int)].map fun n => PV.val (.int .i64 n)).length from Nat.zero_lt_one)]
            simp (disch := (first | omega | (simp only [push_cast]; first | done | omega))) only [push_cast, ↓reduceIte, Nat.reduceEqDiff, Nat.reduceBEq, Nat.reduceAdd, Nat.reduceSub, Int.reduceToNat, List.cons_append, List.nil_append, List.append_nil, *]
        · obtain ⟨ho1, ho2, ho3, ho4, ho5⟩ := hoo (by omega)
          have ho6 : ¬ o2 = o1 := fun e => ho3 e.symm
          replace ho3 : ¬ o1 = o2 := ho3
          have hb1 := hbp (by omega)
          have hb2 : 0 < ((blK p q x y k).map fun s => PV.val (.string s)).length := by rw [List.length_map]; exact hb1
          have hb3 : 0 < ((bcK p q x y k).map fun n => PV.val (.int .i64 n)).length := by rw [List.length_map]; omega
          have hb4 : 0 < ((blK p q x y k ++ L).map fun s => PV.val (.string s)).length := by rw [List.length_map, List.length_append]; omega
          rw [nP_pos hb2, nP_pos hb3, nO_pos hb2, nO_pos hb3]
          generalize blK p q x y k = B at *
          generalize bcK p q x y k = C at *
          simp only [List.cons_append, List.nil_append, List.length_map, hcl]
          clear hb2 hb3
          (refine wlk ?_; intros)
          refine ⟨(k + 1, nx, nx + 2, nx + 3), ⟨by dsimp only; omega, by dsimp only; omega, fun _ => by refine ⟨?_, ?_, ?_, ?_, ?_⟩ <;> (dsimp only; omega), hys2.out⟩, by dsimp only; omega, ?_, ?_, rfl⟩
          · dsimp only
            rw [hn1.out, hn2.out, nP_pos hb4, nP_pos (show 0 < ((C ++ [((L.length : Nat) : Int)]).map fun n => PV.val (.int .i64 n)).length by simp)]
            exact agi
          · dsimp only
            rw [hn1.out, hn2.out, nO_pos hb4, nO_pos (show 0 < ((C ++ [((L.length : Nat) : Int)]).map fun n => PV.val (.int .i64 n)).length by simp)]
            simp (disch := (first | omega | (simp only [push_cast]; first | done | omega))) only [push_cast, ↓reduceIte, Nat.reduceEqDiff, Nat.reduceBEq, Nat.reduceAdd, Nat.reduceSub, Int.reduceToNat, List.cons_append, List.nil_append, List.append_nil, *]
    · obtain rfl : k = p.length := by omega
      have hall2 : (p.all fun w => pglB w q x y) = true := all_yesK (d := []) fun j hj => hok'.out j hj
      have hq2 := hq.out
      rw [hall2] at hq2
      simp only [if_true] at hq2
      clear api apn hp60 hbk hck hall2 hq
      by_cases hk0 : p.length = 0
      · obtain rfl := List.eq_nil_of_length_eq_zero hk0
        change (if 0 < ([] : LS).length then _ else _) = _ at hq2
        show pq _ _ _ _ _ (lk [(1, .own 0 5 0 0), (5, nP 1 [] o1), (6, nP 1 [] o2), (15, lsP []), (16, iv ([] : List LS).length), (17, iv ([] : List LS).length)]) (lo ([(0, 38, 5, [.agg [lsP [], .lst false 1 (q.map fun s => .val (.string s)), .val (.int .i64 x), .val (.int .i64 y), .val (.int .i64 z)]])] ++ (nO 9 1 [] o1 ++ nO 3 1 [] o2))) _
        rw [nP_nil, nP_nil, nO_nil, nO_nil]
        simp only [List.length_nil, Nat.lt_irrefl, if_false, Prod.mk.injEq] at hq2
        obtain ⟨rfl, rfl⟩ := hq2
        simp only [List.append_nil]
        (refine wlk ?_; intros)
        all_goals ((with_reducible apply i_endN0 (by first | exact .inl rfl | exact .inr rfl)); (simp (disch := (first | omega | (simp only [push_cast]; first | done | omega))) only [push_cast, ↓reduceIte, Nat.reduceEqDiff, Nat.reduceBEq, Nat.reduceAdd, Nat.reduceSub, Int.reduceToNat, *] <;> with_reducible exact rfl))
      · obtain ⟨ho1, ho2, ho3, ho4, ho5⟩ := hoo (by omega)
        have ho6 : ¬ o2 = o1 := fun e => ho3 e.symm
        replace ho3 : ¬ o1 = o2 := ho3
        have hb1 := hbp (by omega)
        have hb2 : 0 < ((blK p q x y p.length).map fun s => PV.val (.string s)).length := by rw [List.length_map]; exact hb1
        have hb3 : 0 < ((bcK p q x y p.length).map fun n => PV.val (.int .i64 n)).length := by rw [List.length_map]; omega
        rw [nP_pos hb2, nP_pos hb3, nO_pos hb2, nO_pos hb3]
        rw [if_pos hb1] at hq2
        simp only [Prod.mk.injEq] at hq2
        obtain ⟨rfl, rfl⟩ := hq2
        generalize blK p q x y p.length = B at *
        generalize bcK p q x y p.length = C at *
        simp only [List.cons_append, List.nil_append, List.length_map, hcl]
        (refine wlk ?_; intros)
        all_goals ((with_reducible apply i_endN2 o1 o2 ho3 (by first | exact .inl rfl | exact .inr rfl)); (focus (simp (disch := (first | omega | (simp only [push_cast]; first | done | omega))) only [push_cast, ↓reduceIte, Nat.reduceEqDiff, Nat.reduceBEq, Nat.reduceAdd, Nat.reduceSub, Int.reduceToNat, *] <;> with_reducible exact rfl)); (focus (simp (disch := (first | omega | (simp only [push_cast]; first | done | omega))) only [push_cast, ↓reduceIte, Nat.reduceEqDiff, Nat.reduceBEq, Nat.reduceAdd, Nat.reduceSub, Int.reduceToNat, *] <;> with_reducible exact rfl)); (focus (simp (disch := (first | omega | (simp only [push_cast]; first | done | omega))) only [push_cast, ↓reduceIte, Nat.reduceEqDiff, Nat.reduceBEq, Nat.reduceAdd, Nat.reduceSub, Int.reduceToNat, *] <;> with_reducible exact rfl)))
end Go.Proofs.Ytngcedklbinhjaa
namespace Go.Proofs.Ytngcedklbinhjaa
open Go.RowKit
set_option linter.all false
noncomputable def GRb : Ctx := { fn := fun f => none, io := fun f => if f = 54 then some Φpick else if f = 55 then some Φodd else if f = 43 then some Φwords else if f = 44 then some Φpatterns else none }
theorem GRb_ok : SoundΓ Try.prog GRb := ⟨(fun f φ h => by
  unfold GRb at h
  dsimp only at h
  cases h), (fun f φ h => by
  unfold GRb at h
  dsimp only at h
  split at h
  · rename_i hf; cases h; subst hf; exact ⟨⟨_, Try.func54, rfl, rfl⟩, pick_io⟩
  split at h
  · rename_i hf; cases h; subst hf; exact ⟨⟨_, Try.func55, rfl, rfl⟩, odd_io⟩
  split at h
  · rename_i hf; cases h; subst hf; exact ⟨⟨_, Try.func43, rfl, rfl⟩, words_io⟩
  split at h
  · rename_i hf; cases h; subst hf; exact ⟨⟨_, Try.func44, rfl, rfl⟩, patterns_io⟩
  cases h), rfl⟩
abbrev lsE (L : List LS) : List PV := L.map fun p => .lst true 1 (p.map fun s => .val (.string s))
def pE (L : List LS) : PV := match L with | [] => .val (.slice none 0 0) | _ :: _ => .lst true 1 (lsE L)
theorem pE_nil : pE [] = .val (.slice none 0 0) := rfl
theorem pE_pos {L : List LS} (h : 0 < L.length) : pE L = .lst true 1 (lsE L) := by
  cases L with
  | nil => simp at h
  | cons a L => rfl
attribute [push_cast]
  OStrs pE_nil
attribute [push_cast low]
  pE_pos
theorem lsts_app {L : List LS} {v : LS} (hL : ∀ l ∈ L, okT 13 l) (hv : okT 13 v) : ∀ l ∈ L ++ [v], okT 13 l := fun l hl => by
  rcases List.mem_append.1 hl with hl | hl
  · exact hL l hl
  · simp only [List.mem_singleton] at hl
    exact hl ▸ hv
theorem okT_nil : okT 13 [] := ⟨by simp, by simp⟩
theorem okT_A : okT 13 [(⟨#[65]⟩ : ByteArray)] := ⟨by simp, by intro s hs; simp only [List.mem_singleton] at hs; subst hs; decide⟩
abbrev BD := List LS × LS × Int × Int × Int
abbrev EBk (b : BD) : PV := .agg [pE b.1, .lst true 1 (b.2.1.map fun s => .val (.string s)), iv b.2.2.1, iv b.2.2.2.1, iv b.2.2.2.2]
def okBkD (b : BD) : Prop := (b.1.length ≤ 5 ∧ ∀ l ∈ b.1, okT 13 l) ∧ okT 22 b.2.1 ∧ okI b.2.2.1 ∧ okI b.2.2.2.1 ∧ okI b.2.2.2.2
theorem handM_lsts {out : List Nat} {ob : Objs} {l : List LS} {f : Nat} : (l.map fun p => PV.lst true 1 (p.map fun s => PV.val (.string s))).mapM (handF out ob (f + 3)) = some (l.map fun p => PV.lst true 1 (p.map fun s => PV.val (.string s))) :=
  mapM_maps fun p => handS_vals
theorem hRow_ls {out : List Nat} {ob : Objs} {f T m : Nat} {es : List PV} (L : List LS) (he : es = lsE L) (hm : m = L.length) : hRow out ob (f + 3) 1 0 m none (some (T, 1, es)) = some (.lst true 1 (lsE L)) := by
  subst he
  rw [hRow_lit (by rw [List.length_map]; exact hm), handM_lsts]
  rfl
theorem hRow_lsr {out : List Nat} {ob : Objs} {f T m : Nat} {es : List PV} {last : PV} (L : List LS) (l : LS) (he : es = lsE L ++ [last]) (hm : m = L.length + 1) (hl : handF out ob (f + 3) last = some (.lst true 1 (l.map fun s => PV.val (.string s)))) :
    hRow out ob (f + 3) 1 0 m none (some (T, 1, es)) = some (.lst true 1 (lsE (L ++ [l]))) := by
  subst he
  rw [hRow_lit (by simp; exact hm), List.mapM_append, handM_lsts, mapM_cons', mapM_nil', hl]
  simp
attribute [push_cast]
  handM_lsts EBk
set_option maxHeartbeats 16000000 in
theorem book_ex : ∃ Φ : FunIO, SoundIO Try.prog 47 Φ ∧ Drw2 81 Φ 500000000 2000 EBk (fun n => 0 ≤ n ∧ n ≤ 1000) (fun _ b => okBkD b) := by
  refine drw2_of mixed GRb_ok Try.func47 rfl 90 rfl [.cell 4 38] rfl (by kernel_rfl) (by simp) _ _ _ _ _ _ fun code p n hok hp hn => ?_
  have hp0 := hok.pos
  repeat' (first | (first | (with_reducible first | apply i_seq | apply i_block | apply i_skip | apply i_exit | apply i_ret | apply i_kS | apply i_kSx | apply i_kSr | apply i_kL | apply i_kLx | apply i_kLr | apply i_kB | apply i_kBr | apply i_kBs | apply i_nil) | ((with_reducible apply i_region); (simp only [List.map_cons, List.map_nil] <;> exact rfl)) | ((with_reducible apply i_draw); (simp only [List.map_cons, List.map_nil] <;> exact rfl); decide +kernel) | ((with_reducible apply i_kBo); rfl) | ((first | ((with_reducible apply i_V); rfl; rfl; rfl) | ((first | ((with_reducible apply i_E); rfl) | ((with_reducible apply i_S); rfl)); first | rfl | (simp only [push_cast, ↓reduceIte])) | ((with_reducible apply i_Vq); rfl; rfl) | ((with_reducible apply i_Vp); rfl; rfl; rfl) | (with_reducible first | apply i_Gb | apply i_cond)); (simp (disch := (first | omega | (simp only [push_cast]; first | done | omega))) only [push_cast, ↓reduceIte, Nat.reduceEqDiff, Nat.reduceBEq, Nat.reduceAdd, Nat.reduceSub, Int.reduceToNat, *] <;> with_reducible exact rfl); all_goals try (first | (with_reducible first | refine hyT ?_ | refine hyF ?_ | exact hyA | exact hyB) | (intro hX; first | (cases hX; done) | ((try simp only [decide_eq_true_eq, decide_eq_false_iff_not, Bool.not_eq_true', Bool.not_eq_false'] at hX); (try have hXb := inB_iff.1 hX)))))) | ((with_reducible apply i_drw2 pick_drw (fun _ _ => rfl)); rfl; (simp (disch := (first | omega | (simp only [push_cast]; first | done | omega))) only [push_cast, ↓reduceIte, Nat.reduceEqDiff, Nat.reduceBEq, Nat.reduceAdd, Nat.reduceSub, Int.reduceToNat, *] <;> with_reducible exact rfl); (simp (disch := (first | omega | (simp only [push_cast]; first | done | omega))) only [push_cast, ↓reduceIte, Nat.reduceEqDiff, Nat.reduceBEq, Nat.reduceAdd, Nat.reduceSub, Int.reduceToNat, *] <;> with_reducible exact rfl); (simp (disch := (first | omega | (simp only [push_cast]; first | done | omega))) only [push_cast, ↓reduceIte, Nat.reduceEqDiff, Nat.reduceBEq, Nat.reduceAdd, Nat.reduceSub, Int.reduceToNat, *] <;> with_reducible exact rfl); assumption; omega; (focus (first | trivial | omega)); (focus (first | rfl | (simp only [push_cast, ↓reduceIte]))); intro v pp hv hok hpp1 hpp2) | ((with_reducible apply i_drw2 odd_drw (fun _ _ => rfl)); rfl; (simp (disch := (first | omega | (simp only [push_cast]; first | done | omega))) only [push_cast, ↓reduceIte, Nat.reduceEqDiff, Nat.reduceBEq, Nat.reduceAdd, Nat.reduceSub, Int.reduceToNat, *] <;> with_reducible exact rfl); (simp (disch := (first | omega | (simp only [push_cast]; first | done | omega))) only [push_cast, ↓reduceIte, Nat.reduceEqDiff, Nat.reduceBEq, Nat.reduceAdd, Nat.reduceSub, Int.reduceToNat, *] <;> with_reducible exact rfl); (simp (disch := (first | omega | (simp only [push_cast]; first | done | omega))) only [push_cast, ↓reduceIte, Nat.reduceEqDiff, Nat.reduceBEq, Nat.reduceAdd, Nat.reduceSub, Int.reduceToNat, *] <;> with_reducible exact rfl); assumption; omega; (focus (first | trivial | omega)); (focus (first | rfl | (simp only [push_cast, ↓reduceIte]))); intro v pp hv hok hpp1 hpp2) | ((with_reducible apply i_drw2 words_drw (fun _ _ => by simp only [push_cast, ↓reduceIte, Nat.reduceEqDiff, Nat.reduceBEq, Nat.reduceAdd, Nat.reduceSub, Int.reduceToNat])); (focus rfl); (focus (simp (disch := (first | omega | (simp only [push_cast]; first | done | omega))) only [push_cast, ↓reduceIte, Nat.reduceEqDiff, Nat.reduceBEq, Nat.reduceAdd, Nat.reduceSub, Int.reduceToNat, *] <;> with_reducible exact rfl)); (focus (simp (disch := (first | omega | (simp only [push_cast]; first | done | omega))) only [push_cast, ↓reduceIte, Nat.reduceEqDiff, Nat.reduceBEq, Nat.reduceAdd, Nat.reduceSub, Int.reduceToNat, *] <;> with_reducible exact rfl)); (focus (simp (disch := (first | omega | (simp only [push_cast]; first | done | omega))) only [push_cast, ↓reduceIte, Nat.reduceEqDiff, Nat.reduceBEq, Nat.reduceAdd, Nat.reduceSub, Int.reduceToNat, *] <;> with_reducible exact rfl)); (focus assumption); (focus omega); (focus (first | trivial | omega)); (focus (first | rfl | (simp only [push_cast, ↓reduceIte]))); intro v pp hv hok hpp1 hpp2) | ((with_reducible apply i_drw2N patterns_drw patterns_hE patterns_hO); (focus rfl); (focus (simp (disch := (first | omega | (simp only [push_cast]; first | done | omega))) only [push_cast, ↓reduceIte, Nat.reduceEqDiff, Nat.reduceBEq, Nat.reduceAdd, Nat.reduceSub, Int.reduceToNat, *] <;> with_reducible exact rfl)); (focus (simp (disch := (first | omega | (simp only [push_cast]; first | done | omega))) only [push_cast, ↓reduceIte, Nat.reduceEqDiff, Nat.reduceBEq, Nat.reduceAdd, Nat.reduceSub, Int.reduceToNat, *] <;> with_reducible exact rfl)); (focus (simp (disch := (first | omega | (simp only [push_cast]; first | done | omega))) only [push_cast, ↓reduceIte, Nat.reduceEqDiff, Nat.reduceBEq, Nat.reduceAdd, Nat.reduceSub, Int.reduceToNat, *] <;> with_reducible exact rfl)); (focus assumption); (focus omega); (focus (first | trivial | omega)); (focus (first | rfl | (simp only [push_cast, ↓reduceIte]))); intro v pp hv hok hpp1 hpp2))
  refine i_drawFS 14 (by simp only [List.map_cons, List.map_nil] <;> exact rfl) (by simp only [List.take_succ_cons, List.take_zero] <;> exact rfl) (by simp only [List.drop_succ_cons, List.drop_zero] <;> exact rfl) ze_38 (by decide +kernel) (by decide +kernel) ?_
  repeat' (first | (first | (with_reducible first | apply i_seq | apply i_block | apply i_skip | apply i_exit | apply i_ret | apply i_kS | apply i_kSx | apply i_kSr | apply i_kL | apply i_kLx | apply i_kLr | apply i_kB | apply i_kBr | apply i_kBs | apply i_nil) | ((with_reducible apply i_region); (simp only [List.map_cons, List.map_nil] <;> exact rfl)) | ((with_reducible apply i_draw); (simp only [List.map_cons, List.map_nil] <;> exact rfl); decide +kernel) | ((with_reducible apply i_kBo); rfl) | ((first | ((with_reducible apply i_V); rfl; rfl; rfl) | ((first | ((with_reducible apply i_E); rfl) | ((with_reducible apply i_S); rfl)); first | rfl | (simp only [push_cast, ↓reduceIte])) | ((with_reducible apply i_Vq); rfl; rfl) | ((with_reducible apply i_Vp); rfl; rfl; rfl) | (with_reducible first | apply i_Gb | apply i_cond)); (simp (disch := (first | omega | (simp only [push_cast]; first | done | omega))) only [push_cast, ↓reduceIte, Nat.reduceEqDiff, Nat.reduceBEq, Nat.reduceAdd, Nat.reduceSub, Int.reduceToNat, *] <;> with_reducible exact rfl); all_goals try (first | (with_reducible first | refine hyT ?_ | refine hyF ?_ | exact hyA | exact hyB) | (intro hX; first | (cases hX; done) | ((try simp only [decide_eq_true_eq, decide_eq_false_iff_not, Bool.not_eq_true', Bool.not_eq_false'] at hX); (try have hXb := inB_iff.1 hX)))))) | ((with_reducible apply i_drw2 pick_drw (fun _ _ => rfl)); rfl; (simp (disch := (first | omega | (simp only [push_cast]; first | done | omega))) only [push_cast, ↓reduceIte, Nat.reduceEqDiff, Nat.reduceBEq, Nat.reduceAdd, Nat.reduceSub, Int.reduceToNat, *] <;> with_reducible exact rfl); (simp (disch := (first | omega | (simp only [push_cast]; first | done | omega))) only [push_cast, ↓reduceIte, Nat.reduceEqDiff, Nat.reduceBEq, Nat.reduceAdd, Nat.reduceSub, Int.reduceToNat, *] <;> with_reducible exact rfl); (simp (disch := (first | omega | (simp only [push_cast]; first | done | omega))) only [push_cast, ↓reduceIte, Nat.reduceEqDiff, Nat.reduceBEq, Nat.reduceAdd, Nat.reduceSub, Int.reduceToNat, *] <;> with_reducible exact rfl); assumption; omega; (focus (first | trivial | omega)); (focus (first | rfl | (simp only [push_cast, ↓reduceIte]))); intro v pp hv hok hpp1 hpp2) | ((with_reducible apply i_drw2 odd_drw (fun _ _ => rfl)); rfl; (simp (disch := (first | omega | (simp only [push_cast]; first | done | omega))) only [push_cast, ↓reduceIte, Nat.reduceEqDiff, Nat.reduceBEq, Nat.reduceAdd, Nat.reduceSub, Int.reduceToNat, *] <;> with_reducible exact rfl); (simp (disch := (first | omega | (simp only [push_cast]; first | done | omega))) only [push_cast, ↓reduceIte, Nat.reduceEqDiff, Nat.reduceBEq, Nat.reduceAdd, Nat.reduceSub, Int.reduceToNat, *] <;> with_reducible exact rfl); (simp (disch := (first | omega | (simp only [push_cast]; first | done | omega))) only [push_cast, ↓reduceIte, Nat.reduceEqDiff, Nat.reduceBEq, Nat.reduceAdd, Nat.reduceSub, Int.reduceToNat, *] <;> with_reducible exact rfl); assumption; omega; (focus (first | trivial | omega)); (focus (first | rfl | (simp only [push_cast, ↓reduceIte]))); intro v pp hv hok hpp1 hpp2) | ((with_reducible apply i_drw2 words_drw (fun _ _ => by simp only [push_cast, ↓reduceIte, Nat.reduceEqDiff, Nat.reduceBEq, Nat.reduceAdd, Nat.reduceSub, Int.reduceToNat])); (focus rfl); (focus (simp (disch := (first | omega | (simp only [push_cast]; first | done | omega))) only [push_cast, ↓reduceIte, Nat.reduceEqDiff, Nat.reduceBEq, Nat.reduceAdd, Nat.reduceSub, Int.reduceToNat, *] <;> with_reducible exact rfl)); (focus (simp (disch := (first | omega | (simp only [push_cast]; first | done | omega))) only [push_cast, ↓reduceIte, Nat.reduceEqDiff, Nat.reduceBEq, Nat.reduceAdd, Nat.reduceSub, Int.reduceToNat, *] <;> with_reducible exact rfl)); (focus (simp (disch := (first | omega | (simp only [push_cast]; first | done | omega))) only [push_cast, ↓reduceIte, Nat.reduceEqDiff, Nat.reduceBEq, Nat.reduceAdd, Nat.reduceSub, Int.reduceToNat, *] <;> with_reducible exact rfl)); (focus assumption); (focus omega); (focus (first | trivial | omega)); (focus (first | rfl | (simp only [push_cast, ↓reduceIte]))); intro v pp hv hok hpp1 hpp2) | ((with_reducible apply i_drw2N patterns_drw patterns_hE patterns_hO); (focus rfl); (focus (simp (disch := (first | omega | (simp only [push_cast]; first | done | omega))) only [push_cast, ↓reduceIte, Nat.reduceEqDiff, Nat.reduceBEq, Nat.reduceAdd, Nat.reduceSub, Int.reduceToNat, *] <;> with_reducible exact rfl)); (focus (simp (disch := (first | omega | (simp only [push_cast]; first | done | omega))) only [push_cast, ↓reduceIte, Nat.reduceEqDiff, Nat.reduceBEq, Nat.reduceAdd, Nat.reduceSub, Int.reduceToNat, *] <;> with_reducible exact rfl)); (focus (simp (disch := (first | omega | (simp only [push_cast]; first | done | omega))) only [push_cast, ↓reduceIte, Nat.reduceEqDiff, Nat.reduceBEq, Nat.reduceAdd, Nat.reduceSub, Int.reduceToNat, *] <;> with_reducible exact rfl)); (focus assumption); (focus omega); (focus (first | trivial | omega)); (focus (first | rfl | (simp only [push_cast, ↓reduceIte]))); intro v pp hv hok hpp1 hpp2))
  refine i_kF (by (simp (disch := (first | omega | (simp only [push_cast]; first | done | omega))) only [push_cast, ↓reduceIte, Nat.reduceEqDiff, Nat.reduceBEq, Nat.reduceAdd, Nat.reduceSub, Int.reduceToNat, *] <;> with_reducible exact rfl)) ?_
  repeat' (first | (first | (with_reducible first | apply i_seq | apply i_block | apply i_skip | apply i_exit | apply i_ret | apply i_kS | apply i_kSx | apply i_kSr | apply i_kL | apply i_kLx | apply i_kLr | apply i_kB | apply i_kBr | apply i_kBs | apply i_nil) | ((with_reducible apply i_region); (simp only [List.map_cons, List.map_nil] <;> exact rfl)) | ((with_reducible apply i_draw); (simp only [List.map_cons, List.map_nil] <;> exact rfl); decide +kernel) | ((with_reducible apply i_kBo); rfl) | ((first | ((with_reducible apply i_V); rfl; rfl; rfl) | ((first | ((with_reducible apply i_E); rfl) | ((with_reducible apply i_S); rfl)); first | rfl | (simp only [push_cast, ↓reduceIte])) | ((with_reducible apply i_Vq); rfl; rfl) | ((with_reducible apply i_Vp); rfl; rfl; rfl) | (with_reducible first | apply i_Gb | apply i_cond)); (simp (disch := (first | omega | (simp only [push_cast]; first | done | omega))) only [push_cast, ↓reduceIte, Nat.reduceEqDiff, Nat.reduceBEq, Nat.reduceAdd, Nat.reduceSub, Int.reduceToNat, *] <;> with_reducible exact rfl); all_goals try (first | (with_reducible first | refine hyT ?_ | refine hyF ?_ | exact hyA | exact hyB) | (intro hX; first | (cases hX; done) | ((try simp only [decide_eq_true_eq, decide_eq_false_iff_not, Bool.not_eq_true', Bool.not_eq_false'] at hX); (try have hXb := inB_iff.1 hX)))))) | ((with_reducible apply i_drw2 pick_drw (fun _ _ => rfl)); rfl; (simp (disch := (first | omega | (simp only [push_cast]; first | done | omega))) only [push_cast, ↓reduceIte, Nat.reduceEqDiff, Nat.reduceBEq, Nat.reduceAdd, Nat.reduceSub, Int.reduceToNat, *] <;> with_reducible exact rfl); (simp (disch := (first | omega | (simp only [push_cast]; first | done | omega))) only [push_cast, ↓reduceIte, Nat.reduceEqDiff, Nat.reduceBEq, Nat.reduceAdd, Nat.reduceSub, Int.reduceToNat, *] <;> with_reducible exact rfl); (simp (disch := (first | omega | (simp only [push_cast]; first | done | omega))) only [push_cast, ↓reduceIte, Nat.reduceEqDiff, Nat.reduceBEq, Nat.reduceAdd, Nat.reduceSub, Int.reduceToNat, *] <;> with_reducible exact rfl); assumption; omega; (focus (first | trivial | omega)); (focus (first | rfl | (simp only [push_cast, ↓reduceIte]))); intro v pp hv hok hpp1 hpp2) | ((with_reducible apply i_drw2 odd_drw (fun _ _ => rfl)); rfl; (simp (disch := (first | omega | (simp only [push_cast]; first | done | omega))) only [push_cast, ↓reduceIte, Nat.reduceEqDiff, Nat.reduceBEq, Nat.reduceAdd, Nat.reduceSub, Int.reduceToNat, *] <;> with_reducible exact rfl); (simp (disch := (first | omega | (simp only [push_cast]; first | done | omega))) only [push_cast, ↓reduceIte, Nat.reduceEqDiff, Nat.reduceBEq, Nat.reduceAdd, Nat.reduceSub, Int.reduceToNat, *] <;> with_reducible exact rfl); (simp (disch := (first | omega | (simp only [push_cast]; first | done | omega))) only [push_cast, ↓reduceIte, Nat.reduceEqDiff, Nat.reduceBEq, Nat.reduceAdd, Nat.reduceSub, Int.reduceToNat, *] <;> with_reducible exact rfl); assumption; omega; (focus (first | trivial | omega)); (focus (first | rfl | (simp only [push_cast, ↓reduceIte]))); intro v pp hv hok hpp1 hpp2) | ((with_reducible apply i_drw2 words_drw (fun _ _ => by simp only [push_cast, ↓reduceIte, Nat.reduceEqDiff, Nat.reduceBEq, Nat.reduceAdd, Nat.reduceSub, Int.reduceToNat])); (focus rfl); (focus (simp (disch := (first | omega | (simp only [push_cast]; first | done | omega))) only [push_cast, ↓reduceIte, Nat.reduceEqDiff, Nat.reduceBEq, Nat.reduceAdd, Nat.reduceSub, Int.reduceToNat, *] <;> with_reducible exact rfl)); (focus (simp (disch := (first | omega | (simp only [push_cast]; first | done | omega))) only [push_cast, ↓reduceIte, Nat.reduceEqDiff, Nat.reduceBEq, Nat.reduceAdd, Nat.reduceSub, Int.reduceToNat, *] <;> with_reducible exact rfl)); (focus (simp (disch := (first | omega | (simp only [push_cast]; first | done | omega))) only [push_cast, ↓reduceIte, Nat.reduceEqDiff, Nat.reduceBEq, Nat.reduceAdd, Nat.reduceSub, Int.reduceToNat, *] <;> with_reducible exact rfl)); (focus assumption); (focus omega); (focus (first | trivial | omega)); (focus (first | rfl | (simp only [push_cast, ↓reduceIte]))); intro v pp hv hok hpp1 hpp2) | ((with_reducible apply i_drw2N patterns_drw patterns_hE patterns_hO); (focus rfl); (focus (simp (disch := (first | omega | (simp only [push_cast]; first | done | omega))) only [push_cast, ↓reduceIte, Nat.reduceEqDiff, Nat.reduceBEq, Nat.reduceAdd, Nat.reduceSub, Int.reduceToNat, *] <;> with_reducible exact rfl)); (focus (simp (disch := (first | omega | (simp only [push_cast]; first | done | omega))) only [push_cast, ↓reduceIte, Nat.reduceEqDiff, Nat.reduceBEq, Nat.reduceAdd, Nat.reduceSub, Int.reduceToNat, *] <;> with_reducible exact rfl)); (focus (simp (disch := (first | omega | (simp only [push_cast]; first | done | omega))) only [push_cast, ↓reduceIte, Nat.reduceEqDiff, Nat.reduceBEq, Nat.reduceAdd, Nat.reduceSub, Int.reduceToNat, *] <;> with_reducible exact rfl)); (focus assumption); (focus omega); (focus (first | trivial | omega)); (focus (first | rfl | (simp only [push_cast, ↓reduceIte]))); intro v pp hv hok hpp1 hpp2))
  rename_i ps q3 hps _ _ _ w q2 hw _ _ _ m q1 hm _ _ _ e q0 he _ _ _
  refine i_loop (α := List LS × Int × Int × Nat × Nat) mixed (fun s => [(0, .own 0 2 0 0), (1, iv n), (4, .own 1 5 0 0), (5, .own 2 5 0 0), (6, iv s.2.1)])
    (fun s => (0, rdC 81 code s.2.2.1) :: (1, 38, 5, [PV.agg [.val (.slice none 0 0), .val (.slice none 0 0), iv 0, iv 0, iv 0]]) ::
      (2, 38, 5, [PV.agg [nP 1 (lsE s.1) s.2.2.2.1, .row 3 1 0 ps.length, iv (40 + w), iv (sel 0 [500, 10000, 200] m.toNat), iv (3 + e)]]) :: (3, OStrs ps) :: nO 23 1 (lsE s.1) s.2.2.2.1) (fun s => s.2.2.2.2)
    (fun s => okRd code s.2.2.1 ∧ (∀ l ∈ s.1, okT 13 l) ∧ p ≤ s.2.2.1 ∧ s.2.2.1 + 210 * s.2.1 ≤ p + 1100 ∧ s.1.length + s.2.1 ≤ 4 ∧ 0 ≤ s.2.1 ∧ 3 < s.2.2.2.2 ∧ (0 < s.1.length → 3 < s.2.2.2.1 ∧ s.2.2.2.1 < s.2.2.2.2)) (fun s => s.2.1.toNat) (by kernel_rfl) ([], v, pp, 0, 4) ⟨hok, by simp, ?_⟩ ?_ ?_ rfl ?_
  · dsimp only [List.length_nil]; omega
  · exact agr
  · exact agr
  rintro ⟨L, k, q, x, y⟩ ⟨okq, hL, i1, i2, i3, i4, i5, i6⟩
  dsimp only at okq hL i1 i2 i3 i4 i5 i6
  clear hok
  have hpl := hps.1
  by_cases h0 : L.length = 0
  · obtain rfl : L = [] := List.eq_nil_of_length_eq_zero h0
    clear i6 hL h0
    repeat' (first | (first | (with_reducible first | apply i_seq | apply i_block | apply i_skip | apply i_exit | apply i_ret | apply i_kS | apply i_kSx | apply i_kSr | apply i_kL | apply i_kLx | apply i_kLr | apply i_kB | apply i_kBr | apply i_kBs | apply i_nil) | ((with_reducible apply i_region); (simp only [List.map_cons, List.map_nil] <;> exact rfl)) | ((with_reducible apply i_draw); (simp only [List.map_cons, List.map_nil] <;> exact rfl); decide +kernel) | ((with_reducible apply i_kBo); rfl) | ((first | ((with_reducible apply i_V); rfl; rfl; rfl) | ((first | ((with_reducible apply i_E); rfl) | ((with_reducible apply i_S); rfl)); first | rfl | (simp only [push_cast, ↓reduceIte])) | ((with_reducible apply i_Vq); rfl; rfl) | ((with_reducible apply i_Vp); rfl; rfl; rfl) | (with_reducible first | apply i_Gb | apply i_cond)); (simp (disch := (first | omega | (simp only [push_cast]; first | done | omega))) only [push_cast, ↓reduceIte, Nat.reduceEqDiff, Nat.reduceBEq, Nat.reduceAdd, Nat.reduceSub, Int.reduceToNat, *] <;> with_reducible exact rfl); all_goals try (first | (with_reducible first | refine hyT ?_ | refine hyF ?_ | exact hyA | exact hyB) | (intro hX; first | (cases hX; done) | ((try simp only [decide_eq_true_eq, decide_eq_false_iff_not, Bool.not_eq_true', Bool.not_eq_false'] at hX); (try have hXb := inB_iff.1 hX)))))) | ((with_reducible apply i_drw2 pick_drw (fun _ _ => rfl)); rfl; (simp (disch := (first | omega | (simp only [push_cast]; first | done | omega))) only [push_cast, ↓reduceIte, Nat.reduceEqDiff, Nat.reduceBEq, Nat.reduceAdd, Nat.reduceSub, Int.reduceToNat, *] <;> with_reducible exact rfl); (simp (disch := (first | omega | (simp only [push_cast]; first | done | omega))) only [push_cast, ↓reduceIte, Nat.reduceEqDiff, Nat.reduceBEq, Nat.reduceAdd, Nat.reduceSub, Int.reduceToNat, *] <;> with_reducible exact rfl); (simp (disch := (first | omega | (simp only [push_cast]; first | done | omega))) only [push_cast, ↓reduceIte, Nat.reduceEqDiff, Nat.reduceBEq, Nat.reduceAdd, Nat.reduceSub, Int.reduceToNat, *] <;> with_reducible exact rfl); assumption; omega; (focus (first | trivial | omega)); (focus (first | rfl | (simp only [push_cast, ↓reduceIte]))); intro v pp hv hok hpp1 hpp2) | ((with_reducible apply i_drw2 odd_drw (fun _ _ => rfl)); rfl; (simp (disch := (first | omega | (simp only [push_cast]; first | done | omega))) only [push_cast, ↓reduceIte, Nat.reduceEqDiff, Nat.reduceBEq, Nat.reduceAdd, Nat.reduceSub, Int.reduceToNat, *] <;> with_reducible exact rfl); (simp (disch := (first | omega | (simp only [push_cast]; first | done | omega))) only [push_cast, ↓reduceIte, Nat.reduceEqDiff, Nat.reduceBEq, Nat.reduceAdd, Nat.reduceSub, Int.reduceToNat, *] <;> with_reducible exact rfl); (simp (disch := (first | omega | (simp only [push_cast]; first | done | omega))) only [push_cast, ↓reduceIte, Nat.reduceEqDiff, Nat.reduceBEq, Nat.reduceAdd, Nat.reduceSub, Int.reduceToNat, *] <;> with_reducible exact rfl); assumption; omega; (focus (first | trivial | omega)); (focus (first | rfl | (simp only [push_cast, ↓reduceIte]))); intro v pp hv hok hpp1 hpp2) | ((with_reducible apply i_drw2 words_drw (fun _ _ => by simp only [push_cast, ↓reduceIte, Nat.reduceEqDiff, Nat.reduceBEq, Nat.reduceAdd, Nat.reduceSub, Int.reduceToNat])); (focus rfl); (focus (simp (disch := (first | omega | (simp only [push_cast]; first | done | omega))) only [push_cast, ↓reduceIte, Nat.reduceEqDiff, Nat.reduceBEq, Nat.reduceAdd, Nat.reduceSub, Int.reduceToNat, *] <;> with_reducible exact rfl)); (focus (simp (disch := (first | omega | (simp only [push_cast]; first | done | omega))) only [push_cast, ↓reduceIte, Nat.reduceEqDiff, Nat.reduceBEq, Nat.reduceAdd, Nat.reduceSub, Int.reduceToNat, *] <;> with_reducible exact rfl)); (focus (simp (disch := (first | omega | (simp only [push_cast]; first | done | omega))) only [push_cast, ↓reduceIte, Nat.reduceEqDiff, Nat.reduceBEq, Nat.reduceAdd, Nat.reduceSub, Int.reduceToNat, *] <;> with_reducible exact rfl)); (focus assumption); (focus omega); (focus (first | trivial | omega)); (focus (first | rfl | (simp only [push_cast, ↓reduceIte]))); intro v pp hv hok hpp1 hpp2))
    · refine ⟨([v], k - 1, pp, y + 1, y + 2), ⟨hok, ?_, ?_⟩, ?_, ?_, ?_, rfl⟩
      · exact lsts_app (L := []) (by simp) hv
      · dsimp only; simp only [List.length_append, List.length_cons, List.length_nil] at *; omega
      · dsimp only; omega
      · exact agr
      · simp (disch := (first | omega | (simp only [push_cast]; first | done | omega))) only [push_cast, ↓reduceIte, Nat.reduceEqDiff, Nat.reduceBEq, Nat.reduceAdd, Nat.reduceSub, Int.reduceToNat, List.length_append, List.map_append, List.map_cons, List.map_nil, *]
    · refine ⟨(([] : List LS), k - 1, pp, x, y), ⟨hok, by simp, ?_⟩, ?_, ?_, ?_, rfl⟩
      · dsimp only; simp only [List.length_nil] at *; omega
      · dsimp only; omega
      · exact agr
      · exact agr
    · (with_reducible apply i_fin1 (a := ([([] : LS)], _, _, _, _)) (by first | exact .inl rfl | exact .inr rfl)); (focus (simp (disch := (first | omega | (simp only [push_cast]; first | done | omega))) only [push_cast, ↓reduceIte, Nat.reduceEqDiff, Nat.reduceBEq, Nat.reduceAdd, Nat.reduceSub, Int.reduceToNat, rep_iv, rep_sv, rep_w, rep_i3, rep_i4, *]; rw [hRow_lsr [] [] (by first | rfl | simp) (by simp) (by simp (disch := (first | omega | (simp only [push_cast]; first | done | omega))) only [push_cast, ↓reduceIte, Nat.reduceEqDiff, Nat.reduceBEq, Nat.reduceAdd, Nat.reduceSub, Int.reduceToNat, hRow_lit, mapM_cons', mapM_nil', List.length_cons, List.length_nil, *])]; (try simp (disch := (first | omega | (simp only [push_cast]; first | done | omega))) only [push_cast, ↓reduceIte, Nat.reduceEqDiff, Nat.reduceBEq, Nat.reduceAdd, Nat.reduceSub, Int.reduceToNat, rep_iv, rep_sv, rep_w, rep_i3, rep_i4, *]); with_reducible rfl)); (focus (simp (disch := (first | omega | (simp only [push_cast]; first | done | omega))) only [push_cast, ↓reduceIte, Nat.reduceEqDiff, Nat.reduceBEq, Nat.reduceAdd, Nat.reduceSub, Int.reduceToNat, rep_iv, rep_sv, rep_w, rep_i3, rep_i4, *] <;> with_reducible exact rfl))
      all_goals try (first | assumption | omega)
      · refine ⟨⟨by (try simp only [List.length_append, List.length_cons, List.length_nil] at *); omega, ?_⟩, ?_, ?_, ?_, ?_⟩
        · first | exact hL | exact lsts_app hL okT_nil | exact lsts_app hL okT_A | exact lsts_app (L := []) (by simp) okT_nil | exact lsts_app (L := []) (by simp) okT_A | (simp; done)
        · first | exact ⟨by dsimp only; omega, hps.2⟩ | exact okT_app (m := 21) hpl (by omega) hps.2 (by decide)
        all_goals first | (dsimp only; omega) | exact sel_all (p := okI) (by decide) (by simp only [List.length_cons, List.length_nil]; omega)
    · (with_reducible apply i_fin1 (a := ([[(⟨#[65]⟩ : ByteArray)]], _, _, _, _)) (by first | exact .inl rfl | exact .inr rfl)); (focus (simp (disch := (first | omega | (simp only [push_cast]; first | done | omega))) only [push_cast, ↓reduceIte, Nat.reduceEqDiff, Nat.reduceBEq, Nat.reduceAdd, Nat.reduceSub, Int.reduceToNat, rep_iv, rep_sv, rep_w, rep_i3, rep_i4, *]; rw [hRow_lsr [] [(⟨#[65]⟩ : ByteArray)] (by first | rfl | simp) (by simp) (by simp (disch := (first | omega | (simp only [push_cast]; first | done | omega))) only [push_cast, ↓reduceIte, Nat.reduceEqDiff, Nat.reduceBEq, Nat.reduceAdd, Nat.reduceSub, Int.reduceToNat, hRow_lit, mapM_cons', mapM_nil', List.length_cons, List.length_nil, *])]; (try simp (disch := (first | omega | (simp only [push_cast]; first | done | omega))) only [push_cast, ↓reduceIte, Nat.reduceEqDiff, Nat.reduceBEq, Nat.reduceAdd, Nat.reduceSub, Int.reduceToNat, rep_iv, rep_sv, rep_w, rep_i3, rep_i4, *]); with_reducible rfl)); (focus (simp (disch := (first | omega | (simp only [push_cast]; first | done | omega))) only [push_cast, ↓reduceIte, Nat.reduceEqDiff, Nat.reduceBEq, Nat.reduceAdd, Nat.reduceSub, Int.reduceToNat, rep_iv, rep_sv, rep_w, rep_i3, rep_i4, *] <;> with_reducible exact rfl))
      all_goals try (first | assumption | omega)
      · refine ⟨⟨by (try simp only [List.length_append, List.length_cons, List.length_nil] at *); omega, ?_⟩, ?_, ?_, ?_, ?_⟩
        · first | exact hL | exact lsts_app hL okT_nil | exact lsts_app hL okT_A | exact lsts_app (L := []) (by simp) okT_nil | exact lsts_app (L := []) (by simp) okT_A | (simp; done)
        · first | exact ⟨by dsimp only; omega, hps.2⟩ | exact okT_app (m := 21) hpl (by omega) hps.2 (by decide)
        all_goals first | (dsimp only; omega) | exact sel_all (p := okI) (by decide) (by simp only [List.length_cons, List.length_nil]; omega)
    · (with_reducible apply i_fin1 (a := (([] : List LS), _, _, _, _)) (by first | exact .inl rfl | exact .inr rfl)); (focus (simp (disch := (first | omega | (simp only [push_cast]; first | done | omega))) only [push_cast, ↓reduceIte, Nat.reduceEqDiff, Nat.reduceBEq, Nat.reduceAdd, Nat.reduceSub, Int.reduceToNat, rep_iv, rep_sv, rep_w, rep_i3, rep_i4, *] <;> with_reducible exact rfl)); (focus (simp (disch := (first | omega | (simp only [push_cast]; first | done | omega))) only [push_cast, ↓reduceIte, Nat.reduceEqDiff, Nat.reduceBEq, Nat.reduceAdd, Nat.reduceSub, Int.reduceToNat, rep_iv, rep_sv, rep_w, rep_i3, rep_i4, *] <;> with_reducible exact rfl))
      all_goals try (first | assumption | omega)
      · refine ⟨⟨by (try simp only [List.length_append, List.length_cons, List.length_nil] at *); omega, ?_⟩, ?_, ?_, ?_, ?_⟩
        · first | exact hL | exact lsts_app hL okT_nil | exact lsts_app hL okT_A | exact lsts_app (L := []) (by simp) okT_nil | exact lsts_app (L := []) (by simp) okT_A | (simp; done)
        · first | exact ⟨by dsimp only; omega, hps.2⟩ | exact okT_app (m := 21) hpl (by omega) hps.2 (by decide)
        all_goals first | (dsimp only; omega) | exact sel_all (p := okI) (by decide) (by simp only [List.length_cons, List.length_nil]; omega)
    · (with_reducible apply i_fin1 (a := (([] : List LS), _, _, _, _)) (by first | exact .inl rfl | exact .inr rfl)); (focus (simp (disch := (first | omega | (simp only [push_cast]; first | done | omega))) only [push_cast, ↓reduceIte, Nat.reduceEqDiff, Nat.reduceBEq, Nat.reduceAdd, Nat.reduceSub, Int.reduceToNat, rep_iv, rep_sv, rep_w, rep_i3, rep_i4, *] <;> with_reducible exact rfl)); (focus (simp (disch := (first | omega | (simp only [push_cast]; first | done | omega))) only [push_cast, ↓reduceIte, Nat.reduceEqDiff, Nat.reduceBEq, Nat.reduceAdd, Nat.reduceSub, Int.reduceToNat, rep_iv, rep_sv, rep_w, rep_i3, rep_i4, *] <;> with_reducible exact rfl))
      all_goals try (first | assumption | omega)
      · refine ⟨⟨by (try simp only [List.length_append, List.length_cons, List.length_nil] at *); omega, ?_⟩, ?_, ?_, ?_, ?_⟩
        · first | exact hL | exact lsts_app hL okT_nil | exact lsts_app hL okT_A | exact lsts_app (L := []) (by simp) okT_nil | exact lsts_app (L := []) (by simp) okT_A | (simp; done)
        · first | exact ⟨by dsimp only; omega, hps.2⟩ | exact okT_app (m := 21) hpl (by omega) hps.2 (by decide)
        all_goals first | (dsimp only; omega) | exact sel_all (p := okI) (by decide) (by simp only [List.length_cons, List.length_nil]; omega)
    · (with_reducible apply i_fin1 (a := (([] : List LS), _, _, _, _)) (by first | exact .inl rfl | exact .inr rfl)); (focus (simp (disch := (first | omega | (simp only [push_cast]; first | done | omega))) only [push_cast, ↓reduceIte, Nat.reduceEqDiff, Nat.reduceBEq, Nat.reduceAdd, Nat.reduceSub, Int.reduceToNat, rep_iv, rep_sv, rep_w, rep_i3, rep_i4, *] <;> with_reducible exact rfl)); (focus (simp (disch := (first | omega | (simp only [push_cast]; first | done | omega))) only [push_cast, ↓reduceIte, Nat.reduceEqDiff, Nat.reduceBEq, Nat.reduceAdd, Nat.reduceSub, Int.reduceToNat, rep_iv, rep_sv, rep_w, rep_i3, rep_i4, *] <;> with_reducible exact rfl))
      all_goals try (first | assumption | omega)
      · refine ⟨⟨by (try simp only [List.length_append, List.length_cons, List.length_nil] at *); omega, ?_⟩, ?_, ?_, ?_, ?_⟩
        · first | exact hL | exact lsts_app hL okT_nil | exact lsts_app hL okT_A | exact lsts_app (L := []) (by simp) okT_nil | exact lsts_app (L := []) (by simp) okT_A | (simp; done)
        · first | exact ⟨by dsimp only; omega, hps.2⟩ | exact okT_app (m := 21) hpl (by omega) hps.2 (by decide)
        all_goals first | (dsimp only; omega) | exact sel_all (p := okI) (by decide) (by simp only [List.length_cons, List.length_nil]; omega)
    · (with_reducible apply i_fin1 (a := (([] : List LS), _, _, _, _)) (by first | exact .inl rfl | exact .inr rfl)); (focus (simp (disch := (first | omega | (simp only [push_cast]; first | done | omega))) only [push_cast, ↓reduceIte, Nat.reduceEqDiff, Nat.reduceBEq, Nat.reduceAdd, Nat.reduceSub, Int.reduceToNat, rep_iv, rep_sv, rep_w, rep_i3, rep_i4, *] <;> with_reducible exact rfl)); (focus (simp (disch := (first | omega | (simp only [push_cast]; first | done | omega))) only [push_cast, ↓reduceIte, Nat.reduceEqDiff, Nat.reduceBEq, Nat.reduceAdd, Nat.reduceSub, Int.reduceToNat, rep_iv, rep_sv, rep_w, rep_i3, rep_i4, *] <;> with_reducible exact rfl))
      all_goals try (first | assumption | omega)
      · refine ⟨⟨by (try simp only [List.length_append, List.length_cons, List.length_nil] at *); omega, ?_⟩, ?_, ?_, ?_, ?_⟩
        · first | exact hL | exact lsts_app hL okT_nil | exact lsts_app hL okT_A | exact lsts_app (L := []) (by simp) okT_nil | exact lsts_app (L := []) (by simp) okT_A | (simp; done)
        · first | exact ⟨by dsimp only; omega, hps.2⟩ | exact okT_app (m := 21) hpl (by omega) hps.2 (by decide)
        all_goals first | (dsimp only; omega) | exact sel_all (p := okI) (by decide) (by simp only [List.length_cons, List.length_nil]; omega)
    · (with_reducible apply i_fin1 (a := (([] : List LS), _, _, _, _)) (by first | exact .inl rfl | exact .inr rfl)); (focus (simp (disch := (first | omega | (simp only [push_cast]; first | done | omega))) only [push_cast, ↓reduceIte, Nat.reduceEqDiff, Nat.reduceBEq, Nat.reduceAdd, Nat.reduceSub, Int.reduceToNat, rep_iv, rep_sv, rep_w, rep_i3, rep_i4, *] <;> with_reducible exact rfl)); (focus (simp (disch := (first | omega | (simp only [push_cast]; first | done | omega))) only [push_cast, ↓reduceIte, Nat.reduceEqDiff, Nat.reduceBEq, Nat.reduceAdd, Nat.reduceSub, Int.reduceToNat, rep_iv, rep_sv, rep_w, rep_i3, rep_i4, *] <;> with_reducible exact rfl))
      all_goals try (first | assumption | omega)
      · refine ⟨⟨by (try simp only [List.length_append, List.length_cons, List.length_nil] at *); omega, ?_⟩, ?_, ?_, ?_, ?_⟩
        · first | exact hL | exact lsts_app hL okT_nil | exact lsts_app hL okT_A | exact lsts_app (L := []) (by simp) okT_nil | exact lsts_app (L := []) (by simp) okT_A | (simp; done)
        · first | exact ⟨by dsimp only; omega, hps.2⟩ | exact okT_app (m := 21) hpl (by omega) hps.2 (by decide)
        all_goals first | (dsimp only; omega) | exact sel_all (p := okI) (by decide) (by simp only [List.length_cons, List.length_nil]; omega)
  · obtain ⟨x1, x2⟩ := i6 (by omega)
    clear i6
    repeat' (first | (first | (with_reducible first | apply i_seq | apply i_block | apply i_skip | apply i_exit | apply i_ret | apply i_kS | apply i_kSx | apply i_kSr | apply i_kL | apply i_kLx | apply i_kLr | apply i_kB | apply i_kBr | apply i_kBs | apply i_nil) | ((with_reducible apply i_region); (simp only [List.map_cons, List.map_nil] <;> exact rfl)) | ((with_reducible apply i_draw); (simp only [List.map_cons, List.map_nil] <;> exact rfl); decide +kernel) | ((with_reducible apply i_kBo); rfl) | ((first | ((with_reducible apply i_V); rfl; rfl; rfl) | ((first | ((with_reducible apply i_E); rfl) | ((with_reducible apply i_S); rfl)); first | rfl | (simp only [push_cast, ↓reduceIte])) | ((with_reducible apply i_Vq); rfl; rfl) | ((with_reducible apply i_Vp); rfl; rfl; rfl) | (with_reducible first | apply i_Gb | apply i_cond)); (simp (disch := (first | omega | (simp only [push_cast]; first | done | omega))) only [push_cast, ↓reduceIte, Nat.reduceEqDiff, Nat.reduceBEq, Nat.reduceAdd, Nat.reduceSub, Int.reduceToNat, *] <;> with_reducible exact rfl); all_goals try (first | (with_reducible first | refine hyT ?_ | refine hyF ?_ | exact hyA | exact hyB) | (intro hX; first | (cases hX; done) | ((try simp only [decide_eq_true_eq, decide_eq_false_iff_not, Bool.not_eq_true', Bool.not_eq_false'] at hX); (try have hXb := inB_iff.1 hX)))))) | ((with_reducible apply i_drw2 pick_drw (fun _ _ => rfl)); rfl; (simp (disch := (first | omega | (simp only [push_cast]; first | done | omega))) only [push_cast, ↓reduceIte, Nat.reduceEqDiff, Nat.reduceBEq, Nat.reduceAdd, Nat.reduceSub, Int.reduceToNat, *] <;> with_reducible exact rfl); (simp (disch := (first | omega | (simp only [push_cast]; first | done | omega))) only [push_cast, ↓reduceIte, Nat.reduceEqDiff, Nat.reduceBEq, Nat.reduceAdd, Nat.reduceSub, Int.reduceToNat, *] <;> with_reducible exact rfl); (simp (disch := (first | omega | (simp only [push_cast]; first | done | omega))) only [push_cast, ↓reduceIte, Nat.reduceEqDiff, Nat.reduceBEq, Nat.reduceAdd, Nat.reduceSub, Int.reduceToNat, *] <;> with_reducible exact rfl); assumption; omega; (focus (first | trivial | omega)); (focus (first | rfl | (simp only [push_cast, ↓reduceIte]))); intro v pp hv hok hpp1 hpp2) | ((with_reducible apply i_drw2 odd_drw (fun _ _ => rfl)); rfl; (simp (disch := (first | omega | (simp only [push_cast]; first | done | omega))) only [push_cast, ↓reduceIte, Nat.reduceEqDiff, Nat.reduceBEq, Nat.reduceAdd, Nat.reduceSub, Int.reduceToNat, *] <;> with_reducible exact rfl); (simp (disch := (first | omega | (simp only [push_cast]; first | done | omega))) only [push_cast, ↓reduceIte, Nat.reduceEqDiff, Nat.reduceBEq, Nat.reduceAdd, Nat.reduceSub, Int.reduceToNat, *] <;> with_reducible exact rfl); (simp (disch := (first | omega | (simp only [push_cast]; first | done | omega))) only [push_cast, ↓reduceIte, Nat.reduceEqDiff, Nat.reduceBEq, Nat.reduceAdd, Nat.reduceSub, Int.reduceToNat, *] <;> with_reducible exact rfl); assumption; omega; (focus (first | trivial | omega)); (focus (first | rfl | (simp only [push_cast, ↓reduceIte]))); intro v pp hv hok hpp1 hpp2) | ((with_reducible apply i_drw2 words_drw (fun _ _ => by simp only [push_cast, ↓reduceIte, Nat.reduceEqDiff, Nat.reduceBEq, Nat.reduceAdd, Nat.reduceSub, Int.reduceToNat])); (focus rfl); (focus (simp (disch := (first | omega | (simp only [push_cast]; first | done | omega))) only [push_cast, ↓reduceIte, Nat.reduceEqDiff, Nat.reduceBEq, Nat.reduceAdd, Nat.reduceSub, Int.reduceToNat, *] <;> with_reducible exact rfl)); (focus (simp (disch := (first | omega | (simp only [push_cast]; first | done | omega))) only [push_cast, ↓reduceIte, Nat.reduceEqDiff, Nat.reduceBEq, Nat.reduceAdd, Nat.reduceSub, Int.reduceToNat, *] <;> with_reducible exact rfl)); (focus (simp (disch := (first | omega | (simp only [push_cast]; first | done | omega))) only [push_cast, ↓reduceIte, Nat.reduceEqDiff, Nat.reduceBEq, Nat.reduceAdd, Nat.reduceSub, Int.reduceToNat, *] <;> with_reducible exact rfl)); (focus assumption); (focus omega); (focus (first | trivial | omega)); (focus (first | rfl | (simp only [push_cast, ↓reduceIte]))); intro v pp hv hok hpp1 hpp2))
    · refine ⟨(L ++ [v], k - 1, pp, y + 1, y + 2), ⟨hok, ?_, ?_⟩, ?_, ?_, ?_, rfl⟩
      · exact lsts_app hL hv
      · dsimp only; simp only [List.length_append, List.length_cons, List.length_nil] at *; omega
      · dsimp only; omega
      · exact agr
      · simp (disch := (first | omega | (simp only [push_cast]; first | done | omega))) only [push_cast, ↓reduceIte, Nat.reduceEqDiff, Nat.reduceBEq, Nat.reduceAdd, Nat.reduceSub, Int.reduceToNat, List.length_append, List.map_append, List.map_cons, List.map_nil, *]
    · refine ⟨(L, k - 1, pp, x, y), ⟨hok, hL, ?_⟩, ?_, ?_, ?_, rfl⟩
      · dsimp only; omega
      · dsimp only; omega
      · exact agr
      · exact agr
    · (with_reducible apply i_fin1 (a := (L ++ [([] : LS)], _, _, _, _)) (by first | exact .inl rfl | exact .inr rfl)); (focus (simp (disch := (first | omega | (simp only [push_cast]; first | done | omega))) only [push_cast, ↓reduceIte, Nat.reduceEqDiff, Nat.reduceBEq, Nat.reduceAdd, Nat.reduceSub, Int.reduceToNat, rep_iv, rep_sv, rep_w, rep_i3, rep_i4, *]; rw [hRow_lsr L [] (by first | rfl | simp) (by simp) (by simp (disch := (first | omega | (simp only [push_cast]; first | done | omega))) only [push_cast, ↓reduceIte, Nat.reduceEqDiff, Nat.reduceBEq, Nat.reduceAdd, Nat.reduceSub, Int.reduceToNat, hRow_lit, mapM_cons', mapM_nil', List.length_cons, List.length_nil, *])]; (try simp (disch := (first | omega | (simp only [push_cast]; first | done | omega))) only [push_cast, ↓reduceIte, Nat.reduceEqDiff, Nat.reduceBEq, Nat.reduceAdd, Nat.reduceSub, Int.reduceToNat, rep_iv, rep_sv, rep_w, rep_i3, rep_i4, *]); with_reducible rfl)); (focus (simp (disch := (first | omega | (simp only [push_cast]; first | done | omega))) only [push_cast, ↓reduceIte, Nat.reduceEqDiff, Nat.reduceBEq, Nat.reduceAdd, Nat.reduceSub, Int.reduceToNat, rep_iv, rep_sv, rep_w, rep_i3, rep_i4, *] <;> with_reducible exact rfl))
      all_goals try (first | assumption | omega)
      · refine ⟨⟨by (try simp only [List.length_append, List.length_cons, List.length_nil] at *); omega, ?_⟩, ?_, ?_, ?_, ?_⟩
        · first | exact hL | exact lsts_app hL okT_nil | exact lsts_app hL okT_A | exact lsts_app (L := []) (by simp) okT_nil | exact lsts_app (L := []) (by simp) okT_A | (simp; done)
        · first | exact ⟨by dsimp only; omega, hps.2⟩ | exact okT_app (m := 21) hpl (by omega) hps.2 (by decide)
        all_goals first | (dsimp only; omega) | exact sel_all (p := okI) (by decide) (by simp only [List.length_cons, List.length_nil]; omega)
    · (with_reducible apply i_fin1 (a := (L ++ [[(⟨#[65]⟩ : ByteArray)]], _, _, _, _)) (by first | exact .inl rfl | exact .inr rfl)); (focus (simp (disch := (first | omega | (simp only [push_cast]; first | done | omega))) only [push_cast, ↓reduceIte, Nat.reduceEqDiff, Nat.reduceBEq, Nat.reduceAdd, Nat.reduceSub, Int.reduceToNat, rep_iv, rep_sv, rep_w, rep_i3, rep_i4, *]; rw [hRow_lsr L [(⟨#[65]⟩ : ByteArray)] (by first | rfl | simp) (by simp) (by simp (disch := (first | omega | (simp only [push_cast]; first | done | omega))) only [push_cast, ↓reduceIte, Nat.reduceEqDiff, Nat.reduceBEq, Nat.reduceAdd, Nat.reduceSub, Int.reduceToNat, hRow_lit, mapM_cons', mapM_nil', List.length_cons, List.length_nil, *])]; (try simp (disch := (first | omega | (simp only [push_cast]; first | done | omega))) only [push_cast, ↓reduceIte, Nat.reduceEqDiff, Nat.reduceBEq, Nat.reduceAdd, Nat.reduceSub, Int.reduceToNat, rep_iv, rep_sv, rep_w, rep_i3, rep_i4, *]); with_reducible rfl)); (focus (simp (disch := (first | omega | (simp only [push_cast]; first | done | omega))) only [push_cast, ↓reduceIte, Nat.reduceEqDiff, Nat.reduceBEq, Nat.reduceAdd, Nat.reduceSub, Int.reduceToNat, rep_iv, rep_sv, rep_w, rep_i3, rep_i4, *] <;> with_reducible exact rfl))
      all_goals try (first | assumption | omega)
      · refine ⟨⟨by (try simp only [List.length_append, List.length_cons, List.length_nil] at *); omega, ?_⟩, ?_, ?_, ?_, ?_⟩
        · first | exact hL | exact lsts_app hL okT_nil | exact lsts_app hL okT_A | exact lsts_app (L := []) (by simp) okT_nil | exact lsts_app (L := []) (by simp) okT_A | (simp; done)
        · first | exact ⟨by dsimp only; omega, hps.2⟩ | exact okT_app (m := 21) hpl (by omega) hps.2 (by decide)
        all_goals first | (dsimp only; omega) | exact sel_all (p := okI) (by decide) (by simp only [List.length_cons, List.length_nil]; omega)
    · (with_reducible apply i_fin1 (a := (L, _, _, _, _)) (by first | exact .inl rfl | exact .inr rfl)); (focus (simp (disch := (first | omega | (simp only [push_cast]; first | done | omega))) only [push_cast, ↓reduceIte, Nat.reduceEqDiff, Nat.reduceBEq, Nat.reduceAdd, Nat.reduceSub, Int.reduceToNat, rep_iv, rep_sv, rep_w, rep_i3, rep_i4, *]; rw [hRow_ls (L) (by simp) (by simp)]; (try simp (disch := (first | omega | (simp only [push_cast]; first | done | omega))) only [push_cast, ↓reduceIte, Nat.reduceEqDiff, Nat.reduceBEq, Nat.reduceAdd, Nat.reduceSub, Int.reduceToNat, rep_iv, rep_sv, rep_w, rep_i3, rep_i4, *]); with_reducible rfl)); (focus (simp (disch := (first | omega | (simp only [push_cast]; first | done | omega))) only [push_cast, ↓reduceIte, Nat.reduceEqDiff, Nat.reduceBEq, Nat.reduceAdd, Nat.reduceSub, Int.reduceToNat, rep_iv, rep_sv, rep_w, rep_i3, rep_i4, *] <;> with_reducible exact rfl))
      all_goals try (first | assumption | omega)
      · refine ⟨⟨by (try simp only [List.length_append, List.length_cons, List.length_nil] at *); omega, ?_⟩, ?_, ?_, ?_, ?_⟩
        · first | exact hL | exact lsts_app hL okT_nil | exact lsts_app hL okT_A | exact lsts_app (L := []) (by simp) okT_nil | exact lsts_app (L := []) (by simp) okT_A | (simp; done)
        · first | exact ⟨by dsimp only; omega, hps.2⟩ | exact okT_app (m := 21) hpl (by omega) hps.2 (by decide)
        all_goals first | (dsimp only; omega) | exact sel_all (p := okI) (by decide) (by simp only [List.length_cons, List.length_nil]; omega)
    · (with_reducible apply i_fin1 (a := (L, _, _, _, _)) (by first | exact .inl rfl | exact .inr rfl)); (focus (simp (disch := (first | omega | (simp only [push_cast]; first | done | omega))) only [push_cast, ↓reduceIte, Nat.reduceEqDiff, Nat.reduceBEq, Nat.reduceAdd, Nat.reduceSub, Int.reduceToNat, rep_iv, rep_sv, rep_w, rep_i3, rep_i4, *]; rw [hRow_ls (L) (by simp) (by simp)]; (try simp (disch := (first | omega | (simp only [push_cast]; first | done | omega))) only [push_cast, ↓reduceIte, Nat.reduceEqDiff, Nat.reduceBEq, Nat.reduceAdd, Nat.reduceSub, Int.reduceToNat, rep_iv, rep_sv, rep_w, rep_i3, rep_i4, *]); with_reducible rfl)); (focus (simp (disch := (first | omega | (simp only [push_cast]; first | done | omega))) only [push_cast, ↓reduceIte, Nat.reduceEqDiff, Nat.reduceBEq, Nat.reduceAdd, Nat.reduceSub, Int.reduceToNat, rep_iv, rep_sv, rep_w, rep_i3, rep_i4, *] <;> with_reducible exact rfl))
      all_goals try (first | assumption | omega)
      · refine ⟨⟨by (try simp only [List.length_append, List.length_cons, List.length_nil] at *); omega, ?_⟩, ?_, ?_, ?_, ?_⟩
        · first | exact hL | exact lsts_app hL okT_nil | exact lsts_app hL okT_A | exact lsts_app (L := []) (by simp) okT_nil | exact lsts_app (L := []) (by simp) okT_A | (simp; done)
        · first | exact ⟨by dsimp only; omega, hps.2⟩ | exact okT_app (m := 21) hpl (by omega) hps.2 (by decide)
        all_goals first | (dsimp only; omega) | exact sel_all (p := okI) (by decide) (by simp only [List.length_cons, List.length_nil]; omega)
    · (with_reducible apply i_fin1 (a := (L, _, _, _, _)) (by first | exact .inl rfl | exact .inr rfl)); (focus (simp (disch := (first | omega | (simp only [push_cast]; first | done | omega))) only [push_cast, ↓reduceIte, Nat.reduceEqDiff, Nat.reduceBEq, Nat.reduceAdd, Nat.reduceSub, Int.reduceToNat, rep_iv, rep_sv, rep_w, rep_i3, rep_i4, *]; rw [hRow_ls (L) (by simp) (by simp)]; (try simp (disch := (first | omega | (simp only [push_cast]; first | done | omega))) only [push_cast, ↓reduceIte, Nat.reduceEqDiff, Nat.reduceBEq, Nat.reduceAdd, Nat.reduceSub, Int.reduceToNat, rep_iv, rep_sv, rep_w, rep_i3, rep_i4, *]); with_reducible rfl)); (focus (simp (disch := (first | omega | (simp only [push_cast]; first | done | omega))) only [push_cast, ↓reduceIte, Nat.reduceEqDiff, Nat.reduceBEq, Nat.reduceAdd, Nat.reduceSub, Int.reduceToNat, rep_iv, rep_sv, rep_w, rep_i3, rep_i4, *] <;> with_reducible exact rfl))
      all_goals try (first | assumption | omega)
      · refine ⟨⟨by (try simp only [List.length_append, List.length_cons, List.length_nil] at *); omega, ?_⟩, ?_, ?_, ?_, ?_⟩
        · first | exact hL | exact lsts_app hL okT_nil | exact lsts_app hL okT_A | exact lsts_app (L := []) (by simp) okT_nil | exact lsts_app (L := []) (by simp) okT_A | (simp; done)
        · first | exact ⟨by dsimp only; omega, hps.2⟩ | exact okT_app (m := 21) hpl (by omega) hps.2 (by decide)
        all_goals first | (dsimp only; omega) | exact sel_all (p := okI) (by decide) (by simp only [List.length_cons, List.length_nil]; omega)
    · (with_reducible apply i_fin1 (a := (L, _, _, _, _)) (by first | exact .inl rfl | exact .inr rfl)); (focus (simp (disch := (first | omega | (simp only [push_cast]; first | done | omega))) only [push_cast, ↓reduceIte, Nat.reduceEqDiff, Nat.reduceBEq, Nat.reduceAdd, Nat.reduceSub, Int.reduceToNat, rep_iv, rep_sv, rep_w, rep_i3, rep_i4, *]; rw [hRow_ls (L) (by simp) (by simp)]; (try simp (disch := (first | omega | (simp only [push_cast]; first | done | omega))) only [push_cast, ↓reduceIte, Nat.reduceEqDiff, Nat.reduceBEq, Nat.reduceAdd, Nat.reduceSub, Int.reduceToNat, rep_iv, rep_sv, rep_w, rep_i3, rep_i4, *]); with_reducible rfl)); (focus (simp (disch := (first | omega | (simp only [push_cast]; first | done | omega))) only [push_cast, ↓reduceIte, Nat.reduceEqDiff, Nat.reduceBEq, Nat.reduceAdd, Nat.reduceSub, Int.reduceToNat, rep_iv, rep_sv, rep_w, rep_i3, rep_i4, *] <;> with_reducible exact rfl))
      all_goals try (first | assumption | omega)
      · refine ⟨⟨by (try simp only [List.length_append, List.length_cons, List.length_nil] at *); omega, ?_⟩, ?_, ?_, ?_, ?_⟩
        · first | exact hL | exact lsts_app hL okT_nil | exact lsts_app hL okT_A | exact lsts_app (L := []) (by simp) okT_nil | exact lsts_app (L := []) (by simp) okT_A | (simp; done)
        · first | exact ⟨by dsimp only; omega, hps.2⟩ | exact okT_app (m := 21) hpl (by omega) hps.2 (by decide)
        all_goals first | (dsimp only; omega) | exact sel_all (p := okI) (by decide) (by simp only [List.length_cons, List.length_nil]; omega)
    · (with_reducible apply i_fin1 (a := (L, _, _, _, _)) (by first | exact .inl rfl | exact .inr rfl)); (focus (simp (disch := (first | omega | (simp only [push_cast]; first | done | omega))) only [push_cast, ↓reduceIte, Nat.reduceEqDiff, Nat.reduceBEq, Nat.reduceAdd, Nat.reduceSub, Int.reduceToNat, rep_iv, rep_sv, rep_w, rep_i3, rep_i4, *]; rw [hRow_ls (L) (by simp) (by simp)]; (try simp (disch := (first | omega | (simp only [push_cast]; first | done | omega))) only [push_cast, ↓reduceIte, Nat.reduceEqDiff, Nat.reduceBEq, Nat.reduceAdd, Nat.reduceSub, Int.reduceToNat, rep_iv, rep_sv, rep_w, rep_i3, rep_i4, *]); with_reducible rfl)); (focus (simp (disch := (first | omega | (simp only [push_cast]; first | done | omega))) only [push_cast, ↓reduceIte, Nat.reduceEqDiff, Nat.reduceBEq, Nat.reduceAdd, Nat.reduceSub, Int.reduceToNat, rep_iv, rep_sv, rep_w, rep_i3, rep_i4, *] <;> with_reducible exact rfl))
      all_goals try (first | assumption | omega)
      · refine ⟨⟨by (try simp only [List.length_append, List.length_cons, List.length_nil] at *); omega, ?_⟩, ?_, ?_, ?_, ?_⟩
        · first | exact hL | exact lsts_app hL okT_nil | exact lsts_app hL okT_A | exact lsts_app (L := []) (by simp) okT_nil | exact lsts_app (L := []) (by simp) okT_A | (simp; done)
        · first | exact ⟨by dsimp only; omega, hps.2⟩ | exact okT_app (m := 21) hpl (by omega) hps.2 (by decide)
        all_goals first | (dsimp only; omega) | exact sel_all (p := okI) (by decide) (by simp only [List.length_cons, List.length_nil]; omega)
end Go.Proofs.Ytngcedklbinhjaa
namespace Go.Proofs.Ytngcedklbinhjaa
open Go.RowKit
set_option linter.all false
theorem map_app' {α β : Type} {f : α → β} {l l' : List α} : l.map f ++ l'.map f = (l ++ l').map f := List.map_append.symm
theorem min_l {a b : Nat} (h : a ≤ b) : min a b = a := Nat.min_eq_left h
attribute [push_cast]
  map_app' min_l List.take_length
theorem strI_take {s : ByteArray} : (strI s).take s.size = strI s := List.take_of_length_le (by rw [strI_length]; exact Nat.le_refl _)
attribute [push_cast]
  strI_take
theorem io_ag {Φ : FunIO} {ob : Objs} {nx : Nat} {u : Value} {k : Bool} {sz : Nat} {α : Type} {g : α → Value} {l : List α} : ioEv Φ ob nx [.agg [.val u, .lst k sz (l.map fun x => PV.val (g x))]] = ioR [] ob nx (Φ [.agg [.val u, .lst k sz (l.map fun x => PV.val (g x))]] []) :=
  ioNo_of rfl (by simp only [mapM_cons', mapM_nil', renS_fuel, renS_agg, renS_val, renS_vals]; rfl)
attribute [push_cast]
  io_ag
def nrm1 (sz : Nat) : PV → PV
  | .agg cs => .agg (cs.map (nrm sz))
  | p => nrm sz p
theorem le_nrm1 (sz : Nat) (p : PV) : p.le (nrm1 sz p) := by
  unfold nrm1
  split
  · exact agg_le (leL_nrm sz _)
  · exact le_nrm sz p
theorem leL_nrm1 (sz : Nat) : ∀ ps : List PV, leL ps (ps.map (nrm1 sz))
  | [] => trivial
  | p :: ps => ⟨le_nrm1 sz p, leL_nrm1 sz ps⟩
def nilG (sz : Nat) (φ : Fun) : Fun := fun ps => φ (ps.map (nrm1 sz))
theorem Sound.nilG {P : Program} {f : Nat} {φ : Fun} (h : Sound P f φ) (sz : Nat) : Sound P f (Proofs.Ytngcedklbinhjaa.nilG sz φ) :=
  h.weak fun ps r hr => ⟨_, r, leL_nrm1 sz ps, hr, PV.le_refl _⟩
end Go.Proofs.Ytngcedklbinhjaa
namespace Go.Proofs.Ytngcedklbinhjaa
open Go.RowKit
set_option linter.all false
theorem renS_ls {nm : Nat → Option Nat} {f sz : Nat} {k : Bool} {L : List LS} : renF nm (f + 4) (.lst k sz (lsE L)) = some (.lst k sz (lsE L)) := by
  show ((lsE L).mapM (renF nm (f + 3))).map (PV.lst k sz) = _
  rw [mapM_maps fun p => renS_vals]
  rfl
theorem renS_pE {nm : Nat → Option Nat} {f : Nat} {L : List LS} : renF nm (f + 4) (pE L) = some (pE L) := by
  cases L with
  | nil => rfl
  | cons a L => exact renS_ls
attribute [push_cast]
  renS_ls renS_pE
noncomputable def Φbook : FunIO := Classical.choose book_ex
theorem book_io : SoundIO Try.prog 47 Φbook := (Classical.choose_spec book_ex).1
theorem book_drw : Drw2 81 Φbook 500000000 2000 EBk (fun n => 0 ≤ n ∧ n ≤ 1000) (fun _ b => okBkD b) := (Classical.choose_spec book_ex).2
theorem okSs_of {n : Nat} {l : LS} (h : okT n l) (hn : n ≤ 1000) : okSs l := by
  refine ⟨by have := h.1; omega, fun i => ?_⟩
  by_cases hi : i < l.length
  · have := h.2 l[i] (List.getElem_mem hi)
    simp only [List.getElem?_eq_getElem hi, Option.getD_some]
    omega
  · rw [List.getElem?_eq_none (by omega)]
    simp
theorem okBk_of {L : List LS} {ps : LS} (h1 : L.length ≤ 6) (h2 : ∀ l ∈ L, okT 13 l) (h3 : okT 22 ps) : okBk L ps := by
  refine ⟨by omega, fun i => ?_, okSs_of h3 (by omega)⟩
  by_cases hi : i < L.length
  · simp only [List.getElem?_eq_getElem hi, Option.getD_some]
    exact okSs_of (h2 L[i] (List.getElem_mem hi)) (by omega)
  · rw [List.getElem?_eq_none (by omega)]
    exact ⟨by simp, by simp⟩
abbrev lsF (L : List LS) : List PV := L.map fun p => .lst false 1 (p.map fun s => .val (.string s))
theorem reM_lsr {ob : Objs} {f m : Nat} {L : List LS} {x : PV} : (lsE L ++ [x]).mapM (reify false m ob (f + 2)) = (reify false m ob (f + 2) x).map fun y => lsF L ++ [y] := by
  rw [List.mapM_append, mapM_maps fun p => reify_strs, mapM_cons', mapM_nil']
  cases reify false m ob (f + 2) x <;> rfl
attribute [push_cast]
  reM_lsr
end Go.Proofs.Ytngcedklbinhjaa
namespace Go.Proofs.Ytngcedklbinhjaa
open Go.RowKit
set_option linter.all false
def φSameI : Fun := F2 dIs dIs fun a b => if a.length ≤ 1048576 ∧ b.length ≤ 1048576 then some (bv (decide (a = b))) else none
theorem φSameI_ap {a b : List Int} (h : a.length ≤ 1048576) (h2 : b.length ≤ 1048576) : φSameI [.lst false 1 (a.map fun n => .val (.int .i64 n)), .lst false 1 (b.map fun n => .val (.int .i64 n))] = some (.val (.bool (decide (a = b)))) :=
  (F2_ap (A := dIs) (B := dIs) a b).trans (if_pos ⟨h, h2⟩)
set_option maxHeartbeats 4000000 in
theorem sameInts_ok : Sound Try.prog 24 φSameI := by
  refine sound_pq mixed GE_ok Try.func24 rfl 26 rfl [.tmp 4] rfl (by kernel_rfl) fun ps r hr => ?_
  obtain ⟨xs, ys, rfl, hq⟩ := F2_some hr
  clear hr
  split at hq
  case isFalse => cases hq
  case isTrue hlen =>
  cases hq
  obtain ⟨hl1, hl2⟩ := hlen
  refine ⟨by simp, ?_⟩
  simp only [dIs, dUs, dSs, dI_e, dU_e, dB_e, dS_e, dFn_e, dL_e, dA2_e, dA3_e, dA4_e, dA5_e]
  repeat' (first | (with_reducible first | apply i_seq | apply i_block | apply i_skip | apply i_exit | apply i_ret | apply i_kS | apply i_kSx | apply i_kSr | apply i_kL | apply i_kLx | apply i_kLr | apply i_kB | apply i_kBr | apply i_kBs | apply i_nil) | ((with_reducible apply i_region); (simp only [List.map_cons, List.map_nil] <;> exact rfl)) | ((with_reducible apply i_draw); (simp only [List.map_cons, List.map_nil] <;> exact rfl); decide +kernel) | ((with_reducible apply i_kBo); rfl) | ((first | ((with_reducible apply i_V); rfl; rfl; rfl) | ((first | ((with_reducible apply i_E); rfl) | ((with_reducible apply i_S); rfl)); first | rfl | (simp only [push_cast, ↓reduceIte])) | ((with_reducible apply i_Vq); rfl; rfl) | ((with_reducible apply i_Vp); rfl; rfl; rfl) | (with_reducible first | apply i_Gb | apply i_cond)); (simp (disch := (first | omega | (simp only [push_cast]; first | done | omega))) only [push_cast, ↓reduceIte, Nat.reduceEqDiff, Nat.reduceBEq, Nat.reduceAdd, Nat.reduceSub, Int.reduceToNat, *] <;> with_reducible exact rfl); all_goals try (first | (with_reducible first | refine hyT ?_ | refine hyF ?_ | exact hyA | exact hyB) | (intro hX; first | (cases hX; done) | ((try simp only [decide_eq_true_eq, decide_eq_false_iff_not, Bool.not_eq_true', Bool.not_eq_false'] at hX); (try have hXb := inB_iff.1 hX))))))
  · ((first | apply i_end | apply i_endN); simp (disch := (first | omega | (simp only [push_cast]; first | done | omega))) only [push_cast, ↓reduceIte, Nat.reduceEqDiff, Nat.reduceBEq, Nat.reduceAdd, Nat.reduceSub, Int.reduceToNat, *])
    have : ¬ xs = ys := fun h => by subst h; simp_all
    simp [this]
  refine i_loop (α := Nat) mixed (fun k => [(0, .lst false 1 (xs.map fun n => .val (.int .i64 n))), (1, .lst false 1 (ys.map fun n => .val (.int .i64 n))), (5, iv k)]) (fun k => []) (fun _ => 0)
    (fun k => k ≤ xs.length ∧ ∀ j, j < k → xs[j]?.getD 0 = ys[j]?.getD 0) (fun k => xs.length - k) (by kernel_rfl) 0 ⟨Nat.zero_le _, fun j hj => by omega⟩ ?_ trivial rfl ?_
  · simp only [push_cast, ↓reduceIte, Nat.reduceEqDiff, Nat.reduceBEq, Nat.reduceAdd, Nat.reduceSub, Int.reduceToNat]
  · intro k ⟨hk, hok⟩
    repeat' (first | (with_reducible first | apply i_seq | apply i_block | apply i_skip | apply i_exit | apply i_ret | apply i_kS | apply i_kSx | apply i_kSr | apply i_kL | apply i_kLx | apply i_kLr | apply i_kB | apply i_kBr | apply i_kBs | apply i_nil) | ((with_reducible apply i_region); (simp only [List.map_cons, List.map_nil] <;> exact rfl)) | ((with_reducible apply i_draw); (simp only [List.map_cons, List.map_nil] <;> exact rfl); decide +kernel) | ((with_reducible apply i_kBo); rfl) | ((first | ((with_reducible apply i_V); rfl; rfl; rfl) | ((first | ((with_reducible apply i_E); rfl) | ((with_reducible apply i_S); rfl)); first | rfl | (simp only [push_cast, ↓reduceIte])) | ((with_reducible apply i_Vq); rfl; rfl) | ((with_reducible apply i_Vp); rfl; rfl; rfl) | (with_reducible first | apply i_Gb | apply i_cond)); (simp (disch := (first | omega | (simp only [push_cast]; first | done | omega))) only [push_cast, ↓reduceIte, Nat.reduceEqDiff, Nat.reduceBEq, Nat.reduceAdd, Nat.reduceSub, Int.reduceToNat, *] <;> with_reducible exact rfl); all_goals try (first | (with_reducible first | refine hyT ?_ | refine hyF ?_ | exact hyA | exact hyB) | (intro hX; first | (cases hX; done) | ((try simp only [decide_eq_true_eq, decide_eq_false_iff_not, Bool.not_eq_true', Bool.not_eq_false'] at hX); (try have hXb := inB_iff.1 hX))))))
    all_goals try ((first | apply i_end | apply i_endN); simp (disch := (first | omega | (simp only [push_cast]; first | done | omega))) only [push_cast, ↓reduceIte, Nat.reduceEqDiff, Nat.reduceBEq, Nat.reduceAdd, Nat.reduceSub, Int.reduceToNat, *])
    · have : ¬ xs = ys := fun h => by subst h; simp_all
      simp [this]
    · refine ⟨k + 1, ⟨by omega, fun j hj => ?_⟩, by dsimp only; omega, by simp only [push_cast, ↓reduceIte, Nat.reduceEqDiff, Nat.reduceBEq, Nat.reduceAdd, Nat.reduceSub, Int.reduceToNat], trivial, rfl⟩
      by_cases h1 : j < k
      · exact hok j h1
      · have : j = k := by omega
        subst this
        assumption
    · have : xs = ys := eq_of_getDK (d := 0) (by omega) fun j hj => hok j (by omega)
      simp [this]
end Go.Proofs.Ytngcedklbinhjaa
namespace Go.Proofs.Ytngcedklbinhjaa
open Go.RowKit
set_option linter.all false
def φSmt : Fun := F2 dSs dSs fun a b => if a.length ≤ 1048576 ∧ b.length ≤ 1048576 then some (bv (decide (a = b))) else none
theorem φSmt_ap {a b : LS} (h : a.length ≤ 1048576) (h2 : b.length ≤ 1048576) : φSmt [.lst false 1 (a.map fun s => .val (.string s)), .lst false 1 (b.map fun s => .val (.string s))] = some (.val (.bool (decide (a = b)))) :=
  (F2_ap (A := dSs) (B := dSs) a b).trans (if_pos ⟨h, h2⟩)
set_option maxHeartbeats 4000000 in
theorem smt_ok : Sound Try.prog 20 φSmt := by
  refine sound_pq mixed GE_ok Try.func20 rfl 26 rfl [.tmp 4] rfl (by kernel_rfl) fun ps r hr => ?_
  obtain ⟨xs, ys, rfl, hq⟩ := F2_some hr
  clear hr
  split at hq
  case isFalse => cases hq
  case isTrue hpre =>
  cases hq
  refine ⟨by simp, ?_⟩
  simp only [dIs, dUs, dSs, dI_e, dU_e, dB_e, dS_e, dFn_e, dL_e, dA2_e, dA3_e, dA4_e, dA5_e]
  obtain ⟨hl1, hl2⟩ := hpre
  repeat' (first | (with_reducible first | apply i_seq | apply i_block | apply i_skip | apply i_exit | apply i_ret | apply i_kS | apply i_kSx | apply i_kSr | apply i_kL | apply i_kLx | apply i_kLr | apply i_kB | apply i_kBr | apply i_kBs | apply i_nil) | ((with_reducible apply i_region); (simp only [List.map_cons, List.map_nil] <;> exact rfl)) | ((with_reducible apply i_draw); (simp only [List.map_cons, List.map_nil] <;> exact rfl); decide +kernel) | ((with_reducible apply i_kBo); rfl) | ((first | ((with_reducible apply i_V); rfl; rfl; rfl) | ((first | ((with_reducible apply i_E); rfl) | ((with_reducible apply i_S); rfl)); first | rfl | (simp only [push_cast, ↓reduceIte])) | ((with_reducible apply i_Vq); rfl; rfl) | ((with_reducible apply i_Vp); rfl; rfl; rfl) | (with_reducible first | apply i_Gb | apply i_cond)); (simp (disch := (first | omega | (simp only [push_cast]; first | done | omega))) only [push_cast, ↓reduceIte, Nat.reduceEqDiff, Nat.reduceBEq, Nat.reduceAdd, Nat.reduceSub, Int.reduceToNat, *] <;> with_reducible exact rfl); all_goals try (first | (with_reducible first | refine hyT ?_ | refine hyF ?_ | exact hyA | exact hyB) | (intro hX; first | (cases hX; done) | ((try simp only [decide_eq_true_eq, decide_eq_false_iff_not, Bool.not_eq_true', Bool.not_eq_false'] at hX); (try have hXb := inB_iff.1 hX))))))
  · ((first | apply i_end | apply i_endN); simp (disch := (first | omega | (simp only [push_cast]; first | done | omega))) only [push_cast, ↓reduceIte, Nat.reduceEqDiff, Nat.reduceBEq, Nat.reduceAdd, Nat.reduceSub, Int.reduceToNat, *])
    have : ¬ xs = ys := fun h => by subst h; simp_all
    simp [this]
  refine i_loop (α := Nat) mixed (fun k => [(0, .lst false 1 (xs.map fun s => .val (.string s))), (1, .lst false 1 (ys.map fun s => .val (.string s))), (5, iv k)]) (fun k => []) (fun _ => 0)
    (fun k => k ≤ xs.length ∧ ∀ j, j < k → xs[j]?.getD .empty = ys[j]?.getD .empty) (fun k => xs.length - k) (by kernel_rfl) 0 ⟨Nat.zero_le _, fun j hj => by omega⟩ ?_ trivial rfl ?_
  · simp only [push_cast, ↓reduceIte, Nat.reduceEqDiff, Nat.reduceBEq, Nat.reduceAdd, Nat.reduceSub, Int.reduceToNat]
  · intro k ⟨hk, hok⟩
    repeat' (first | (with_reducible first | apply i_seq | apply i_block | apply i_skip | apply i_exit | apply i_ret | apply i_kS | apply i_kSx | apply i_kSr | apply i_kL | apply i_kLx | apply i_kLr | apply i_kB | apply i_kBr | apply i_kBs | apply i_nil) | ((with_reducible apply i_region); (simp only [List.map_cons, List.map_nil] <;> exact rfl)) | ((with_reducible apply i_draw); (simp only [List.map_cons, List.map_nil] <;> exact rfl); decide +kernel) | ((with_reducible apply i_kBo); rfl) | ((first | ((with_reducible apply i_V); rfl; rfl; rfl) | ((first | ((with_reducible apply i_E); rfl) | ((with_reducible apply i_S); rfl)); first | rfl | (simp only [push_cast, ↓reduceIte])) | ((with_reducible apply i_Vq); rfl; rfl) | ((with_reducible apply i_Vp); rfl; rfl; rfl) | (with_reducible first | apply i_Gb | apply i_cond)); (simp (disch := (first | omega | (simp only [push_cast]; first | done | omega))) only [push_cast, ↓reduceIte, Nat.reduceEqDiff, Nat.reduceBEq, Nat.reduceAdd, Nat.reduceSub, Int.reduceToNat, *] <;> with_reducible exact rfl); all_goals try (first | (with_reducible first | refine hyT ?_ | refine hyF ?_ | exact hyA | exact hyB) | (intro hX; first | (cases hX; done) | ((try simp only [decide_eq_true_eq, decide_eq_false_iff_not, Bool.not_eq_true', Bool.not_eq_false'] at hX); (try have hXb := inB_iff.1 hX))))))
    all_goals try ((first | apply i_end | apply i_endN); simp (disch := (first | omega | (simp only [push_cast]; first | done | omega))) only [push_cast, ↓reduceIte, Nat.reduceEqDiff, Nat.reduceBEq, Nat.reduceAdd, Nat.reduceSub, Int.reduceToNat, *])
    · have : ¬ xs = ys := fun h => by subst h; simp_all
      simp [this]
    · refine ⟨k + 1, ⟨by omega, fun j hj => ?_⟩, by dsimp only; omega, by simp only [push_cast, ↓reduceIte, Nat.reduceEqDiff, Nat.reduceBEq, Nat.reduceAdd, Nat.reduceSub, Int.reduceToNat], trivial, rfl⟩
      by_cases h1 : j < k
      · exact hok j h1
      · have : j = k := by omega
        subst this
        assumption
    · have : xs = ys := eq_of_getDK (d := .empty) (by omega) fun j hj => hok j (by omega)
      simp [this]
end Go.Proofs.Ytngcedklbinhjaa
