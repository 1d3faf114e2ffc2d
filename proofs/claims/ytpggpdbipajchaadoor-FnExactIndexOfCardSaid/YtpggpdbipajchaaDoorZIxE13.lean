/- What the proof rests on, part 13: contracts of functions. No condition beyond what each states. -/
import Derived.Test.YtpggpdbipajchaaDoorZIxE12
namespace Go.Proofs.YtpggpdbipajchaaDoor
open Go.RowKit
set_option linter.all false
theorem ixKeyed : Go.Maps.Keyed Tryd.prog 9 := Go.Maps.string_keyed Tryd.underlying9
theorem ixMap : Tryd.prog.underlying 93 = some (.map 9 40) := Tryd.underlying93
theorem ixKey {s : ByteArray} (h : s.size ≤ 1000) : keyOf Tryd.prog 9 (.string s) = some (.string s.data.toList) := by
  simp [keyOf, mapKey, Tryd.underlying9]
  simp only [maxLen]
  omega
theorem ixZero (w : World) : (zeroValue 40).run Tryd.prog w = .ok (.slice none 0 0) w := run_zero (by kernel_rfl) w
noncomputable def ΨIx : FunN := G1 dWs fun l => if okW l then some (nP 1 ((indexR l).map fun s => .val (.string s)) 0, nC 9 1 ((indexR l).map fun s => .val (.string s))) else none
theorem renT_nPx (es : List PV) : renT id fuel (nP 1 es 0) = some (nP 1 es 0) := by cases es <;> rfl
theorem renC_nCx {T : Nat} (l : LS) : (nC T 1 (l.map fun s => PV.val (.string s))).mapM (renCT id fuel) = some (nC T 1 (l.map fun s => PV.val (.string s))) := by
  cases l with
  | nil => rfl
  | cons x l =>
    have h : ∀ l : LS, (l.map fun s => PV.val (.string s)).mapM (renT id fuel) = some (l.map fun s => PV.val (.string s)) := fun l => by
      induction l with
      | nil => rfl
      | cons x l ih => rw [List.map_cons, List.mapM_cons, ih]; rfl
    show [(T, 1, (x :: l).map fun s => PV.val (.string s))].mapM (renCT id fuel) = _
    rw [List.mapM_cons]
    unfold renCT
    rw [h]
    rfl
theorem sortI_ok : SortI Tryd.prog 79 := fun blk cap zs w h1 h2 h3 => YtpggpdbipajchaaDoor.slices_Sort_int blk 0 cap zs w h1 h2 h3
theorem sortS_ok : SortS Tryd.prog 81 := fun blk cap ss w h1 h2 h3 => YtpggpdbipajchaaDoor.slices_Sort_string blk 0 cap ss w h1 h2 h3
theorem sortN_ok : SortN Tryd.prog 81 := fun w => YtpggpdbipajchaaDoor.slices_Sort_string_none none 0 w
theorem compI_ok : CompI Tryd.prog 80 := fun blk cap zs w h1 h2 h3 => YtpggpdbipajchaaDoor.slices_Compact_int blk 0 cap zs w h1 h2 h3
theorem sortS_io : SoundIO Tryd.prog 81 ΦSort := sort_io sortS_ok sortN_ok
noncomputable def GIxI : Ctx := { fn := fun f => if f = 78 then some φIndexValid else none, io := fun f => if f = 81 then some ΦSort else none }
theorem GIxI_ok : SoundΓ Tryd.prog GIxI := ⟨(fun f φ h => by
  unfold GIxI at h
  dsimp only at h
  split at h
  · rename_i hf; cases h; subst hf; exact ⟨⟨_, Tryd.func78, rfl, rfl⟩, implIndexValid_ok⟩
  cases h), (fun f φ h => by
  unfold GIxI at h
  dsimp only at h
  split at h
  · rename_i hf; cases h; subst hf; exact ⟨⟨_, Tryd.func81, rfl, rfl⟩, sortS_io⟩
  cases h), rfl⟩
theorem GIxI_78 (ob : Objs) (ps : List PV) : evCall GIxI ob 78 ps = (ps.mapM (reify false 0 ob fuel)).bind φIndexValid := by
  have h : GIxI.fn 78 = some φIndexValid := by simp [GIxI]
  unfold evCall
  rw [h]
  cases ps.mapM (reify false 0 ob fuel) <;> rfl
theorem GIxI_81 : GIxI.io 81 = some ΦSort := by simp [GIxI]
set_option maxHeartbeats 32000000 in
set_option maxRecDepth 100000 in
theorem implIxN : SoundN Tryd.prog 41 ΨIx := by
  refine HZ.soundN (N := 71) (rs := [.tmp 2]) Tryd.func41 rfl rfl rfl (fun ps r cs' hr => ?_) (fun ps r cs' hr => ?_)
  · obtain ⟨l, rfl, hq⟩ := G1_some hr
    clear hr
    split at hq
    case isFalse => cases hq
    case isTrue hpre =>
    cases hq
    refine ⟨?_, renT_nPx _, renC_nCx _⟩
    simp only [dIs, dUs, dSs, dI_e, dU_e, dB_e, dS_e, dFn_e, dL_e, dA2_e, dA3_e, dA4_e, dA5_e]
    (simp (disch := (first | omega | (simp only [push_cast]; first | done | omega))) only [push_cast, ↓reduceIte, Nat.reduceEqDiff, Nat.reduceBEq, Nat.reduceAdd, Nat.reduceSub, Int.reduceToNat, *] <;> with_reducible exact rfl)
  obtain ⟨l, rfl, hq⟩ := G1_some hr
  clear hr
  split at hq
  case isFalse => cases hq
  case isTrue hpre =>
  cases hq
  refine ⟨by simp, fun B w00 => HZ.start ?_⟩
  show HZ _ _ _ _ _ _ (initS [.lst false 2 (l.map fun x => .agg [.val (.string x.1), .val (.int .i64 x.2)])]) _
  have apv := φIndexValid_ap hpre
  have hl0 := hpre.1
  unfold indexR
  refine HZ.seq (HZ.eng mixed GIxI_ok (by kernel_rfl) ?_)
  cases hv : indexB l with
  | false =>
    rw [hv] at apv
    rw [if_neg (by decide)]
    clear hpre hv
    have gixi_c78 := GIxI_78; have gixi_c81 := GIxI_81
    (refine wlk ?_; intros)
    refine HZ.seq (HZ.eng mixed GIxI_ok (by kernel_rfl) ?_)
    (try dsimp only)
    (refine wlk ?_; intros)
    refine ⟨?_, fun i e => e.elim⟩
    rw [List.map_nil, nP_nil, nC_nil]
    ((with_reducible apply i_endN0 (by first | exact .inl rfl | exact .inr rfl)); (simp (disch := (first | omega | (simp only [push_cast]; first | done | omega))) only [push_cast, ↓reduceIte, Nat.reduceEqDiff, Nat.reduceBEq, Nat.reduceAdd, Nat.reduceSub, Int.reduceToNat, *] <;> with_reducible exact rfl))
  | true =>
    rw [hv] at apv
    rw [if_pos rfl]
    obtain ⟨hl30, hall⟩ := indexB_iff.1 hv
    have hsz : ∀ j : Nat, (l[j]?.getD w0).1.size ≤ 20 := fun j => by
      by_cases hj : j < l.length
      · exact (wordB_letters (hall _ (getW hj)).1).2.2
      · rw [List.getElem?_eq_none (by omega)]; decide
    clear hpre
    have gixi_c78 := GIxI_78; have gixi_c81 := GIxI_81
    (refine wlk ?_; intros)
    refine HZ.seq (HZ.eng mixed GIxI_ok (by kernel_rfl) ?_)
    (try dsimp only)
    (refine wlk ?_; intros)
    refine HZ.seq (HZ.each (ZO.makeM (k := 9) (T := 3) rfl rfl (by decide) rfl fun b hb => ?_))
    dsimp only [AS.put]
    refine ZO.pre (imm := ⟨[], [], []⟩) 1 GIxI_ok (by kernel_rfl) (by simp only [List.take_succ_cons, List.take_zero] <;> exact rfl) (by simp only [List.drop_succ_cons, List.drop_zero] <;> exact rfl) (by simp only [List.map_cons, List.map_nil] <;> exact rfl) ?_
    (try dsimp only)
    (refine wlk ?_; intros)
    refine ZO.nil ?_
    (try dsimp only)
    refine HZ.seq (HZ.seq (HZ.eng mixed GIxI_ok (by kernel_rfl) ?_))
    (try dsimp only)
    (refine wlk ?_; intros)
    (try dsimp only)
    refine HZ.block (HZ.loopA (α := Nat × Nat) (fun i => [(0, .lst false 2 (l.map fun x => .agg [.val (.string x.1), .val (.int .i64 x.2)])), (3, .val (.map (some b))), (16, .lst false 2 (l.map fun x => .agg [.val (.string x.1), .val (.int .i64 x.2)])), (17, iv l.length), (18, iv i.1)])
      (fun i => []) (fun i => i.2) (fun i σ => i.1 ≤ l.length ∧ ∃ M G, σ = ixF Tryd.prog 9 3 B b G M ∧ GrI (l.take i.1) M ∧ ∀ j, G j → B ≤ j) (fun i => l.length - i.1) (0, 0) ⟨Nat.zero_le _, [], _, rfl, GrI.nil, fun j e => e ▸ hb⟩ ?_ trivial rfl ?_)
    · (try dsimp only)
      exact agr
    rintro ⟨k, y⟩ σ ⟨hk, M, G, rfl, hI, hG⟩
    dsimp only at hk hI
    refine HZ.seq (HZ.eng mixed GIxI_ok (by kernel_rfl) ?_)
    (try dsimp only)
    (refine wlk ?_; intros)
    (try dsimp only)
    by_cases hkl : k < l.length
    · refine HZ.seq (HZ.eng mixed GIxI_ok (by kernel_rfl) ?_)
      (try dsimp only)
      (refine wlk ?_; intros)
      (try dsimp only)
      refine HZ.seq (HZ.block (HZ.seq (HZ.eng mixed GIxI_ok (by kernel_rfl) ?_)))
      (try dsimp only)
      (refine wlk ?_; intros)
      (try dsimp only)
      obtain ⟨v0, ns, hF⟩ : ∃ v0 ns, Fnd1 M (l[k]?.getD w0).1 v0 ns := by
        rcases split_w (M := M) (s := (l[k]?.getD w0).1) with h | ⟨M1, m, M2, rfl, h1, h2⟩
        · exact ⟨_, _, .inl ⟨rfl, rfl, h⟩⟩
        · exact ⟨_, _, .inr ⟨m, by simp, h1, rfl, rfl⟩⟩
      have hlk := lk_one (Γ := GIxI) (t := 93) (b := b) (c := false) (k0 := .string (l[k]?.getD w0).1) (p := .val v0)
      refine HZ.draw2 (Γ := GIxI.see ⟨93, b, ansOne false (.string (l[k]?.getD w0).1) (.val v0)⟩) (imm := ⟨[], [24, 27, 30], [y]⟩) (xs := [28, 31]) (d := 32) (RA := fun v σ' => ∃ G', (∀ i, G i → G' i) ∧ (∀ i, G' i → G i ∨ B ≤ i) ∧ σ' = ixH Tryd.prog 9 3 B b G' M ⟨(l[k]?.getD w0).1, v, ns ++ [(l[k]?.getD w0).2]⟩) 10 mixed (by simp only [List.take_succ_cons, List.take_zero] <;> exact rfl) (by simp only [List.drop_succ_cons, List.drop_zero] <;> exact rfl) (by simp only [List.map_cons, List.map_nil] <;> exact rfl) rfl rfl rfl rfl (by kernel_rfl) (by kernel_rfl) (by kernel_rfl) (by kernel_rfl) (by kernel_rfl) (fun v => by kernel_rfl) (see_z (L := M.map En.kv) GIxI_ok (fun w h => ⟨h.1.1, h.2.map⟩) (hF.ans ixKeyed ixMap (ixKey (Nat.le_trans (hsz k) (by decide))) ixZero)) ?_
      (try dsimp only)
      (refine wlk ?_; intros)
      (try dsimp only)
      (with_reducible apply i_E)
      · rfl
      · simp [effOk, touch]
      (simp (disch := (first | omega | (simp only [push_cast]; first | done | omega))) only [push_cast, ↓reduceIte, Nat.reduceEqDiff, Nat.reduceBEq, Nat.reduceAdd, Nat.reduceSub, Int.reduceToNat, *] <;> with_reducible exact rfl)
      (refine wlk ?_; intros)
      have hnl : ns.length ≤ k := by have := hI.len hF; rw [List.length_take] at this; omega
      refine ⟨?_, fun s a w hz e1 e2 e3 Kn Q' hK => ?_, ?_⟩
      · rintro v σ' ⟨G', h1, h2, rfl⟩
        exact see_z (L := M.map En.kv) GIxI_ok (fun w h => ⟨h.1.1.1, h.2.map⟩) (hF.ans ixKeyed ixMap (ixKey (Nat.le_trans (hsz k) (by decide))) ixZero)
      · refine Zt.append (wd := (l[k]?.getD w0).1) (x := .tmp 28) (y := .tmp 31) (t := 40) (v0 := v0) (ns := ns) (p := (l[k]?.getD w0).2) (d := 32) (by_ := 8) (z := .int .i64 0) rfl rfl rfl (by decide) (by kernel_rfl) (by kernel_rfl) (by kernel_rfl) (by kernel_rfl) rfl ?_ ?_ hF (by omega) (by decide) hz (fun v' G' a' w' hz' hG1 hG2 => hK v' _ a' w' hz' ⟨G', hG1, hG2, rfl⟩)
        · refine (e3 28 (by decide)).symm.trans ?_
          (simp (disch := (first | omega | (simp only [push_cast]; first | done | omega))) only [push_cast, ↓reduceIte, Nat.reduceEqDiff, Nat.reduceBEq, Nat.reduceAdd, Nat.reduceSub, Int.reduceToNat, *] <;> with_reducible exact rfl)
        · rw [show look s.tm (.tmp 31) = s.tm 31 from rfl, ← e3 31 (by decide), ← e1]
          (simp (disch := (first | omega | (simp only [push_cast]; first | done | omega))) only [push_cast, ↓reduceIte, Nat.reduceEqDiff, Nat.reduceBEq, Nat.reduceAdd, Nat.reduceSub, Int.reduceToNat, *] <;> with_reducible exact rfl)
      · rintro v σ' ⟨G', hG1, hG2, rfl⟩ a w hz Kn Q' hK
        refine Zt.told (t := 93) rfl rfl ixKeyed ixMap (ixKey (Nat.le_trans (hsz k) (by decide))) ?_ ?_ ?_ hz (fun a' w' hz' => hK _ _ a' w' hz' ?_)
        · dsimp only [AS.put]
          (simp (disch := (first | omega | (simp only [push_cast]; first | done | omega))) only [push_cast, ↓reduceIte, Nat.reduceEqDiff, Nat.reduceBEq, Nat.reduceAdd, Nat.reduceSub, Int.reduceToNat, *] <;> with_reducible exact rfl)
        · dsimp only [AS.put]
          (simp (disch := (first | omega | (simp only [push_cast]; first | done | omega))) only [push_cast, ↓reduceIte, Nat.reduceEqDiff, Nat.reduceBEq, Nat.reduceAdd, Nat.reduceSub, Int.reduceToNat, *] <;> with_reducible exact rfl)
        · dsimp only [AS.put]
          (simp (disch := (first | omega | (simp only [push_cast]; first | done | omega))) only [push_cast, ↓reduceIte, Nat.reduceEqDiff, Nat.reduceBEq, Nat.reduceAdd, Nat.reduceSub, Int.reduceToNat, *] <;> with_reducible exact rfl)
        dsimp only [AS.put, X.out]
        refine HZ.eng mixed GIxI_ok (by kernel_rfl) ?_
        (try dsimp only)
        (refine wlk ?_; intros)
        (try dsimp only)
        refine ⟨(k + 1, _), ⟨by omega, putE M ⟨(l[k]?.getD w0).1, v, ns ++ [(l[k]?.getD w0).2]⟩, G', rfl, ?_, fun j hj => (hG2 j hj).elim (hG j) id⟩, by dsimp only; omega, ?_, trivial, rfl⟩
        · dsimp only
          rw [List.take_succ_eq_append_getElem hkl, show l[k] = l[k]?.getD w0 by rw [List.getElem?_eq_getElem hkl, Option.getD_some]]
          exact hI.step hF
        · (try dsimp only)
          exact agr
    · have hke : k = l.length := by omega
      rw [hke, List.take_length] at hI
      clear hsz
      refine HZ.seq (HZ.eng mixed GIxI_ok (by kernel_rfl) ?_)
      (try dsimp only)
      (refine wlk ?_; intros)
      (try dsimp only)
      refine HZ.seq (HZ.eng mixed GIxI_ok (by kernel_rfl) ?_)
      (try dsimp only)
      (refine wlk ?_; intros)
      (try dsimp only)
      refine HZ.seq (HZ.seq (HZ.each ?_))
      refine ZO.pre (imm := ⟨[], [], []⟩) 1 GIxI_ok (by kernel_rfl) (by simp only [List.take_succ_cons, List.take_zero] <;> exact rfl) (by simp only [List.drop_succ_cons, List.drop_zero] <;> exact rfl) (by simp only [List.map_cons, List.map_nil] <;> exact rfl) ?_
      (try dsimp only)
      (refine wlk ?_; intros)
      (try dsimp only)
      refine ZO.rangeM (t := 93) (e := 40) rfl rfl (by decide) rfl ixMap (by (simp (disch := (first | omega | (simp only [push_cast]; first | done | omega))) only [push_cast, ↓reduceIte, Nat.reduceEqDiff, Nat.reduceBEq, Nat.reduceAdd, Nat.reduceSub, Int.reduceToNat, *] <;> with_reducible exact rfl)) fun r hr => ?_
      dsimp only [AS.put]
      refine ZO.nil ?_
      (try dsimp only)
      refine HZ.block (HZ.loopA (α := LS × Nat × Nat × Nat) (fun i => [(3, .val (.map (some b))), (35, .val (.pointer (some ⟨r, 0, none⟩))), (6, nP 1 (i.1.map fun s => .val (.string s)) i.2.1)])
        (fun i => nO 9 1 (i.1.map fun s => .val (.string s)) i.2.1) (fun i => i.2.2.1) (fun i σ => (0 < i.1.length → i.2.1 < i.2.2.1) ∧ ∃ M left cur G, σ = ixI Tryd.prog 9 3 B b r G M left cur ∧ Gr2 l M left i.1 ∧ left.length = i.2.2.2 ∧ ∀ j, G j → B ≤ j) (fun i => i.2.2.2) ([], 0, y, _) ⟨fun h => absurd h (Nat.lt_irrefl 0), M, _, none, _, rfl, Gr2.start hI, rfl, fun j e => e.elim (hG j) fun e => e ▸ hr⟩ ?_ ?_ ?_ ?_)
      · (try dsimp only)
        rw [List.map_nil, nP_nil]
        exact agr
      · (try dsimp only)
        rw [List.map_nil, nO_nil]
        trivial
      · rfl
      rintro ⟨W, ow, y2, n2⟩ σ ⟨hoy, M2, left, cur, G2, rfl, hg2, hn2, hB2⟩
      dsimp only at hoy hg2 hn2
      refine HZ.seq (HZ.each ?_)
      refine ZO.nextM (d := 36) (x := .tmp 35) rfl rfl (by decide) rfl (by (simp (disch := (first | omega | (simp only [push_cast]; first | done | omega))) only [push_cast, ↓reduceIte, Nat.reduceEqDiff, Nat.reduceBEq, Nat.reduceAdd, Nat.reduceSub, Int.reduceToNat, *] <;> with_reducible exact rfl)) (fun h0 => ?_) (fun m hm hml left' hl' hlt => ?_)
      · dsimp only [AS.put]
        refine ZO.pre (imm := ⟨[], [], []⟩) 1 GIxI_ok (by kernel_rfl) (by simp only [List.take_succ_cons, List.take_zero] <;> exact rfl) (by simp only [List.drop_succ_cons, List.drop_zero] <;> exact rfl) (by simp only [List.map_cons, List.map_nil] <;> exact rfl) ?_
        (try dsimp only)
        (refine wlk ?_; intros)
        (try dsimp only)
        refine ZO.nil ?_
        (try dsimp only)
        refine HZ.seq (HZ.eng mixed GIxI_ok (by kernel_rfl) ?_)
        (try dsimp only)
        (refine wlk ?_; intros)
        (try simp only [X.out, ↓reduceIte])
        subst h0
        have hsw := hg2.words
        have hWl := hg2.len
        have hWu := wordsU_len l
        have hwl : W.length = (wordsU l).length := by rw [← hsw, sortB_len]
        refine HZ.seq (HZ.mono (K1 := fun x s' σ' => x = .normal ∧ σ' = ixI Tryd.prog 9 3 B b r G2 M2 [] cur ∧ ∃ ow y3, (0 < (wordsU l).length → ow < y3) ∧ agree s'.tm [(3, .val (.map (some b))), (6, nP 1 ((wordsU l).map fun s => .val (.string s)) ow)] ∧ agreeO s'.ob (nO 9 1 ((wordsU l).map fun s => .val (.string s)) ow) ∧ s'.nx = y3) ?_ ?_)
        · by_cases hW0 : W.length = 0
          · have hU0 : wordsU l = [] := List.eq_nil_of_length_eq_zero (by omega)
            obtain rfl : W = [] := List.eq_nil_of_length_eq_zero hW0
            have aps := ΦSort_nil
            rw [hU0, List.map_nil, nP_nil, nO_nil]
            refine HZ.eng mixed GIxI_ok (by kernel_rfl) ?_
            (try dsimp only)
            have gixi_c78 := GIxI_78; have gixi_c81 := GIxI_81
            (refine wlk ?_; intros)
            (try dsimp only)
            refine ⟨rfl, rfl, 0, _, fun h => absurd h (Nat.lt_irrefl 0), ?_, ?_, rfl⟩
            · rw [nP_nil]
              exact agr
            · trivial
          · have hoy := hoy (by omega)
            have aps := ΦSort_ap (T := 9) (l := W) (by omega)
            rw [hsw] at aps
            rw [nP_pos (es := W.map fun s => .val (.string s)) (by rw [List.length_map]; omega), nO_pos (es := W.map fun s => .val (.string s)) (by rw [List.length_map]; omega)]
            replace hwl := Lib.hid hwl
            refine HZ.eng mixed GIxI_ok (by kernel_rfl) ?_
            (try dsimp only)
            have gixi_c78 := GIxI_78; have gixi_c81 := GIxI_81
            (refine wlk ?_; intros)
            (try dsimp only)
            replace hwl := hwl.out
            refine ⟨rfl, rfl, ow, _, fun _ => hoy, ?_, ?_, rfl⟩
            · rw [nP_pos (es := (wordsU l).map fun s => .val (.string s)) (by rw [List.length_map]; omega)]
              exact agr
            · rw [nO_pos (es := (wordsU l).map fun s => .val (.string s)) (by rw [List.length_map]; omega)]
              exact agr
        rintro x s' σ' ⟨rfl, rfl, ow, y3, hoy3, e1, e2, e3⟩
        refine HZ.cut e1 e2 e3 ?_
        have hfind := fun w hw => hg2.find (w := w) hw
        have hkeyU : ∀ w ∈ wordsU l, w.size ≤ 20 := fun w hw => by
          obtain ⟨x, hx, rfl⟩ := wordsU_mem.1 hw
          exact (wordB_letters (hall x hx).1).2.2
        have hidx : (wordsU l).map (lineU l) = idxR l := rfl
        have hlsz := fun w hw => lineU_size hv (w := w) hw
        refine HZ.seq (HZ.eng mixed GIxI_ok (by kernel_rfl) ?_)
        (try dsimp only)
        (refine wlk ?_; intros)
        (try dsimp only)
        refine HZ.seq (HZ.seq (HZ.mono (K1 := fun x s' σ' => x = .normal ∧ σ' = ixI Tryd.prog 9 3 B b r G2 M2 [] cur ∧ agree s'.tm [(3, .val (.map (some b))), (9, .val (.slice none 0 0)), (53, nP 1 ((wordsU l).map fun s => .val (.string s)) ow), (54, iv (wordsU l).length), (55, iv (0 : Nat))] ∧ agreeO s'.ob (nO 9 1 ((wordsU l).map fun s => .val (.string s)) ow) ∧ s'.nx = y3) ?_ ?_))
        · by_cases hU0 : (wordsU l).length = 0
          · rw [List.eq_nil_of_length_eq_zero hU0, List.map_nil, nP_nil, nO_nil]
            refine HZ.eng mixed GIxI_ok (by kernel_rfl) ?_
            (try dsimp only)
            (refine wlk ?_; intros)
            (try dsimp only)
            refine ⟨rfl, rfl, ?_, ?_, rfl⟩
            · exact agr
              (try rfl)
            · trivial
          · rw [nP_pos (es := (wordsU l).map fun s => .val (.string s)) (by rw [List.length_map]; omega), nO_pos (es := (wordsU l).map fun s => .val (.string s)) (by rw [List.length_map]; omega)]
            refine HZ.eng mixed GIxI_ok (by kernel_rfl) ?_
            (try dsimp only)
            (refine wlk ?_; intros)
            (try dsimp only)
            refine ⟨rfl, rfl, ?_, ?_, rfl⟩
            · exact agr
              (try rfl)
            · exact agr
        rintro x s' σ' ⟨rfl, rfl, e1, e2, e3⟩
        refine HZ.block (HZ.loopA (α := Nat × Nat × Nat) (fun i => [(3, .val (.map (some b))), (9, nP 1 (((wordsU l).take i.1).map fun w => .val (.string (lineU l w))) i.2.1), (53, nP 1 ((wordsU l).map fun s => .val (.string s)) ow), (54, iv (wordsU l).length), (55, iv i.1)])
          (fun i => nO 9 1 ((wordsU l).map fun s => .val (.string s)) ow ++ nO 9 1 (((wordsU l).take i.1).map fun w => .val (.string (lineU l w))) i.2.1) (fun i => i.2.2) (fun i σ => i.1 ≤ (wordsU l).length ∧ (0 < (wordsU l).length → ow < i.2.2) ∧ (0 < i.1 → i.2.1 < i.2.2 ∧ ow ≠ i.2.1) ∧ σ = ixI Tryd.prog 9 3 B b r G2 M2 [] cur) (fun i => (wordsU l).length - i.1) (0, 0, y3) ⟨Nat.zero_le _, hoy3, fun h => absurd h (Nat.lt_irrefl 0), rfl⟩ ?_ ?_ e3 ?_)
        · exact e1
        · dsimp only
          rw [List.take_zero, List.map_nil, nO_nil, List.append_nil]
          exact e2
        rintro ⟨j, oo, y4⟩ σ ⟨hj, ho1, ho2, rfl⟩
        dsimp only at hj ho1 ho2
        refine HZ.seq (HZ.eng mixed GIxI_ok (by kernel_rfl) ?_)
        (try dsimp only)
        (refine wlk ?_; intros)
        (try dsimp only)
        by_cases hjl : j < (wordsU l).length
        · have hwm : (wordsU l)[j]?.getD .empty ∈ wordsU l := by
            rw [List.getElem?_eq_getElem hjl, Option.getD_some]
            exact List.getElem_mem hjl
          have ho1 := ho1 (by omega)
          obtain ⟨m, hm, hmw, hmn⟩ := hfind _ hwm
          have hw20 := hkeyU _ hwm
          have hsp : (⟨#[32]⟩ : ByteArray).size = 1 := rfl
          have hpl : (pagesU l ((wordsU l)[j]?.getD .empty)).length ≤ l.length := pagesN_len
          have hpt := pagesT_size30 (pagesU_valid hl30 ((wordsU l)[j]?.getD .empty))
          have hline : lineU l ((wordsU l)[j]?.getD .empty) = ((wordsU l)[j]?.getD .empty ++ ⟨#[32]⟩) ++ pagesT (pagesU l ((wordsU l)[j]?.getD .empty)) := rfl
          have hF : Fnd1 M2 ((wordsU l)[j]?.getD .empty) m.v (pagesU l ((wordsU l)[j]?.getD .empty)) := .inr ⟨m, hm, hmw, rfl, hmn⟩
          have hn1 : ((wordsU l).take (j + 1)).map (fun w => PV.val (.string (lineU l w))) = ((wordsU l).take j).map (fun w => PV.val (.string (lineU l w))) ++ [.val (.string (lineU l ((wordsU l)[j]?.getD .empty)))] := by
            rw [List.take_succ_eq_append_getElem hjl, List.map_append, List.getElem?_eq_getElem hjl, Option.getD_some]
            rfl
          replace hn1 := Lib.hid hn1
          have hlk := lk_one (Γ := GIxI) (t := 93) (b := b) (c := false) (k0 := .string ((wordsU l)[j]?.getD .empty)) (p := .val m.v)
          have htl : (((wordsU l).take j).map fun w => PV.val (.string (lineU l w))).length = j := by
            rw [List.length_map, List.length_take]
            omega
          rw [nP_pos (es := (wordsU l).map fun s => .val (.string s)) (by rw [List.length_map]; omega), nO_pos (es := (wordsU l).map fun s => .val (.string s)) (by rw [List.length_map]; omega)]
          clear hfind hkeyU hlsz
          by_cases hj0 : j = 0
          · have ht0 : ((wordsU l).take j).map (fun w => PV.val (.string (lineU l w))) = [] := by rw [hj0]; rfl
            rw [ht0, nP_nil, nO_nil, List.append_nil]
            replace hn1 := hn1.out
            rw [ht0, List.nil_append] at hn1
            replace hn1 := Lib.hid hn1
            clear htl ht0 hj0
            refine HZ.seq (HZ.eng mixed GIxI_ok (by kernel_rfl) ?_)
            (try dsimp only)
            (refine wlk ?_; intros)
            (try dsimp only)
            refine HZ.seq (HZ.block (HZ.seq (HZ.eng mixed GIxI_ok (by kernel_rfl) ?_)))
            (try dsimp only)
            (refine wlk ?_; intros)
            (try dsimp only)
            refine HZ.each ?_
            refine ZO.preW (Γ := GIxI.see ⟨93, b, ansOne false (.string ((wordsU l)[j]?.getD .empty)) (.val m.v)⟩) (imm := ⟨[], [], []⟩) 6 (see_z (L := M2.map En.kv) GIxI_ok (fun w h => ⟨h.1.1.1, h.2.1.it.toMap⟩) (hF.ans ixKeyed ixMap (ixKey (Nat.le_trans hw20 (by decide))) ixZero)) (by kernel_rfl) (by simp only [List.take_succ_cons, List.take_zero] <;> exact rfl) (by simp only [List.drop_succ_cons, List.drop_zero] <;> exact rfl) (by simp only [List.map_cons, List.map_nil] <;> exact rfl) ?_
            (try dsimp only)
            (refine wlk ?_; intros)
            (try dsimp only)
            refine ZO.callS (φ := φPt) (ps := [.lst false 1 ((pagesU l ((wordsU l)[j]?.getD .empty)).map fun n => .val (.int .i64 n))]) (u := .string (pagesT (pagesU l ((wordsU l)[j]?.getD .empty)))) rfl rfl ⟨_, Tryd.func27, rfl, rfl⟩ rfl (by rintro y ⟨⟩; decide) implPt_ok (φPt_ap (by omega)) (fun a w1 hst => ?_) ?_
            · obtain ⟨⟨io, w0, g, hr, hC⟩, hat⟩ := hst
              obtain ⟨Jm, hJ, hrep⟩ := hat.2.1.rep hm
              refine ⟨Jm, hJ, ?_⟩
              have hX := hr.look (.tmp 64)
              rw [show look _ (.tmp 64) = .val m.v from by (simp (disch := (first | omega | (simp only [push_cast]; first | done | omega))) only [push_cast, ↓reduceIte, Nat.reduceEqDiff, Nat.reduceBEq, Nat.reduceAdd, Nat.reduceSub, Int.reduceToNat, *] <;> with_reducible exact rfl)] at hX
              simp only [Rep] at hX
              simp only [List.map_toArray, List.map_cons, List.map_nil]
              rw [hX]
              exact ⟨_, _, rfl, hmn ▸ hrep, rfl⟩
            dsimp only [AS.put]
            refine ZO.pre (imm := ⟨[], [], []⟩) 4 GIxI_ok (by kernel_rfl) (by simp only [List.take_succ_cons, List.take_zero] <;> exact rfl) (by simp only [List.drop_succ_cons, List.drop_zero] <;> exact rfl) (by simp only [List.map_cons, List.map_nil] <;> exact rfl) ?_
            (try dsimp only)
            (refine wlk ?_; intros)
            (try dsimp only)
            refine ZO.nil ?_
            (try dsimp only [X.out])
            refine HZ.eng mixed GIxI_ok (by kernel_rfl) ?_
            (try dsimp only)
            (refine wlk ?_; intros)
            (try dsimp only)
            refine ⟨(j + 1, y4 + 1, y4 + 2), ⟨by dsimp only; omega, fun _ => by dsimp only; omega, fun _ => ⟨by dsimp only; omega, by dsimp only; omega⟩, rfl⟩, by dsimp only; omega, ?_, ?_, rfl⟩
            · (try dsimp only)
              rw [hn1.out, nP_pos (by simp)]
              exact agi
            · (try dsimp only)
              rw [hn1.out, nO_pos (by simp)]
              simp (disch := (first | omega | (simp only [push_cast]; first | done | omega))) only [push_cast, ↓reduceIte, Nat.reduceEqDiff, Nat.reduceBEq, Nat.reduceAdd, Nat.reduceSub, Int.reduceToNat, List.cons_append, List.nil_append, List.append_nil, *]
          · obtain ⟨ho2, ho3⟩ := ho2 (by omega)
            rw [nP_pos (es := ((wordsU l).take j).map fun w => .val (.string (lineU l w))) (by omega), nO_pos (es := ((wordsU l).take j).map fun w => .val (.string (lineU l w))) (by omega)]
            rw [htl]
            generalize ((wordsU l).take j).map (fun w => PV.val (.string (lineU l w))) = OUT at *
            refine HZ.seq (HZ.eng mixed GIxI_ok (by kernel_rfl) ?_)
            (try dsimp only)
            (refine wlk ?_; intros)
            (try dsimp only)
            refine HZ.seq (HZ.block (HZ.seq (HZ.eng mixed GIxI_ok (by kernel_rfl) ?_)))
            (try dsimp only)
            (refine wlk ?_; intros)
            (try dsimp only)
            refine HZ.each ?_
            refine ZO.preW (Γ := GIxI.see ⟨93, b, ansOne false (.string ((wordsU l)[j]?.getD .empty)) (.val m.v)⟩) (imm := ⟨[], [], []⟩) 6 (see_z (L := M2.map En.kv) GIxI_ok (fun w h => ⟨h.1.1.1, h.2.1.it.toMap⟩) (hF.ans ixKeyed ixMap (ixKey (Nat.le_trans hw20 (by decide))) ixZero)) (by kernel_rfl) (by simp only [List.take_succ_cons, List.take_zero] <;> exact rfl) (by simp only [List.drop_succ_cons, List.drop_zero] <;> exact rfl) (by simp only [List.map_cons, List.map_nil] <;> exact rfl) ?_
            (try dsimp only)
            (refine wlk ?_; intros)
            (try dsimp only)
            refine ZO.callS (φ := φPt) (ps := [.lst false 1 ((pagesU l ((wordsU l)[j]?.getD .empty)).map fun n => .val (.int .i64 n))]) (u := .string (pagesT (pagesU l ((wordsU l)[j]?.getD .empty)))) rfl rfl ⟨_, Tryd.func27, rfl, rfl⟩ rfl (by rintro y ⟨⟩; decide) implPt_ok (φPt_ap (by omega)) (fun a w1 hst => ?_) ?_
            · obtain ⟨⟨io, w0, g, hr, hC⟩, hat⟩ := hst
              obtain ⟨Jm, hJ, hrep⟩ := hat.2.1.rep hm
              refine ⟨Jm, hJ, ?_⟩
              have hX := hr.look (.tmp 64)
              rw [show look _ (.tmp 64) = .val m.v from by (simp (disch := (first | omega | (simp only [push_cast]; first | done | omega))) only [push_cast, ↓reduceIte, Nat.reduceEqDiff, Nat.reduceBEq, Nat.reduceAdd, Nat.reduceSub, Int.reduceToNat, *] <;> with_reducible exact rfl)] at hX
              simp only [Rep] at hX
              simp only [List.map_toArray, List.map_cons, List.map_nil]
              rw [hX]
              exact ⟨_, _, rfl, hmn ▸ hrep, rfl⟩
            dsimp only [AS.put]
            refine ZO.pre (imm := ⟨[], [], []⟩) 4 GIxI_ok (by kernel_rfl) (by simp only [List.take_succ_cons, List.take_zero] <;> exact rfl) (by simp only [List.drop_succ_cons, List.drop_zero] <;> exact rfl) (by simp only [List.map_cons, List.map_nil] <;> exact rfl) ?_
            (try dsimp only)
            (refine wlk ?_; intros)
            (try dsimp only)
            refine ZO.nil ?_
            (try dsimp only [X.out])
            refine HZ.eng mixed GIxI_ok (by kernel_rfl) ?_
            (try dsimp only)
            (refine wlk ?_; intros)
            (try dsimp only)
            refine ⟨(j + 1, y4 + 1, y4 + 2), ⟨by dsimp only; omega, fun _ => by dsimp only; omega, fun _ => ⟨by dsimp only; omega, by dsimp only; omega⟩, rfl⟩, by dsimp only; omega, ?_, ?_, rfl⟩
            · (try dsimp only)
              rw [hn1.out, nP_pos (by simp)]
              exact agi
            · (try dsimp only)
              rw [hn1.out, nO_pos (by simp)]
              simp (disch := (first | omega | (simp only [push_cast]; first | done | omega))) only [push_cast, ↓reduceIte, Nat.reduceEqDiff, Nat.reduceBEq, Nat.reduceAdd, Nat.reduceSub, Int.reduceToNat, List.cons_append, List.nil_append, List.append_nil, *]
        · obtain rfl : j = (wordsU l).length := by omega
          rw [List.take_length]
          have hRl : ((wordsU l).map fun w => PV.val (.string (lineU l w))) = (idxR l).map fun s => PV.val (.string s) := by rw [← hidx, List.map_map]; rfl
          rw [hRl]
          clear hfind hkeyU hlsz hall
          by_cases hU0 : (wordsU l).length = 0
          · have hU1 : wordsU l = [] := List.eq_nil_of_length_eq_zero hU0
            have hR1 : idxR l = [] := by rw [← hidx, hU1]; rfl
            rw [hU1, hR1]
            simp only [List.map_nil, nP_nil, nC_nil, nO_nil, List.append_nil]
            clear hRl hidx hR1 hU0 hoy3 ho1 ho2
            refine HZ.seq (HZ.eng mixed GIxI_ok (by kernel_rfl) ?_)
            (try dsimp only)
            (refine wlk ?_; intros)
            (try simp only [X.out, ↓reduceIte])
            refine HZ.eng mixed GIxI_ok (by kernel_rfl) ?_
            (try dsimp only)
            (refine wlk ?_; intros)
            (try dsimp only)
            all_goals refine ⟨?_, fun i hi => hB2 i hi⟩
            all_goals ((with_reducible apply i_endN0 (by first | exact .inl rfl | exact .inr rfl)); (simp (disch := (first | omega | (simp only [push_cast]; first | done | omega))) only [push_cast, ↓reduceIte, Nat.reduceEqDiff, Nat.reduceBEq, Nat.reduceAdd, Nat.reduceSub, Int.reduceToNat, *] <;> with_reducible exact rfl))
          · obtain ⟨ho2, ho3⟩ := ho2 (by omega)
            have ho1 := ho1 (by omega)
            have hRl2 : (idxR l).length = (wordsU l).length := by rw [← hidx, List.length_map]
            have hRp : 0 < ((idxR l).map fun s => PV.val (.string s)).length := by rw [List.length_map]; omega
            rw [nP_pos (es := (wordsU l).map fun s => .val (.string s)) (by rw [List.length_map]; omega), nO_pos (es := (wordsU l).map fun s => .val (.string s)) (by rw [List.length_map]; omega)]
            simp only [nP_pos hRp, nO_pos hRp, nC_pos hRp, List.cons_append, List.nil_append]
            clear hRl hidx hRp
            generalize idxR l = R at *
            refine HZ.seq (HZ.eng mixed GIxI_ok (by kernel_rfl) ?_)
            (try dsimp only)
            (refine wlk ?_; intros)
            (try simp only [X.out, ↓reduceIte])
            refine HZ.eng mixed GIxI_ok (by kernel_rfl) ?_
            (try dsimp only)
            (refine wlk ?_; intros)
            (try dsimp only)
            all_goals refine ⟨?_, fun i hi => hB2 i hi⟩
            all_goals ((with_reducible apply i_endN1 (oo) (by first | exact .inl rfl | exact .inr rfl)); (focus (simp (disch := (first | omega | (simp only [push_cast]; first | done | omega))) only [push_cast, ↓reduceIte, Nat.reduceEqDiff, Nat.reduceBEq, Nat.reduceAdd, Nat.reduceSub, Int.reduceToNat, *] <;> with_reducible exact rfl)); (focus (simp (disch := (first | omega | (simp only [push_cast]; first | done | omega))) only [push_cast, ↓reduceIte, Nat.reduceEqDiff, Nat.reduceBEq, Nat.reduceAdd, Nat.reduceSub, Int.reduceToNat, *] <;> with_reducible exact rfl)))
      · obtain ⟨M1, M3, rfl⟩ := List.append_of_mem hm
        have hml2 := hml
        have hns : m.ns.length ≤ l.length := hg2.nsl (by simp)
        have hkey := ixKey (s := m.w) (by
          obtain ⟨x, hx, hxw⟩ := (hg2.all m.w).1 ⟨m, by simp, rfl⟩
          have := (wordB_letters (hall x hx).1).2.2
          rw [← hxw]
          omega)
        dsimp only [AS.put]
        refine ZO.pre (imm := ⟨[], [], []⟩) 1 GIxI_ok (by kernel_rfl) (by simp only [List.take_succ_cons, List.take_zero] <;> exact rfl) (by simp only [List.drop_succ_cons, List.drop_zero] <;> exact rfl) (by simp only [List.map_cons, List.map_nil] <;> exact rfl) ?_
        (try dsimp only)
        (refine wlk ?_; intros)
        (try dsimp only)
        refine ZO.nil ?_
        (try dsimp only)
        refine HZ.seq (HZ.eng mixed GIxI_ok (by kernel_rfl) ?_)
        (try dsimp only)
        (refine wlk ?_; intros)
        (try dsimp only)
        refine HZ.block (HZ.seq (HZ.each ?_))
        refine ZO.entryM (d := 38) (x := .tmp 35) rfl rfl (by decide) rfl (by (simp (disch := (first | omega | (simp only [push_cast]; first | done | omega))) only [push_cast, ↓reduceIte, Nat.reduceEqDiff, Nat.reduceBEq, Nat.reduceAdd, Nat.reduceSub, Int.reduceToNat, *] <;> with_reducible exact rfl)) ?_
        dsimp only [AS.put]
        refine ZO.pre (imm := ⟨[], [], []⟩) 4 GIxI_ok (by kernel_rfl) (by simp only [List.take_succ_cons, List.take_zero] <;> exact rfl) (by simp only [List.drop_succ_cons, List.drop_zero] <;> exact rfl) (by simp only [List.map_cons, List.map_nil] <;> exact rfl) ?_
        (try dsimp only)
        (refine wlk ?_; intros)
        (try dsimp only)
        refine ZO.nil ?_
        (try dsimp only)
        refine HZ.seq (HZ.each ?_)
        refine ZO.pre (imm := ⟨[], [], []⟩) 1 GIxI_ok (by kernel_rfl) (by simp only [List.take_succ_cons, List.take_zero] <;> exact rfl) (by simp only [List.drop_succ_cons, List.drop_zero] <;> exact rfl) (by simp only [List.map_cons, List.map_nil] <;> exact rfl) ?_
        (try dsimp only)
        (refine wlk ?_; intros)
        (try dsimp only)
        refine ZO.sortM (x := .tmp 41) rfl rfl rfl ⟨_, Tryd.func79, rfl, rfl⟩ rfl (by rintro y ⟨⟩; decide) sortI_ok (by (simp (disch := (first | omega | (simp only [push_cast]; first | done | omega))) only [push_cast, ↓reduceIte, Nat.reduceEqDiff, Nat.reduceBEq, Nat.reduceAdd, Nat.reduceSub, Int.reduceToNat, *] <;> with_reducible exact rfl)) (by omega) ?_
        dsimp only [AS.put]
        refine ZO.nil ?_
        (try dsimp only)
        refine HZ.seq (HZ.each ?_)
        refine ZO.pre (imm := ⟨[], [], []⟩) 3 GIxI_ok (by kernel_rfl) (by simp only [List.take_succ_cons, List.take_zero] <;> exact rfl) (by simp only [List.drop_succ_cons, List.drop_zero] <;> exact rfl) (by simp only [List.map_cons, List.map_nil] <;> exact rfl) ?_
        (try dsimp only)
        (refine wlk ?_; intros)
        (try dsimp only)
        refine ZO.compM (m := ⟨m.w, m.v, sortI m.ns⟩) (d := 46) (x := .tmp 45) rfl rfl rfl ⟨_, Tryd.func80, rfl, rfl⟩ rfl rfl (by decide) compI_ok (by (simp (disch := (first | omega | (simp only [push_cast]; first | done | omega))) only [push_cast, ↓reduceIte, Nat.reduceEqDiff, Nat.reduceBEq, Nat.reduceAdd, Nat.reduceSub, Int.reduceToNat, *] <;> with_reducible exact rfl)) (by rw [sortI_len]; omega) fun g cap hmv => ?_
        dsimp only at hmv
        dsimp only [AS.put]
        have hcl := compact_le (sortI m.ns)
        have htk : (Lib.compact (sortI m.ns) ++ List.replicate ((sortI m.ns).length - (Lib.compact (sortI m.ns)).length) 0).take (Lib.compact (sortI m.ns)).length = Lib.compact (sortI m.ns) := List.take_left' rfl
        refine ZO.toldI (m := ⟨m.w, m.v, Lib.compact (sortI m.ns) ++ List.replicate ((sortI m.ns).length - (Lib.compact (sortI m.ns)).length) 0⟩) (t := 93) (e := 40) (n := (sortI m.ns).length) (x := .tmp 43) (y := .tmp 44) (z := .tmp 46) rfl rfl rfl ixKeyed ixMap hkey (by (simp (disch := (first | omega | (simp only [push_cast]; first | done | omega))) only [push_cast, ↓reduceIte, Nat.reduceEqDiff, Nat.reduceBEq, Nat.reduceAdd, Nat.reduceSub, Int.reduceToNat, *] <;> with_reducible exact rfl)) (by (simp (disch := (first | omega | (simp only [push_cast]; first | done | omega))) only [push_cast, ↓reduceIte, Nat.reduceEqDiff, Nat.reduceBEq, Nat.reduceAdd, Nat.reduceSub, Int.reduceToNat, *] <;> with_reducible exact rfl)) (by (simp (disch := (first | omega | (simp only [push_cast]; first | done | omega))) only [push_cast, ↓reduceIte, Nat.reduceEqDiff, Nat.reduceBEq, Nat.reduceAdd, Nat.reduceSub, Int.reduceToNat, *] <;> with_reducible exact rfl)) hmv (by rw [List.length_append, List.length_replicate]; omega) hcl ?_
        dsimp only
        rw [htk]
        refine ZO.nil ?_
        (try dsimp only)
        have hWl := hg2.len
        have hWu := wordsU_len l
        have hst := fun v' => hg2.step (v' := v') (fun x hx => (hall x hx).2) hml hl'
        by_cases hW0 : W.length = 0
        · obtain rfl : W = [] := List.eq_nil_of_length_eq_zero hW0
          rw [List.map_nil, nP_nil, nO_nil]
          refine HZ.eng mixed GIxI_ok (by kernel_rfl) ?_
          (try dsimp only)
          (refine wlk ?_; intros)
          (try dsimp only)
          refine ⟨([m.w], y2 + 1, y2 + 2, left'.length), ⟨fun _ => by dsimp only; omega, _, left', none, G2, rfl, hst _, rfl, hB2⟩, by dsimp only; omega, ?_, ?_, rfl⟩
          · (try dsimp only)
            rw [nP_pos (by simp)]
            exact agr
          · (try dsimp only)
            rw [nO_pos (by simp)]
            exact agr
        · have hoy := hoy (by omega)
          rw [nP_pos (es := W.map fun s => .val (.string s)) (by rw [List.length_map]; omega), nO_pos (es := W.map fun s => .val (.string s)) (by rw [List.length_map]; omega)]
          refine HZ.eng mixed GIxI_ok (by kernel_rfl) ?_
          (try dsimp only)
          (refine wlk ?_; intros)
          (try dsimp only)
          refine ⟨(W ++ [m.w], y2 + 1, y2 + 2, left'.length), ⟨fun _ => by dsimp only; omega, _, left', none, G2, rfl, hst _, rfl, hB2⟩, by dsimp only; omega, ?_, ?_, rfl⟩
          · (try dsimp only)
            rw [nP_pos (by simp)]
            exact agr
          · (try dsimp only)
            rw [nO_pos (by simp)]
            exact agr
end Go.Proofs.YtpggpdbipajchaaDoor
namespace Go.Proofs.YtpggpdbipajchaaDoor
open Go.RowKit
set_option linter.all false
theorem renCT_flatW {β : Type} {nm : Nat → Nat} {T sz : Nat} {g : β → PV} {l : List β} (h : ∀ x, flatP 2 (g x) = true) : renCT nm fuel (T, sz, l.map g) = some (T, sz, l.map g) := by
  unfold renCT
  show ((l.map g).mapM (renT nm (6 + 2))).map _ = _
  rw [renTM_flat h]
  rfl
theorem szWsx_ok {l : List W2} (h : 0 ≤ szWs 1048576 l) : l.length ≤ 1048576 ∧ okW l := by
  unfold szWs at h
  split at h
  · omega
  · rename_i h1
    have h2 : l.length ≤ 1048576 := by omega
    have h3 := takeOff_pos h (by omega)
    refine ⟨h2, by omega, fun i => ?_⟩
    by_cases hi : i < l.length
    · have := h3 (l[i].1.size) (List.mem_map.2 ⟨l[i], List.getElem_mem hi, rfl⟩)
      simp only [hi, List.getElem?_eq_getElem, Option.getD_some]
      omega
    · rw [List.getElem?_eq_none (by omega)]
      simp [w0]
noncomputable def ΨToWs : FunN := G1 dWs fun l => if l.length ≤ 1048576 then some (.row 0 2 0 l.length, [(61, 2, l.map fun x => .agg [.val (.string x.1), .val (.int .i64 x.2)])]) else none
noncomputable def GTwN : Ctx := { fn := fun f => if f = 77 then some φToWord else none, io := fun f => none }
theorem GTwN_ok : SoundΓ Tryd.prog GTwN := ⟨(fun f φ h => by
  unfold GTwN at h
  dsimp only at h
  split at h
  · rename_i hf; cases h; subst hf; exact ⟨⟨_, Tryd.func77, rfl, rfl⟩, toWord_ok⟩
  cases h), (fun f φ h => by
  unfold GTwN at h
  dsimp only at h
  cases h), rfl⟩
theorem GTwN_77 (ob : Objs) (ps : List PV) : evCall GTwN ob 77 ps = (ps.mapM (reify false 0 ob fuel)).bind φToWord := by
  have h : GTwN.fn 77 = some φToWord := by simp [GTwN]
  unfold evCall
  rw [h]
  cases ps.mapM (reify false 0 ob fuel) <;> rfl
set_option maxHeartbeats 4000000 in
theorem toWordSN : SoundN Tryd.prog 40 ΨToWs := by
  refine sound_pqN mixed GTwN_ok Tryd.func40 rfl 23 rfl [.tmp 2] rfl (by kernel_rfl) fun ps r cs' hr => ?_
  obtain ⟨l, rfl, hq⟩ := G1_some hr
  clear hr
  split at hq
  case isFalse => cases hq
  case isTrue hpre =>
  cases hq
  refine ⟨by simp, ?_⟩
  simp only [dIs, dUs, dSs, dI_e, dU_e, dB_e, dS_e, dFn_e, dL_e, dA2_e, dA3_e, dA4_e, dA5_e]
  have gtwn_c77 := GTwN_77; have ap := @φToWord_ap
  (refine wlkX ?_; intros)
  refine i_loop (α := Nat) mixed (fun k => [(0, .lst false 2 (l.map fun x => .agg [.val (.string x.1), .val (.int .i64 x.2)])), (3, .row 0 2 0 l.length), (4, iv k)]) (fun k => [(0, 61, 2, (fillZ l w0 k).map fun x => .agg [.val (.string x.1), .val (.int .i64 x.2)])]) (fun _ => 1)
    (fun k => k ≤ l.length) (fun k => l.length - k) (by kernel_rfl) 0 (Nat.zero_le _) ?_ ?_ ?_ ?_
  · simp only [push_cast, ↓reduceIte, Nat.reduceEqDiff, Nat.reduceBEq, Nat.reduceAdd, Nat.reduceSub, Int.reduceToNat]
  · simp only [push_cast, ↓reduceIte, Nat.reduceEqDiff, Nat.reduceBEq, Nat.reduceAdd, Nat.reduceSub, Int.reduceToNat, fillZ_zero, List.map_replicate, w0]
  · simp only [push_cast, ↓reduceIte, Nat.reduceEqDiff, Nat.reduceBEq, Nat.reduceAdd, Nat.reduceSub, Int.reduceToNat]
  · intro k hk
    have hfl : (fillZ l w0 k).length = l.length := fillZ_length
    by_cases h : k < l.length
    · (refine wlk ?_; intros)
      refine ⟨k + 1, by omega, by dsimp only; omega, by simp only [push_cast, ↓reduceIte, Nat.reduceEqDiff, Nat.reduceBEq, Nat.reduceAdd, Nat.reduceSub, Int.reduceToNat], ?_, rfl⟩
      simp only [push_cast, ↓reduceIte, Nat.reduceEqDiff, Nat.reduceBEq, Nat.reduceAdd, Nat.reduceSub, Int.reduceToNat]
      rw [← fillZ_set (y := l[k]?.getD w0) h (by simp [h])]
    · (refine wlk ?_; intros)
      have e := fillZ_full (zs := l) (z := w0) (k := k) (by omega)
      rw [e]
      ((with_reducible apply i_endN1 (0) (by first | exact .inl rfl | exact .inr rfl)); (focus (simp (disch := (first | omega | (simp only [push_cast]; first | done | omega))) only [push_cast, ↓reduceIte, Nat.reduceEqDiff, Nat.reduceBEq, Nat.reduceAdd, Nat.reduceSub, Int.reduceToNat, *] <;> with_reducible exact rfl)); (focus (simp (disch := (first | omega | (simp only [push_cast]; first | done | omega))) only [push_cast, ↓reduceIte, Nat.reduceEqDiff, Nat.reduceBEq, Nat.reduceAdd, Nat.reduceSub, Int.reduceToNat, *] <;> with_reducible exact rfl)))
theorem toWs_lift {l : List W2} (h : l.length ≤ 1048576) : liftN ΨToWs [.lst false 2 (l.map fun x => .agg [.val (.string x.1), .val (.int .i64 x.2)])] [] = some (.row 0 2 0 l.length, [(61, 2, l.map fun x => .agg [.val (.string x.1), .val (.int .i64 x.2)])]) := by
  refine (liftN_of (cs := []) (qs := [.lst false 2 (l.map fun x => .agg [.val (.string x.1), .val (.int .i64 x.2)])]) (cs1 := [(61, 2, l.map fun x => .agg [.val (.string x.1), .val (.int .i64 x.2)])]) (by rw [mapM_cons', mapM_nil', reify_fuel]; simp only [push_cast]) ((G1_ap (A := dWs) l).trans (if_pos h)) rfl (by
    rw [mapM_cons', mapM_nil', Option.bind_eq_some_iff]; exact ⟨_, renCT_flatW fun _ => rfl, rfl⟩)).trans ?_
  rfl
noncomputable def mkW (k : Int) (j : Nat) : W2 := (mkT (k + 2 * j), k + 2 * j + 1)
noncomputable def GMkW : Ctx := { fn := fun f => if f = 57 then some φMarkT else none, io := fun f => none }
theorem GMkW_ok : SoundΓ Tryd.prog GMkW := ⟨(fun f φ h => by
  unfold GMkW at h
  dsimp only at h
  split at h
  · rename_i hf; cases h; subst hf; exact ⟨⟨_, Tryd.func57, rfl, rfl⟩, markText_ok⟩
  cases h), (fun f φ h => by
  unfold GMkW at h
  dsimp only at h
  cases h), rfl⟩
theorem GMkW_57 (ob : Objs) (ps : List PV) : evCall GMkW ob 57 ps = (ps.mapM (reify false 0 ob fuel)).bind φMarkT := by
  have h : GMkW.fn 57 = some φMarkT := by simp [GMkW]
  unfold evCall
  rw [h]
  cases ps.mapM (reify false 0 ob fuel) <;> rfl
theorem markWs_ex : ∃ Φ : FunIO, SoundIO Tryd.prog 43 Φ ∧ ∀ (l : List W2) (k : Int), l.length ≤ 1048576 → 0 < k → k ≤ 1099511627776 → Φ [.row 0 2 0 l.length, .val (.int .i64 k)] [(61, 2, l.map fun x => .agg [.val (.string x.1), .val (.int .i64 x.2)])] =
    some (.val (.int .i64 (k + 2 * l.length)), [(61, 2, (mixL (mkW k) l l.length).map fun x => .agg [.val (.string x.1), .val (.int .i64 x.2)])]) := by
  obtain ⟨Φ, h1, h2⟩ := relIO_any mixed GMkW_ok Tryd.func43 rfl 28 rfl [.tmp 4] rfl (by kernel_rfl)
    (fun ps cs => ∃ (l : List W2) (k : Int), ps = [.row 0 2 0 l.length, .val (.int .i64 k)] ∧ cs = [(61, 2, l.map fun x => .agg [.val (.string x.1), .val (.int .i64 x.2)])] ∧ l.length ≤ 1048576 ∧ 0 < k ∧ k ≤ 1099511627776)
    (fun ps cs r cs' => ∀ (l : List W2) (k : Int), ps = [.row 0 2 0 l.length, .val (.int .i64 k)] → cs = [(61, 2, l.map fun x => .agg [.val (.string x.1), .val (.int .i64 x.2)])] → r = .val (.int .i64 (k + 2 * l.length)) ∧ cs' = [(61, 2, (mixL (mkW k) l l.length).map fun x => .agg [.val (.string x.1), .val (.int .i64 x.2)])])
    (fun ps cs ⟨l, k, e, _⟩ => by rw [e]; simp) (fun ps cs ⟨l, k, e1, e2, hl, hk, hk2⟩ => by
      subst e1 e2
      rw [ls_one]
      (refine wlkX ?_; intros)
      refine i_loop (α := Nat) mixed (fun j => [(0, .row 0 2 0 l.length), (1, iv (k + 2 * j)), (5, iv j)]) (fun j => [(0, 61, 2, (mixL (mkW k) l j).map fun x => .agg [.val (.string x.1), .val (.int .i64 x.2)])]) (fun _ => 1)
        (fun j => j ≤ l.length) (fun j => l.length - j) (by kernel_rfl) 0 (Nat.zero_le _) ?_ ?_ rfl ?_
      · simp (disch := (first | omega | (simp only [push_cast]; first | done | omega))) only [push_cast, ↓reduceIte, Nat.reduceEqDiff, Nat.reduceBEq, Nat.reduceAdd, Nat.reduceSub, Int.reduceToNat, Int.add_zero, Int.mul_zero]
      · simp (disch := (first | omega | (simp only [push_cast]; first | done | omega))) only [push_cast, ↓reduceIte, Nat.reduceEqDiff, Nat.reduceBEq, Nat.reduceAdd, Nat.reduceSub, Int.reduceToNat, mixL_zero]
      intro j hj
      have hm : (mixL (mkW k) l j).length = l.length := mixL_length hj
      by_cases h : j < l.length
      · have hms := mixL_set (m := mkW k) (l := l) h
        replace hms := Lib.hid hms
        have ap := φMarkT_ap (k := k + 2 * j) (by omega) (by omega)
        have gmkw_c57 := GMkW_57
        (refine wlk ?_; intros)
        refine ⟨j + 1, by omega, by dsimp only; omega, ?_, ?_, rfl⟩
        · simp (disch := (first | omega | (simp only [push_cast]; first | done | omega))) only [push_cast, ↓reduceIte, Nat.reduceEqDiff, Nat.reduceBEq, Nat.reduceAdd, Nat.reduceSub, Int.reduceToNat, *]
          rw [show k + 2 * (j : Int) + 1 + 1 = k + 2 * ((j : Int) + 1) by omega]
        · simp (disch := (first | omega | (simp only [push_cast]; first | done | omega))) only [push_cast, ↓reduceIte, Nat.reduceEqDiff, Nat.reduceBEq, Nat.reduceAdd, Nat.reduceSub, Int.reduceToNat, *]
          rw [← hms.out]
          have hjm : j < (mixL (mkW k) l j).length := by omega
          simp only [List.getElem?_set_self, List.length_set, hjm, Option.getD_some, List.set_set, mkW, Int.add_assoc]
          try rfl
      · obtain rfl : j = l.length := by omega
        (refine wlk ?_; intros)
        refine i_any1 (r := .val (.int .i64 (k + 2 * l.length))) (c' := (61, 2, (mixL (mkW k) l l.length).map fun x => .agg [.val (.string x.1), .val (.int .i64 x.2)])) (by first | exact .inl rfl | exact .inr rfl) (by (simp (disch := (first | omega | (simp only [push_cast]; first | done | omega))) only [push_cast, ↓reduceIte, Nat.reduceEqDiff, Nat.reduceBEq, Nat.reduceAdd, Nat.reduceSub, Int.reduceToNat, *] <;> with_reducible exact rfl)) (by (simp (disch := (first | omega | (simp only [push_cast]; first | done | omega))) only [push_cast, ↓reduceIte, Nat.reduceEqDiff, Nat.reduceBEq, Nat.reduceAdd, Nat.reduceSub, Int.reduceToNat, *] <;> with_reducible exact rfl)) fun l1 k1 e1 e2 => ?_
        obtain ⟨e3, e4⟩ : l.length = l1.length ∧ k = k1 := by simpa using e1
        subst e4
        have e5 : l = l1 := by
          simp only [List.cons.injEq, Prod.mk.injEq, true_and, and_true] at e2
          refine (List.map_inj_right fun a b e => ?_).1 e2
          simp only [PV.agg.injEq, List.cons.injEq, PV.val.injEq, Value.int.injEq, Value.string.injEq, true_and, and_true] at e
          exact Prod.ext e.1 e.2
        subst e5
        exact ⟨rfl, rfl⟩)
  refine ⟨Φ, h1, fun l k hl hk hk2 => ?_⟩
  obtain ⟨r, cs', e, hr⟩ := h2 _ _ ⟨l, k, rfl, rfl, hl, hk, hk2⟩
  obtain ⟨rfl, rfl⟩ := hr l k rfl rfl
  exact e
noncomputable def ΦmarkWs : FunIO := Classical.choose markWs_ex
theorem markWs_io : SoundIO Tryd.prog 43 ΦmarkWs := (Classical.choose_spec markWs_ex).1
theorem markWs_ap : ∀ (l : List W2) (k : Int), l.length ≤ 1048576 → 0 < k → k ≤ 1099511627776 → ΦmarkWs [.row 0 2 0 l.length, .val (.int .i64 k)] [(61, 2, l.map fun x => .agg [.val (.string x.1), .val (.int .i64 x.2)])] = some (.val (.int .i64 (k + 2 * l.length)), [(61, 2, (mixL (mkW k) l l.length).map fun x => .agg [.val (.string x.1), .val (.int .i64 x.2)])]) := (Classical.choose_spec markWs_ex).2
theorem Ix_lift {l : List W2} (h : okW l) (h0 : 0 < (indexR l).length) : liftN ΨIx [.row 0 2 0 l.length] [(61, 2, l.map fun x => .agg [.val (.string x.1), .val (.int .i64 x.2)])] =
    some (.row 1 1 0 (indexR l).length, [(61, 2, l.map fun x => .agg [.val (.string x.1), .val (.int .i64 x.2)]), (9, 1, (indexR l).map fun s => .val (.string s))]) := by
  have hp : 0 < ((indexR l).map fun s => PV.val (.string s)).length := by simpa using h0
  refine (liftN_of (qs := [.lst false 2 (l.map fun x => .agg [.val (.string x.1), .val (.int .i64 x.2)])]) (by
    simp only [mapM_cons', mapM_nil', reify_fuel, reifyS_row, reifyS_val, List.getElem?_cons_zero, List.getElem?_cons_succ, Bool.false_eq_true, false_and, if_false, rowRe_a2, rowRe_vals, Option.bind_some, Option.map_some]) ((G1_ap (A := dWs) l).trans ((if_pos h).trans (by rw [nP_pos hp, nC_pos hp, List.length_map]))) rfl (by rw [mapM_cons', mapM_nil', renCT_vals]; rfl)).trans ?_
  rfl
theorem Ix_lift0 {l : List W2} (h : okW l) (h0 : (indexR l).length = 0) : liftN ΨIx [.row 0 2 0 l.length] [(61, 2, l.map fun x => .agg [.val (.string x.1), .val (.int .i64 x.2)])] =
    some (.val (.slice none 0 0), [(61, 2, l.map fun x => .agg [.val (.string x.1), .val (.int .i64 x.2)])]) := by
  refine (liftN_of (cs1 := []) (qs := [.lst false 2 (l.map fun x => .agg [.val (.string x.1), .val (.int .i64 x.2)])]) (by
    simp only [mapM_cons', mapM_nil', reify_fuel, reifyS_row, reifyS_val, List.getElem?_cons_zero, List.getElem?_cons_succ, Bool.false_eq_true, false_and, if_false, rowRe_a2, rowRe_vals, Option.bind_some, Option.map_some]) ((G1_ap (A := dWs) l).trans ((if_pos h).trans (by rw [List.eq_nil_of_length_eq_zero h0, List.map_nil, nP_nil, nC_nil]))) rfl rfl).trans ?_
  rfl
def φEqSnI : Fun := nilF 1 φEqS
noncomputable def φHeldSnI : Fun := nilF 1 φHeldS
theorem φEqSnI_ap {a b : LS} (h : a.length ≤ 1048576) (h2 : b.length ≤ 1048576) : φEqSnI [.lst false 1 (a.map fun s => .val (.string s)), .lst false 1 (b.map fun s => .val (.string s))] = some (.val (.bool (decide (a = b)))) := φEqS_ap h h2
theorem φEqSnI_nil : φEqSnI [.val (.slice none 0 0), .lst false 1 []] = some (.val (.bool true)) := φEqS_ap (a := []) (b := []) (by simp) (by simp)
theorem φHeldSnI_ap {k : Int} {n : Nat} (hn : n ≤ 1048576) (hk : 0 < k) (hk2 : k ≤ 1099511627776) : φHeldSnI [.lst false 1 ((marksS k n).map fun s => .val (.string s)), .val (.int .i64 k)] = some (.val (.int .i64 (k + n))) := φHeldS_ap hn hk hk2
theorem φHeldSnI_nil : φHeldSnI [.val (.slice none 0 0), .val (.int .i64 1)] = some (.val (.int .i64 1)) := φHeldS_ap (k := 1) (n := 0) (by simp) (by simp) (by simp)
theorem indexR_len (l : List W2) : (indexR l).length ≤ 30 := by
  unfold indexR
  split
  · rename_i h
    have := idxR_len l
    have := (indexB_iff.1 h).1
    omega
  · simp
noncomputable def φLawIxE : Fun := F1 dWs fun l => if okWL l then some (bv true) else none
noncomputable def GLIxE : Ctx := { fn := fun f => if f = 38 then some φSzWs else if f = 39 then some φIx else if f = 42 then some φEqWs else if f = 16 then some φEqSnI else if f = 44 then some φHeldSnI else none, io := fun f => if f = 40 then some (liftN ΨToWs) else if f = 41 then some (liftN ΨIx) else if f = 43 then some ΦmarkWs else if f = 17 then some ΦmarkS else none }
theorem GLIxE_ok : SoundΓ Tryd.prog GLIxE := ⟨(fun f φ h => by
  unfold GLIxE at h
  dsimp only at h
  split at h
  · rename_i hf; cases h; subst hf; exact ⟨⟨_, Tryd.func38, rfl, rfl⟩, szWordS_ok⟩
  split at h
  · rename_i hf; cases h; subst hf; exact ⟨⟨_, Tryd.func39, rfl, rfl⟩, specIx_ok⟩
  split at h
  · rename_i hf; cases h; subst hf; exact ⟨⟨_, Tryd.func42, rfl, rfl⟩, eqWordS_ok⟩
  split at h
  · rename_i hf; cases h; subst hf; exact ⟨⟨_, Tryd.func16, rfl, rfl⟩, (eqStringS_ok.nil 1)⟩
  split at h
  · rename_i hf; cases h; subst hf; exact ⟨⟨_, Tryd.func44, rfl, rfl⟩, (heldStringS_ok.nil 1)⟩
  cases h), (fun f φ h => by
  unfold GLIxE at h
  dsimp only at h
  split at h
  · rename_i hf; cases h; subst hf; exact ⟨⟨_, Tryd.func40, rfl, rfl⟩, toWordSN.lift⟩
  split at h
  · rename_i hf; cases h; subst hf; exact ⟨⟨_, Tryd.func41, rfl, rfl⟩, implIxN.lift⟩
  split at h
  · rename_i hf; cases h; subst hf; exact ⟨⟨_, Tryd.func43, rfl, rfl⟩, markWs_io⟩
  split at h
  · rename_i hf; cases h; subst hf; exact ⟨⟨_, Tryd.func17, rfl, rfl⟩, markS_io⟩
  cases h), rfl⟩
theorem GLIxE_38 (ob : Objs) (ps : List PV) : evCall GLIxE ob 38 ps = (ps.mapM (reify false 0 ob fuel)).bind φSzWs := by
  have h : GLIxE.fn 38 = some φSzWs := by simp [GLIxE]
  unfold evCall
  rw [h]
  cases ps.mapM (reify false 0 ob fuel) <;> rfl
theorem GLIxE_39 (ob : Objs) (ps : List PV) : evCall GLIxE ob 39 ps = (ps.mapM (reify false 0 ob fuel)).bind φIx := by
  have h : GLIxE.fn 39 = some φIx := by simp [GLIxE]
  unfold evCall
  rw [h]
  cases ps.mapM (reify false 0 ob fuel) <;> rfl
theorem GLIxE_42 (ob : Objs) (ps : List PV) : evCall GLIxE ob 42 ps = (ps.mapM (reify false 0 ob fuel)).bind φEqWs := by
  have h : GLIxE.fn 42 = some φEqWs := by simp [GLIxE]
  unfold evCall
  rw [h]
  cases ps.mapM (reify false 0 ob fuel) <;> rfl
theorem GLIxE_16 (ob : Objs) (ps : List PV) : evCall GLIxE ob 16 ps = (ps.mapM (reify false 0 ob fuel)).bind φEqSnI := by
  have h : GLIxE.fn 16 = some φEqSnI := by simp [GLIxE]
  unfold evCall
  rw [h]
  cases ps.mapM (reify false 0 ob fuel) <;> rfl
theorem GLIxE_44 (ob : Objs) (ps : List PV) : evCall GLIxE ob 44 ps = (ps.mapM (reify false 0 ob fuel)).bind φHeldSnI := by
  have h : GLIxE.fn 44 = some φHeldSnI := by simp [GLIxE]
  unfold evCall
  rw [h]
  cases ps.mapM (reify false 0 ob fuel) <;> rfl
theorem GLIxE_40 : GLIxE.io 40 = some (liftN ΨToWs) := by simp [GLIxE]
theorem GLIxE_41 : GLIxE.io 41 = some (liftN ΨIx) := by simp [GLIxE]
theorem GLIxE_43 : GLIxE.io 43 = some ΦmarkWs := by simp [GLIxE]
theorem GLIxE_17 : GLIxE.io 17 = some ΦmarkS := by simp [GLIxE]
set_option maxHeartbeats 16000000 in
theorem lawIxE_ok : Sound Tryd.prog 9 φLawIxE := by
  refine sound_pq mixed GLIxE_ok Tryd.func9 rfl 69 rfl [.tmp 2] rfl (by kernel_rfl) fun ps r hr => ?_
  obtain ⟨l, rfl, hq⟩ := F1_some hr
  clear hr
  split at hq
  case isFalse => cases hq
  case isTrue hok =>
  cases hq
  have ap1 := φSzWs_ap hok
  clear hok
  refine ⟨by simp, ?_⟩
  simp only [dIs, dUs, dSs, dI_e, dU_e, dB_e, dS_e, dFn_e, dL_e, dA2_e, dA3_e, dA4_e, dA5_e]
  by_cases hneg : szWs 1048576 l < 0
  · have glixe_c38 := GLIxE_38; have glixe_c40 := GLIxE_40; have glixe_c39 := GLIxE_39; have glixe_c41 := GLIxE_41; have glixe_c42 := GLIxE_42; have glixe_c43 := GLIxE_43; have glixe_c16 := GLIxE_16; have glixe_c17 := GLIxE_17; have glixe_c44 := GLIxE_44
    exact wlkS
  · obtain ⟨hlen, hw⟩ := szWsx_ok (l := l) (by omega)
    have ap2 := toWs_lift hlen
    have ap3 := φIx_ap hw
    have ap4 := @φEqWs_ap l l hlen (by omega)
    have ap5 := markWs_ap l 1 hlen (by omega) (by omega)
    have hRl := indexR_len l
    by_cases h0 : (indexR l).length = 0
    · have ap6 := Ix_lift0 hw h0
      have ap7 := φEqSnI_nil
      have ap8 := markS_mk.2 1
      have ap9 := φHeldSnI_nil
      rw [List.eq_nil_of_length_eq_zero h0, List.map_nil] at ap3
      clear hw h0 hRl
      have glixe_c38 := GLIxE_38; have glixe_c40 := GLIxE_40; have glixe_c39 := GLIxE_39; have glixe_c41 := GLIxE_41; have glixe_c42 := GLIxE_42; have glixe_c43 := GLIxE_43; have glixe_c16 := GLIxE_16; have glixe_c17 := GLIxE_17; have glixe_c44 := GLIxE_44
      exact wlkS
    · have ap6 := Ix_lift hw (by omega)
      have ap7 := φEqSnI_ap (a := indexR l) (b := indexR l) (by omega) (by omega)
      have ap8 := markS_mk.1 (indexR l) 1 (by omega) (by omega) (by omega)
      have ap9 := φHeldSnI_ap (k := 1) (n := (indexR l).length) (by omega) (by omega) (by omega)
      have hml := marksS_length 1 (indexR l).length
      generalize indexR l = R at *
      clear hw
      have glixe_c38 := GLIxE_38; have glixe_c40 := GLIxE_40; have glixe_c39 := GLIxE_39; have glixe_c41 := GLIxE_41; have glixe_c42 := GLIxE_42; have glixe_c43 := GLIxE_43; have glixe_c16 := GLIxE_16; have glixe_c17 := GLIxE_17; have glixe_c44 := GLIxE_44
      exact wlkS
end Go.Proofs.YtpggpdbipajchaaDoor
namespace Go.Proofs.YtpggpdbipajchaaDoor
open Go.ChangeShapes Go.WideShapes Go.ChangeAt Go.RowKit
open Go.ChangeMaps (open_string shut_string)
set_option linter.all false
theorem own : ownKnob Tryd.prog.godebug = none := by kernel_rfl
theorem laidOut : laidOutB Tryd.prog = true := by kernel_rfl
theorem wf_bounds {x : Int} (h : (Lit.int .i64 x).wf = true) : -9223372036854775808 ≤ x ∧ x ≤ 9223372036854775807 := by
  simpa [Lit.wf, IntKind.min, IntKind.max, IntKind.signed, IntKind.bits] using h
theorem addr_add (b off i : Nat) : (⟨b, off, none⟩ : Addr).add i = ⟨b, off + i, none⟩ := by
  unfold Addr.add
  by_cases h : i = 0 <;> simp [h]
theorem cell_lt {w : World} {a : Addr} {v : Value} (h : w.cell? a = some v) : a.block < w.heap.size := by
  unfold World.cell? at h
  by_cases hb : a.block < w.heap.size
  · exact hb
  · rw [Array.getElem?_eq_none (by omega)] at h
    cases a.spot <;> simp at h
theorem tab_of {P : Program} {W : World} {name : String} {k : IntKind} {zs : List Int} {g : Nat} (hg : P.globalNamed name = some g) (h : Lib.TabIs P W name k zs) : ∃ T k', W.heap[g]? = some (.cells ((zs.map fun z => Value.int k z).toArray) T k') := by
  unfold Lib.TabIs World.var? at h
  rw [hg, Option.bind_some] at h
  split at h
  · rename_i cs T k' hc
    cases h
    exact ⟨_, _, hc⟩
  · cases h
theorem laid_tail {P : Program} {x : String × DataW Unit} {r : List (String × DataW Unit)} {w : World} (h : laidMet P (x :: r) w) : laidMet P r w := by
  obtain ⟨ps, hv, hnd, hc⟩ := h
  obtain ⟨g, t, cs, fuel, p, q, h1, h2, h3, h4, h5, rfl⟩ := hv
  exact ⟨q, h5, (List.nodup_append.1 hnd).2.1, fun b off hm => hc b off (List.mem_append_right _ hm)⟩
abbrev gW (W : World) : Gh := argG fun b => b < W.heap.size
section
variable {H : Type} {enc : TypeId × Value → H} {P : Program} {W : World} {base : Nat} {α β γ δ ε : Type}
def OpC (enc : TypeId × Value → H) (P : Program) (W : World) (base : Nat) (t : TypeId) (A : Dec α) (ok : α → Prop) : Prop :=
  ∀ fuel cs x, DataW.trod enc P W base (fun _ => true) true fuel t cs = some x → ∃ a v, ok a ∧ Rep (gW W) W (A.e a) v ∧ v.cells.toList = cs ∧ v.cells.all (·.oneCell') = true
theorem opI {t : TypeId} (ht : P.underlying t = some (.int .i64)) : OpC enc P W base t dI okI := fun fuel cs x h => by
  obtain ⟨n, rfl, _, hw⟩ := DataW.trod_int ht h
  exact ⟨n, .int .i64 n, wf_bounds hw, rfl, rfl, by simp [Value.cells, Value.oneCell']⟩
theorem opS {t : TypeId} (ht : P.underlying t = some .string) : OpC enc P W base t dS okS := fun fuel cs x h => by
  obtain ⟨s, rfl, _, hs⟩ := DataW.trod_string ht h
  exact ⟨s, .string s, hs, rfl, rfl, by simp [Value.cells, Value.oneCell']⟩
theorem list_of {n : Nat} {p : Nat → α → Prop} (h : ∀ i, i < n → ∃ x, p i x) : ∃ l : List α, l.length = n ∧ ∀ i a, l[i]? = some a → p i a := by
  induction n with
  | zero => exact ⟨[], rfl, fun i a h => by simp at h⟩
  | succ n ih =>
    obtain ⟨l, hl, hp⟩ := ih fun i hi => h i (by omega)
    obtain ⟨x, hx⟩ := h n (by omega)
    refine ⟨l ++ [x], by simp [hl], fun i a hi => ?_⟩
    rw [List.getElem?_append] at hi
    split at hi
    · exact hp i a hi
    · rename_i hlt
      have : i - l.length = 0 := by
        by_cases h0 : i - l.length = 0
        · exact h0
        · rw [List.getElem?_eq_none (by simp; omega)] at hi
          cases hi
      rw [this] at hi
      simp at hi
      subst hi
      have : i = n := by omega
      subst this
      exact hx
theorem opL {t e : TypeId} {A : Dec α} {ok : α → Prop} (sz : Nat) (ht : P.underlying t = some (.slice e)) (hs : P.cellsOf e = sz) (h0 : 0 < sz) (hA : OpC enc P W base e A ok) : OpC enc P W base t (dL sz A) (okL ok) := fun fuel cs x h => by
  rcases Go.Deep.open_slice ht h with ⟨rfl, _⟩ | ⟨x, len, cap, m, n, D, Pl, rfl, hb, hl, hm, hmm, _, hx⟩
  · exact ⟨[], .slice none 0 0, ⟨by simp, by simp⟩, ⟨none, 0, rfl, by simp, by simp, .inl rfl⟩, rfl, by simp [Value.cells, Value.oneCell']⟩
  have hm2 : m = cap := by simpa using hmm
  have hcap : cap ≤ 9223372036854775807 := hm
  obtain ⟨l, hlen, hp⟩ := list_of (n := len) (p := fun i a => ok a ∧ ∃ v, Rep (gW W) W (A.e a) v ∧ v.cells.size = sz ∧ v.cells.all (·.oneCell') = true ∧ ∀ j, j < sz → W.cell? ((x.add (i * sz)).add j) = v.cells[j]?) (fun i hi => by
    obtain ⟨cs', h1, h2⟩ := hx i (by omega)
    obtain ⟨a, v, h3, h4, h5, h6⟩ := hA _ _ _ h2
    obtain ⟨_, h7, h8⟩ := World.cells?_some h1
    rw [hs] at h7 h8
    refine ⟨a, h3, v, h4, ?_, h6, fun j hj => ?_⟩
    · rw [← h7, ← h5]; simp
    · rw [h8 j hj, ← h5]; simp)
  refine ⟨l, .slice (some x) len cap, ⟨by omega, fun a ha => ?_⟩, ?_, rfl, by simp [Value.cells, Value.oneCell']⟩
  · obtain ⟨i, hi, rfl⟩ := List.getElem_of_mem ha
    exact (hp i _ (by simp [hi])).1
  · refine ⟨some x, cap, by simp [hlen], by simp [hlen]; omega, hcap, ?_⟩
    by_cases hn : l = []
    · exact .inl (by simp [hn])
    right
    have hl0 : 0 < l.length := List.length_pos_iff.2 hn
    obtain ⟨_, v, h4, h5, h6, h7⟩ := hp 0 l[0] (by simp [hl0])
    have h8 := h7 0 h0
    have h9 : v.cells[0]? = some v.cells[0] := by simp
    rw [h9] at h8
    have hspot := World.cell?_spot h8
    have hlt := cell_lt h8
    obtain ⟨b, off, spot⟩ := x
    simp only [Nat.zero_mul, Addr.add, if_true] at hspot hlt
    subst hspot
    refine ⟨b, off, rfl, ⟨rfl, hlt⟩, RepEs.of fun i p hi => ?_⟩
    rw [List.getElem?_map, Option.map_eq_some_iff] at hi
    obtain ⟨a, ha, rfl⟩ := hi
    obtain ⟨_, v, h4, h5, h6, h7⟩ := hp i a ha
    refine ⟨v, h4, ⟨h6, fun j hj => ?_⟩, h5⟩
    have := h7 j (by omega)
    rwa [addr_add, addr_add] at this
theorem opF {t : TypeId} {A : Dec α} {ok : α → Prop} {n : Nat} {cs : List Value} {y : DataW H × List MemPlace} (hA : OpC enc P W base t A ok) (h1 : ∀ a, oneP (A.e a) = true)
    (h : DataW.trod enc P W base (fun _ => true) true n t cs = some y) : ∃ a v, ok a ∧ Rep (gW W) W (A.e a) v ∧ v.oneCell' = true ∧ cs = [v] := by
  obtain ⟨a, v, h3, h4, h5, h6⟩ := hA _ _ _ h
  have := oneP_rep h4 (h1 a)
  exact ⟨a, v, h3, h4, this, by rw [← h5, oneCell_cells this]⟩
theorem opA2 {t : TypeId} {f0 f1 : Field} {A : Dec α} {B : Dec β} {ok0 : α → Prop} {ok1 : β → Prop} (hs : P.underlying t = some (.struct #[f0, f1])) (hone : Go.Deep.oneCellFields P #[f0, f1] = true) (hC : P.cellsOf t = 2)
    (h0 : OpC enc P W base f0.type A ok0) (o0 : ∀ a, oneP (A.e a) = true) (h1 : OpC enc P W base f1.type B ok1) (o1 : ∀ a, oneP (B.e a) = true) :
    OpC enc P W base t (dA2 A B) (fun p => ok0 p.1 ∧ ok1 p.2) := fun fuel cs x h => by
  obtain ⟨xs, n, _, _, hl, hlen, hf⟩ := DataW.trod_struct hs h
  rw [hC] at hl
  match cs, hl with
  | [c0, c1], _ =>
    obtain ⟨y0, hy0⟩ : ∃ y, xs[0]? = some y := ⟨_, List.getElem?_eq_getElem (by rw [hlen]; show 0 < 2; omega)⟩
    obtain ⟨q0, k0⟩ := Go.Deep.hone_of hone 0 f0 rfl
    have t0 := hf 0 f0 rfl
    rw [q0, k0, hy0] at t0
    obtain ⟨a0, v0, e0, r0, u0, z0⟩ := opF h0 o0 t0
    have z0' : c0 = v0 := by simpa using z0
    subst z0'
    obtain ⟨y1, hy1⟩ : ∃ y, xs[1]? = some y := ⟨_, List.getElem?_eq_getElem (by rw [hlen]; show 1 < 2; omega)⟩
    obtain ⟨q1, k1⟩ := Go.Deep.hone_of hone 1 f1 rfl
    have t1 := hf 1 f1 rfl
    rw [q1, k1, hy1] at t1
    obtain ⟨a1, v1, e1, r1, u1, z1⟩ := opF h1 o1 t1
    have z1' : c1 = v1 := by simpa using z1
    subst z1'
    exact ⟨(a0, a1), .agg #[c0, c1], ⟨e0, e1⟩, ⟨_, rfl, ⟨c0, [c1], rfl, r0, ⟨c1, [], rfl, r1, rfl⟩⟩⟩, rfl, by simp [Value.cells, u0, u1]⟩
theorem op1 {t : TypeId} {A : Dec α} {ok : α → Prop} {v : Value} {d : DataW H} {p : List MemPlace} (hA : OpC enc P W base t A ok) (h1 : ∀ a, oneP (A.e a) = true) (hv : v.cells = #[v])
    (h : DataW.Trod enc P W base (fun _ => true) true t v d p) : ∃ a, ok a ∧ Rep (gW W) W (A.e a) v := by
  obtain ⟨fuel, hf⟩ := h
  obtain ⟨a, u, h3, h4, h5, h6⟩ := opF hA h1 hf
  rw [hv] at h6
  have : v = u := by simpa using h6
  subst this
  exact ⟨a, h3, h4⟩
theorem walk_of {f : Nat} {φ : Fun} {ps : List PV} {args : Array Value} (h : Sound P f φ) (hT : TabF W fun _ => False) (ha : φ ps = some (bv true)) (hr : RepL (gW W) W ps args.toList) :
    Calls P f args W fun e w' => e = .returned (.bool true) ∧ Below W.heap.size W w' := by
  refine (h W (fun b => b < W.heap.size) ps args _ ha (fun b hb => hb) hT hr).mono ?_
  rintro e w' ⟨v, rfl, hb, hv⟩
  have := hv { I := fun _ _ => True, β := fun _ => 0, κ := fun _ => 0, nx := 0 } fun b _ _ => trivial
  have hv2 : v = .bool true := this
  subst hv2
  exact ⟨rfl, hb⟩
end
theorem returns_and_shaped {H : Type} {enc : TypeId × Value → H} {a : Assume} {C : Checked} {os : Os} {f : FuncId} {fn : Func} {s : ChangeSpec} {conds : List PathCond} {apart fresh handsOn again : Bool} {X : World → Array Value → Prop}
    (hX : ∀ (w w' : World) (args : Array Value), w.heap = w'.heap → X w args → X w' args)
    (own : ownKnob C.prog.godebug = none) (started : os.Started) (noInit : C.prog.inits.idxOf? f = none) (hfn : C.prog.funcs[f]? = some fn)
    (witness : ∃ (w : World) (tape : Tape) (i : Input), w.os = os ∧ (w.forCall tape i).Shaped C.prog ∧ i.vars = [] ∧ Input.okWide C.prog (w.forCall tape i) .any w.heap.size f i ∧
      ((s.pre enc C.prog fn conds apart (w.forCall tape i).memory i.args ∧ X (w.forCall tape i).memory i.args) ∧ sizedMet enc C.prog fn (OpenSpec.ofChange s) apart (w.forCall tape i).memory i.args) ∧ a.holds C.prog (lone (Frame.enter C.prog f i.args .normal) [] (w.forCall tape i)))
    (contract : ∀ (W : World) (base : Nat) (args : Array Value) (ds gs : List (DataW H)) (before : List MemPlace),
      (∀ (j : Nat) t v, fn.params[j]? = some t → args[j]? = some v → Value.okWide C.prog W .any base t v) →
      DataW.Whole enc C.prog fn.params.toList s.vars apart W args.toList ds gs before →
      conds.all (PathCond.test C.prog ⟨fn.params.toList, ds, s.plain.varTypes C.prog, gs⟩) = true →
      (DataW.weightsEach C.prog (fn.params.toList ++ s.plain.varTypes C.prog) (ds ++ gs)).all (· ≤ reachBytes) = true → X W args → W.ShapedOpen C.prog →
      a.holds C.prog (lone (Frame.enter C.prog f args .normal) [] W) →
      Calls C.prog f args W fun e W' => ∃ v, e = .returned v ∧ s.post enc C.prog fn apart fresh handsOn again W args v W') :
    ReturnsInHanded a C os f .any (fun w args => (s.pre enc C.prog fn conds apart w args ∧ X w args) ∧ sizedMet enc C.prog fn (OpenSpec.ofChange s) apart w args) (s.post enc C.prog fn apart fresh handsOn again) := by
  refine returnsInHanded_of_calls own started noInit witness ?_
  intro w tape i _ hsh _ hok hpre hholds
  obtain ⟨_, _, _, fn', hfn', _, _, _, _, hval⟩ := hok
  have e : fn' = fn := Option.some.inj (hfn'.symm.trans hfn)
  subst e
  obtain ⟨⟨⟨ds, gs, before, hw, hc⟩, hx⟩, hz⟩ := hpre
  have hw' := DataW.Whole.of_heap (w' := w.forCall tape i) (by rfl) hw
  refine (contract (w.forCall tape i) w.heap.size i.args ds gs before hval hw' hc (hz.weights hw) (hX _ _ _ (by rfl) hx) hsh hholds).mono fun e W' ⟨v, he, hp⟩ => ?_
  subst he
  exact ChangeSpec.post_blind hp
end Go.Proofs.YtpggpdbipajchaaDoor
