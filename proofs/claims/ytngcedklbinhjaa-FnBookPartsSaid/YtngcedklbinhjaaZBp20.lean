/- What the proof rests on, part 20: contracts of functions. No condition beyond what each states. -/
import Derived.Test.YtngcedklbinhjaaZBp19
namespace Go.Proofs.Ytngcedklbinhjaa
open Go.RowKit
set_option linter.all false
noncomputable def GDbl : Ctx := { fn := fun f => none, io := fun f => if f = 33 then some ΦOpen else if f = 47 then some Φbook else none }
theorem GDbl_ok : SoundΓ Try.prog GDbl := ⟨(fun f φ h => by
  unfold GDbl at h
  dsimp only at h
  cases h), (fun f φ h => by
  unfold GDbl at h
  dsimp only at h
  split at h
  · rename_i hf; cases h; subst hf; exact ⟨⟨_, Try.func33, rfl, rfl⟩, open_io⟩
  split at h
  · rename_i hf; cases h; subst hf; exact ⟨⟨_, Try.func47, rfl, rfl⟩, book_io⟩
  cases h), rfl⟩
theorem GDbl_33 : GDbl.io 33 = some ΦOpen := by simp [GDbl]
theorem GDbl_47 : GDbl.io 47 = some Φbook := by simp [GDbl]
theorem drawBl_ex : ∃ φ : Fun, Sound Try.prog 21 φ ∧ Drw0 φ EBk okBkD := by
  refine drw0_of mixed GDbl_ok Try.func21 rfl 6 rfl [.cell 2 38] rfl (by kernel_rfl) (by simp) _ _ fun code hbyte hlen => ?_
  have hok := okRd_take hbyte
  have apo := @ΦOpen_ap
  have gdbl_c33 := GDbl_33; have gdbl_c47 := GDbl_47
  repeat' (first | (first | (with_reducible first | apply i_seq | apply i_block | apply i_skip | apply i_exit | apply i_ret | apply i_kS | apply i_kSx | apply i_kSr | apply i_kL | apply i_kLx | apply i_kLr | apply i_kB | apply i_kBr | apply i_kBs | apply i_nil) | ((with_reducible apply i_region); (simp only [List.map_cons, List.map_nil] <;> exact rfl)) | ((with_reducible apply i_draw); (simp only [List.map_cons, List.map_nil] <;> exact rfl); decide +kernel) | ((with_reducible apply i_kBo); rfl) | ((first | ((with_reducible apply i_V); rfl; rfl; rfl) | ((first | ((with_reducible apply i_E); rfl) | ((with_reducible apply i_S); rfl)); first | rfl | (simp only [push_cast, ↓reduceIte])) | ((with_reducible apply i_Vq); rfl; rfl) | ((with_reducible apply i_Vp); rfl; rfl; rfl) | (with_reducible first | apply i_Gb | apply i_cond)); (simp (disch := (first | omega | (simp only [push_cast]; first | done | omega))) only [push_cast, ↓reduceIte, Nat.reduceEqDiff, Nat.reduceBEq, Nat.reduceAdd, Nat.reduceSub, Int.reduceToNat, *] <;> with_reducible exact rfl); all_goals try (first | (with_reducible first | refine hyT ?_ | refine hyF ?_ | exact hyA | exact hyB) | (intro hX; first | (cases hX; done) | ((try simp only [decide_eq_true_eq, decide_eq_false_iff_not, Bool.not_eq_true', Bool.not_eq_false'] at hX); (try have hXb := inB_iff.1 hX)))))) | ((with_reducible apply i_drw2 book_drw (fun _ _ => by simp only [push_cast, ↓reduceIte, Nat.reduceEqDiff, Nat.reduceBEq, Nat.reduceAdd, Nat.reduceSub, Int.reduceToNat])); (focus rfl); (focus (simp (disch := (first | omega | (simp only [push_cast]; first | done | omega))) only [push_cast, ↓reduceIte, Nat.reduceEqDiff, Nat.reduceBEq, Nat.reduceAdd, Nat.reduceSub, Int.reduceToNat, *] <;> with_reducible exact rfl)); (focus (simp (disch := (first | omega | (simp only [push_cast]; first | done | omega))) only [push_cast, ↓reduceIte, Nat.reduceEqDiff, Nat.reduceBEq, Nat.reduceAdd, Nat.reduceSub, Int.reduceToNat, *] <;> with_reducible exact rfl)); (focus (simp (disch := (first | omega | (simp only [push_cast]; first | done | omega))) only [push_cast, ↓reduceIte, Nat.reduceEqDiff, Nat.reduceBEq, Nat.reduceAdd, Nat.reduceSub, Int.reduceToNat, *] <;> with_reducible exact rfl)); (focus assumption); (focus omega); (focus (first | trivial | omega)); (focus (first | rfl | (simp only [push_cast, ↓reduceIte]))); intro v pp hv hok hpp1 hpp2))
  obtain ⟨L, ps, wd, mo, li⟩ := v
  by_cases h0 : L.length = 0
  · obtain rfl : L = [] := List.eq_nil_of_length_eq_zero h0
    clear h0
    repeat' (first | (first | (with_reducible first | apply i_seq | apply i_block | apply i_skip | apply i_exit | apply i_ret | apply i_kS | apply i_kSx | apply i_kSr | apply i_kL | apply i_kLx | apply i_kLr | apply i_kB | apply i_kBr | apply i_kBs | apply i_nil) | ((with_reducible apply i_region); (simp only [List.map_cons, List.map_nil] <;> exact rfl)) | ((with_reducible apply i_draw); (simp only [List.map_cons, List.map_nil] <;> exact rfl); decide +kernel) | ((with_reducible apply i_kBo); rfl) | ((first | ((with_reducible apply i_V); rfl; rfl; rfl) | ((first | ((with_reducible apply i_E); rfl) | ((with_reducible apply i_S); rfl)); first | rfl | (simp only [push_cast, ↓reduceIte])) | ((with_reducible apply i_Vq); rfl; rfl) | ((with_reducible apply i_Vp); rfl; rfl; rfl) | (with_reducible first | apply i_Gb | apply i_cond)); (simp (disch := (first | omega | (simp only [push_cast]; first | done | omega))) only [push_cast, ↓reduceIte, Nat.reduceEqDiff, Nat.reduceBEq, Nat.reduceAdd, Nat.reduceSub, Int.reduceToNat, *] <;> with_reducible exact rfl); all_goals try (first | (with_reducible first | refine hyT ?_ | refine hyF ?_ | exact hyA | exact hyB) | (intro hX; first | (cases hX; done) | ((try simp only [decide_eq_true_eq, decide_eq_false_iff_not, Bool.not_eq_true', Bool.not_eq_false'] at hX); (try have hXb := inB_iff.1 hX)))))) | ((with_reducible apply i_drw2 book_drw (fun _ _ => by simp only [push_cast, ↓reduceIte, Nat.reduceEqDiff, Nat.reduceBEq, Nat.reduceAdd, Nat.reduceSub, Int.reduceToNat])); (focus rfl); (focus (simp (disch := (first | omega | (simp only [push_cast]; first | done | omega))) only [push_cast, ↓reduceIte, Nat.reduceEqDiff, Nat.reduceBEq, Nat.reduceAdd, Nat.reduceSub, Int.reduceToNat, *] <;> with_reducible exact rfl)); (focus (simp (disch := (first | omega | (simp only [push_cast]; first | done | omega))) only [push_cast, ↓reduceIte, Nat.reduceEqDiff, Nat.reduceBEq, Nat.reduceAdd, Nat.reduceSub, Int.reduceToNat, *] <;> with_reducible exact rfl)); (focus (simp (disch := (first | omega | (simp only [push_cast]; first | done | omega))) only [push_cast, ↓reduceIte, Nat.reduceEqDiff, Nat.reduceBEq, Nat.reduceAdd, Nat.reduceSub, Int.reduceToNat, *] <;> with_reducible exact rfl)); (focus assumption); (focus omega); (focus (first | trivial | omega)); (focus (first | rfl | (simp only [push_cast, ↓reduceIte]))); intro v pp hv hok hpp1 hpp2))
    (with_reducible apply i_fin0 (a := (([] : List LS), _, _, _, _)) (by first | exact .inl rfl | exact .inr rfl)); (focus (simp (disch := (first | omega | (simp only [push_cast]; first | done | omega))) only [push_cast, ↓reduceIte, Nat.reduceEqDiff, Nat.reduceBEq, Nat.reduceAdd, Nat.reduceSub, Int.reduceToNat, rep_iv, rep_sv, rep_w, rep_i3, rep_i4, *] <;> with_reducible exact rfl))
    exact hv
  · repeat' (first | (first | (with_reducible first | apply i_seq | apply i_block | apply i_skip | apply i_exit | apply i_ret | apply i_kS | apply i_kSx | apply i_kSr | apply i_kL | apply i_kLx | apply i_kLr | apply i_kB | apply i_kBr | apply i_kBs | apply i_nil) | ((with_reducible apply i_region); (simp only [List.map_cons, List.map_nil] <;> exact rfl)) | ((with_reducible apply i_draw); (simp only [List.map_cons, List.map_nil] <;> exact rfl); decide +kernel) | ((with_reducible apply i_kBo); rfl) | ((first | ((with_reducible apply i_V); rfl; rfl; rfl) | ((first | ((with_reducible apply i_E); rfl) | ((with_reducible apply i_S); rfl)); first | rfl | (simp only [push_cast, ↓reduceIte])) | ((with_reducible apply i_Vq); rfl; rfl) | ((with_reducible apply i_Vp); rfl; rfl; rfl) | (with_reducible first | apply i_Gb | apply i_cond)); (simp (disch := (first | omega | (simp only [push_cast]; first | done | omega))) only [push_cast, ↓reduceIte, Nat.reduceEqDiff, Nat.reduceBEq, Nat.reduceAdd, Nat.reduceSub, Int.reduceToNat, *] <;> with_reducible exact rfl); all_goals try (first | (with_reducible first | refine hyT ?_ | refine hyF ?_ | exact hyA | exact hyB) | (intro hX; first | (cases hX; done) | ((try simp only [decide_eq_true_eq, decide_eq_false_iff_not, Bool.not_eq_true', Bool.not_eq_false'] at hX); (try have hXb := inB_iff.1 hX)))))) | ((with_reducible apply i_drw2 book_drw (fun _ _ => by simp only [push_cast, ↓reduceIte, Nat.reduceEqDiff, Nat.reduceBEq, Nat.reduceAdd, Nat.reduceSub, Int.reduceToNat])); (focus rfl); (focus (simp (disch := (first | omega | (simp only [push_cast]; first | done | omega))) only [push_cast, ↓reduceIte, Nat.reduceEqDiff, Nat.reduceBEq, Nat.reduceAdd, Nat.reduceSub, Int.reduceToNat, *] <;> with_reducible exact rfl)); (focus (simp (disch := (first | omega | (simp only [push_cast]; first | done | omega))) only [push_cast, ↓reduceIte, Nat.reduceEqDiff, Nat.reduceBEq, Nat.reduceAdd, Nat.reduceSub, Int.reduceToNat, *] <;> with_reducible exact rfl)); (focus (simp (disch := (first | omega | (simp only [push_cast]; first | done | omega))) only [push_cast, ↓reduceIte, Nat.reduceEqDiff, Nat.reduceBEq, Nat.reduceAdd, Nat.reduceSub, Int.reduceToNat, *] <;> with_reducible exact rfl)); (focus assumption); (focus omega); (focus (first | trivial | omega)); (focus (first | rfl | (simp only [push_cast, ↓reduceIte]))); intro v pp hv hok hpp1 hpp2))
    (with_reducible apply i_fin0 (a := (L, _, _, _, _)) (by first | exact .inl rfl | exact .inr rfl)); (focus (simp (disch := (first | omega | (simp only [push_cast]; first | done | omega))) only [push_cast, ↓reduceIte, Nat.reduceEqDiff, Nat.reduceBEq, Nat.reduceAdd, Nat.reduceSub, Int.reduceToNat, rep_iv, rep_sv, rep_w, rep_i3, rep_i4, *] <;> with_reducible exact rfl))
    exact hv
noncomputable def φdrawBl : Fun := Classical.choose drawBl_ex
theorem drawBl_ok : Sound Try.prog 21 φdrawBl := (Classical.choose_spec drawBl_ex).1
theorem drawBl_drw : Drw0 φdrawBl EBk okBkD := (Classical.choose_spec drawBl_ex).2
theorem blC_zero {p : List LS} {q : LS} {x y z : Int} (h : (blL p q x y z).length = 0) : blC p q x y z = [] ∧ (blB p q x y z = true → p = []) := by
  unfold blL at h
  unfold blC
  split at h
  · rename_i hB
    have hp : p.length = 0 := by
      rcases Nat.eq_zero_or_pos p.length with h0 | h0
      · exact h0
      · have hall : (p.all fun w => pglB w q x y) = true := by unfold blB at hB; rw [Bool.and_eq_true] at hB; exact hB.2
        have := blK_pos (q := q) (x := x) (y := y) (p := p) (k := p.length) (fun j hj => by
          rw [List.getElem?_eq_getElem hj, Option.getD_some]
          exact List.all_eq_true.1 hall _ (List.getElem_mem hj)) h0
        omega
    rw [if_pos hB, List.eq_nil_of_length_eq_zero hp]
    exact ⟨rfl, fun _ => rfl⟩
  · rename_i hB
    rw [if_neg hB]
    exact ⟨rfl, fun h => absurd h hB⟩
theorem blB_at {p : List LS} {q : LS} {x y z : Int} (h : blB p q x y z = true) {k : Nat} (hk : k < p.length) : pglB (p[k]?.getD []) q x y = true := by
  unfold blB at h
  rw [Bool.and_eq_true] at h
  rw [List.getElem?_eq_getElem hk, Option.getD_some]
  exact List.all_eq_true.1 h.2 _ (List.getElem_mem hk)
theorem ls_two (c d : CellIO) : (fun o => [c, d][o]?) = lo [(0, c), (1, d)] := by
  funext o
  match o with
  | 0 => rfl
  | 1 => rfl
  | o + 2 => simp [lo, List.lookup]
noncomputable def φBli : Fun := pureN ΨBl
theorem φBli_yes {p : List LS} {q : LS} {x y z : Int} (h : okBk p q) (h0 : 0 < (blL p q x y z).length) : φBli [.agg [.lst false 1 (p.map fun p => .lst false 1 (p.map fun s => .val (.string s))), .lst false 1 (q.map fun s => .val (.string s)), .val (.int .i64 x), .val (.int .i64 y), .val (.int .i64 z)]] = some (.tup [.lst true 1 ((blL p q x y z).map fun s => .val (.string s)), .lst true 1 ((blC p q x y z).map fun n => .val (.int .i64 n)), .val (.bool (blB p q x y z))]) := by
  refine pureN_of (r := .tup [.row 0 1 0 (blL p q x y z).length, .row 1 1 0 (blC p q x y z).length, .val (.bool (blB p q x y z))]) (cs0 := [(9, 1, (blL p q x y z).map fun s => .val (.string s)), (3, 1, (blC p q x y z).map fun n => .val (.int .i64 n))]) ((G1_ap (A := dBook) (p, q, x, y, z)).trans ((if_pos h).trans (by dsimp only; rw [if_pos h0]))) ?_
  generalize blL p q x y z = A
  generalize blC p q x y z = B
  rw [ls_two]
  (simp (disch := (first | omega | (simp only [push_cast]; first | done | omega))) only [push_cast, ↓reduceIte, Nat.reduceEqDiff, Nat.reduceBEq, Nat.reduceAdd, Nat.reduceSub, Int.reduceToNat, *] <;> with_reducible exact rfl)
theorem φBli_no {p : List LS} {q : LS} {x y z : Int} (h : okBk p q) (h0 : (blL p q x y z).length = 0) : φBli [.agg [.lst false 1 (p.map fun p => .lst false 1 (p.map fun s => .val (.string s))), .lst false 1 (q.map fun s => .val (.string s)), .val (.int .i64 x), .val (.int .i64 y), .val (.int .i64 z)]] = some (.tup [.val (.slice none 0 0), .val (.slice none 0 0), .val (.bool (blB p q x y z))]) :=
  pureN_of (r := .tup [.val (.slice none 0 0), .val (.slice none 0 0), .val (.bool (blB p q x y z))]) (cs0 := []) ((G1_ap (A := dBook) (p, q, x, y, z)).trans ((if_pos h).trans (by dsimp only; rw [if_neg (by omega)]))) rfl
theorem implBl_ok : Sound Try.prog 22 φBli := implBlN.pure
noncomputable def φBlin : Fun := nilG 1 φBli
noncomputable def φBlsn : Fun := nilG 1 φBl
noncomputable def φSmtn : Fun := nilF 1 φSmt
noncomputable def φSmIn : Fun := nilF 1 φSameI
theorem φSmtn_ap {a b : LS} (h : a.length ≤ 1048576) (h2 : b.length ≤ 1048576) : φSmtn [.lst false 1 (a.map fun s => .val (.string s)), .lst false 1 (b.map fun s => .val (.string s))] = some (.val (.bool (decide (a = b)))) := φSmt_ap h h2
theorem φSmtn_nil : φSmtn [.val (.slice none 0 0), .lst false 1 []] = some (.val (.bool true)) := φSmt_ap (a := []) (b := []) (by simp) (by simp)
theorem φSmtn_nil2 : φSmtn [.lst false 1 [], .val (.slice none 0 0)] = some (.val (.bool true)) := φSmt_ap (a := []) (b := []) (by simp) (by simp)
theorem φSmIn_ap {a b : List Int} (h : a.length ≤ 1048576) (h2 : b.length ≤ 1048576) : φSmIn [.lst false 1 (a.map fun n => .val (.int .i64 n)), .lst false 1 (b.map fun n => .val (.int .i64 n))] = some (.val (.bool (decide (a = b)))) := φSameI_ap h h2
theorem φSmIn_nil : φSmIn [.val (.slice none 0 0), .lst false 1 []] = some (.val (.bool true)) := φSameI_ap (a := []) (b := []) (by simp) (by simp)
theorem blL_len {p : List LS} {q : LS} {x y z : Int} (h : p.length ≤ 6) : (blL p q x y z).length ≤ 360 ∧ (blC p q x y z).length ≤ 6 := by
  unfold blL blC
  split
  · have := blK_len p q x y p.length
    rw [bcK_len]
    omega
  · simp
noncomputable def φLawBp : Fun := F1 dUs fun code => if okL okB8 code then some (bv true) else none
noncomputable def GLbp : Ctx := { fn := fun f => if f = 21 then some φdrawBl else if f = 22 then some φBlin else if f = 23 then some φBlsn else if f = 15 then some φPgi else if f = 20 then some φSmtn else if f = 24 then some φSmIn else if f = 11 then some φTrue else none, io := fun f => none }
theorem GLbp_ok : SoundΓ Try.prog GLbp := ⟨(fun f φ h => by
  unfold GLbp at h
  dsimp only at h
  split at h
  · rename_i hf; cases h; subst hf; exact ⟨⟨_, Try.func21, rfl, rfl⟩, drawBl_ok⟩
  split at h
  · rename_i hf; cases h; subst hf; exact ⟨⟨_, Try.func22, rfl, rfl⟩, (implBl_ok.nilG 1)⟩
  split at h
  · rename_i hf; cases h; subst hf; exact ⟨⟨_, Try.func23, rfl, rfl⟩, (specBl_ok.nilG 1)⟩
  split at h
  · rename_i hf; cases h; subst hf; exact ⟨⟨_, Try.func15, rfl, rfl⟩, implPgi_ok⟩
  split at h
  · rename_i hf; cases h; subst hf; exact ⟨⟨_, Try.func20, rfl, rfl⟩, (smt_ok.nil 1)⟩
  split at h
  · rename_i hf; cases h; subst hf; exact ⟨⟨_, Try.func24, rfl, rfl⟩, (sameInts_ok.nil 1)⟩
  split at h
  · rename_i hf; cases h; subst hf; exact ⟨⟨_, Try.func11, rfl, rfl⟩, alive_ok⟩
  cases h), (fun f φ h => by
  unfold GLbp at h
  dsimp only at h
  cases h), rfl⟩
theorem GLbp_21 (ob : Objs) (ps : List PV) : evCall GLbp ob 21 ps = (ps.mapM (reify false 0 ob fuel)).bind φdrawBl := by
  have h : GLbp.fn 21 = some φdrawBl := by simp [GLbp]
  unfold evCall
  rw [h]
  cases ps.mapM (reify false 0 ob fuel) <;> rfl
theorem GLbp_22 (ob : Objs) (ps : List PV) : evCall GLbp ob 22 ps = (ps.mapM (reify false 0 ob fuel)).bind φBlin := by
  have h : GLbp.fn 22 = some φBlin := by simp [GLbp]
  unfold evCall
  rw [h]
  cases ps.mapM (reify false 0 ob fuel) <;> rfl
theorem GLbp_23 (ob : Objs) (ps : List PV) : evCall GLbp ob 23 ps = (ps.mapM (reify false 0 ob fuel)).bind φBlsn := by
  have h : GLbp.fn 23 = some φBlsn := by simp [GLbp]
  unfold evCall
  rw [h]
  cases ps.mapM (reify false 0 ob fuel) <;> rfl
theorem GLbp_15 (ob : Objs) (ps : List PV) : evCall GLbp ob 15 ps = (ps.mapM (reify false 0 ob fuel)).bind φPgi := by
  have h : GLbp.fn 15 = some φPgi := by simp [GLbp]
  unfold evCall
  rw [h]
  cases ps.mapM (reify false 0 ob fuel) <;> rfl
theorem GLbp_20 (ob : Objs) (ps : List PV) : evCall GLbp ob 20 ps = (ps.mapM (reify false 0 ob fuel)).bind φSmtn := by
  have h : GLbp.fn 20 = some φSmtn := by simp [GLbp]
  unfold evCall
  rw [h]
  cases ps.mapM (reify false 0 ob fuel) <;> rfl
theorem GLbp_24 (ob : Objs) (ps : List PV) : evCall GLbp ob 24 ps = (ps.mapM (reify false 0 ob fuel)).bind φSmIn := by
  have h : GLbp.fn 24 = some φSmIn := by simp [GLbp]
  unfold evCall
  rw [h]
  cases ps.mapM (reify false 0 ob fuel) <;> rfl
theorem GLbp_11 (ob : Objs) (ps : List PV) : evCall GLbp ob 11 ps = (ps.mapM (reify false 0 ob fuel)).bind φTrue := by
  have h : GLbp.fn 11 = some φTrue := by simp [GLbp]
  unfold evCall
  rw [h]
  cases ps.mapM (reify false 0 ob fuel) <;> rfl
set_option maxHeartbeats 16000000 in
theorem lawBp_ok : Sound Try.prog 6 φLawBp := by
  refine sound_pq mixed GLbp_ok Try.func6 rfl 80 rfl [.tmp 2] rfl (by kernel_rfl) fun ps r hr => ?_
  obtain ⟨code, rfl, hq⟩ := F1_some hr
  clear hr
  split at hq
  case isFalse => cases hq
  case isTrue hpre =>
  cases hq
  refine ⟨by simp, ?_⟩
  simp only [dIs, dUs, dSs, dI_e, dU_e, dB_e, dS_e, dFn_e, dL_e, dA2_e, dA3_e, dA4_e, dA5_e]
  have hbyte := bytes_ok hpre
  by_cases hlen : code.length ≤ 1048576
  · obtain ⟨⟨L, ps, wd, mo, li⟩, e, ⟨hL, hL2⟩, hps, hwd, hmo, hli⟩ := drawBl_drw code hbyte hlen
    have apt := φTrue_ap
    dsimp only at hL hL2 hps hwd hmo hli e
    have hok := okBk_of (L := L) (ps := ps) (by omega) hL2 hps
    have hl1 := blL_len (p := L) (q := ps) (x := wd) (y := mo) (z := li) (by omega)
    have ap2 : φBlsn [.agg [.lst false 1 (lsF L), .lst false 1 (ps.map fun s => .val (.string s)), .val (.int .i64 wd), .val (.int .i64 mo), .val (.int .i64 li)]] = _ := φBl_ap hok
    have apg := fun (k : Nat) h => φPgi_ap (wd := wd) (most := mo) ⟨hok.2.1 k, hok.2.2⟩ h
    by_cases h0 : (blL L ps wd mo li).length = 0
    · have ap1 : φBlin [.agg [.lst false 1 (lsF L), .lst false 1 (ps.map fun s => .val (.string s)), .val (.int .i64 wd), .val (.int .i64 mo), .val (.int .i64 li)]] = _ := φBli_no hok h0
      obtain ⟨hc0, hp0⟩ := blC_zero h0
      have he0 := List.eq_nil_of_length_eq_zero h0
      rw [hc0, he0, List.map_nil, List.map_nil] at ap2
      have ap3 := φSmtn_nil
      have ap4 := φSmIn_nil
      have ap5 := φSmtn_nil2
      clear hc0 he0 h0 hl1 apg hok hL2 hps hpre hbyte
      cases hB : blB L ps wd mo li with
      | false =>
        rw [hB] at ap1 ap2
        clear hp0 hB
        by_cases hL0 : L.length = 0
        · obtain rfl : L = [] := List.eq_nil_of_length_eq_zero hL0
          have ap1' : φBlin [.agg [.val (.slice none 0 0), .lst false 1 (ps.map fun s => .val (.string s)), .val (.int .i64 wd), .val (.int .i64 mo), .val (.int .i64 li)]] = _ := ap1
          have ap2' : φBlsn [.agg [.val (.slice none 0 0), .lst false 1 (ps.map fun s => .val (.string s)), .val (.int .i64 wd), .val (.int .i64 mo), .val (.int .i64 li)]] = _ := ap2
          clear ap1 ap2
          have glbp_c21 := GLbp_21; have glbp_c22 := GLbp_22; have glbp_c23 := GLbp_23; have glbp_c15 := GLbp_15; have glbp_c20 := GLbp_20; have glbp_c24 := GLbp_24; have glbp_c11 := GLbp_11
          exact wlkS
        · have glbp_c21 := GLbp_21; have glbp_c22 := GLbp_22; have glbp_c23 := GLbp_23; have glbp_c15 := GLbp_15; have glbp_c20 := GLbp_20; have glbp_c24 := GLbp_24; have glbp_c11 := GLbp_11
          exact wlkS
      | true =>
        obtain rfl := hp0 hB
        rw [hB] at ap1 ap2
        have ap1' : φBlin [.agg [.val (.slice none 0 0), .lst false 1 (ps.map fun s => .val (.string s)), .val (.int .i64 wd), .val (.int .i64 mo), .val (.int .i64 li)]] = _ := ap1
        have ap2' : φBlsn [.agg [.val (.slice none 0 0), .lst false 1 (ps.map fun s => .val (.string s)), .val (.int .i64 wd), .val (.int .i64 mo), .val (.int .i64 li)]] = _ := ap2
        clear ap1 ap2 hp0 hB
        have glbp_c21 := GLbp_21; have glbp_c22 := GLbp_22; have glbp_c23 := GLbp_23; have glbp_c15 := GLbp_15; have glbp_c20 := GLbp_20; have glbp_c24 := GLbp_24; have glbp_c11 := GLbp_11
        (refine wlk ?_; intros)
        refine i_loop (α := Unit) mixed (fun _ => [(3, .own 0 5 0 0), (4, .val (.slice none 0 0)), (10, .row 1 1 0 0), (11, iv 0)])
          (fun _ => [(0, 38, 5, [.agg [.val (.slice none 0 0), .lst true 1 (ps.map fun s => .val (.string s)), .val (.int .i64 wd), .val (.int .i64 mo), .val (.int .i64 li)]]), (1, 9, 1, [])])
          (fun _ => 2) (fun _ => True) (fun _ => 0) (by kernel_rfl) () trivial ?_ ?_ rfl ?_
        · exact agi
        · exact agr
        rintro _ _
        exact wlkS
    · have ap1 : φBlin [.agg [.lst false 1 (lsF L), .lst false 1 (ps.map fun s => .val (.string s)), .val (.int .i64 wd), .val (.int .i64 mo), .val (.int .i64 li)]] = _ := φBli_yes hok (by omega)
      have hB : blB L ps wd mo li = true := by
        cases hB : blB L ps wd mo li with
        | true => rfl
        | false => unfold blL at h0; rw [if_neg (by rw [hB]; decide)] at h0; simp at h0
      have hBL : blL L ps wd mo li = blK L ps wd mo L.length := if_pos hB
      have hat := fun (k : Nat) hk => blB_at hB (k := k) hk
      rw [hB] at ap1 ap2
      have ap3 := φSmtn_ap (a := blL L ps wd mo li) (b := blL L ps wd mo li) (by omega) (by omega)
      have ap4 := φSmIn_ap (a := blC L ps wd mo li) (b := blC L ps wd mo li) (by omega) (by omega)
      have hbk := blK_len L ps wd mo
      have h60 := fun k : Nat => (pglV_ok (L[k]?.getD []) ps wd mo).1
      clear hpre hbyte hL2 hok hps
      replace hBL := Lib.hid hBL
      generalize blL L ps wd mo li = BL at *
      generalize blC L ps wd mo li = BC at *
      have hL0 : ¬ L.length = 0 := fun h => by
        have := hbk 0
        rw [hBL.out, h] at h0
        exact h0 rfl
      clear hB
      have glbp_c21 := GLbp_21; have glbp_c22 := GLbp_22; have glbp_c23 := GLbp_23; have glbp_c15 := GLbp_15; have glbp_c20 := GLbp_20; have glbp_c24 := GLbp_24; have glbp_c11 := GLbp_11
      (refine wlk ?_; intros)
      refine i_loop (α := Nat × Nat × Nat) mixed (fun i => [(3, .own 0 5 0 0), (4, .lst true 1 (BL.map fun s => .val (.string s))), (10, .row i.2.1 1 0 (blK L ps wd mo i.1).length), (11, iv i.1)])
        (fun i => [(0, 38, 5, [.agg [.lst true 1 (lsE L), .lst true 1 (ps.map fun s => .val (.string s)), .val (.int .i64 wd), .val (.int .i64 mo), .val (.int .i64 li)]]), (i.2.1, 9, 1, (blK L ps wd mo i.1).map fun s => .val (.string s))])
        (fun i => i.2.2) (fun i => i.1 ≤ L.length ∧ 0 < i.2.1 ∧ i.2.1 < i.2.2) (fun i => L.length - i.1) (by kernel_rfl) (0, 1, 2) ⟨Nat.zero_le _, by decide, by decide⟩ ?_ ?_ rfl ?_
      · have h0' : (blK L ps wd mo 0).length = 0 := rfl
        exact agi
      · have h0' : blK L ps wd mo 0 = [] := rfl
        exact agr
      rintro ⟨k, o, nx⟩ ⟨hk, ho, hon⟩
      dsimp only at hk ho hon
      have hbl := hbk k
      by_cases hkl : k < L.length
      · have hB1 := hat k hkl
        have ap := apg k (pgl_pos hB1)
        rw [hB1] at ap
        have h6 := h60 k
        have hn1 : blK L ps wd mo (k + 1) = blK L ps wd mo k ++ pglV (L[k]?.getD []) ps wd mo := rfl
        replace hn1 := Lib.hid hn1
        clear hat apg hbk h60 hB1
        generalize pglV (L[k]?.getD []) ps wd mo = V at *
        generalize blK L ps wd mo k = B at *
        (refine wlk ?_; intros)
        refine ⟨(k + 1, nx, nx + 1), ⟨by dsimp only; omega, by dsimp only; omega, by dsimp only; omega⟩, by dsimp only; omega, ?_, ?_, rfl⟩
        · dsimp only
          rw [hn1.out]
          exact agi
        · dsimp only
          rw [hn1.out]
          exact agr
      · obtain rfl : k = L.length := by omega
        rw [← hBL.out] at *
        clear hat apg hbk h60
        exact wlkS
  · have glbp_c21 := GLbp_21; have glbp_c22 := GLbp_22; have glbp_c23 := GLbp_23; have glbp_c15 := GLbp_15; have glbp_c20 := GLbp_20; have glbp_c24 := GLbp_24; have glbp_c11 := GLbp_11
    exact wlkS
end Go.Proofs.Ytngcedklbinhjaa
namespace Go.Proofs.Ytngcedklbinhjaa
open Go.ChangeShapes Go.WideShapes Go.ChangeAt Go.RowKit
open Go.ChangeMaps (open_string shut_string)
set_option linter.all false
theorem own : ownKnob Try.prog.godebug = none := by kernel_rfl
theorem laidOut : laidOutB Try.prog = true := by kernel_rfl
theorem wf_u8 {x : Int} (h : (Lit.int .u8 x).wf = true) : 0 ≤ x ∧ x ≤ 255 := by
  simpa [Lit.wf, IntKind.min, IntKind.max, IntKind.signed, IntKind.bits] using h
theorem addr_add (b off i : Nat) : (⟨b, off, none⟩ : Addr).add i = ⟨b, off + i, none⟩ := by
  unfold Addr.add
  by_cases h : i = 0 <;> simp [h]
theorem cell_lt {w : World} {a : Addr} {v : Value} (h : w.cell? a = some v) : a.block < w.heap.size := by
  unfold World.cell? at h
  by_cases hb : a.block < w.heap.size
  · exact hb
  · rw [Array.getElem?_eq_none (by omega)] at h
    cases a.spot <;> simp at h
abbrev gW (W : World) : Gh := argG fun b => b < W.heap.size
section
variable {H : Type} {enc : TypeId × Value → H} {P : Program} {W : World} {base : Nat} {α β γ δ ε : Type}
def OpC (enc : TypeId × Value → H) (P : Program) (W : World) (base : Nat) (t : TypeId) (A : Dec α) (ok : α → Prop) : Prop :=
  ∀ fuel cs x, DataW.trod enc P W base (fun _ => true) true fuel t cs = some x → ∃ a v, ok a ∧ Rep (gW W) W (A.e a) v ∧ v.cells.toList = cs ∧ v.cells.all (·.oneCell') = true
theorem opU {t : TypeId} (ht : P.underlying t = some (.int .u8)) : OpC enc P W base t dU okB8 := fun fuel cs x h => by
  obtain ⟨n, rfl, _, hw⟩ := DataW.trod_int ht h
  exact ⟨n, .int .u8 n, wf_u8 hw, rfl, rfl, by simp [Value.cells, Value.oneCell']⟩
theorem list_of {n : Nat} {p : Nat → α → Prop} (h : ∀ i, i < n → ∃ x, p i x) : ∃ l : List α, l.length = n ∧ ∀ i a, l[i]? = some a → p i a := by
  induction n with
  | zero => exact ⟨[], rfl, fun i a h => by simp at h⟩
  | succ n ih =>
    obtain ⟨l, hl, hp⟩ := ih fun i hi => h i (by omega)
    obtain ⟨x, hx⟩ := h n (by omega)
    refine ⟨l ++ [x], by simp [hl], fun i a hi => ?_⟩
    rw [List.getElem?_append] at hi
    split at hi
    · exact hp i a hi
    · rename_i hlt
      have : i - l.length = 0 := by
        by_cases h0 : i - l.length = 0
        · exact h0
        · rw [List.getElem?_eq_none (by simp; omega)] at hi
          cases hi
      rw [this] at hi
      simp at hi
      subst hi
      have : i = n := by omega
      subst this
      exact hx
theorem opL {t e : TypeId} {A : Dec α} {ok : α → Prop} (sz : Nat) (ht : P.underlying t = some (.slice e)) (hs : P.cellsOf e = sz) (h0 : 0 < sz) (hA : OpC enc P W base e A ok) : OpC enc P W base t (dL sz A) (okL ok) := fun fuel cs x h => by
  rcases Go.Deep.open_slice ht h with ⟨rfl, _⟩ | ⟨x, len, cap, m, n, D, Pl, rfl, hb, hl, hm, hmm, _, hx⟩
  · exact ⟨[], .slice none 0 0, ⟨by simp, by simp⟩, ⟨none, 0, rfl, by simp, by simp, .inl rfl⟩, rfl, by simp [Value.cells, Value.oneCell']⟩
  have hm2 : m = cap := by simpa using hmm
  have hcap : cap ≤ 9223372036854775807 := hm
  obtain ⟨l, hlen, hp⟩ := list_of (n := len) (p := fun i a => ok a ∧ ∃ v, Rep (gW W) W (A.e a) v ∧ v.cells.size = sz ∧ v.cells.all (·.oneCell') = true ∧ ∀ j, j < sz → W.cell? ((x.add (i * sz)).add j) = v.cells[j]?) (fun i hi => by
    obtain ⟨cs', h1, h2⟩ := hx i (by omega)
    obtain ⟨a, v, h3, h4, h5, h6⟩ := hA _ _ _ h2
    obtain ⟨_, h7, h8⟩ := World.cells?_some h1
    rw [hs] at h7 h8
    refine ⟨a, h3, v, h4, ?_, h6, fun j hj => ?_⟩
    · rw [← h7, ← h5]; simp
    · rw [h8 j hj, ← h5]; simp)
  refine ⟨l, .slice (some x) len cap, ⟨by omega, fun a ha => ?_⟩, ?_, rfl, by simp [Value.cells, Value.oneCell']⟩
  · obtain ⟨i, hi, rfl⟩ := List.getElem_of_mem ha
    exact (hp i _ (by simp [hi])).1
  · refine ⟨some x, cap, by simp [hlen], by simp [hlen]; omega, hcap, ?_⟩
    by_cases hn : l = []
    · exact .inl (by simp [hn])
    right
    have hl0 : 0 < l.length := List.length_pos_iff.2 hn
    obtain ⟨_, v, h4, h5, h6, h7⟩ := hp 0 l[0] (by simp [hl0])
    have h8 := h7 0 h0
    have h9 : v.cells[0]? = some v.cells[0] := by simp
    rw [h9] at h8
    have hspot := World.cell?_spot h8
    have hlt := cell_lt h8
    obtain ⟨b, off, spot⟩ := x
    simp only [Nat.zero_mul, Addr.add, if_true] at hspot hlt
    subst hspot
    refine ⟨b, off, rfl, ⟨rfl, hlt⟩, RepEs.of fun i p hi => ?_⟩
    rw [List.getElem?_map, Option.map_eq_some_iff] at hi
    obtain ⟨a, ha, rfl⟩ := hi
    obtain ⟨_, v, h4, h5, h6, h7⟩ := hp i a ha
    refine ⟨v, h4, ⟨h6, fun j hj => ?_⟩, h5⟩
    have := h7 j (by omega)
    rwa [addr_add, addr_add] at this
theorem opF {t : TypeId} {A : Dec α} {ok : α → Prop} {n : Nat} {cs : List Value} {y : DataW H × List MemPlace} (hA : OpC enc P W base t A ok) (h1 : ∀ a, oneP (A.e a) = true)
    (h : DataW.trod enc P W base (fun _ => true) true n t cs = some y) : ∃ a v, ok a ∧ Rep (gW W) W (A.e a) v ∧ v.oneCell' = true ∧ cs = [v] := by
  obtain ⟨a, v, h3, h4, h5, h6⟩ := hA _ _ _ h
  have := oneP_rep h4 (h1 a)
  exact ⟨a, v, h3, h4, this, by rw [← h5, oneCell_cells this]⟩
theorem op1 {t : TypeId} {A : Dec α} {ok : α → Prop} {v : Value} {d : DataW H} {p : List MemPlace} (hA : OpC enc P W base t A ok) (h1 : ∀ a, oneP (A.e a) = true) (hv : v.cells = #[v])
    (h : DataW.Trod enc P W base (fun _ => true) true t v d p) : ∃ a, ok a ∧ Rep (gW W) W (A.e a) v := by
  obtain ⟨fuel, hf⟩ := h
  obtain ⟨a, u, h3, h4, h5, h6⟩ := opF hA h1 hf
  rw [hv] at h6
  have : v = u := by simpa using h6
  subst this
  exact ⟨a, h3, h4⟩
theorem walk_of {f : Nat} {φ : Fun} {ps : List PV} {args : Array Value} (h : Sound P f φ) (hT : TabF W fun _ => False) (ha : φ ps = some (bv true)) (hr : RepL (gW W) W ps args.toList) :
    Calls P f args W fun e w' => e = .returned (.bool true) ∧ Below W.heap.size W w' := by
  refine (h W (fun b => b < W.heap.size) ps args _ ha (fun b hb => hb) hT hr).mono ?_
  rintro e w' ⟨v, rfl, hb, hv⟩
  have := hv { I := fun _ _ => True, β := fun _ => 0, κ := fun _ => 0, nx := 0 } fun b _ _ => trivial
  have hv2 : v = .bool true := this
  subst hv2
  exact ⟨rfl, hb⟩
end
end Go.Proofs.Ytngcedklbinhjaa
