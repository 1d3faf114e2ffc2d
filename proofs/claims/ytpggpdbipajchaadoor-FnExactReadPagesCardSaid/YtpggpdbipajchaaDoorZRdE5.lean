/- What the proof rests on, part 5: contracts of functions. No condition beyond what each states. -/
import Derived.Test.YtpggpdbipajchaaDoorZRdE4
namespace Go.Proofs.YtpggpdbipajchaaDoor
open Go.RowKit
set_option linter.all false
noncomputable def rdZ (s : ByteArray) : PV × List CellIO := match readR s with
  | some P => (.tup [nP 1 (P.map fun n => .val (.int .i64 n)) 0, .val (.bool true)], nC 3 1 (P.map fun n => .val (.int .i64 n)))
  | none => (.tup [.val (.slice none 0 0), .val (.bool false)], [])
noncomputable def ΨRdp : FunN := G1 dS fun s => if s.size ≤ 1048576 then some (rdZ s) else none
noncomputable def φPtN : Fun := nilF 1 φPt
theorem φPtN_ap {l : List Int} (h : l.length ≤ 1099511627776) : φPtN [.lst false 1 (l.map fun n => .val (.int .i64 n))] = some (.val (.string (pagesT l))) := φPt_ap h
theorem φPtN_nil : φPtN [.val (.slice none 0 0)] = some (.val (.string ⟨#[]⟩)) := by
  have := φPt_ap (l := []) (by simp)
  rw [pagesT_nil] at this
  exact this
noncomputable def φPvN : Fun := nilF 1 φPagesV
theorem φPvN_ap {l : List Int} (h : l.length ≤ 1099511627776) : φPvN [.lst false 1 (l.map fun n => .val (.int .i64 n))] = some (.val (.bool (pagesB l))) := φPagesV_ap h
theorem φPvN_nil : φPvN [.val (.slice none 0 0)] = some (.val (.bool true)) := φPagesV_ap (zs := []) (by simp)
noncomputable def GRp : Ctx := ⟨fun f => if f = 71 then some φSplC else if f = 72 then some φRR else if f = 37 then some φPvN else if f = 27 then some φPtN else none, fun f => none⟩
theorem GRp_ok : SoundΓ Tryd.prog GRp := ⟨(fun f φ h => by
  unfold GRp at h
  dsimp only at h
  split at h
  · rename_i hf; cases h; subst hf; exact ⟨⟨_, Tryd.func71, rfl, rfl⟩, splitC_ok⟩
  split at h
  · rename_i hf; cases h; subst hf; exact ⟨⟨_, Tryd.func72, rfl, rfl⟩, readRun_ok⟩
  split at h
  · rename_i hf; cases h; subst hf; exact ⟨⟨_, Tryd.func37, rfl, rfl⟩, (implPagesV_ok.nil 1)⟩
  split at h
  · rename_i hf; cases h; subst hf; exact ⟨⟨_, Tryd.func27, rfl, rfl⟩, (implPt_ok.nil 1)⟩
  cases h), (fun f φ h => by
  unfold GRp at h
  dsimp only at h
  cases h)⟩
theorem GRp_71 (ob : Objs) (ps : List PV) : evCall GRp ob 71 ps = (ps.mapM (reify false 0 ob fuel)).bind φSplC := by
  have h : GRp.fn 71 = some φSplC := by simp [GRp]
  unfold evCall
  rw [h]
  cases ps.mapM (reify false 0 ob fuel) <;> rfl
theorem GRp_72 (ob : Objs) (ps : List PV) : evCall GRp ob 72 ps = (ps.mapM (reify false 0 ob fuel)).bind φRR := by
  have h : GRp.fn 72 = some φRR := by simp [GRp]
  unfold evCall
  rw [h]
  cases ps.mapM (reify false 0 ob fuel) <;> rfl
theorem GRp_37 (ob : Objs) (ps : List PV) : evCall GRp ob 37 ps = (ps.mapM (reify false 0 ob fuel)).bind φPvN := by
  have h : GRp.fn 37 = some φPvN := by simp [GRp]
  unfold evCall
  rw [h]
  cases ps.mapM (reify false 0 ob fuel) <;> rfl
theorem GRp_27 (ob : Objs) (ps : List PV) : evCall GRp ob 27 ps = (ps.mapM (reify false 0 ob fuel)).bind φPtN := by
  have h : GRp.fn 27 = some φPtN := by simp [GRp]
  unfold evCall
  rw [h]
  cases ps.mapM (reify false 0 ob fuel) <;> rfl
set_option maxHeartbeats 16000000 in
theorem implRdN : SoundN Tryd.prog 31 ΨRdp := by
  refine sound_pqN mixed GRp_ok Tryd.func31 rfl 54 rfl [.tmp 2, .tmp 3] rfl (by kernel_rfl) fun ps r cs' hr => ?_
  obtain ⟨s, rfl, hq⟩ := G1_some hr
  clear hr
  split at hq
  case isFalse => cases hq
  case isTrue hs =>
  have hz : rdZ s = (r, cs') := by simpa using hq
  clear hq
  refine ⟨by simp, ?_⟩
  simp only [dIs, dUs, dSs, dI_e, dU_e, dB_e, dS_e, dFn_e, dL_e, dA2_e, dA3_e, dA4_e, dA5_e]
  by_cases hs0 : s = ⟨#[]⟩
  · subst hs0
    have hz2 : ((PV.tup [.val (.slice none 0 0), .val (.bool true)], []) : PV × List CellIO) = (r, cs') := by
      unfold rdZ at hz
      rw [readR_nil] at hz
      exact hz
    cases hz2
    have grp_c71 := GRp_71; have grp_c72 := GRp_72; have grp_c37 := GRp_37; have grp_c27 := GRp_27
    (repeat' (first | (with_reducible first | apply i_seq | apply i_block | apply i_skip | apply i_exit | apply i_ret | apply i_kS | apply i_kSx | apply i_kSr | apply i_kL | apply i_kLx | apply i_kLr | apply i_kB | apply i_kBr | apply i_kBs | apply i_nil) | ((with_reducible apply i_region); (focus (simp only [List.map_cons, List.map_nil] <;> exact rfl))) | ((with_reducible apply i_draw); (focus (simp only [List.map_cons, List.map_nil] <;> exact rfl)); (focus (decide +kernel))) | ((with_reducible apply i_kBo); (focus rfl)) | ((first | ((with_reducible apply i_V); (focus rfl); (focus rfl); (focus rfl)) | ((with_reducible apply i_E); (focus rfl); (focus (first | rfl | (simp only [push_cast, ↓reduceIte, effOk, touch, refsOf, List.flatMap_cons, List.flatMap_nil])))) | ((with_reducible apply i_S); (focus rfl); (focus (first | rfl | (simp only [push_cast, ↓reduceIte, effOk, touch, refsOf, List.flatMap_cons, List.flatMap_nil])))) | ((with_reducible apply i_Vq); (focus rfl); (focus rfl)) | ((with_reducible apply i_Vp); (focus rfl); (focus rfl); (focus rfl)) | (with_reducible first | apply i_Gb | apply i_cond)); (focus (simp (disch := (first | omega | (simp only [push_cast]; done) | (simp only [push_cast]; omega) | ((try simp only [push_cast]); (with_reducible first | apply sel_lt | apply sel_ge); (focus decide); (focus (simp only [push_cast]; omega))))) only [push_cast, ↓reduceIte, Nat.reduceEqDiff, Nat.reduceBEq, Nat.reduceAdd, Nat.reduceSub, Int.reduceToNat, *] <;> with_reducible exact rfl)); all_goals try (intro hX; first | (cases hX; done) | ((with_reducible first | have hX0 : true = true := hX | have hX0 : false = false := hX); clear hX0 hX) | ((try simp only [decide_eq_true_eq, decide_eq_false_iff_not, Bool.not_eq_true', Bool.not_eq_false'] at hX); (try have hXb := inB_iff.1 hX)))))); all_goals try (exfalso; omega)
    all_goals ((with_reducible apply i_endN0 (by first | exact .inl rfl | exact .inr rfl)); (focus (simp (disch := (first | omega | (simp only [push_cast]; done) | (simp only [push_cast]; omega) | ((try simp only [push_cast]); (with_reducible first | apply sel_lt | apply sel_ge); (focus decide); (focus (simp only [push_cast]; omega))))) only [push_cast, ↓reduceIte, Nat.reduceEqDiff, Nat.reduceBEq, Nat.reduceAdd, Nat.reduceSub, Int.reduceToNat, *] <;> with_reducible exact rfl)))
  have ap1 := φSplC_ap hs
  have hcs : csB = ⟨#[44, 32]⟩ := rfl
  rw [hcs] at ap1
  obtain ⟨_, hpl⟩ := piecesC_facts s
  have hpz : ∀ i, i < (piecesC s).length → ((piecesC s)[i]?.getD .empty).size ≤ s.size := fun i hi => by
    rw [List.getElem?_eq_getElem hi, Option.getD_some]
    exact pieces_sz csB _ s _ (List.getElem_mem hi)
  have hyes := fun out => readR_out (out := out) hs0
  have hno := readR_none hs0
  generalize hps : piecesC s = ps at *
  generalize hT9 : rdI ps [] = T9 at *
  replace hyes := Lib.hid hyes
  replace hno := Lib.hid hno
  replace hT9 := Lib.hid hT9
  replace hz := Lib.hid hz
  clear hps hcs
  have grp_c71 := GRp_71; have grp_c72 := GRp_72; have grp_c37 := GRp_37; have grp_c27 := GRp_27
  (repeat' (first | (with_reducible first | apply i_seq | apply i_block | apply i_skip | apply i_exit | apply i_ret | apply i_kS | apply i_kSx | apply i_kSr | apply i_kL | apply i_kLx | apply i_kLr | apply i_kB | apply i_kBr | apply i_kBs | apply i_nil) | ((with_reducible apply i_region); (focus (simp only [List.map_cons, List.map_nil] <;> exact rfl))) | ((with_reducible apply i_draw); (focus (simp only [List.map_cons, List.map_nil] <;> exact rfl)); (focus (decide +kernel))) | ((with_reducible apply i_kBo); (focus rfl)) | ((first | ((with_reducible apply i_V); (focus rfl); (focus rfl); (focus rfl)) | ((with_reducible apply i_E); (focus rfl); (focus (first | rfl | (simp only [push_cast, ↓reduceIte, effOk, touch, refsOf, List.flatMap_cons, List.flatMap_nil])))) | ((with_reducible apply i_S); (focus rfl); (focus (first | rfl | (simp only [push_cast, ↓reduceIte, effOk, touch, refsOf, List.flatMap_cons, List.flatMap_nil])))) | ((with_reducible apply i_Vq); (focus rfl); (focus rfl)) | ((with_reducible apply i_Vp); (focus rfl); (focus rfl); (focus rfl)) | (with_reducible first | apply i_Gb | apply i_cond)); (focus (simp (disch := (first | omega | (simp only [push_cast]; done) | (simp only [push_cast]; omega) | ((try simp only [push_cast]); (with_reducible first | apply sel_lt | apply sel_ge); (focus decide); (focus (simp only [push_cast]; omega))))) only [push_cast, ↓reduceIte, Nat.reduceEqDiff, Nat.reduceBEq, Nat.reduceAdd, Nat.reduceSub, Int.reduceToNat, *] <;> with_reducible exact rfl)); all_goals try (intro hX; first | (cases hX; done) | ((with_reducible first | have hX0 : true = true := hX | have hX0 : false = false := hX); clear hX0 hX) | ((try simp only [decide_eq_true_eq, decide_eq_false_iff_not, Bool.not_eq_true', Bool.not_eq_false'] at hX); (try have hXb := inB_iff.1 hX)))))); all_goals try (exfalso; omega)
  refine i_loop (α := Nat × List Int × Nat × Nat) mixed (fun z => [(0, .val (.string s)), (4, nP 1 (z.2.1.map fun n => .val (.int .i64 n)) z.2.2.1), (14, .lst true 1 (ps.map fun s => .val (.string s))), (15, iv ps.length), (16, iv z.1)])
    (fun z => nO 3 1 (z.2.1.map fun n => .val (.int .i64 n)) z.2.2.1) (fun z => z.2.2.2)
    (fun z => z.1 ≤ ps.length ∧ rdI (ps.drop z.1) z.2.1 = T9 ∧ z.2.1.length ≤ 1100 ∧ (0 < z.2.1.length → z.2.2.1 < z.2.2.2)) (fun z => ps.length - z.1) (by kernel_rfl) (0, [], 0, 0) ⟨Nat.zero_le _, by rw [List.drop_zero]; exact hT9.out, by simp, by simp⟩ ?_ ?_ rfl ?_
  · simp (disch := (first | omega | (simp only [push_cast]; done) | (simp only [push_cast]; omega) | ((try simp only [push_cast]); (with_reducible first | apply sel_lt | apply sel_ge); (focus decide); (focus (simp only [push_cast]; omega))))) only [push_cast, ↓reduceIte, Nat.reduceEqDiff, Nat.reduceBEq, Nat.reduceAdd, Nat.reduceSub, Int.reduceToNat, List.length_append, *]
  · simp (disch := (first | omega | (simp only [push_cast]; done) | (simp only [push_cast]; omega) | ((try simp only [push_cast]); (with_reducible first | apply sel_lt | apply sel_ge); (focus decide); (focus (simp only [push_cast]; omega))))) only [push_cast, ↓reduceIte, Nat.reduceEqDiff, Nat.reduceBEq, Nat.reduceAdd, Nat.reduceSub, Int.reduceToNat, List.length_append, *]
  rintro ⟨i, out, x, y⟩ ⟨hi, hI, hol, hxy⟩
  dsimp only at hi hI hol hxy
  by_cases hil : i < ps.length
  · have hpi := hpz i hil
    clear hpz
    rw [List.drop_eq_getElem_cons hil] at hI
    rw [List.getElem?_eq_getElem hil, Option.getD_some] at hpi
    have hge : ps[i]?.getD ByteArray.empty = ps[i] := by rw [List.getElem?_eq_getElem hil, Option.getD_some]
    unfold rdI at hI
    have ap2 := φRR_ap (s := ps[i]) (by omega)
    rw [← hge] at hI ap2 hpi
    clear hge
    generalize hpe : ps[i]?.getD ByteArray.empty = p at *
    cases hro : runOf p with
    | none =>
      rw [hro] at hI ap2
      dsimp only at hI ap2
      have hz := hz.out
      unfold rdZ at hz
      rw [hno.out hI.symm] at hz
      cases hz
      clear hro hI
      (repeat' (first | (with_reducible first | apply i_seq | apply i_block | apply i_skip | apply i_exit | apply i_ret | apply i_kS | apply i_kSx | apply i_kSr | apply i_kL | apply i_kLx | apply i_kLr | apply i_kB | apply i_kBr | apply i_kBs | apply i_nil) | ((with_reducible apply i_region); (focus (simp only [List.map_cons, List.map_nil] <;> exact rfl))) | ((with_reducible apply i_draw); (focus (simp only [List.map_cons, List.map_nil] <;> exact rfl)); (focus (decide +kernel))) | ((with_reducible apply i_kBo); (focus rfl)) | ((first | ((with_reducible apply i_V); (focus rfl); (focus rfl); (focus rfl)) | ((with_reducible apply i_E); (focus rfl); (focus (first | rfl | (simp only [push_cast, ↓reduceIte, effOk, touch, refsOf, List.flatMap_cons, List.flatMap_nil])))) | ((with_reducible apply i_S); (focus rfl); (focus (first | rfl | (simp only [push_cast, ↓reduceIte, effOk, touch, refsOf, List.flatMap_cons, List.flatMap_nil])))) | ((with_reducible apply i_Vq); (focus rfl); (focus rfl)) | ((with_reducible apply i_Vp); (focus rfl); (focus rfl); (focus rfl)) | (with_reducible first | apply i_Gb | apply i_cond)); (focus (simp (disch := (first | omega | (simp only [push_cast]; done) | (simp only [push_cast]; omega) | ((try simp only [push_cast]); (with_reducible first | apply sel_lt | apply sel_ge); (focus decide); (focus (simp only [push_cast]; omega))))) only [push_cast, ↓reduceIte, Nat.reduceEqDiff, Nat.reduceBEq, Nat.reduceAdd, Nat.reduceSub, Int.reduceToNat, *] <;> with_reducible exact rfl)); all_goals try (intro hX; first | (cases hX; done) | ((with_reducible first | have hX0 : true = true := hX | have hX0 : false = false := hX); clear hX0 hX) | ((try simp only [decide_eq_true_eq, decide_eq_false_iff_not, Bool.not_eq_true', Bool.not_eq_false'] at hX); (try have hXb := inB_iff.1 hX)))))); all_goals try (exfalso; omega)
      all_goals ((with_reducible apply i_endN0 (by first | exact .inl rfl | exact .inr rfl)); (focus (simp (disch := (first | omega | (simp only [push_cast]; done) | (simp only [push_cast]; omega) | ((try simp only [push_cast]); (with_reducible first | apply sel_lt | apply sel_ge); (focus decide); (focus (simp only [push_cast]; omega))))) only [push_cast, ↓reduceIte, Nat.reduceEqDiff, Nat.reduceBEq, Nat.reduceAdd, Nat.reduceSub, Int.reduceToNat, *] <;> with_reducible exact rfl)))
    | some r9 =>
      obtain ⟨a, b⟩ := r9
      have hrg := (runOf_some hro).1
      rw [hro] at hI ap2
      dsimp only at hI ap2 hrg
      clear hro
      by_cases h30 : 30 < out.length
      · rw [if_pos h30] at hI
        have hxy := hxy (by omega)
        have hap : 0 < (out.map fun n => PV.val (.int .i64 n)).length := by rw [List.length_map]; omega
        have hz2 : ((PV.tup [.val (.slice none 0 0), .val (.bool false)], []) : PV × List CellIO) = (r, cs') := by
          have h := hz.out
          unfold rdZ at h
          rw [hno.out hI.symm] at h
          exact h
        cases hz2
        clear hI
        try simp only [nP_pos hap, nO_pos hap, List.length_map]
        (repeat' (first | (with_reducible first | apply i_seq | apply i_block | apply i_skip | apply i_exit | apply i_ret | apply i_kS | apply i_kSx | apply i_kSr | apply i_kL | apply i_kLx | apply i_kLr | apply i_kB | apply i_kBr | apply i_kBs | apply i_nil) | ((with_reducible apply i_region); (focus (simp only [List.map_cons, List.map_nil] <;> exact rfl))) | ((with_reducible apply i_draw); (focus (simp only [List.map_cons, List.map_nil] <;> exact rfl)); (focus (decide +kernel))) | ((with_reducible apply i_kBo); (focus rfl)) | ((first | ((with_reducible apply i_V); (focus rfl); (focus rfl); (focus rfl)) | ((with_reducible apply i_E); (focus rfl); (focus (first | rfl | (simp only [push_cast, ↓reduceIte, effOk, touch, refsOf, List.flatMap_cons, List.flatMap_nil])))) | ((with_reducible apply i_S); (focus rfl); (focus (first | rfl | (simp only [push_cast, ↓reduceIte, effOk, touch, refsOf, List.flatMap_cons, List.flatMap_nil])))) | ((with_reducible apply i_Vq); (focus rfl); (focus rfl)) | ((with_reducible apply i_Vp); (focus rfl); (focus rfl); (focus rfl)) | (with_reducible first | apply i_Gb | apply i_cond)); (focus (simp (disch := (first | omega | (simp only [push_cast]; done) | (simp only [push_cast]; omega) | ((try simp only [push_cast]); (with_reducible first | apply sel_lt | apply sel_ge); (focus decide); (focus (simp only [push_cast]; omega))))) only [push_cast, ↓reduceIte, Nat.reduceEqDiff, Nat.reduceBEq, Nat.reduceAdd, Nat.reduceSub, Int.reduceToNat, *] <;> with_reducible exact rfl)); all_goals try (intro hX; first | (cases hX; done) | ((with_reducible first | have hX0 : true = true := hX | have hX0 : false = false := hX); clear hX0 hX) | ((try simp only [decide_eq_true_eq, decide_eq_false_iff_not, Bool.not_eq_true', Bool.not_eq_false'] at hX); (try have hXb := inB_iff.1 hX)))))); all_goals try (exfalso; omega)
        all_goals ((with_reducible apply i_endN0 (by first | exact .inl rfl | exact .inr rfl)); (focus (simp (disch := (first | omega | (simp only [push_cast]; done) | (simp only [push_cast]; omega) | ((try simp only [push_cast]); (with_reducible first | apply sel_lt | apply sel_ge); (focus decide); (focus (simp only [push_cast]; omega))))) only [push_cast, ↓reduceIte, Nat.reduceEqDiff, Nat.reduceBEq, Nat.reduceAdd, Nat.reduceSub, Int.reduceToNat, *] <;> with_reducible exact rfl)))
      · rw [if_neg h30] at hI
        replace hI := Lib.hid hI
        by_cases hl0 : out.length = 0
        · obtain rfl : out = [] := List.eq_nil_of_length_eq_zero hl0
          clear hxy h30 hl0
          simp only [List.map_nil, nP_nil, nO_nil]
          (repeat' (first | (with_reducible first | apply i_seq | apply i_block | apply i_skip | apply i_exit | apply i_ret | apply i_kS | apply i_kSx | apply i_kSr | apply i_kL | apply i_kLx | apply i_kLr | apply i_kB | apply i_kBr | apply i_kBs | apply i_nil) | ((with_reducible apply i_region); (focus (simp only [List.map_cons, List.map_nil] <;> exact rfl))) | ((with_reducible apply i_draw); (focus (simp only [List.map_cons, List.map_nil] <;> exact rfl)); (focus (decide +kernel))) | ((with_reducible apply i_kBo); (focus rfl)) | ((first | ((with_reducible apply i_V); (focus rfl); (focus rfl); (focus rfl)) | ((with_reducible apply i_E); (focus rfl); (focus (first | rfl | (simp only [push_cast, ↓reduceIte, effOk, touch, refsOf, List.flatMap_cons, List.flatMap_nil])))) | ((with_reducible apply i_S); (focus rfl); (focus (first | rfl | (simp only [push_cast, ↓reduceIte, effOk, touch, refsOf, List.flatMap_cons, List.flatMap_nil])))) | ((with_reducible apply i_Vq); (focus rfl); (focus rfl)) | ((with_reducible apply i_Vp); (focus rfl); (focus rfl); (focus rfl)) | (with_reducible first | apply i_Gb | apply i_cond)); (focus (simp (disch := (first | omega | (simp only [push_cast]; done) | (simp only [push_cast]; omega) | ((try simp only [push_cast]); (with_reducible first | apply sel_lt | apply sel_ge); (focus decide); (focus (simp only [push_cast]; omega))))) only [push_cast, ↓reduceIte, Nat.reduceEqDiff, Nat.reduceBEq, Nat.reduceAdd, Nat.reduceSub, Int.reduceToNat, *] <;> with_reducible exact rfl)); all_goals try (intro hX; first | (cases hX; done) | ((with_reducible first | have hX0 : true = true := hX | have hX0 : false = false := hX); clear hX0 hX) | ((try simp only [decide_eq_true_eq, decide_eq_false_iff_not, Bool.not_eq_true', Bool.not_eq_false'] at hX); (try have hXb := inB_iff.1 hX)))))); all_goals try (exfalso; omega)
          refine i_loop (α := Int × List Int × Nat × Nat) mixed (fun z => [(0, .val (.string s)), (4, nP 1 (z.2.1.map fun n => .val (.int .i64 n)) z.2.2.1), (8, iv b), (10, iv z.1), (14, .lst true 1 (ps.map fun s => .val (.string s))), (15, iv ps.length), (16, iv i)])
            (fun z => nO 3 1 (z.2.1.map fun n => .val (.int .i64 n)) z.2.2.1) (fun z => z.2.2.2)
            (fun z => a ≤ z.1 ∧ (z.1 ≤ b + 1 ∨ z.1 = a) ∧ z.2.1 = [] ++ rangeL a (z.1 - 1) ∧ z.2.1.length ≤ 1100 ∧ (0 < z.2.1.length → z.2.2.1 < z.2.2.2)) (fun z => (b + 1 - z.1).toNat) (by kernel_rfl) (a, [], x, y) ⟨Int.le_refl _, .inr rfl, by dsimp only; rw [rangeL_nil (by omega), List.append_nil], by dsimp only [List.length_nil]; omega, fun h => by first | (simp at h; done) | exact hxy⟩ ?_ ?_ rfl ?_
          · simp (disch := (first | omega | (simp only [push_cast]; done) | (simp only [push_cast]; omega) | ((try simp only [push_cast]); (with_reducible first | apply sel_lt | apply sel_ge); (focus decide); (focus (simp only [push_cast]; omega))))) only [push_cast, ↓reduceIte, Nat.reduceEqDiff, Nat.reduceBEq, Nat.reduceAdd, Nat.reduceSub, Int.reduceToNat, List.length_append, *]
          · simp (disch := (first | omega | (simp only [push_cast]; done) | (simp only [push_cast]; omega) | ((try simp only [push_cast]); (with_reducible first | apply sel_lt | apply sel_ge); (focus decide); (focus (simp only [push_cast]; omega))))) only [push_cast, ↓reduceIte, Nat.reduceEqDiff, Nat.reduceBEq, Nat.reduceAdd, Nat.reduceSub, Int.reduceToNat, List.length_append, *]
          rintro ⟨n, o2, x2, y2⟩ ⟨n1, n2, ho2, ol2, hxy2⟩
          dsimp only at n1 n2 ho2 ol2 hxy2
          have hlen2 : o2.length ≤ 1050 := by
            rw [ho2, List.length_append, rangeL_len]
            simp only [List.length_nil]
            omega
          by_cases hnb : n ≤ b
          · have hst : o2 ++ [n] = [] ++ rangeL a (n + 1 - 1) := by
              rw [ho2, List.append_assoc, show n + 1 - 1 = (n - 1) + 1 by omega, rangeL_snoc (by omega), show n - 1 + 1 = n by omega]
            replace hst := Lib.hid hst
            clear ho2
            by_cases hz0 : o2.length = 0
            · obtain rfl : o2 = [] := List.eq_nil_of_length_eq_zero hz0
              clear hxy2
              simp only [List.map_nil, nP_nil, nO_nil]
              (repeat' (first | (with_reducible first | apply i_seq | apply i_block | apply i_skip | apply i_exit | apply i_ret | apply i_kS | apply i_kSx | apply i_kSr | apply i_kL | apply i_kLx | apply i_kLr | apply i_kB | apply i_kBr | apply i_kBs | apply i_nil) | ((with_reducible apply i_region); (focus (simp only [List.map_cons, List.map_nil] <;> exact rfl))) | ((with_reducible apply i_draw); (focus (simp only [List.map_cons, List.map_nil] <;> exact rfl)); (focus (decide +kernel))) | ((with_reducible apply i_kBo); (focus rfl)) | ((first | ((with_reducible apply i_V); (focus rfl); (focus rfl); (focus rfl)) | ((with_reducible apply i_E); (focus rfl); (focus (first | rfl | (simp only [push_cast, ↓reduceIte, effOk, touch, refsOf, List.flatMap_cons, List.flatMap_nil])))) | ((with_reducible apply i_S); (focus rfl); (focus (first | rfl | (simp only [push_cast, ↓reduceIte, effOk, touch, refsOf, List.flatMap_cons, List.flatMap_nil])))) | ((with_reducible apply i_Vq); (focus rfl); (focus rfl)) | ((with_reducible apply i_Vp); (focus rfl); (focus rfl); (focus rfl)) | (with_reducible first | apply i_Gb | apply i_cond)); (focus (simp (disch := (first | omega | (simp only [push_cast]; done) | (simp only [push_cast]; omega) | ((try simp only [push_cast]); (with_reducible first | apply sel_lt | apply sel_ge); (focus decide); (focus (simp only [push_cast]; omega))))) only [push_cast, ↓reduceIte, Nat.reduceEqDiff, Nat.reduceBEq, Nat.reduceAdd, Nat.reduceSub, Int.reduceToNat, *] <;> with_reducible exact rfl)); all_goals try (intro hX; first | (cases hX; done) | ((with_reducible first | have hX0 : true = true := hX | have hX0 : false = false := hX); clear hX0 hX) | ((try simp only [decide_eq_true_eq, decide_eq_false_iff_not, Bool.not_eq_true', Bool.not_eq_false'] at hX); (try have hXb := inB_iff.1 hX)))))); all_goals try (exfalso; omega)
              refine ⟨(n + 1, [] ++ [n], y2 + 1, y2 + 2), ⟨by dsimp only; omega, .inl (by dsimp only; omega), hst.out, by simp, fun _ => by dsimp only; omega⟩, by dsimp only; omega, ?_, ?_, rfl⟩
              · simp (disch := (first | omega | (simp only [push_cast]; done) | (simp only [push_cast]; omega) | ((try simp only [push_cast]); (with_reducible first | apply sel_lt | apply sel_ge); (focus decide); (focus (simp only [push_cast]; omega))))) only [push_cast, ↓reduceIte, Nat.reduceEqDiff, Nat.reduceBEq, Nat.reduceAdd, Nat.reduceSub, Int.reduceToNat, List.length_append, *]
              · simp (disch := (first | omega | (simp only [push_cast]; done) | (simp only [push_cast]; omega) | ((try simp only [push_cast]); (with_reducible first | apply sel_lt | apply sel_ge); (focus decide); (focus (simp only [push_cast]; omega))))) only [push_cast, ↓reduceIte, Nat.reduceEqDiff, Nat.reduceBEq, Nat.reduceAdd, Nat.reduceSub, Int.reduceToNat, List.length_append, *]
            · have hxy2 := hxy2 (by omega)
              have hap2 : 0 < (o2.map fun n => PV.val (.int .i64 n)).length := by rw [List.length_map]; omega
              have hap3 : 0 < ((o2 ++ [n]).map fun n => PV.val (.int .i64 n)).length := by simp
              have hel := Lib.hid (show ((o2 ++ [n]).map fun n => PV.val (.int .i64 n)).length = o2.length + 1 by simp)
              have hes := Lib.hid (show ((o2 ++ [n]).map fun n => PV.val (.int .i64 n)) = (o2.map fun n => PV.val (.int .i64 n)) ++ [.val (.int .i64 n)] by rw [List.map_append]; rfl)
              simp only [nP_pos hap2, nO_pos hap2, List.length_map]
              (repeat' (first | (with_reducible first | apply i_seq | apply i_block | apply i_skip | apply i_exit | apply i_ret | apply i_kS | apply i_kSx | apply i_kSr | apply i_kL | apply i_kLx | apply i_kLr | apply i_kB | apply i_kBr | apply i_kBs | apply i_nil) | ((with_reducible apply i_region); (focus (simp only [List.map_cons, List.map_nil] <;> exact rfl))) | ((with_reducible apply i_draw); (focus (simp only [List.map_cons, List.map_nil] <;> exact rfl)); (focus (decide +kernel))) | ((with_reducible apply i_kBo); (focus rfl)) | ((first | ((with_reducible apply i_V); (focus rfl); (focus rfl); (focus rfl)) | ((with_reducible apply i_E); (focus rfl); (focus (first | rfl | (simp only [push_cast, ↓reduceIte, effOk, touch, refsOf, List.flatMap_cons, List.flatMap_nil])))) | ((with_reducible apply i_S); (focus rfl); (focus (first | rfl | (simp only [push_cast, ↓reduceIte, effOk, touch, refsOf, List.flatMap_cons, List.flatMap_nil])))) | ((with_reducible apply i_Vq); (focus rfl); (focus rfl)) | ((with_reducible apply i_Vp); (focus rfl); (focus rfl); (focus rfl)) | (with_reducible first | apply i_Gb | apply i_cond)); (focus (simp (disch := (first | omega | (simp only [push_cast]; done) | (simp only [push_cast]; omega) | ((try simp only [push_cast]); (with_reducible first | apply sel_lt | apply sel_ge); (focus decide); (focus (simp only [push_cast]; omega))))) only [push_cast, ↓reduceIte, Nat.reduceEqDiff, Nat.reduceBEq, Nat.reduceAdd, Nat.reduceSub, Int.reduceToNat, *] <;> with_reducible exact rfl)); all_goals try (intro hX; first | (cases hX; done) | ((with_reducible first | have hX0 : true = true := hX | have hX0 : false = false := hX); clear hX0 hX) | ((try simp only [decide_eq_true_eq, decide_eq_false_iff_not, Bool.not_eq_true', Bool.not_eq_false'] at hX); (try have hXb := inB_iff.1 hX)))))); all_goals try (exfalso; omega)
              refine ⟨(n + 1, o2 ++ [n], y2 + 1, y2 + 2), ⟨by dsimp only; omega, .inl (by dsimp only; omega), hst.out, by rw [List.length_append, List.length_singleton]; omega, fun _ => by dsimp only; omega⟩, by dsimp only; omega, ?_, ?_, rfl⟩
              · simp (disch := (first | omega | (simp only [push_cast]; done) | (simp only [push_cast]; omega) | ((try simp only [push_cast]); (with_reducible first | apply sel_lt | apply sel_ge); (focus decide); (focus (simp only [push_cast]; omega))))) only [push_cast, ↓reduceIte, Nat.reduceEqDiff, Nat.reduceBEq, Nat.reduceAdd, Nat.reduceSub, Int.reduceToNat, nP_pos hap3, hel.out, *]
              · dsimp only
                rw [nO_pos hap3, hes.out]
                clear hI hrg ap2 hpi hil
                simp (disch := (first | omega | (simp only [push_cast]; done) | (simp only [push_cast]; omega) | ((try simp only [push_cast]); (with_reducible first | apply sel_lt | apply sel_ge); (focus decide); (focus (simp only [push_cast]; omega))))) only [push_cast, ↓reduceIte, Nat.reduceEqDiff, Nat.reduceBEq, Nat.reduceAdd, Nat.reduceSub, Int.reduceToNat, *]
          · have hend : rdI (ps.drop (i + 1)) o2 = T9 := by
              have h := hI.out
              rw [ho2]
              by_cases hab : a ≤ b
              · rw [show n - 1 = b by omega]
                exact h
              · rw [rangeL_nil (show n - 1 < a by omega)]
                rw [rangeL_nil (show b < a by omega)] at h
                exact h
            clear ho2
            by_cases hz0 : o2.length = 0
            · obtain rfl : o2 = [] := List.eq_nil_of_length_eq_zero hz0
              simp only [List.map_nil, nP_nil, nO_nil]
              (repeat' (first | (with_reducible first | apply i_seq | apply i_block | apply i_skip | apply i_exit | apply i_ret | apply i_kS | apply i_kSx | apply i_kSr | apply i_kL | apply i_kLx | apply i_kLr | apply i_kB | apply i_kBr | apply i_kBs | apply i_nil) | ((with_reducible apply i_region); (focus (simp only [List.map_cons, List.map_nil] <;> exact rfl))) | ((with_reducible apply i_draw); (focus (simp only [List.map_cons, List.map_nil] <;> exact rfl)); (focus (decide +kernel))) | ((with_reducible apply i_kBo); (focus rfl)) | ((first | ((with_reducible apply i_V); (focus rfl); (focus rfl); (focus rfl)) | ((with_reducible apply i_E); (focus rfl); (focus (first | rfl | (simp only [push_cast, ↓reduceIte, effOk, touch, refsOf, List.flatMap_cons, List.flatMap_nil])))) | ((with_reducible apply i_S); (focus rfl); (focus (first | rfl | (simp only [push_cast, ↓reduceIte, effOk, touch, refsOf, List.flatMap_cons, List.flatMap_nil])))) | ((with_reducible apply i_Vq); (focus rfl); (focus rfl)) | ((with_reducible apply i_Vp); (focus rfl); (focus rfl); (focus rfl)) | (with_reducible first | apply i_Gb | apply i_cond)); (focus (simp (disch := (first | omega | (simp only [push_cast]; done) | (simp only [push_cast]; omega) | ((try simp only [push_cast]); (with_reducible first | apply sel_lt | apply sel_ge); (focus decide); (focus (simp only [push_cast]; omega))))) only [push_cast, ↓reduceIte, Nat.reduceEqDiff, Nat.reduceBEq, Nat.reduceAdd, Nat.reduceSub, Int.reduceToNat, *] <;> with_reducible exact rfl)); all_goals try (intro hX; first | (cases hX; done) | ((with_reducible first | have hX0 : true = true := hX | have hX0 : false = false := hX); clear hX0 hX) | ((try simp only [decide_eq_true_eq, decide_eq_false_iff_not, Bool.not_eq_true', Bool.not_eq_false'] at hX); (try have hXb := inB_iff.1 hX)))))); all_goals try (exfalso; omega)
              refine ⟨(i + 1, [], x2, y2), ⟨by dsimp only; omega, hend, by simp, fun h => by simp at h⟩, by dsimp only; omega, ?_, ?_, rfl⟩
              · simp (disch := (first | omega | (simp only [push_cast]; done) | (simp only [push_cast]; omega) | ((try simp only [push_cast]); (with_reducible first | apply sel_lt | apply sel_ge); (focus decide); (focus (simp only [push_cast]; omega))))) only [push_cast, ↓reduceIte, Nat.reduceEqDiff, Nat.reduceBEq, Nat.reduceAdd, Nat.reduceSub, Int.reduceToNat, List.length_append, *]
              · simp (disch := (first | omega | (simp only [push_cast]; done) | (simp only [push_cast]; omega) | ((try simp only [push_cast]); (with_reducible first | apply sel_lt | apply sel_ge); (focus decide); (focus (simp only [push_cast]; omega))))) only [push_cast, ↓reduceIte, Nat.reduceEqDiff, Nat.reduceBEq, Nat.reduceAdd, Nat.reduceSub, Int.reduceToNat, List.length_append, *]
            · have hxy2 := hxy2 (by omega)
              have hap2 : 0 < (o2.map fun n => PV.val (.int .i64 n)).length := by rw [List.length_map]; omega
              replace hend := Lib.hid hend
              simp only [nP_pos hap2, nO_pos hap2, List.length_map]
              (repeat' (first | (with_reducible first | apply i_seq | apply i_block | apply i_skip | apply i_exit | apply i_ret | apply i_kS | apply i_kSx | apply i_kSr | apply i_kL | apply i_kLx | apply i_kLr | apply i_kB | apply i_kBr | apply i_kBs | apply i_nil) | ((with_reducible apply i_region); (focus (simp only [List.map_cons, List.map_nil] <;> exact rfl))) | ((with_reducible apply i_draw); (focus (simp only [List.map_cons, List.map_nil] <;> exact rfl)); (focus (decide +kernel))) | ((with_reducible apply i_kBo); (focus rfl)) | ((first | ((with_reducible apply i_V); (focus rfl); (focus rfl); (focus rfl)) | ((with_reducible apply i_E); (focus rfl); (focus (first | rfl | (simp only [push_cast, ↓reduceIte, effOk, touch, refsOf, List.flatMap_cons, List.flatMap_nil])))) | ((with_reducible apply i_S); (focus rfl); (focus (first | rfl | (simp only [push_cast, ↓reduceIte, effOk, touch, refsOf, List.flatMap_cons, List.flatMap_nil])))) | ((with_reducible apply i_Vq); (focus rfl); (focus rfl)) | ((with_reducible apply i_Vp); (focus rfl); (focus rfl); (focus rfl)) | (with_reducible first | apply i_Gb | apply i_cond)); (focus (simp (disch := (first | omega | (simp only [push_cast]; done) | (simp only [push_cast]; omega) | ((try simp only [push_cast]); (with_reducible first | apply sel_lt | apply sel_ge); (focus decide); (focus (simp only [push_cast]; omega))))) only [push_cast, ↓reduceIte, Nat.reduceEqDiff, Nat.reduceBEq, Nat.reduceAdd, Nat.reduceSub, Int.reduceToNat, *] <;> with_reducible exact rfl)); all_goals try (intro hX; first | (cases hX; done) | ((with_reducible first | have hX0 : true = true := hX | have hX0 : false = false := hX); clear hX0 hX) | ((try simp only [decide_eq_true_eq, decide_eq_false_iff_not, Bool.not_eq_true', Bool.not_eq_false'] at hX); (try have hXb := inB_iff.1 hX)))))); all_goals try (exfalso; omega)
              refine ⟨(i + 1, o2, x2, y2), ⟨by dsimp only; omega, hend.out, ol2, fun _ => hxy2⟩, by dsimp only; omega, ?_, ?_, rfl⟩
              · simp (disch := (first | omega | (simp only [push_cast]; done) | (simp only [push_cast]; omega) | ((try simp only [push_cast]); (with_reducible first | apply sel_lt | apply sel_ge); (focus decide); (focus (simp only [push_cast]; omega))))) only [push_cast, ↓reduceIte, Nat.reduceEqDiff, Nat.reduceBEq, Nat.reduceAdd, Nat.reduceSub, Int.reduceToNat, nP_pos hap2, List.length_map, *]
              · simp (disch := (first | omega | (simp only [push_cast]; done) | (simp only [push_cast]; omega) | ((try simp only [push_cast]); (with_reducible first | apply sel_lt | apply sel_ge); (focus decide); (focus (simp only [push_cast]; omega))))) only [push_cast, ↓reduceIte, Nat.reduceEqDiff, Nat.reduceBEq, Nat.reduceAdd, Nat.reduceSub, Int.reduceToNat, nO_pos hap2, *]
        · have hxy := hxy (by omega)
          have hap : 0 < (out.map fun n => PV.val (.int .i64 n)).length := by rw [List.length_map]; omega
          simp only [nP_pos hap, nO_pos hap, List.length_map]
          (repeat' (first | (with_reducible first | apply i_seq | apply i_block | apply i_skip | apply i_exit | apply i_ret | apply i_kS | apply i_kSx | apply i_kSr | apply i_kL | apply i_kLx | apply i_kLr | apply i_kB | apply i_kBr | apply i_kBs | apply i_nil) | ((with_reducible apply i_region); (focus (simp only [List.map_cons, List.map_nil] <;> exact rfl))) | ((with_reducible apply i_draw); (focus (simp only [List.map_cons, List.map_nil] <;> exact rfl)); (focus (decide +kernel))) | ((with_reducible apply i_kBo); (focus rfl)) | ((first | ((with_reducible apply i_V); (focus rfl); (focus rfl); (focus rfl)) | ((with_reducible apply i_E); (focus rfl); (focus (first | rfl | (simp only [push_cast, ↓reduceIte, effOk, touch, refsOf, List.flatMap_cons, List.flatMap_nil])))) | ((with_reducible apply i_S); (focus rfl); (focus (first | rfl | (simp only [push_cast, ↓reduceIte, effOk, touch, refsOf, List.flatMap_cons, List.flatMap_nil])))) | ((with_reducible apply i_Vq); (focus rfl); (focus rfl)) | ((with_reducible apply i_Vp); (focus rfl); (focus rfl); (focus rfl)) | (with_reducible first | apply i_Gb | apply i_cond)); (focus (simp (disch := (first | omega | (simp only [push_cast]; done) | (simp only [push_cast]; omega) | ((try simp only [push_cast]); (with_reducible first | apply sel_lt | apply sel_ge); (focus decide); (focus (simp only [push_cast]; omega))))) only [push_cast, ↓reduceIte, Nat.reduceEqDiff, Nat.reduceBEq, Nat.reduceAdd, Nat.reduceSub, Int.reduceToNat, *] <;> with_reducible exact rfl)); all_goals try (intro hX; first | (cases hX; done) | ((with_reducible first | have hX0 : true = true := hX | have hX0 : false = false := hX); clear hX0 hX) | ((try simp only [decide_eq_true_eq, decide_eq_false_iff_not, Bool.not_eq_true', Bool.not_eq_false'] at hX); (try have hXb := inB_iff.1 hX)))))); all_goals try (exfalso; omega)
          refine i_loop (α := Int × List Int × Nat × Nat) mixed (fun z => [(0, .val (.string s)), (4, nP 1 (z.2.1.map fun n => .val (.int .i64 n)) z.2.2.1), (8, iv b), (10, iv z.1), (14, .lst true 1 (ps.map fun s => .val (.string s))), (15, iv ps.length), (16, iv i)])
            (fun z => nO 3 1 (z.2.1.map fun n => .val (.int .i64 n)) z.2.2.1) (fun z => z.2.2.2)
            (fun z => a ≤ z.1 ∧ (z.1 ≤ b + 1 ∨ z.1 = a) ∧ z.2.1 = out ++ rangeL a (z.1 - 1) ∧ z.2.1.length ≤ 1100 ∧ (0 < z.2.1.length → z.2.2.1 < z.2.2.2)) (fun z => (b + 1 - z.1).toNat) (by kernel_rfl) (a, out, x, y) ⟨Int.le_refl _, .inr rfl, by dsimp only; rw [rangeL_nil (by omega), List.append_nil], by dsimp only [List.length_nil]; omega, fun h => by first | (simp at h; done) | exact hxy⟩ ?_ ?_ rfl ?_
          · simp (disch := (first | omega | (simp only [push_cast]; done) | (simp only [push_cast]; omega) | ((try simp only [push_cast]); (with_reducible first | apply sel_lt | apply sel_ge); (focus decide); (focus (simp only [push_cast]; omega))))) only [push_cast, ↓reduceIte, Nat.reduceEqDiff, Nat.reduceBEq, Nat.reduceAdd, Nat.reduceSub, Int.reduceToNat, nP_pos hap, List.length_map, *]
          · simp (disch := (first | omega | (simp only [push_cast]; done) | (simp only [push_cast]; omega) | ((try simp only [push_cast]); (with_reducible first | apply sel_lt | apply sel_ge); (focus decide); (focus (simp only [push_cast]; omega))))) only [push_cast, ↓reduceIte, Nat.reduceEqDiff, Nat.reduceBEq, Nat.reduceAdd, Nat.reduceSub, Int.reduceToNat, nO_pos hap, *]
          rintro ⟨n, o2, x2, y2⟩ ⟨n1, n2, ho2, ol2, hxy2⟩
          dsimp only at n1 n2 ho2 ol2 hxy2
          have hlen2 : o2.length ≤ 1050 := by
            rw [ho2, List.length_append, rangeL_len]
            omega
          by_cases hnb : n ≤ b
          · have hst : o2 ++ [n] = out ++ rangeL a (n + 1 - 1) := by
              rw [ho2, List.append_assoc, show n + 1 - 1 = (n - 1) + 1 by omega, rangeL_snoc (by omega), show n - 1 + 1 = n by omega]
            replace hst := Lib.hid hst
            clear ho2
            by_cases hz0 : o2.length = 0
            · obtain rfl : o2 = [] := List.eq_nil_of_length_eq_zero hz0
              clear hxy2
              simp only [List.map_nil, nP_nil, nO_nil]
              (repeat' (first | (with_reducible first | apply i_seq | apply i_block | apply i_skip | apply i_exit | apply i_ret | apply i_kS | apply i_kSx | apply i_kSr | apply i_kL | apply i_kLx | apply i_kLr | apply i_kB | apply i_kBr | apply i_kBs | apply i_nil) | ((with_reducible apply i_region); (focus (simp only [List.map_cons, List.map_nil] <;> exact rfl))) | ((with_reducible apply i_draw); (focus (simp only [List.map_cons, List.map_nil] <;> exact rfl)); (focus (decide +kernel))) | ((with_reducible apply i_kBo); (focus rfl)) | ((first | ((with_reducible apply i_V); (focus rfl); (focus rfl); (focus rfl)) | ((with_reducible apply i_E); (focus rfl); (focus (first | rfl | (simp only [push_cast, ↓reduceIte, effOk, touch, refsOf, List.flatMap_cons, List.flatMap_nil])))) | ((with_reducible apply i_S); (focus rfl); (focus (first | rfl | (simp only [push_cast, ↓reduceIte, effOk, touch, refsOf, List.flatMap_cons, List.flatMap_nil])))) | ((with_reducible apply i_Vq); (focus rfl); (focus rfl)) | ((with_reducible apply i_Vp); (focus rfl); (focus rfl); (focus rfl)) | (with_reducible first | apply i_Gb | apply i_cond)); (focus (simp (disch := (first | omega | (simp only [push_cast]; done) | (simp only [push_cast]; omega) | ((try simp only [push_cast]); (with_reducible first | apply sel_lt | apply sel_ge); (focus decide); (focus (simp only [push_cast]; omega))))) only [push_cast, ↓reduceIte, Nat.reduceEqDiff, Nat.reduceBEq, Nat.reduceAdd, Nat.reduceSub, Int.reduceToNat, *] <;> with_reducible exact rfl)); all_goals try (intro hX; first | (cases hX; done) | ((with_reducible first | have hX0 : true = true := hX | have hX0 : false = false := hX); clear hX0 hX) | ((try simp only [decide_eq_true_eq, decide_eq_false_iff_not, Bool.not_eq_true', Bool.not_eq_false'] at hX); (try have hXb := inB_iff.1 hX)))))); all_goals try (exfalso; omega)
              refine ⟨(n + 1, [] ++ [n], y2 + 1, y2 + 2), ⟨by dsimp only; omega, .inl (by dsimp only; omega), hst.out, by simp, fun _ => by dsimp only; omega⟩, by dsimp only; omega, ?_, ?_, rfl⟩
              · simp (disch := (first | omega | (simp only [push_cast]; done) | (simp only [push_cast]; omega) | ((try simp only [push_cast]); (with_reducible first | apply sel_lt | apply sel_ge); (focus decide); (focus (simp only [push_cast]; omega))))) only [push_cast, ↓reduceIte, Nat.reduceEqDiff, Nat.reduceBEq, Nat.reduceAdd, Nat.reduceSub, Int.reduceToNat, List.length_append, *]
              · simp (disch := (first | omega | (simp only [push_cast]; done) | (simp only [push_cast]; omega) | ((try simp only [push_cast]); (with_reducible first | apply sel_lt | apply sel_ge); (focus decide); (focus (simp only [push_cast]; omega))))) only [push_cast, ↓reduceIte, Nat.reduceEqDiff, Nat.reduceBEq, Nat.reduceAdd, Nat.reduceSub, Int.reduceToNat, List.length_append, *]
            · have hxy2 := hxy2 (by omega)
              have hap2 : 0 < (o2.map fun n => PV.val (.int .i64 n)).length := by rw [List.length_map]; omega
              have hap3 : 0 < ((o2 ++ [n]).map fun n => PV.val (.int .i64 n)).length := by simp
              have hel := Lib.hid (show ((o2 ++ [n]).map fun n => PV.val (.int .i64 n)).length = o2.length + 1 by simp)
              have hes := Lib.hid (show ((o2 ++ [n]).map fun n => PV.val (.int .i64 n)) = (o2.map fun n => PV.val (.int .i64 n)) ++ [.val (.int .i64 n)] by rw [List.map_append]; rfl)
              simp only [nP_pos hap2, nO_pos hap2, List.length_map]
              (repeat' (first | (with_reducible first | apply i_seq | apply i_block | apply i_skip | apply i_exit | apply i_ret | apply i_kS | apply i_kSx | apply i_kSr | apply i_kL | apply i_kLx | apply i_kLr | apply i_kB | apply i_kBr | apply i_kBs | apply i_nil) | ((with_reducible apply i_region); (focus (simp only [List.map_cons, List.map_nil] <;> exact rfl))) | ((with_reducible apply i_draw); (focus (simp only [List.map_cons, List.map_nil] <;> exact rfl)); (focus (decide +kernel))) | ((with_reducible apply i_kBo); (focus rfl)) | ((first | ((with_reducible apply i_V); (focus rfl); (focus rfl); (focus rfl)) | ((with_reducible apply i_E); (focus rfl); (focus (first | rfl | (simp only [push_cast, ↓reduceIte, effOk, touch, refsOf, List.flatMap_cons, List.flatMap_nil])))) | ((with_reducible apply i_S); (focus rfl); (focus (first | rfl | (simp only [push_cast, ↓reduceIte, effOk, touch, refsOf, List.flatMap_cons, List.flatMap_nil])))) | ((with_reducible apply i_Vq); (focus rfl); (focus rfl)) | ((with_reducible apply i_Vp); (focus rfl); (focus rfl); (focus rfl)) | (with_reducible first | apply i_Gb | apply i_cond)); (focus (simp (disch := (first | omega | (simp only [push_cast]; done) | (simp only [push_cast]; omega) | ((try simp only [push_cast]); (with_reducible first | apply sel_lt | apply sel_ge); (focus decide); (focus (simp only [push_cast]; omega))))) only [push_cast, ↓reduceIte, Nat.reduceEqDiff, Nat.reduceBEq, Nat.reduceAdd, Nat.reduceSub, Int.reduceToNat, *] <;> with_reducible exact rfl)); all_goals try (intro hX; first | (cases hX; done) | ((with_reducible first | have hX0 : true = true := hX | have hX0 : false = false := hX); clear hX0 hX) | ((try simp only [decide_eq_true_eq, decide_eq_false_iff_not, Bool.not_eq_true', Bool.not_eq_false'] at hX); (try have hXb := inB_iff.1 hX)))))); all_goals try (exfalso; omega)
              refine ⟨(n + 1, o2 ++ [n], y2 + 1, y2 + 2), ⟨by dsimp only; omega, .inl (by dsimp only; omega), hst.out, by rw [List.length_append, List.length_singleton]; omega, fun _ => by dsimp only; omega⟩, by dsimp only; omega, ?_, ?_, rfl⟩
              · simp (disch := (first | omega | (simp only [push_cast]; done) | (simp only [push_cast]; omega) | ((try simp only [push_cast]); (with_reducible first | apply sel_lt | apply sel_ge); (focus decide); (focus (simp only [push_cast]; omega))))) only [push_cast, ↓reduceIte, Nat.reduceEqDiff, Nat.reduceBEq, Nat.reduceAdd, Nat.reduceSub, Int.reduceToNat, nP_pos hap3, hel.out, *]
              · dsimp only
                rw [nO_pos hap3, hes.out]
                clear hI hrg ap2 hpi hil
                simp (disch := (first | omega | (simp only [push_cast]; done) | (simp only [push_cast]; omega) | ((try simp only [push_cast]); (with_reducible first | apply sel_lt | apply sel_ge); (focus decide); (focus (simp only [push_cast]; omega))))) only [push_cast, ↓reduceIte, Nat.reduceEqDiff, Nat.reduceBEq, Nat.reduceAdd, Nat.reduceSub, Int.reduceToNat, *]
          · have hend : rdI (ps.drop (i + 1)) o2 = T9 := by
              have h := hI.out
              rw [ho2]
              by_cases hab : a ≤ b
              · rw [show n - 1 = b by omega]
                exact h
              · rw [rangeL_nil (show n - 1 < a by omega)]
                rw [rangeL_nil (show b < a by omega)] at h
                exact h
            clear ho2
            by_cases hz0 : o2.length = 0
            · obtain rfl : o2 = [] := List.eq_nil_of_length_eq_zero hz0
              simp only [List.map_nil, nP_nil, nO_nil]
              (repeat' (first | (with_reducible first | apply i_seq | apply i_block | apply i_skip | apply i_exit | apply i_ret | apply i_kS | apply i_kSx | apply i_kSr | apply i_kL | apply i_kLx | apply i_kLr | apply i_kB | apply i_kBr | apply i_kBs | apply i_nil) | ((with_reducible apply i_region); (focus (simp only [List.map_cons, List.map_nil] <;> exact rfl))) | ((with_reducible apply i_draw); (focus (simp only [List.map_cons, List.map_nil] <;> exact rfl)); (focus (decide +kernel))) | ((with_reducible apply i_kBo); (focus rfl)) | ((first | ((with_reducible apply i_V); (focus rfl); (focus rfl); (focus rfl)) | ((with_reducible apply i_E); (focus rfl); (focus (first | rfl | (simp only [push_cast, ↓reduceIte, effOk, touch, refsOf, List.flatMap_cons, List.flatMap_nil])))) | ((with_reducible apply i_S); (focus rfl); (focus (first | rfl | (simp only [push_cast, ↓reduceIte, effOk, touch, refsOf, List.flatMap_cons, List.flatMap_nil])))) | ((with_reducible apply i_Vq); (focus rfl); (focus rfl)) | ((with_reducible apply i_Vp); (focus rfl); (focus rfl); (focus rfl)) | (with_reducible first | apply i_Gb | apply i_cond)); (focus (simp (disch := (first | omega | (simp only [push_cast]; done) | (simp only [push_cast]; omega) | ((try simp only [push_cast]); (with_reducible first | apply sel_lt | apply sel_ge); (focus decide); (focus (simp only [push_cast]; omega))))) only [push_cast, ↓reduceIte, Nat.reduceEqDiff, Nat.reduceBEq, Nat.reduceAdd, Nat.reduceSub, Int.reduceToNat, *] <;> with_reducible exact rfl)); all_goals try (intro hX; first | (cases hX; done) | ((with_reducible first | have hX0 : true = true := hX | have hX0 : false = false := hX); clear hX0 hX) | ((try simp only [decide_eq_true_eq, decide_eq_false_iff_not, Bool.not_eq_true', Bool.not_eq_false'] at hX); (try have hXb := inB_iff.1 hX)))))); all_goals try (exfalso; omega)
              refine ⟨(i + 1, [], x2, y2), ⟨by dsimp only; omega, hend, by simp, fun h => by simp at h⟩, by dsimp only; omega, ?_, ?_, rfl⟩
              · simp (disch := (first | omega | (simp only [push_cast]; done) | (simp only [push_cast]; omega) | ((try simp only [push_cast]); (with_reducible first | apply sel_lt | apply sel_ge); (focus decide); (focus (simp only [push_cast]; omega))))) only [push_cast, ↓reduceIte, Nat.reduceEqDiff, Nat.reduceBEq, Nat.reduceAdd, Nat.reduceSub, Int.reduceToNat, List.length_append, *]
              · simp (disch := (first | omega | (simp only [push_cast]; done) | (simp only [push_cast]; omega) | ((try simp only [push_cast]); (with_reducible first | apply sel_lt | apply sel_ge); (focus decide); (focus (simp only [push_cast]; omega))))) only [push_cast, ↓reduceIte, Nat.reduceEqDiff, Nat.reduceBEq, Nat.reduceAdd, Nat.reduceSub, Int.reduceToNat, List.length_append, *]
            · have hxy2 := hxy2 (by omega)
              have hap2 : 0 < (o2.map fun n => PV.val (.int .i64 n)).length := by rw [List.length_map]; omega
              replace hend := Lib.hid hend
              simp only [nP_pos hap2, nO_pos hap2, List.length_map]
              (repeat' (first | (with_reducible first | apply i_seq | apply i_block | apply i_skip | apply i_exit | apply i_ret | apply i_kS | apply i_kSx | apply i_kSr | apply i_kL | apply i_kLx | apply i_kLr | apply i_kB | apply i_kBr | apply i_kBs | apply i_nil) | ((with_reducible apply i_region); (focus (simp only [List.map_cons, List.map_nil] <;> exact rfl))) | ((with_reducible apply i_draw); (focus (simp only [List.map_cons, List.map_nil] <;> exact rfl)); (focus (decide +kernel))) | ((with_reducible apply i_kBo); (focus rfl)) | ((first | ((with_reducible apply i_V); (focus rfl); (focus rfl); (focus rfl)) | ((with_reducible apply i_E); (focus rfl); (focus (first | rfl | (simp only [push_cast, ↓reduceIte, effOk, touch, refsOf, List.flatMap_cons, List.flatMap_nil])))) | ((with_reducible apply i_S); (focus rfl); (focus (first | rfl | (simp only [push_cast, ↓reduceIte, effOk, touch, refsOf, List.flatMap_cons, List.flatMap_nil])))) | ((with_reducible apply i_Vq); (focus rfl); (focus rfl)) | ((with_reducible apply i_Vp); (focus rfl); (focus rfl); (focus rfl)) | (with_reducible first | apply i_Gb | apply i_cond)); (focus (simp (disch := (first | omega | (simp only [push_cast]; done) | (simp only [push_cast]; omega) | ((try simp only [push_cast]); (with_reducible first | apply sel_lt | apply sel_ge); (focus decide); (focus (simp only [push_cast]; omega))))) only [push_cast, ↓reduceIte, Nat.reduceEqDiff, Nat.reduceBEq, Nat.reduceAdd, Nat.reduceSub, Int.reduceToNat, *] <;> with_reducible exact rfl)); all_goals try (intro hX; first | (cases hX; done) | ((with_reducible first | have hX0 : true = true := hX | have hX0 : false = false := hX); clear hX0 hX) | ((try simp only [decide_eq_true_eq, decide_eq_false_iff_not, Bool.not_eq_true', Bool.not_eq_false'] at hX); (try have hXb := inB_iff.1 hX)))))); all_goals try (exfalso; omega)
              refine ⟨(i + 1, o2, x2, y2), ⟨by dsimp only; omega, hend.out, ol2, fun _ => hxy2⟩, by dsimp only; omega, ?_, ?_, rfl⟩
              · simp (disch := (first | omega | (simp only [push_cast]; done) | (simp only [push_cast]; omega) | ((try simp only [push_cast]); (with_reducible first | apply sel_lt | apply sel_ge); (focus decide); (focus (simp only [push_cast]; omega))))) only [push_cast, ↓reduceIte, Nat.reduceEqDiff, Nat.reduceBEq, Nat.reduceAdd, Nat.reduceSub, Int.reduceToNat, nP_pos hap2, List.length_map, *]
              · simp (disch := (first | omega | (simp only [push_cast]; done) | (simp only [push_cast]; omega) | ((try simp only [push_cast]); (with_reducible first | apply sel_lt | apply sel_ge); (focus decide); (focus (simp only [push_cast]; omega))))) only [push_cast, ↓reduceIte, Nat.reduceEqDiff, Nat.reduceBEq, Nat.reduceAdd, Nat.reduceSub, Int.reduceToNat, nO_pos hap2, *]
  · obtain rfl : i = ps.length := by omega
    rw [List.drop_length] at hI
    have hI2 : T9 = some out := hI.symm
    have hro := hyes.out out hI2
    clear hI hpz
    by_cases hl0 : out.length = 0
    · obtain rfl : out = [] := List.eq_nil_of_length_eq_zero hl0
      have hne : ¬ pagesT [] = s := fun e => hs0 (by rw [← e, pagesT_nil])
      have hz2 : ((PV.tup [.val (.slice none 0 0), .val (.bool false)], []) : PV × List CellIO) = (r, cs') := by
        have h := hz.out
        unfold rdZ at h
        rw [hro, if_neg (fun q => hne q.2)] at h
        exact h
      cases hz2
      have ap5 := φPvN_nil
      have ap6 := φPtN_nil
      have hs9 : ¬ (⟨#[]⟩ : ByteArray) = s := fun e => hs0 e.symm
      clear hro hI2 hne
      (repeat' (first | (with_reducible first | apply i_seq | apply i_block | apply i_skip | apply i_exit | apply i_ret | apply i_kS | apply i_kSx | apply i_kSr | apply i_kL | apply i_kLx | apply i_kLr | apply i_kB | apply i_kBr | apply i_kBs | apply i_nil) | ((with_reducible apply i_region); (focus (simp only [List.map_cons, List.map_nil] <;> exact rfl))) | ((with_reducible apply i_draw); (focus (simp only [List.map_cons, List.map_nil] <;> exact rfl)); (focus (decide +kernel))) | ((with_reducible apply i_kBo); (focus rfl)) | ((first | ((with_reducible apply i_V); (focus rfl); (focus rfl); (focus rfl)) | ((with_reducible apply i_E); (focus rfl); (focus (first | rfl | (simp only [push_cast, ↓reduceIte, effOk, touch, refsOf, List.flatMap_cons, List.flatMap_nil])))) | ((with_reducible apply i_S); (focus rfl); (focus (first | rfl | (simp only [push_cast, ↓reduceIte, effOk, touch, refsOf, List.flatMap_cons, List.flatMap_nil])))) | ((with_reducible apply i_Vq); (focus rfl); (focus rfl)) | ((with_reducible apply i_Vp); (focus rfl); (focus rfl); (focus rfl)) | (with_reducible first | apply i_Gb | apply i_cond)); (focus (simp (disch := (first | omega | (simp only [push_cast]; done) | (simp only [push_cast]; omega) | ((try simp only [push_cast]); (with_reducible first | apply sel_lt | apply sel_ge); (focus decide); (focus (simp only [push_cast]; omega))))) only [push_cast, ↓reduceIte, Nat.reduceEqDiff, Nat.reduceBEq, Nat.reduceAdd, Nat.reduceSub, Int.reduceToNat, *] <;> with_reducible exact rfl)); all_goals try (intro hX; first | (cases hX; done) | ((with_reducible first | have hX0 : true = true := hX | have hX0 : false = false := hX); clear hX0 hX) | ((try simp only [decide_eq_true_eq, decide_eq_false_iff_not, Bool.not_eq_true', Bool.not_eq_false'] at hX); (try have hXb := inB_iff.1 hX)))))); all_goals try (exfalso; omega)
      all_goals ((with_reducible apply i_endN0 (by first | exact .inl rfl | exact .inr rfl)); (focus (simp (disch := (first | omega | (simp only [push_cast]; done) | (simp only [push_cast]; omega) | ((try simp only [push_cast]); (with_reducible first | apply sel_lt | apply sel_ge); (focus decide); (focus (simp only [push_cast]; omega))))) only [push_cast, ↓reduceIte, Nat.reduceEqDiff, Nat.reduceBEq, Nat.reduceAdd, Nat.reduceSub, Int.reduceToNat, *] <;> with_reducible exact rfl)))
    · have hxy := hxy (by omega)
      have hap : 0 < (out.map fun n => PV.val (.int .i64 n)).length := by rw [List.length_map]; omega
      have ap5 := φPvN_ap (l := out) (by omega)
      have ap6 := φPtN_ap (l := out) (by omega)
      simp only [nP_pos hap, nO_pos hap, List.length_map]
      by_cases hc : pagesB out = true ∧ pagesT out = s
      · obtain ⟨hc1, hc2⟩ := hc
        have hz2 : ((PV.tup [.row 0 1 0 out.length, .val (.bool true)], [(3, 1, out.map fun n => PV.val (.int .i64 n))]) : PV × List CellIO) = (r, cs') := by
          have h := hz.out
          unfold rdZ at h
          rw [hro, if_pos ⟨hc1, hc2⟩] at h
          dsimp only at h
          rw [nP_pos hap, nC_pos hap, List.length_map] at h
          exact h
        cases hz2
        rw [hc1] at ap5
        rw [hc2] at ap6
        clear hro hI2 hc1 hc2
        (repeat' (first | (with_reducible first | apply i_seq | apply i_block | apply i_skip | apply i_exit | apply i_ret | apply i_kS | apply i_kSx | apply i_kSr | apply i_kL | apply i_kLx | apply i_kLr | apply i_kB | apply i_kBr | apply i_kBs | apply i_nil) | ((with_reducible apply i_region); (focus (simp only [List.map_cons, List.map_nil] <;> exact rfl))) | ((with_reducible apply i_draw); (focus (simp only [List.map_cons, List.map_nil] <;> exact rfl)); (focus (decide +kernel))) | ((with_reducible apply i_kBo); (focus rfl)) | ((first | ((with_reducible apply i_V); (focus rfl); (focus rfl); (focus rfl)) | ((with_reducible apply i_E); (focus rfl); (focus (first | rfl | (simp only [push_cast, ↓reduceIte, effOk, touch, refsOf, List.flatMap_cons, List.flatMap_nil])))) | ((with_reducible apply i_S); (focus rfl); (focus (first | rfl | (simp only [push_cast, ↓reduceIte, effOk, touch, refsOf, List.flatMap_cons, List.flatMap_nil])))) | ((with_reducible apply i_Vq); (focus rfl); (focus rfl)) | ((with_reducible apply i_Vp); (focus rfl); (focus rfl); (focus rfl)) | (with_reducible first | apply i_Gb | apply i_cond)); (focus (simp (disch := (first | omega | (simp only [push_cast]; done) | (simp only [push_cast]; omega) | ((try simp only [push_cast]); (with_reducible first | apply sel_lt | apply sel_ge); (focus decide); (focus (simp only [push_cast]; omega))))) only [push_cast, ↓reduceIte, Nat.reduceEqDiff, Nat.reduceBEq, Nat.reduceAdd, Nat.reduceSub, Int.reduceToNat, *] <;> with_reducible exact rfl)); all_goals try (intro hX; first | (cases hX; done) | ((with_reducible first | have hX0 : true = true := hX | have hX0 : false = false := hX); clear hX0 hX) | ((try simp only [decide_eq_true_eq, decide_eq_false_iff_not, Bool.not_eq_true', Bool.not_eq_false'] at hX); (try have hXb := inB_iff.1 hX)))))); all_goals try (exfalso; omega)
        all_goals ((with_reducible apply i_endN1 (x) (by first | exact .inl rfl | exact .inr rfl)); (focus (simp (disch := (first | omega | (simp only [push_cast]; done) | (simp only [push_cast]; omega) | ((try simp only [push_cast]); (with_reducible first | apply sel_lt | apply sel_ge); (focus decide); (focus (simp only [push_cast]; omega))))) only [push_cast, ↓reduceIte, Nat.reduceEqDiff, Nat.reduceBEq, Nat.reduceAdd, Nat.reduceSub, Int.reduceToNat, *] <;> with_reducible exact rfl)); (focus (simp (disch := (first | omega | (simp only [push_cast]; done) | (simp only [push_cast]; omega) | ((try simp only [push_cast]); (with_reducible first | apply sel_lt | apply sel_ge); (focus decide); (focus (simp only [push_cast]; omega))))) only [push_cast, ↓reduceIte, Nat.reduceEqDiff, Nat.reduceBEq, Nat.reduceAdd, Nat.reduceSub, Int.reduceToNat, *] <;> with_reducible exact rfl)))
      · have hz2 : ((PV.tup [.val (.slice none 0 0), .val (.bool false)], []) : PV × List CellIO) = (r, cs') := by
          have h := hz.out
          unfold rdZ at h
          rw [hro, if_neg hc] at h
          exact h
        cases hz2
        clear hro hI2
        cases hb : pagesB out with
        | false =>
          rw [hb] at ap5
          clear hc hb
          (repeat' (first | (with_reducible first | apply i_seq | apply i_block | apply i_skip | apply i_exit | apply i_ret | apply i_kS | apply i_kSx | apply i_kSr | apply i_kL | apply i_kLx | apply i_kLr | apply i_kB | apply i_kBr | apply i_kBs | apply i_nil) | ((with_reducible apply i_region); (focus (simp only [List.map_cons, List.map_nil] <;> exact rfl))) | ((with_reducible apply i_draw); (focus (simp only [List.map_cons, List.map_nil] <;> exact rfl)); (focus (decide +kernel))) | ((with_reducible apply i_kBo); (focus rfl)) | ((first | ((with_reducible apply i_V); (focus rfl); (focus rfl); (focus rfl)) | ((with_reducible apply i_E); (focus rfl); (focus (first | rfl | (simp only [push_cast, ↓reduceIte, effOk, touch, refsOf, List.flatMap_cons, List.flatMap_nil])))) | ((with_reducible apply i_S); (focus rfl); (focus (first | rfl | (simp only [push_cast, ↓reduceIte, effOk, touch, refsOf, List.flatMap_cons, List.flatMap_nil])))) | ((with_reducible apply i_Vq); (focus rfl); (focus rfl)) | ((with_reducible apply i_Vp); (focus rfl); (focus rfl); (focus rfl)) | (with_reducible first | apply i_Gb | apply i_cond)); (focus (simp (disch := (first | omega | (simp only [push_cast]; done) | (simp only [push_cast]; omega) | ((try simp only [push_cast]); (with_reducible first | apply sel_lt | apply sel_ge); (focus decide); (focus (simp only [push_cast]; omega))))) only [push_cast, ↓reduceIte, Nat.reduceEqDiff, Nat.reduceBEq, Nat.reduceAdd, Nat.reduceSub, Int.reduceToNat, *] <;> with_reducible exact rfl)); all_goals try (intro hX; first | (cases hX; done) | ((with_reducible first | have hX0 : true = true := hX | have hX0 : false = false := hX); clear hX0 hX) | ((try simp only [decide_eq_true_eq, decide_eq_false_iff_not, Bool.not_eq_true', Bool.not_eq_false'] at hX); (try have hXb := inB_iff.1 hX)))))); all_goals try (exfalso; omega)
          all_goals ((with_reducible apply i_endN0 (by first | exact .inl rfl | exact .inr rfl)); (focus (simp (disch := (first | omega | (simp only [push_cast]; done) | (simp only [push_cast]; omega) | ((try simp only [push_cast]); (with_reducible first | apply sel_lt | apply sel_ge); (focus decide); (focus (simp only [push_cast]; omega))))) only [push_cast, ↓reduceIte, Nat.reduceEqDiff, Nat.reduceBEq, Nat.reduceAdd, Nat.reduceSub, Int.reduceToNat, *] <;> with_reducible exact rfl)))
        | true =>
          have hc2 : ¬ pagesT out = s := fun e => hc ⟨hb, e⟩
          rw [hb] at ap5
          clear hc hb
          generalize pagesT out = t9 at *
          (repeat' (first | (with_reducible first | apply i_seq | apply i_block | apply i_skip | apply i_exit | apply i_ret | apply i_kS | apply i_kSx | apply i_kSr | apply i_kL | apply i_kLx | apply i_kLr | apply i_kB | apply i_kBr | apply i_kBs | apply i_nil) | ((with_reducible apply i_region); (focus (simp only [List.map_cons, List.map_nil] <;> exact rfl))) | ((with_reducible apply i_draw); (focus (simp only [List.map_cons, List.map_nil] <;> exact rfl)); (focus (decide +kernel))) | ((with_reducible apply i_kBo); (focus rfl)) | ((first | ((with_reducible apply i_V); (focus rfl); (focus rfl); (focus rfl)) | ((with_reducible apply i_E); (focus rfl); (focus (first | rfl | (simp only [push_cast, ↓reduceIte, effOk, touch, refsOf, List.flatMap_cons, List.flatMap_nil])))) | ((with_reducible apply i_S); (focus rfl); (focus (first | rfl | (simp only [push_cast, ↓reduceIte, effOk, touch, refsOf, List.flatMap_cons, List.flatMap_nil])))) | ((with_reducible apply i_Vq); (focus rfl); (focus rfl)) | ((with_reducible apply i_Vp); (focus rfl); (focus rfl); (focus rfl)) | (with_reducible first | apply i_Gb | apply i_cond)); (focus (simp (disch := (first | omega | (simp only [push_cast]; done) | (simp only [push_cast]; omega) | ((try simp only [push_cast]); (with_reducible first | apply sel_lt | apply sel_ge); (focus decide); (focus (simp only [push_cast]; omega))))) only [push_cast, ↓reduceIte, Nat.reduceEqDiff, Nat.reduceBEq, Nat.reduceAdd, Nat.reduceSub, Int.reduceToNat, *] <;> with_reducible exact rfl)); all_goals try (intro hX; first | (cases hX; done) | ((with_reducible first | have hX0 : true = true := hX | have hX0 : false = false := hX); clear hX0 hX) | ((try simp only [decide_eq_true_eq, decide_eq_false_iff_not, Bool.not_eq_true', Bool.not_eq_false'] at hX); (try have hXb := inB_iff.1 hX)))))); all_goals try (exfalso; omega)
          all_goals ((with_reducible apply i_endN0 (by first | exact .inl rfl | exact .inr rfl)); (focus (simp (disch := (first | omega | (simp only [push_cast]; done) | (simp only [push_cast]; omega) | ((try simp only [push_cast]); (with_reducible first | apply sel_lt | apply sel_ge); (focus decide); (focus (simp only [push_cast]; omega))))) only [push_cast, ↓reduceIte, Nat.reduceEqDiff, Nat.reduceBEq, Nat.reduceAdd, Nat.reduceSub, Int.reduceToNat, *] <;> with_reducible exact rfl)))
end Go.Proofs.YtpggpdbipajchaaDoor
namespace Go.Proofs.YtpggpdbipajchaaDoor
open Go.RowKit
set_option linter.all false
def dgF (s : ByteArray) : Nat → Nat → Int → Int × Nat
  | 0, i, n => (n, i)
  | k + 1, i, n => if i < s.size ∧ 48 ≤ at8 s i ∧ at8 s i ≤ 57 then dgF s k (i + 1) (10 * n + (at8 s i - 48)) else (n, i)
def rdStep (s : ByteArray) (i : Nat) : Int × Int × Nat :=
  if (dgF s 4 i 0).2 < s.size ∧ at8 s (dgF s 4 i 0).2 = 45 then ((dgF s 4 i 0).1, (dgF s 4 ((dgF s 4 i 0).2 + 1) 0).1, (dgF s 4 ((dgF s 4 i 0).2 + 1) 0).2)
  else ((dgF s 4 i 0).1, (dgF s 4 i 0).1, (dgF s 4 i 0).2)
def rdS (s : ByteArray) : Nat → Nat → List Int → List Int
  | 0, _, out => out
  | f + 1, i, out => if i < s.size ∧ out.length ≤ 30 then rdS s f ((rdStep s i).2.2 + 2) (out ++ (rangeL (rdStep s i).1 (rdStep s i).2.1).take (31 - out.length)) else out
theorem at8_mid {s : ByteArray} {pre r : List UInt8} {b : UInt8} (h : s.data.toList = pre ++ b :: r) : pre.length < s.size ∧ at8 s pre.length = b.toNat := by
  have hl : s.data.toList.length = s.size := Array.length_toList
  have h1 : pre.length < s.data.toList.length := by rw [h]; simp
  refine ⟨by omega, ?_⟩
  rw [at8_u h1]
  simp only [h, List.getElem_append_right (Nat.le_refl _), Nat.sub_self, List.getElem_cons_zero]
theorem at8_endl {s : ByteArray} {pre : List UInt8} (h : s.data.toList = pre) : s.size = pre.length := by
  rw [← h]
  exact (Array.length_toList).symm
theorem dgF_run (s : ByteArray) : ∀ (ds pre rest : List UInt8) (k : Nat) (n : Int), s.data.toList = pre ++ ds ++ rest → (∀ b ∈ ds, 48 ≤ b.toNat ∧ b.toNat ≤ 57) → ds.length ≤ k → (∀ b r, rest = b :: r → ¬ (48 ≤ b.toNat ∧ b.toNat ≤ 57)) → dgF s k pre.length n = (ds.foldl (fun n b => 10 * n + ((b.toNat : Int) - 48)) n, pre.length + ds.length)
  | [], pre, rest, k, n, h, _, _, hr => by
    cases k with
    | zero => rfl
    | succ k =>
      unfold dgF
      rw [List.append_nil] at h
      rw [if_neg]
      · rfl
      · rintro ⟨h1, h2, h3⟩
        cases rest with
        | nil =>
          rw [List.append_nil] at h
          have := at8_endl h
          omega
        | cons b r =>
          have := (at8_mid h).2
          rw [this] at h2 h3
          exact hr b r rfl ⟨by omega, by omega⟩
  | d :: ds, pre, rest, k, n, h, hd, hk, hr => by
    cases k with
    | zero => simp at hk
    | succ k =>
      have h0 : s.data.toList = pre ++ d :: (ds ++ rest) := by rw [h]; simp
      obtain ⟨h1, h2⟩ := at8_mid h0
      have hd0 := hd d (by simp)
      have ih := dgF_run s ds (pre ++ [d]) rest k (10 * n + ((d.toNat : Int) - 48)) (by rw [h]; simp) (fun b hb => hd b (by simp [hb])) (by simpa using hk) hr
      rw [List.length_append, List.length_singleton] at ih
      unfold dgF
      rw [if_pos ⟨h1, by rw [h2]; omega, by rw [h2]; omega⟩, h2, ih]
      refine Prod.ext rfl ?_
      simp only [List.length_cons]
      omega
theorem valI (ds : List UInt8) (h : ∀ b ∈ ds, 48 ≤ b.toNat ∧ b.toNat ≤ 57) : ∀ n : Nat, ds.foldl (fun n b => 10 * n + ((b.toNat : Int) - 48)) (n : Int) = ((ds.foldl (fun n b => 10 * n + (b.toNat - 48)) n : Nat) : Int) := by
  induction ds with
  | nil => intro n; rfl
  | cons d ds ih =>
    intro n
    have hd := h d (by simp)
    simp only [List.foldl_cons]
    rw [← ih (fun b hb => h b (by simp [hb]))]
    congr 1
    omega
theorem dgF_num {s : ByteArray} {pre rest : List UInt8} {n : Int} (h : s.data.toList = pre ++ (itoaS n).data.toList ++ rest) (h0 : 0 ≤ n) (h1 : n ≤ 999) (hr : ∀ b r, rest = b :: r → ¬ (48 ≤ b.toNat ∧ b.toNat ≤ 57)) : dgF s 4 pre.length 0 = (n, pre.length + (itoaS n).size) := by
  have hl : (itoaS n).data.toList.length = (itoaS n).size := Array.length_toList
  have hz := itoaS_size4 h0 (by omega)
  obtain ⟨v1, v2⟩ := dec_val n.toNat
  rw [← itoa_val h0] at v1 v2
  have e := dgF_run s _ pre rest 4 0 h v2 (by omega) hr
  have e2 := valI _ v2 0
  rw [e, hl]
  refine Prod.ext ?_ rfl
  show (itoaS n).data.toList.foldl _ (0 : Int) = n
  rw [show (0 : Int) = ((0 : Nat) : Int) from rfl, e2]
  unfold valL at v1
  rw [v1]
  omega
theorem rdStep_run {s : ByteArray} {pre rest : List UInt8} {r : Rn} (h : s.data.toList = pre ++ (runT r).data.toList ++ rest) (h0 : 0 ≤ r.1 ∧ r.1 ≤ 999) (h1 : 0 ≤ r.2 ∧ r.2 ≤ 999) (hr : ∀ b r, rest = b :: r → b = 44) : rdStep s pre.length = (r.1, r.2, pre.length + (runT r).size) := by
  obtain ⟨a, b⟩ := r
  dsimp only at h0 h1
  have hr2 : ∀ b r, rest = b :: r → ¬ (48 ≤ b.toNat ∧ b.toNat ≤ 57) := fun b r e => by rw [hr b r e]; decide
  by_cases hab : a = b
  · subst hab
    rw [runT_one] at h ⊢
    have e := dgF_num h h0.1 h0.2 hr2
    unfold rdStep
    rw [e]
    dsimp only
    rw [if_neg]
    rintro ⟨q1, q2⟩
    cases rest with
    | nil =>
      rw [List.append_nil] at h
      have := at8_endl h
      rw [List.length_append] at this
      have hl : (itoaS a).data.toList.length = (itoaS a).size := Array.length_toList
      omega
    | cons c t =>
      have := (at8_mid h).2
      have hl : (itoaS a).data.toList.length = (itoaS a).size := Array.length_toList
      rw [List.length_append, hl] at this
      rw [this, hr c t rfl] at q2
      exact absurd q2 (by decide)
  · rw [runT_two hab] at h ⊢
    have hl : (itoaS a).data.toList.length = (itoaS a).size := Array.length_toList
    have hlb : (itoaS b).data.toList.length = (itoaS b).size := Array.length_toList
    have h2 : s.data.toList = pre ++ (itoaS a).data.toList ++ (45 :: ((itoaS b).data.toList ++ rest)) := by
      rw [h]
      simp [ByteArray.data_append]
    have h3 : s.data.toList = (pre ++ (itoaS a).data.toList ++ [45]) ++ (itoaS b).data.toList ++ rest := by
      rw [h2]
      simp
    have e := dgF_num h2 h0.1 h0.2 (fun b r e => by
      obtain ⟨rfl, _⟩ := List.cons.inj e
      decide)
    have e3 := dgF_num h3 h1.1 h1.2 hr2
    have hm := at8_mid h2
    rw [List.length_append, hl] at hm
    rw [List.length_append, List.length_append, hl, List.length_singleton] at e3
    unfold rdStep
    rw [e]
    dsimp only
    rw [if_pos ⟨hm.1, by rw [hm.2]; decide⟩, e3]
    refine Prod.ext rfl (Prod.ext rfl ?_)
    simp only [ByteArray.size_append]
    show _ = pre.length + ((itoaS a).size + 1 + (itoaS b).size)
    omega
theorem rdS_end {s : ByteArray} {i : Nat} (h : s.size ≤ i) (f : Nat) (out : List Int) : rdS s f i out = out := by
  cases f with
  | zero => rfl
  | succ f =>
    unfold rdS
    rw [if_neg (by omega)]
theorem rdS_runs (s : ByteArray) : ∀ (R : List Rn) (pre : List UInt8) (f : Nat) (out : List Int), R ≠ [] → s.data.toList = pre ++ Lib.join (R.map fun r => (runT r).data.toList) [44, 32] → (∀ r ∈ R, ((1 ≤ r.1 ∧ r.1 ≤ 999) ∧ (1 ≤ r.2 ∧ r.2 ≤ 999)) ∧ r.1 ≤ r.2) → (out ++ R.flatMap fun r => rangeL r.1 r.2).length ≤ 30 → s.size < pre.length + f → rdS s f pre.length out = out ++ R.flatMap fun r => rangeL r.1 r.2
  | [], _, _, _, h, _, _, _, _ => absurd rfl h
  | r :: R, pre, 0, out, _, h, _, _, hf => by
    have hl : s.data.toList.length = s.size := Array.length_toList
    rw [h, List.length_append] at hl
    omega
  | r :: R, pre, f + 1, out, _, h, hm, hlen, hf => by
    have hr := hm r (by simp)
    have hlr : (runT r).data.toList.length = (runT r).size := Array.length_toList
    have hpos := runT_pos (r := r) (by omega)
    have hl : s.data.toList.length = s.size := Array.length_toList
    rw [List.length_append, List.flatMap_cons, List.length_append] at hlen
    have htk : (rangeL r.1 r.2).take (31 - out.length) = rangeL r.1 r.2 := List.take_of_length_le (by omega)
    cases R with
    | nil =>
      rw [List.map_cons, List.map_nil, Lib.join_one] at h
      have h2 : s.data.toList = pre ++ (runT r).data.toList ++ [] := by rw [h, List.append_nil]
      have e := rdStep_run h2 ⟨by omega, by omega⟩ ⟨by omega, by omega⟩ (fun b r e => by cases e)
      rw [h, List.length_append] at hl
      unfold rdS
      rw [if_pos ⟨by omega, by omega⟩, e]
      dsimp only
      rw [htk, rdS_end (by omega)]
      simp
    | cons r2 R =>
      have ej : Lib.join ((r :: r2 :: R).map fun r => (runT r).data.toList) [44, 32] = (runT r).data.toList ++ 44 :: 32 :: Lib.join ((r2 :: R).map fun r => (runT r).data.toList) [44, 32] := by
        rw [List.map_cons, List.map_cons, Lib.join_cons, Lib.join_cons]
        simp [Lib.joinTail]
      rw [ej] at h
      have h2 : s.data.toList = pre ++ (runT r).data.toList ++ (44 :: 32 :: Lib.join ((r2 :: R).map fun r => (runT r).data.toList) [44, 32]) := by rw [h, List.append_assoc]
      have e := rdStep_run h2 ⟨by omega, by omega⟩ ⟨by omega, by omega⟩ (fun b r e => (List.cons.inj e).1.symm)
      have ih := rdS_runs s (r2 :: R) (pre ++ (runT r).data.toList ++ [44, 32]) f (out ++ rangeL r.1 r.2) (by simp) (by rw [h2]; simp) (fun x hx => hm x (by simp [hx])) (by rw [List.append_assoc, List.length_append, List.length_append]; omega) (by
        rw [List.length_append, List.length_append, hlr]
        simp only [List.length_cons, List.length_nil]
        omega)
      have hsz : pre.length + (runT r).size + 2 ≤ s.size := by
        rw [h2] at hl
        simp only [List.length_append, List.length_cons] at hl
        omega
      rw [List.length_append, List.length_append, hlr] at ih
      simp only [List.length_cons, List.length_nil, Nat.zero_add, Nat.reduceAdd] at ih
      unfold rdS
      rw [if_pos ⟨by omega, by omega⟩, e]
      dsimp only
      rw [htk, ih]
      simp
theorem rdS_text {P : List Int} (h : pagesB P = true) {f : Nat} (hf : (pagesT P).size < f) : rdS (pagesT P) f 0 [] = P := by
  by_cases h0 : P = []
  · subst h0
    rw [pagesT_nil]
    exact rdS_end (Nat.le_refl _) f []
  · obtain ⟨e1, e2⟩ := expand_runs _ P rfl
    have hr := runs_rng (pages_mem h)
    have e : (pagesT P).data.toList = [] ++ Lib.join ((runsR P).map fun r => (runT r).data.toList) [44, 32] := by
      unfold pagesT textR
      rw [if_pos h]
      show Lib.join (((runsR P).map runT).map (·.data.toList)) csB.data.toList = _
      rw [List.map_map]
      rfl
    have hne : runsR P ≠ [] := fun hn => by
      rw [hn] at e1
      exact h0 (by simpa using e1.symm)
    have := rdS_runs (pagesT P) (runsR P) [] f [] hne e (fun r hr1 => ⟨hr r hr1, e2 r hr1⟩) (by rw [List.nil_append, e1]; exact pages_len h) (by simpa using hf)
    rw [List.nil_append, e1] at this
    exact this
theorem readR_spec {s : ByteArray} {f : Nat} (hf : s.size < f) : readR s = if pagesB (rdS s f 0 []) = true ∧ pagesT (rdS s f 0 []) = s then some (rdS s f 0 []) else none := by
  split
  · rename_i hc
    exact readR_yes hc.1 hc.2
  · rename_i hc
    cases hR : readR s with
    | none => rfl
    | some P =>
      obtain ⟨p1, p2⟩ := readR_some hR
      have := rdS_text p1 (f := f) (by rw [p2]; exact hf)
      rw [p2] at this
      rw [this] at hc
      exact absurd ⟨p1, p2⟩ hc
theorem dgF_rng (s : ByteArray) : ∀ (k i : Nat) (n : Int), i ≤ s.size → 0 ≤ n → 0 ≤ (dgF s k i n).1 ∧ i ≤ (dgF s k i n).2 ∧ (dgF s k i n).2 ≤ s.size ∧ (dgF s k i n).2 ≤ i + k ∧ (dgF s k i n).1 + 1 ≤ (n + 1) * 10 ^ k
  | 0, i, n, h, h0 => by simp [dgF]; omega
  | k + 1, i, n, h, h0 => by
    unfold dgF
    split
    · rename_i hc
      have := at8_rng s i
      obtain ⟨a1, a2, a3, a4, a5⟩ := dgF_rng s k (i + 1) (10 * n + (at8 s i - 48)) (by omega) (by omega)
      refine ⟨a1, by omega, a3, by omega, Int.le_trans a5 ?_⟩
      rw [Int.pow_succ, Int.mul_comm (10 ^ k) 10, ← Int.mul_assoc]
      exact Int.mul_le_mul_of_nonneg_right (by omega) (Int.pow_nonneg (by decide))
    · refine ⟨h0, Nat.le_refl _, h, by omega, ?_⟩
      dsimp only
      have : (1 : Int) ≤ 10 ^ (k + 1) := by
        have := Int.pow_pos (n := 10) (m := k + 1) (by decide)
        omega
      have h2 := Int.mul_le_mul_of_nonneg_left (c := n + 1) this (by omega)
      omega
end Go.Proofs.YtpggpdbipajchaaDoor
namespace Go.Proofs.YtpggpdbipajchaaDoor
open Go.RowKit
set_option linter.all false
def φDg : Fun := F2 dS dI fun s i => if 0 ≤ i ∧ i ≤ s.size ∧ s.size ≤ 1048576 then some (.tup [.val (.int .i64 (dgF s 4 i.toNat 0).1), .val (.int .i64 (dgF s 4 i.toNat 0).2)]) else none
theorem φDg_ap {s : ByteArray} {i : Nat} (h : i ≤ s.size) (h2 : s.size ≤ 1048576) : φDg [.val (.string s), .val (.int .i64 i)] = some (.tup [.val (.int .i64 (dgF s 4 i 0).1), .val (.int .i64 (dgF s 4 i 0).2)]) := (F2_ap (A := dS) (B := dI) s (i : Int)).trans (if_pos ⟨by omega, by omega, h2⟩)
set_option maxHeartbeats 16000000 in
theorem digits_ok : Sound Tryd.prog 73 φDg := by
  refine sound_pq mixed GE_ok Tryd.func73 rfl 43 rfl [.tmp 4, .tmp 5] rfl (by kernel_rfl) fun ps r hr => ?_
  obtain ⟨s, i, rfl, hq⟩ := F2_some hr
  clear hr
  split at hq
  case isFalse => cases hq
  case isTrue hpre =>
  cases hq
  refine ⟨by simp, ?_⟩
  simp only [dIs, dUs, dSs, dI_e, dU_e, dB_e, dS_e, dFn_e, dL_e, dA2_e, dA3_e, dA4_e, dA5_e]
  obtain ⟨i0, i1, hs⟩ := hpre
  obtain ⟨i, rfl⟩ : ∃ k : Nat, i = k := ⟨i.toNat, by omega⟩
  rw [Int.toNat_natCast]
  generalize hT9 : dgF s 4 i 0 = T9
  replace hT9 := Lib.hid hT9
  (repeat' (first | (with_reducible first | apply i_seq | apply i_block | apply i_skip | apply i_exit | apply i_ret | apply i_kS | apply i_kSx | apply i_kSr | apply i_kL | apply i_kLx | apply i_kLr | apply i_kB | apply i_kBr | apply i_kBs | apply i_nil) | ((with_reducible apply i_region); (focus (simp only [List.map_cons, List.map_nil] <;> exact rfl))) | ((with_reducible apply i_draw); (focus (simp only [List.map_cons, List.map_nil] <;> exact rfl)); (focus (decide +kernel))) | ((with_reducible apply i_kBo); (focus rfl)) | ((first | ((with_reducible apply i_V); (focus rfl); (focus rfl); (focus rfl)) | ((with_reducible apply i_E); (focus rfl); (focus (first | rfl | (simp only [push_cast, ↓reduceIte, effOk, touch, refsOf, List.flatMap_cons, List.flatMap_nil])))) | ((with_reducible apply i_S); (focus rfl); (focus (first | rfl | (simp only [push_cast, ↓reduceIte, effOk, touch, refsOf, List.flatMap_cons, List.flatMap_nil])))) | ((with_reducible apply i_Vq); (focus rfl); (focus rfl)) | ((with_reducible apply i_Vp); (focus rfl); (focus rfl); (focus rfl)) | (with_reducible first | apply i_Gb | apply i_cond)); (focus (simp (disch := (first | omega | (simp only [push_cast]; done) | (simp only [push_cast]; omega) | ((try simp only [push_cast]); (with_reducible first | apply sel_lt | apply sel_ge); (focus decide); (focus (simp only [push_cast]; omega))))) only [push_cast, ↓reduceIte, Nat.reduceEqDiff, Nat.reduceBEq, Nat.reduceAdd, Nat.reduceSub, Int.reduceToNat, *] <;> with_reducible exact rfl)); all_goals try (intro hX; first | (cases hX; done) | ((with_reducible first | have hX0 : true = true := hX | have hX0 : false = false := hX); clear hX0 hX) | ((try simp only [decide_eq_true_eq, decide_eq_false_iff_not, Bool.not_eq_true', Bool.not_eq_false'] at hX); (try have hXb := inB_iff.1 hX)))))); all_goals try (exfalso; omega)
  refine i_loop (α := Nat × Nat × Int) mixed (fun z => [(0, .val (.string s)), (1, iv z.2.1), (6, iv z.2.2), (7, iv i)]) (fun _ => []) (fun _ => 0)
    (fun z => z.1 ≤ 4 ∧ z.2.1 + z.1 = i + 4 ∧ i ≤ z.2.1 ∧ z.2.1 ≤ s.size ∧ 0 ≤ z.2.2 ∧ z.2.2 + 1 ≤ 10 ^ (4 - z.1) ∧ dgF s z.1 z.2.1 z.2.2 = T9) (fun z => z.1) (by kernel_rfl) (4, i, 0) ⟨Nat.le_refl _, rfl, Nat.le_refl _, by dsimp only; omega, Int.le_refl _, Int.le_refl _, hT9.out⟩ ?_ trivial rfl ?_
  · simp (disch := (first | omega | (simp only [push_cast]; done) | (simp only [push_cast]; omega) | ((try simp only [push_cast]); (with_reducible first | apply sel_lt | apply sel_ge); (focus decide); (focus (simp only [push_cast]; omega))))) only [push_cast, ↓reduceIte, Nat.reduceEqDiff, Nat.reduceBEq, Nat.reduceAdd, Nat.reduceSub, Int.reduceToNat, List.length_append, *]
  rintro ⟨k, j, n⟩ ⟨k4, hk, hj1, hj2, n0, nb, hT⟩
  dsimp only at k4 hk hj1 hj2 n0 nb hT
  have hrk := at8_rng s j
  have hn9 : n ≤ 9999 := by
    obtain rfl | rfl | rfl | rfl | rfl : k = 0 ∨ k = 1 ∨ k = 2 ∨ k = 3 ∨ k = 4 := by omega
    all_goals (simp at nb; omega)
  clear hT9
  cases k with
  | zero =>
    unfold dgF at hT
    subst hT
    have hj4 : j = i + 4 := by omega
    clear nb hk k4
    (repeat' (first | (with_reducible first | apply i_seq | apply i_block | apply i_skip | apply i_exit | apply i_ret | apply i_kS | apply i_kSx | apply i_kSr | apply i_kL | apply i_kLx | apply i_kLr | apply i_kB | apply i_kBr | apply i_kBs | apply i_nil) | ((with_reducible apply i_region); (focus (simp only [List.map_cons, List.map_nil] <;> exact rfl))) | ((with_reducible apply i_draw); (focus (simp only [List.map_cons, List.map_nil] <;> exact rfl)); (focus (decide +kernel))) | ((with_reducible apply i_kBo); (focus rfl)) | ((first | ((with_reducible apply i_V); (focus rfl); (focus rfl); (focus rfl)) | ((with_reducible apply i_E); (focus rfl); (focus (first | rfl | (simp only [push_cast, ↓reduceIte, effOk, touch, refsOf, List.flatMap_cons, List.flatMap_nil])))) | ((with_reducible apply i_S); (focus rfl); (focus (first | rfl | (simp only [push_cast, ↓reduceIte, effOk, touch, refsOf, List.flatMap_cons, List.flatMap_nil])))) | ((with_reducible apply i_Vq); (focus rfl); (focus rfl)) | ((with_reducible apply i_Vp); (focus rfl); (focus rfl); (focus rfl)) | (with_reducible first | apply i_Gb | apply i_cond)); (focus (simp (disch := (first | omega | (simp only [push_cast]; done) | (simp only [push_cast]; omega) | ((try simp only [push_cast]); (with_reducible first | apply sel_lt | apply sel_ge); (focus decide); (focus (simp only [push_cast]; omega))))) only [push_cast, ↓reduceIte, Nat.reduceEqDiff, Nat.reduceBEq, Nat.reduceAdd, Nat.reduceSub, Int.reduceToNat, *] <;> with_reducible exact rfl)); all_goals try (intro hX; first | (cases hX; done) | ((with_reducible first | have hX0 : true = true := hX | have hX0 : false = false := hX); clear hX0 hX) | ((try simp only [decide_eq_true_eq, decide_eq_false_iff_not, Bool.not_eq_true', Bool.not_eq_false'] at hX); (try have hXb := inB_iff.1 hX)))))); all_goals try (exfalso; omega)
    all_goals ((first | apply i_end | apply i_endN); simp (disch := (first | omega | (simp only [push_cast]; done) | (simp only [push_cast]; omega) | ((try simp only [push_cast]); (with_reducible first | apply sel_lt | apply sel_ge); (focus decide); (focus (simp only [push_cast]; omega))))) only [push_cast, ↓reduceIte, Nat.reduceEqDiff, Nat.reduceBEq, Nat.reduceAdd, Nat.reduceSub, Int.reduceToNat, *])
  | succ k =>
    have hj4 : j < i + 4 := by omega
    by_cases hc : j < s.size ∧ 48 ≤ at8 s j ∧ at8 s j ≤ 57
    · obtain ⟨c1, c2, c3⟩ := hc
      unfold dgF at hT
      rw [if_pos ⟨c1, c2, c3⟩] at hT
      have hn99 : n ≤ 999 := by
        obtain rfl | rfl | rfl | rfl : k = 0 ∨ k = 1 ∨ k = 2 ∨ k = 3 := by omega
        all_goals (simp at nb; omega)
      have nb2 : 10 * n + (at8 s j - 48) + 1 ≤ 10 ^ (4 - k) := by
        obtain rfl | rfl | rfl | rfl : k = 0 ∨ k = 1 ∨ k = 2 ∨ k = 3 := by omega
        all_goals (simp at nb ⊢; omega)
      replace hT := Lib.hid hT
      replace nb2 := Lib.hid nb2
      clear nb
      (repeat' (first | (with_reducible first | apply i_seq | apply i_block | apply i_skip | apply i_exit | apply i_ret | apply i_kS | apply i_kSx | apply i_kSr | apply i_kL | apply i_kLx | apply i_kLr | apply i_kB | apply i_kBr | apply i_kBs | apply i_nil) | ((with_reducible apply i_region); (focus (simp only [List.map_cons, List.map_nil] <;> exact rfl))) | ((with_reducible apply i_draw); (focus (simp only [List.map_cons, List.map_nil] <;> exact rfl)); (focus (decide +kernel))) | ((with_reducible apply i_kBo); (focus rfl)) | ((first | ((with_reducible apply i_V); (focus rfl); (focus rfl); (focus rfl)) | ((with_reducible apply i_E); (focus rfl); (focus (first | rfl | (simp only [push_cast, ↓reduceIte, effOk, touch, refsOf, List.flatMap_cons, List.flatMap_nil])))) | ((with_reducible apply i_S); (focus rfl); (focus (first | rfl | (simp only [push_cast, ↓reduceIte, effOk, touch, refsOf, List.flatMap_cons, List.flatMap_nil])))) | ((with_reducible apply i_Vq); (focus rfl); (focus rfl)) | ((with_reducible apply i_Vp); (focus rfl); (focus rfl); (focus rfl)) | (with_reducible first | apply i_Gb | apply i_cond)); (focus (simp (disch := (first | omega | (simp only [push_cast]; done) | (simp only [push_cast]; omega) | ((try simp only [push_cast]); (with_reducible first | apply sel_lt | apply sel_ge); (focus decide); (focus (simp only [push_cast]; omega))))) only [push_cast, ↓reduceIte, Nat.reduceEqDiff, Nat.reduceBEq, Nat.reduceAdd, Nat.reduceSub, Int.reduceToNat, *] <;> with_reducible exact rfl)); all_goals try (intro hX; first | (cases hX; done) | ((with_reducible first | have hX0 : true = true := hX | have hX0 : false = false := hX); clear hX0 hX) | ((try simp only [decide_eq_true_eq, decide_eq_false_iff_not, Bool.not_eq_true', Bool.not_eq_false'] at hX); (try have hXb := inB_iff.1 hX)))))); all_goals try (exfalso; omega)
      refine ⟨(k, j + 1, 10 * n + (at8 s j - 48)), ⟨by dsimp only; omega, by dsimp only; omega, by dsimp only; omega, by dsimp only; omega, by dsimp only; omega, nb2.out, hT.out⟩, by dsimp only; omega, ?_, trivial, rfl⟩
      have w1 : IntKind.u8.wrap (at8 s j - 48) = at8 s j - 48 := by rw [IntKind.wrap_u8]; omega
      have w2 := wrap_id (n := 10 * n + (at8 s j - 48)) (by omega) (by omega)
      have w3 := wrap_id (n := at8 s j - 48) (by omega) (by omega)
      simp (disch := (first | omega | (simp only [push_cast]; done) | (simp only [push_cast]; omega) | ((try simp only [push_cast]); (with_reducible first | apply sel_lt | apply sel_ge); (focus decide); (focus (simp only [push_cast]; omega))))) only [push_cast, ↓reduceIte, Nat.reduceEqDiff, Nat.reduceBEq, Nat.reduceAdd, Nat.reduceSub, Int.reduceToNat, w1, w2, w3]
      try trivial
    · unfold dgF at hT
      rw [if_neg hc] at hT
      subst hT
      clear nb hk k4
      by_cases c1 : j < s.size
      · by_cases c2 : 48 ≤ at8 s j
        · have c3 : ¬ at8 s j ≤ 57 := fun c3 => hc ⟨c1, c2, c3⟩
          clear hc
          (repeat' (first | (with_reducible first | apply i_seq | apply i_block | apply i_skip | apply i_exit | apply i_ret | apply i_kS | apply i_kSx | apply i_kSr | apply i_kL | apply i_kLx | apply i_kLr | apply i_kB | apply i_kBr | apply i_kBs | apply i_nil) | ((with_reducible apply i_region); (focus (simp only [List.map_cons, List.map_nil] <;> exact rfl))) | ((with_reducible apply i_draw); (focus (simp only [List.map_cons, List.map_nil] <;> exact rfl)); (focus (decide +kernel))) | ((with_reducible apply i_kBo); (focus rfl)) | ((first | ((with_reducible apply i_V); (focus rfl); (focus rfl); (focus rfl)) | ((with_reducible apply i_E); (focus rfl); (focus (first | rfl | (simp only [push_cast, ↓reduceIte, effOk, touch, refsOf, List.flatMap_cons, List.flatMap_nil])))) | ((with_reducible apply i_S); (focus rfl); (focus (first | rfl | (simp only [push_cast, ↓reduceIte, effOk, touch, refsOf, List.flatMap_cons, List.flatMap_nil])))) | ((with_reducible apply i_Vq); (focus rfl); (focus rfl)) | ((with_reducible apply i_Vp); (focus rfl); (focus rfl); (focus rfl)) | (with_reducible first | apply i_Gb | apply i_cond)); (focus (simp (disch := (first | omega | (simp only [push_cast]; done) | (simp only [push_cast]; omega) | ((try simp only [push_cast]); (with_reducible first | apply sel_lt | apply sel_ge); (focus decide); (focus (simp only [push_cast]; omega))))) only [push_cast, ↓reduceIte, Nat.reduceEqDiff, Nat.reduceBEq, Nat.reduceAdd, Nat.reduceSub, Int.reduceToNat, *] <;> with_reducible exact rfl)); all_goals try (intro hX; first | (cases hX; done) | ((with_reducible first | have hX0 : true = true := hX | have hX0 : false = false := hX); clear hX0 hX) | ((try simp only [decide_eq_true_eq, decide_eq_false_iff_not, Bool.not_eq_true', Bool.not_eq_false'] at hX); (try have hXb := inB_iff.1 hX)))))); all_goals try (exfalso; omega)
          all_goals ((first | apply i_end | apply i_endN); simp (disch := (first | omega | (simp only [push_cast]; done) | (simp only [push_cast]; omega) | ((try simp only [push_cast]); (with_reducible first | apply sel_lt | apply sel_ge); (focus decide); (focus (simp only [push_cast]; omega))))) only [push_cast, ↓reduceIte, Nat.reduceEqDiff, Nat.reduceBEq, Nat.reduceAdd, Nat.reduceSub, Int.reduceToNat, *])
        · clear hc
          (repeat' (first | (with_reducible first | apply i_seq | apply i_block | apply i_skip | apply i_exit | apply i_ret | apply i_kS | apply i_kSx | apply i_kSr | apply i_kL | apply i_kLx | apply i_kLr | apply i_kB | apply i_kBr | apply i_kBs | apply i_nil) | ((with_reducible apply i_region); (focus (simp only [List.map_cons, List.map_nil] <;> exact rfl))) | ((with_reducible apply i_draw); (focus (simp only [List.map_cons, List.map_nil] <;> exact rfl)); (focus (decide +kernel))) | ((with_reducible apply i_kBo); (focus rfl)) | ((first | ((with_reducible apply i_V); (focus rfl); (focus rfl); (focus rfl)) | ((with_reducible apply i_E); (focus rfl); (focus (first | rfl | (simp only [push_cast, ↓reduceIte, effOk, touch, refsOf, List.flatMap_cons, List.flatMap_nil])))) | ((with_reducible apply i_S); (focus rfl); (focus (first | rfl | (simp only [push_cast, ↓reduceIte, effOk, touch, refsOf, List.flatMap_cons, List.flatMap_nil])))) | ((with_reducible apply i_Vq); (focus rfl); (focus rfl)) | ((with_reducible apply i_Vp); (focus rfl); (focus rfl); (focus rfl)) | (with_reducible first | apply i_Gb | apply i_cond)); (focus (simp (disch := (first | omega | (simp only [push_cast]; done) | (simp only [push_cast]; omega) | ((try simp only [push_cast]); (with_reducible first | apply sel_lt | apply sel_ge); (focus decide); (focus (simp only [push_cast]; omega))))) only [push_cast, ↓reduceIte, Nat.reduceEqDiff, Nat.reduceBEq, Nat.reduceAdd, Nat.reduceSub, Int.reduceToNat, *] <;> with_reducible exact rfl)); all_goals try (intro hX; first | (cases hX; done) | ((with_reducible first | have hX0 : true = true := hX | have hX0 : false = false := hX); clear hX0 hX) | ((try simp only [decide_eq_true_eq, decide_eq_false_iff_not, Bool.not_eq_true', Bool.not_eq_false'] at hX); (try have hXb := inB_iff.1 hX)))))); all_goals try (exfalso; omega)
          all_goals ((first | apply i_end | apply i_endN); simp (disch := (first | omega | (simp only [push_cast]; done) | (simp only [push_cast]; omega) | ((try simp only [push_cast]); (with_reducible first | apply sel_lt | apply sel_ge); (focus decide); (focus (simp only [push_cast]; omega))))) only [push_cast, ↓reduceIte, Nat.reduceEqDiff, Nat.reduceBEq, Nat.reduceAdd, Nat.reduceSub, Int.reduceToNat, *])
      · clear hc
        (repeat' (first | (with_reducible first | apply i_seq | apply i_block | apply i_skip | apply i_exit | apply i_ret | apply i_kS | apply i_kSx | apply i_kSr | apply i_kL | apply i_kLx | apply i_kLr | apply i_kB | apply i_kBr | apply i_kBs | apply i_nil) | ((with_reducible apply i_region); (focus (simp only [List.map_cons, List.map_nil] <;> exact rfl))) | ((with_reducible apply i_draw); (focus (simp only [List.map_cons, List.map_nil] <;> exact rfl)); (focus (decide +kernel))) | ((with_reducible apply i_kBo); (focus rfl)) | ((first | ((with_reducible apply i_V); (focus rfl); (focus rfl); (focus rfl)) | ((with_reducible apply i_E); (focus rfl); (focus (first | rfl | (simp only [push_cast, ↓reduceIte, effOk, touch, refsOf, List.flatMap_cons, List.flatMap_nil])))) | ((with_reducible apply i_S); (focus rfl); (focus (first | rfl | (simp only [push_cast, ↓reduceIte, effOk, touch, refsOf, List.flatMap_cons, List.flatMap_nil])))) | ((with_reducible apply i_Vq); (focus rfl); (focus rfl)) | ((with_reducible apply i_Vp); (focus rfl); (focus rfl); (focus rfl)) | (with_reducible first | apply i_Gb | apply i_cond)); (focus (simp (disch := (first | omega | (simp only [push_cast]; done) | (simp only [push_cast]; omega) | ((try simp only [push_cast]); (with_reducible first | apply sel_lt | apply sel_ge); (focus decide); (focus (simp only [push_cast]; omega))))) only [push_cast, ↓reduceIte, Nat.reduceEqDiff, Nat.reduceBEq, Nat.reduceAdd, Nat.reduceSub, Int.reduceToNat, *] <;> with_reducible exact rfl)); all_goals try (intro hX; first | (cases hX; done) | ((with_reducible first | have hX0 : true = true := hX | have hX0 : false = false := hX); clear hX0 hX) | ((try simp only [decide_eq_true_eq, decide_eq_false_iff_not, Bool.not_eq_true', Bool.not_eq_false'] at hX); (try have hXb := inB_iff.1 hX)))))); all_goals try (exfalso; omega)
        all_goals ((first | apply i_end | apply i_endN); simp (disch := (first | omega | (simp only [push_cast]; done) | (simp only [push_cast]; omega) | ((try simp only [push_cast]); (with_reducible first | apply sel_lt | apply sel_ge); (focus decide); (focus (simp only [push_cast]; omega))))) only [push_cast, ↓reduceIte, Nat.reduceEqDiff, Nat.reduceBEq, Nat.reduceAdd, Nat.reduceSub, Int.reduceToNat, *])
end Go.Proofs.YtpggpdbipajchaaDoor
namespace Go.Proofs.YtpggpdbipajchaaDoor
open Go.RowKit
set_option linter.all false
theorem range_take {a b n : Int} (h1 : a ≤ n) (h2 : n ≤ b + 1) : (rangeL a b).take (n - a).toNat = rangeL a (n - 1) := by
  unfold rangeL
  rw [← List.map_take, List.take_range, show (n - 1 + 1 - a).toNat = (n - a).toNat by omega, Nat.min_eq_left (by omega)]
theorem range_cut {a b n : Int} {out o2 : List Int} (hgo : ¬ (n ≤ b ∧ o2.length ≤ 30)) (n1 : a ≤ n) (n2 : n ≤ b + 1 ∨ n = a) (ho2 : o2 = out ++ rangeL a (n - 1)) (ol2 : o2.length ≤ 31) (hol : out.length ≤ 30) : out ++ (rangeL a b).take (31 - out.length) = o2 := by
  have hl : o2.length = out.length + (n - a).toNat := by
    rw [ho2, List.length_append, rangeL_len, show (n - 1 + 1 - a) = n - a by omega]
  by_cases hab : b < a
  · have : n = a := by omega
    subst this
    rw [ho2, rangeL_nil hab, rangeL_nil (by omega)]
    simp
  · by_cases hnb : n ≤ b
    · have h30 : ¬ o2.length ≤ 30 := fun h => hgo ⟨hnb, h⟩
      rw [show 31 - out.length = (n - a).toNat by omega, range_take n1 (by omega), ← ho2]
    · have : n = b + 1 := by omega
      subst this
      rw [ho2, List.take_of_length_le (by rw [rangeL_len]; omega), show b + 1 - 1 = b by omega]
noncomputable def resR (s : ByteArray) : List Int := (readR s).getD []
noncomputable def φSRd : Fun := F1 dS fun s => if s.size ≤ 1048576 then some (.tup [.lst true 1 ((resR s).map fun n => .val (.int .i64 n)), .val (.bool (readR s).isSome)]) else none
theorem φSRd_ap {s : ByteArray} (h : s.size ≤ 1048576) : φSRd [.val (.string s)] = some (.tup [.lst true 1 ((resR s).map fun n => .val (.int .i64 n)), .val (.bool (readR s).isSome)]) := (F1_ap (A := dS) s).trans (if_pos h)
noncomputable def GSrd : Ctx := ⟨fun f => if f = 73 then some φDg else if f = 30 then some φPagesV else if f = 25 then some φPt else none, fun f => none⟩
theorem GSrd_ok : SoundΓ Tryd.prog GSrd := ⟨(fun f φ h => by
  unfold GSrd at h
  dsimp only at h
  split at h
  · rename_i hf; cases h; subst hf; exact ⟨⟨_, Tryd.func73, rfl, rfl⟩, digits_ok⟩
  split at h
  · rename_i hf; cases h; subst hf; exact ⟨⟨_, Tryd.func30, rfl, rfl⟩, specPagesV_ok⟩
  split at h
  · rename_i hf; cases h; subst hf; exact ⟨⟨_, Tryd.func25, rfl, rfl⟩, specPt_ok⟩
  cases h), (fun f φ h => by
  unfold GSrd at h
  dsimp only at h
  cases h)⟩
theorem GSrd_73 (ob : Objs) (ps : List PV) : evCall GSrd ob 73 ps = (ps.mapM (reify false 0 ob fuel)).bind φDg := by
  have h : GSrd.fn 73 = some φDg := by simp [GSrd]
  unfold evCall
  rw [h]
  cases ps.mapM (reify false 0 ob fuel) <;> rfl
theorem GSrd_30 (ob : Objs) (ps : List PV) : evCall GSrd ob 30 ps = (ps.mapM (reify false 0 ob fuel)).bind φPagesV := by
  have h : GSrd.fn 30 = some φPagesV := by simp [GSrd]
  unfold evCall
  rw [h]
  cases ps.mapM (reify false 0 ob fuel) <;> rfl
theorem GSrd_25 (ob : Objs) (ps : List PV) : evCall GSrd ob 25 ps = (ps.mapM (reify false 0 ob fuel)).bind φPt := by
  have h : GSrd.fn 25 = some φPt := by simp [GSrd]
  unfold evCall
  rw [h]
  cases ps.mapM (reify false 0 ob fuel) <;> rfl
set_option maxHeartbeats 16000000 in
theorem specRd_ok : Sound Tryd.prog 33 φSRd := by
  refine sound_pq mixed GSrd_ok Tryd.func33 rfl 76 rfl [.tmp 2, .tmp 3] rfl (by kernel_rfl) fun ps r hr => ?_
  obtain ⟨s, rfl, hq⟩ := F1_some hr
  clear hr
  split at hq
  case isFalse => cases hq
  case isTrue hpre =>
  cases hq
  refine ⟨by simp, ?_⟩
  simp only [dIs, dUs, dSs, dI_e, dU_e, dB_e, dS_e, dFn_e, dL_e, dA2_e, dA3_e, dA4_e, dA5_e]
  have hs : s.size ≤ 1048576 := hpre
  clear hpre
  have hsp := readR_spec (s := s) (f := s.size + 1) (by omega)
  unfold resR
  generalize hR : readR s = R9 at *
  generalize hT9 : rdS s (s.size + 1) 0 [] = T9 at *
  replace hsp := Lib.hid hsp
  replace hT9 := Lib.hid hT9
  clear hR
  have gsrd_c73 := GSrd_73; have gsrd_c30 := GSrd_30; have gsrd_c25 := GSrd_25
  (repeat' (first | (with_reducible first | apply i_seq | apply i_block | apply i_skip | apply i_exit | apply i_ret | apply i_kS | apply i_kSx | apply i_kSr | apply i_kL | apply i_kLx | apply i_kLr | apply i_kB | apply i_kBr | apply i_kBs | apply i_nil) | ((with_reducible apply i_region); (focus (simp only [List.map_cons, List.map_nil] <;> exact rfl))) | ((with_reducible apply i_draw); (focus (simp only [List.map_cons, List.map_nil] <;> exact rfl)); (focus (decide +kernel))) | ((with_reducible apply i_kBo); (focus rfl)) | ((first | ((with_reducible apply i_V); (focus rfl); (focus rfl); (focus rfl)) | ((with_reducible apply i_E); (focus rfl); (focus (first | rfl | (simp only [push_cast, ↓reduceIte, effOk, touch, refsOf, List.flatMap_cons, List.flatMap_nil])))) | ((with_reducible apply i_S); (focus rfl); (focus (first | rfl | (simp only [push_cast, ↓reduceIte, effOk, touch, refsOf, List.flatMap_cons, List.flatMap_nil])))) | ((with_reducible apply i_Vq); (focus rfl); (focus rfl)) | ((with_reducible apply i_Vp); (focus rfl); (focus rfl); (focus rfl)) | (with_reducible first | apply i_Gb | apply i_cond)); (focus (simp (disch := (first | omega | (simp only [push_cast]; done) | (simp only [push_cast]; omega) | ((try simp only [push_cast]); (with_reducible first | apply sel_lt | apply sel_ge); (focus decide); (focus (simp only [push_cast]; omega))))) only [push_cast, ↓reduceIte, Nat.reduceEqDiff, Nat.reduceBEq, Nat.reduceAdd, Nat.reduceSub, Int.reduceToNat, *] <;> with_reducible exact rfl)); all_goals try (intro hX; first | (cases hX; done) | ((with_reducible first | have hX0 : true = true := hX | have hX0 : false = false := hX); clear hX0 hX) | ((try simp only [decide_eq_true_eq, decide_eq_false_iff_not, Bool.not_eq_true', Bool.not_eq_false'] at hX); (try have hXb := inB_iff.1 hX)))))); all_goals try (exfalso; omega)
  refine i_loop (α := Nat × Nat × List Int × Nat × Nat) mixed (fun z => [(0, .val (.string s)), (4, .row z.2.2.2.1 1 0 z.2.2.1.length), (5, iv z.2.1)])
    (fun z => [(z.2.2.2.1, 3, 1, z.2.2.1.map fun n => .val (.int .i64 n))]) (fun z => z.2.2.2.2)
    (fun z => rdS s z.1 z.2.1 z.2.2.1 = T9 ∧ z.2.2.1.length ≤ 31 ∧ s.size < z.2.1 + z.1 ∧ z.2.1 ≤ s.size + 2 ∧ z.2.2.2.1 < z.2.2.2.2) (fun z => z.1) (by kernel_rfl) (s.size + 1, 0, [], 0, 1) ⟨hT9.out, by simp, by dsimp only; omega, Nat.zero_le _, by simp⟩ ?_ ?_ rfl ?_
  · simp (disch := (first | omega | (simp only [push_cast]; done) | (simp only [push_cast]; omega) | ((try simp only [push_cast]); (with_reducible first | apply sel_lt | apply sel_ge); (focus decide); (focus (simp only [push_cast]; omega))))) only [push_cast, ↓reduceIte, Nat.reduceEqDiff, Nat.reduceBEq, Nat.reduceAdd, Nat.reduceSub, Int.reduceToNat, List.length_append, *]
  · simp (disch := (first | omega | (simp only [push_cast]; done) | (simp only [push_cast]; omega) | ((try simp only [push_cast]); (with_reducible first | apply sel_lt | apply sel_ge); (focus decide); (focus (simp only [push_cast]; omega))))) only [push_cast, ↓reduceIte, Nat.reduceEqDiff, Nat.reduceBEq, Nat.reduceAdd, Nat.reduceSub, Int.reduceToNat, List.length_append, *]
  rintro ⟨f, i, out, x, y⟩ ⟨hI, hol, hf, hi, hxy⟩
  dsimp only at hI hol hf hi hxy
  clear hT9
  by_cases hgo : i < s.size ∧ out.length ≤ 30
  · obtain ⟨hg1, hol⟩ := hgo
    cases f with
    | zero => omega
    | succ f =>
    unfold rdS at hI
    rw [if_pos ⟨hg1, hol⟩] at hI
    obtain ⟨a1, a2, a3, a4, a5⟩ := dgF_rng s 4 i 0 (by omega) (Int.le_refl _)
    have ap1 := φDg_ap (s := s) (i := i) (by omega) hs
    unfold rdStep at hI
    have ap2 := fun h => φDg_ap (s := s) (i := (dgF s 4 i 0).2 + 1) h hs
    have rg2 := fun h => dgF_rng s 4 ((dgF s 4 i 0).2 + 1) 0 h (Int.le_refl _)
    generalize hp : (dgF s 4 i 0).2 = p at *
    generalize ha : (dgF s 4 i 0).1 = a at *
    have a6 : a ≤ 9999 := by simp at a5; omega
    clear hp ha a5
    by_cases hc1 : p < s.size
    · have ap2 := ap2 (by omega)
      obtain ⟨b1, b2, b3, b4, b5⟩ := rg2 (by omega)
      clear rg2
      generalize hq : (dgF s 4 (p + 1) 0).2 = q at *
      generalize hb : (dgF s 4 (p + 1) 0).1 = b at *
      have b6 : b ≤ 9999 := by simp at b5; omega
      clear hq hb b5
      by_cases hc2 : at8 s p = 45
      · rw [if_pos ⟨hc1, hc2⟩] at hI
        dsimp only at hI
        have hrk := at8_rng s p
        have ap2 : φDg [.val (.string s), .val (.int .i64 ((p : Int) + 1))] = some (.tup [.val (.int .i64 b), .val (.int .i64 q)]) := by rw [← ap2]; push_cast; rfl
        replace hI := Lib.hid hI
        (repeat' (first | (with_reducible first | apply i_seq | apply i_block | apply i_skip | apply i_exit | apply i_ret | apply i_kS | apply i_kSx | apply i_kSr | apply i_kL | apply i_kLx | apply i_kLr | apply i_kB | apply i_kBr | apply i_kBs | apply i_nil) | ((with_reducible apply i_region); (focus (simp only [List.map_cons, List.map_nil] <;> exact rfl))) | ((with_reducible apply i_draw); (focus (simp only [List.map_cons, List.map_nil] <;> exact rfl)); (focus (decide +kernel))) | ((with_reducible apply i_kBo); (focus rfl)) | ((first | ((with_reducible apply i_V); (focus rfl); (focus rfl); (focus rfl)) | ((with_reducible apply i_E); (focus rfl); (focus (first | rfl | (simp only [push_cast, ↓reduceIte, effOk, touch, refsOf, List.flatMap_cons, List.flatMap_nil])))) | ((with_reducible apply i_S); (focus rfl); (focus (first | rfl | (simp only [push_cast, ↓reduceIte, effOk, touch, refsOf, List.flatMap_cons, List.flatMap_nil])))) | ((with_reducible apply i_Vq); (focus rfl); (focus rfl)) | ((with_reducible apply i_Vp); (focus rfl); (focus rfl); (focus rfl)) | (with_reducible first | apply i_Gb | apply i_cond)); (focus (simp (disch := (first | omega | (simp only [push_cast]; done) | (simp only [push_cast]; omega) | ((try simp only [push_cast]); (with_reducible first | apply sel_lt | apply sel_ge); (focus decide); (focus (simp only [push_cast]; omega))))) only [push_cast, ↓reduceIte, Nat.reduceEqDiff, Nat.reduceBEq, Nat.reduceAdd, Nat.reduceSub, Int.reduceToNat, *] <;> with_reducible exact rfl)); all_goals try (intro hX; first | (cases hX; done) | ((with_reducible first | have hX0 : true = true := hX | have hX0 : false = false := hX); clear hX0 hX) | ((try simp only [decide_eq_true_eq, decide_eq_false_iff_not, Bool.not_eq_true', Bool.not_eq_false'] at hX); (try have hXb := inB_iff.1 hX)))))); all_goals try (exfalso; omega)
        refine i_loop (α := Int × List Int × Nat × Nat) mixed (fun z => [(0, .val (.string s)), (4, .row z.2.2.1 1 0 z.2.1.length), (7, iv q), (8, iv b), (11, iv z.1)])
          (fun z => [(z.2.2.1, 3, 1, z.2.1.map fun n => .val (.int .i64 n))]) (fun z => z.2.2.2)
          (fun z => a ≤ z.1 ∧ (z.1 ≤ b + 1 ∨ z.1 = a) ∧ z.2.1 = out ++ rangeL a (z.1 - 1) ∧ z.2.1.length ≤ 31 ∧ z.2.2.1 < z.2.2.2) (fun z => (b + 1 - z.1).toNat) (by kernel_rfl) (a, out, x, y) ⟨Int.le_refl _, .inr rfl, by dsimp only; rw [rangeL_nil (by omega), List.append_nil], by dsimp only; omega, hxy⟩ ?_ ?_ rfl ?_
        · simp (disch := (first | omega | (simp only [push_cast]; done) | (simp only [push_cast]; omega) | ((try simp only [push_cast]); (with_reducible first | apply sel_lt | apply sel_ge); (focus decide); (focus (simp only [push_cast]; omega))))) only [push_cast, ↓reduceIte, Nat.reduceEqDiff, Nat.reduceBEq, Nat.reduceAdd, Nat.reduceSub, Int.reduceToNat, List.length_append, *]
        · simp (disch := (first | omega | (simp only [push_cast]; done) | (simp only [push_cast]; omega) | ((try simp only [push_cast]); (with_reducible first | apply sel_lt | apply sel_ge); (focus decide); (focus (simp only [push_cast]; omega))))) only [push_cast, ↓reduceIte, Nat.reduceEqDiff, Nat.reduceBEq, Nat.reduceAdd, Nat.reduceSub, Int.reduceToNat, List.length_append, *]
        rintro ⟨n, o2, x2, y2⟩ ⟨n1, n2, ho2, ol2, hxy2⟩
        dsimp only at n1 n2 ho2 ol2 hxy2
        by_cases hgo : n ≤ b ∧ o2.length ≤ 30
        · obtain ⟨hgo1, hgo2⟩ := hgo
          have hst : o2 ++ [n] = out ++ rangeL a (n + 1 - 1) := by
            rw [ho2, List.append_assoc, show n + 1 - 1 = (n - 1) + 1 by omega, rangeL_snoc (by omega), show n - 1 + 1 = n by omega]
          have hel := Lib.hid (show (o2 ++ [n]).length = o2.length + 1 by simp)
          have hes := Lib.hid (show ((o2 ++ [n]).map fun n => PV.val (.int .i64 n)) = (o2.map fun n => PV.val (.int .i64 n)) ++ [.val (.int .i64 n)] by rw [List.map_append]; rfl)
          replace hst := Lib.hid hst
          clear ho2
          (repeat' (first | (with_reducible first | apply i_seq | apply i_block | apply i_skip | apply i_exit | apply i_ret | apply i_kS | apply i_kSx | apply i_kSr | apply i_kL | apply i_kLx | apply i_kLr | apply i_kB | apply i_kBr | apply i_kBs | apply i_nil) | ((with_reducible apply i_region); (focus (simp only [List.map_cons, List.map_nil] <;> exact rfl))) | ((with_reducible apply i_draw); (focus (simp only [List.map_cons, List.map_nil] <;> exact rfl)); (focus (decide +kernel))) | ((with_reducible apply i_kBo); (focus rfl)) | ((first | ((with_reducible apply i_V); (focus rfl); (focus rfl); (focus rfl)) | ((with_reducible apply i_E); (focus rfl); (focus (first | rfl | (simp only [push_cast, ↓reduceIte, effOk, touch, refsOf, List.flatMap_cons, List.flatMap_nil])))) | ((with_reducible apply i_S); (focus rfl); (focus (first | rfl | (simp only [push_cast, ↓reduceIte, effOk, touch, refsOf, List.flatMap_cons, List.flatMap_nil])))) | ((with_reducible apply i_Vq); (focus rfl); (focus rfl)) | ((with_reducible apply i_Vp); (focus rfl); (focus rfl); (focus rfl)) | (with_reducible first | apply i_Gb | apply i_cond)); (focus (simp (disch := (first | omega | (simp only [push_cast]; done) | (simp only [push_cast]; omega) | ((try simp only [push_cast]); (with_reducible first | apply sel_lt | apply sel_ge); (focus decide); (focus (simp only [push_cast]; omega))))) only [push_cast, ↓reduceIte, Nat.reduceEqDiff, Nat.reduceBEq, Nat.reduceAdd, Nat.reduceSub, Int.reduceToNat, *] <;> with_reducible exact rfl)); all_goals try (intro hX; first | (cases hX; done) | ((with_reducible first | have hX0 : true = true := hX | have hX0 : false = false := hX); clear hX0 hX) | ((try simp only [decide_eq_true_eq, decide_eq_false_iff_not, Bool.not_eq_true', Bool.not_eq_false'] at hX); (try have hXb := inB_iff.1 hX)))))); all_goals try (exfalso; omega)
          refine ⟨(n + 1, o2 ++ [n], y2 + 1, y2 + 2), ⟨by dsimp only; omega, .inl (by dsimp only; omega), hst.out, by dsimp only; rw [hel.out]; omega, by dsimp only; omega⟩, by dsimp only; omega, ?_, ?_, rfl⟩
          · simp (disch := (first | omega | (simp only [push_cast]; done) | (simp only [push_cast]; omega) | ((try simp only [push_cast]); (with_reducible first | apply sel_lt | apply sel_ge); (focus decide); (focus (simp only [push_cast]; omega))))) only [push_cast, ↓reduceIte, Nat.reduceEqDiff, Nat.reduceBEq, Nat.reduceAdd, Nat.reduceSub, Int.reduceToNat, hel.out, *]
          · dsimp only
            rw [hes.out]
            clear hI hxy2 hgo2 hgo1 hrk
            simp (disch := (first | omega | (simp only [push_cast]; done) | (simp only [push_cast]; omega) | ((try simp only [push_cast]); (with_reducible first | apply sel_lt | apply sel_ge); (focus decide); (focus (simp only [push_cast]; omega))))) only [push_cast, ↓reduceIte, Nat.reduceEqDiff, Nat.reduceBEq, Nat.reduceAdd, Nat.reduceSub, Int.reduceToNat, *]
        · have hend : out ++ (rangeL a b).take (31 - out.length) = o2 := range_cut hgo n1 n2 ho2 ol2 hol
          replace hI := hI.out
          rw [hend] at hI
          replace hI := Lib.hid hI
          clear ho2 hend
          by_cases hgo1 : n ≤ b
          · have hgo2 : ¬ o2.length ≤ 30 := fun h => hgo ⟨hgo1, h⟩
            clear hgo
            (repeat' (first | (with_reducible first | apply i_seq | apply i_block | apply i_skip | apply i_exit | apply i_ret | apply i_kS | apply i_kSx | apply i_kSr | apply i_kL | apply i_kLx | apply i_kLr | apply i_kB | apply i_kBr | apply i_kBs | apply i_nil) | ((with_reducible apply i_region); (focus (simp only [List.map_cons, List.map_nil] <;> exact rfl))) | ((with_reducible apply i_draw); (focus (simp only [List.map_cons, List.map_nil] <;> exact rfl)); (focus (decide +kernel))) | ((with_reducible apply i_kBo); (focus rfl)) | ((first | ((with_reducible apply i_V); (focus rfl); (focus rfl); (focus rfl)) | ((with_reducible apply i_E); (focus rfl); (focus (first | rfl | (simp only [push_cast, ↓reduceIte, effOk, touch, refsOf, List.flatMap_cons, List.flatMap_nil])))) | ((with_reducible apply i_S); (focus rfl); (focus (first | rfl | (simp only [push_cast, ↓reduceIte, effOk, touch, refsOf, List.flatMap_cons, List.flatMap_nil])))) | ((with_reducible apply i_Vq); (focus rfl); (focus rfl)) | ((with_reducible apply i_Vp); (focus rfl); (focus rfl); (focus rfl)) | (with_reducible first | apply i_Gb | apply i_cond)); (focus (simp (disch := (first | omega | (simp only [push_cast]; done) | (simp only [push_cast]; omega) | ((try simp only [push_cast]); (with_reducible first | apply sel_lt | apply sel_ge); (focus decide); (focus (simp only [push_cast]; omega))))) only [push_cast, ↓reduceIte, Nat.reduceEqDiff, Nat.reduceBEq, Nat.reduceAdd, Nat.reduceSub, Int.reduceToNat, *] <;> with_reducible exact rfl)); all_goals try (intro hX; first | (cases hX; done) | ((with_reducible first | have hX0 : true = true := hX | have hX0 : false = false := hX); clear hX0 hX) | ((try simp only [decide_eq_true_eq, decide_eq_false_iff_not, Bool.not_eq_true', Bool.not_eq_false'] at hX); (try have hXb := inB_iff.1 hX)))))); all_goals try (exfalso; omega)
            refine ⟨(f, q + 2, o2, x2, y2), ⟨hI.out, ol2, by dsimp only; omega, by dsimp only; omega, hxy2⟩, by dsimp only; omega, ?_, ?_, rfl⟩
            · (simp (disch := (first | omega | (simp only [push_cast]; done) | (simp only [push_cast]; omega) | ((try simp only [push_cast]); (with_reducible first | apply sel_lt | apply sel_ge); (focus decide); (focus (simp only [push_cast]; omega))))) only [push_cast, ↓reduceIte, Nat.reduceEqDiff, Nat.reduceBEq, Nat.reduceAdd, Nat.reduceSub, Int.reduceToNat, List.length_append, *]) <;> exact congrArg (fun z => PV.val (Value.int IntKind.i64 z)) (by omega)
            · simp (disch := (first | omega | (simp only [push_cast]; done) | (simp only [push_cast]; omega) | ((try simp only [push_cast]); (with_reducible first | apply sel_lt | apply sel_ge); (focus decide); (focus (simp only [push_cast]; omega))))) only [push_cast, ↓reduceIte, Nat.reduceEqDiff, Nat.reduceBEq, Nat.reduceAdd, Nat.reduceSub, Int.reduceToNat, List.length_append, *]
          · clear hgo
            (repeat' (first | (with_reducible first | apply i_seq | apply i_block | apply i_skip | apply i_exit | apply i_ret | apply i_kS | apply i_kSx | apply i_kSr | apply i_kL | apply i_kLx | apply i_kLr | apply i_kB | apply i_kBr | apply i_kBs | apply i_nil) | ((with_reducible apply i_region); (focus (simp only [List.map_cons, List.map_nil] <;> exact rfl))) | ((with_reducible apply i_draw); (focus (simp only [List.map_cons, List.map_nil] <;> exact rfl)); (focus (decide +kernel))) | ((with_reducible apply i_kBo); (focus rfl)) | ((first | ((with_reducible apply i_V); (focus rfl); (focus rfl); (focus rfl)) | ((with_reducible apply i_E); (focus rfl); (focus (first | rfl | (simp only [push_cast, ↓reduceIte, effOk, touch, refsOf, List.flatMap_cons, List.flatMap_nil])))) | ((with_reducible apply i_S); (focus rfl); (focus (first | rfl | (simp only [push_cast, ↓reduceIte, effOk, touch, refsOf, List.flatMap_cons, List.flatMap_nil])))) | ((with_reducible apply i_Vq); (focus rfl); (focus rfl)) | ((with_reducible apply i_Vp); (focus rfl); (focus rfl); (focus rfl)) | (with_reducible first | apply i_Gb | apply i_cond)); (focus (simp (disch := (first | omega | (simp only [push_cast]; done) | (simp only [push_cast]; omega) | ((try simp only [push_cast]); (with_reducible first | apply sel_lt | apply sel_ge); (focus decide); (focus (simp only [push_cast]; omega))))) only [push_cast, ↓reduceIte, Nat.reduceEqDiff, Nat.reduceBEq, Nat.reduceAdd, Nat.reduceSub, Int.reduceToNat, *] <;> with_reducible exact rfl)); all_goals try (intro hX; first | (cases hX; done) | ((with_reducible first | have hX0 : true = true := hX | have hX0 : false = false := hX); clear hX0 hX) | ((try simp only [decide_eq_true_eq, decide_eq_false_iff_not, Bool.not_eq_true', Bool.not_eq_false'] at hX); (try have hXb := inB_iff.1 hX)))))); all_goals try (exfalso; omega)
            refine ⟨(f, q + 2, o2, x2, y2), ⟨hI.out, ol2, by dsimp only; omega, by dsimp only; omega, hxy2⟩, by dsimp only; omega, ?_, ?_, rfl⟩
            · (simp (disch := (first | omega | (simp only [push_cast]; done) | (simp only [push_cast]; omega) | ((try simp only [push_cast]); (with_reducible first | apply sel_lt | apply sel_ge); (focus decide); (focus (simp only [push_cast]; omega))))) only [push_cast, ↓reduceIte, Nat.reduceEqDiff, Nat.reduceBEq, Nat.reduceAdd, Nat.reduceSub, Int.reduceToNat, List.length_append, *]) <;> exact congrArg (fun z => PV.val (Value.int IntKind.i64 z)) (by omega)
            · simp (disch := (first | omega | (simp only [push_cast]; done) | (simp only [push_cast]; omega) | ((try simp only [push_cast]); (with_reducible first | apply sel_lt | apply sel_ge); (focus decide); (focus (simp only [push_cast]; omega))))) only [push_cast, ↓reduceIte, Nat.reduceEqDiff, Nat.reduceBEq, Nat.reduceAdd, Nat.reduceSub, Int.reduceToNat, List.length_append, *]
      · rw [if_neg (fun h => hc2 h.2)] at hI
        dsimp only at hI
        have hrk := at8_rng s p
        clear b1 b2 b3 b4 b6
        replace hI := Lib.hid hI
        clear ap2
        (repeat' (first | (with_reducible first | apply i_seq | apply i_block | apply i_skip | apply i_exit | apply i_ret | apply i_kS | apply i_kSx | apply i_kSr | apply i_kL | apply i_kLx | apply i_kLr | apply i_kB | apply i_kBr | apply i_kBs | apply i_nil) | ((with_reducible apply i_region); (focus (simp only [List.map_cons, List.map_nil] <;> exact rfl))) | ((with_reducible apply i_draw); (focus (simp only [List.map_cons, List.map_nil] <;> exact rfl)); (focus (decide +kernel))) | ((with_reducible apply i_kBo); (focus rfl)) | ((first | ((with_reducible apply i_V); (focus rfl); (focus rfl); (focus rfl)) | ((with_reducible apply i_E); (focus rfl); (focus (first | rfl | (simp only [push_cast, ↓reduceIte, effOk, touch, refsOf, List.flatMap_cons, List.flatMap_nil])))) | ((with_reducible apply i_S); (focus rfl); (focus (first | rfl | (simp only [push_cast, ↓reduceIte, effOk, touch, refsOf, List.flatMap_cons, List.flatMap_nil])))) | ((with_reducible apply i_Vq); (focus rfl); (focus rfl)) | ((with_reducible apply i_Vp); (focus rfl); (focus rfl); (focus rfl)) | (with_reducible first | apply i_Gb | apply i_cond)); (focus (simp (disch := (first | omega | (simp only [push_cast]; done) | (simp only [push_cast]; omega) | ((try simp only [push_cast]); (with_reducible first | apply sel_lt | apply sel_ge); (focus decide); (focus (simp only [push_cast]; omega))))) only [push_cast, ↓reduceIte, Nat.reduceEqDiff, Nat.reduceBEq, Nat.reduceAdd, Nat.reduceSub, Int.reduceToNat, *] <;> with_reducible exact rfl)); all_goals try (intro hX; first | (cases hX; done) | ((with_reducible first | have hX0 : true = true := hX | have hX0 : false = false := hX); clear hX0 hX) | ((try simp only [decide_eq_true_eq, decide_eq_false_iff_not, Bool.not_eq_true', Bool.not_eq_false'] at hX); (try have hXb := inB_iff.1 hX)))))); all_goals try (exfalso; omega)
        refine i_loop (α := Int × List Int × Nat × Nat) mixed (fun z => [(0, .val (.string s)), (4, .row z.2.2.1 1 0 z.2.1.length), (7, iv p), (8, iv a), (11, iv z.1)])
          (fun z => [(z.2.2.1, 3, 1, z.2.1.map fun n => .val (.int .i64 n))]) (fun z => z.2.2.2)
          (fun z => a ≤ z.1 ∧ (z.1 ≤ a + 1 ∨ z.1 = a) ∧ z.2.1 = out ++ rangeL a (z.1 - 1) ∧ z.2.1.length ≤ 31 ∧ z.2.2.1 < z.2.2.2) (fun z => (a + 1 - z.1).toNat) (by kernel_rfl) (a, out, x, y) ⟨Int.le_refl _, .inr rfl, by dsimp only; rw [rangeL_nil (by omega), List.append_nil], by dsimp only; omega, hxy⟩ ?_ ?_ rfl ?_
        · simp (disch := (first | omega | (simp only [push_cast]; done) | (simp only [push_cast]; omega) | ((try simp only [push_cast]); (with_reducible first | apply sel_lt | apply sel_ge); (focus decide); (focus (simp only [push_cast]; omega))))) only [push_cast, ↓reduceIte, Nat.reduceEqDiff, Nat.reduceBEq, Nat.reduceAdd, Nat.reduceSub, Int.reduceToNat, List.length_append, *]
        · simp (disch := (first | omega | (simp only [push_cast]; done) | (simp only [push_cast]; omega) | ((try simp only [push_cast]); (with_reducible first | apply sel_lt | apply sel_ge); (focus decide); (focus (simp only [push_cast]; omega))))) only [push_cast, ↓reduceIte, Nat.reduceEqDiff, Nat.reduceBEq, Nat.reduceAdd, Nat.reduceSub, Int.reduceToNat, List.length_append, *]
        rintro ⟨n, o2, x2, y2⟩ ⟨n1, n2, ho2, ol2, hxy2⟩
        dsimp only at n1 n2 ho2 ol2 hxy2
        by_cases hgo : n ≤ a ∧ o2.length ≤ 30
        · obtain ⟨hgo1, hgo2⟩ := hgo
          have hst : o2 ++ [n] = out ++ rangeL a (n + 1 - 1) := by
            rw [ho2, List.append_assoc, show n + 1 - 1 = (n - 1) + 1 by omega, rangeL_snoc (by omega), show n - 1 + 1 = n by omega]
          have hel := Lib.hid (show (o2 ++ [n]).length = o2.length + 1 by simp)
          have hes := Lib.hid (show ((o2 ++ [n]).map fun n => PV.val (.int .i64 n)) = (o2.map fun n => PV.val (.int .i64 n)) ++ [.val (.int .i64 n)] by rw [List.map_append]; rfl)
          replace hst := Lib.hid hst
          clear ho2
          (repeat' (first | (with_reducible first | apply i_seq | apply i_block | apply i_skip | apply i_exit | apply i_ret | apply i_kS | apply i_kSx | apply i_kSr | apply i_kL | apply i_kLx | apply i_kLr | apply i_kB | apply i_kBr | apply i_kBs | apply i_nil) | ((with_reducible apply i_region); (focus (simp only [List.map_cons, List.map_nil] <;> exact rfl))) | ((with_reducible apply i_draw); (focus (simp only [List.map_cons, List.map_nil] <;> exact rfl)); (focus (decide +kernel))) | ((with_reducible apply i_kBo); (focus rfl)) | ((first | ((with_reducible apply i_V); (focus rfl); (focus rfl); (focus rfl)) | ((with_reducible apply i_E); (focus rfl); (focus (first | rfl | (simp only [push_cast, ↓reduceIte, effOk, touch, refsOf, List.flatMap_cons, List.flatMap_nil])))) | ((with_reducible apply i_S); (focus rfl); (focus (first | rfl | (simp only [push_cast, ↓reduceIte, effOk, touch, refsOf, List.flatMap_cons, List.flatMap_nil])))) | ((with_reducible apply i_Vq); (focus rfl); (focus rfl)) | ((with_reducible apply i_Vp); (focus rfl); (focus rfl); (focus rfl)) | (with_reducible first | apply i_Gb | apply i_cond)); (focus (simp (disch := (first | omega | (simp only [push_cast]; done) | (simp only [push_cast]; omega) | ((try simp only [push_cast]); (with_reducible first | apply sel_lt | apply sel_ge); (focus decide); (focus (simp only [push_cast]; omega))))) only [push_cast, ↓reduceIte, Nat.reduceEqDiff, Nat.reduceBEq, Nat.reduceAdd, Nat.reduceSub, Int.reduceToNat, *] <;> with_reducible exact rfl)); all_goals try (intro hX; first | (cases hX; done) | ((with_reducible first | have hX0 : true = true := hX | have hX0 : false = false := hX); clear hX0 hX) | ((try simp only [decide_eq_true_eq, decide_eq_false_iff_not, Bool.not_eq_true', Bool.not_eq_false'] at hX); (try have hXb := inB_iff.1 hX)))))); all_goals try (exfalso; omega)
          refine ⟨(n + 1, o2 ++ [n], y2 + 1, y2 + 2), ⟨by dsimp only; omega, .inl (by dsimp only; omega), hst.out, by dsimp only; rw [hel.out]; omega, by dsimp only; omega⟩, by dsimp only; omega, ?_, ?_, rfl⟩
          · simp (disch := (first | omega | (simp only [push_cast]; done) | (simp only [push_cast]; omega) | ((try simp only [push_cast]); (with_reducible first | apply sel_lt | apply sel_ge); (focus decide); (focus (simp only [push_cast]; omega))))) only [push_cast, ↓reduceIte, Nat.reduceEqDiff, Nat.reduceBEq, Nat.reduceAdd, Nat.reduceSub, Int.reduceToNat, hel.out, *]
          · dsimp only
            rw [hes.out]
            clear hI hxy2 hgo2 hgo1 hrk
            simp (disch := (first | omega | (simp only [push_cast]; done) | (simp only [push_cast]; omega) | ((try simp only [push_cast]); (with_reducible first | apply sel_lt | apply sel_ge); (focus decide); (focus (simp only [push_cast]; omega))))) only [push_cast, ↓reduceIte, Nat.reduceEqDiff, Nat.reduceBEq, Nat.reduceAdd, Nat.reduceSub, Int.reduceToNat, *]
        · have hend : out ++ (rangeL a a).take (31 - out.length) = o2 := range_cut hgo n1 n2 ho2 ol2 hol
          replace hI := hI.out
          rw [hend] at hI
          replace hI := Lib.hid hI
          clear ho2 hend
          by_cases hgo1 : n ≤ a
          · have hgo2 : ¬ o2.length ≤ 30 := fun h => hgo ⟨hgo1, h⟩
            clear hgo
            (repeat' (first | (with_reducible first | apply i_seq | apply i_block | apply i_skip | apply i_exit | apply i_ret | apply i_kS | apply i_kSx | apply i_kSr | apply i_kL | apply i_kLx | apply i_kLr | apply i_kB | apply i_kBr | apply i_kBs | apply i_nil) | ((with_reducible apply i_region); (focus (simp only [List.map_cons, List.map_nil] <;> exact rfl))) | ((with_reducible apply i_draw); (focus (simp only [List.map_cons, List.map_nil] <;> exact rfl)); (focus (decide +kernel))) | ((with_reducible apply i_kBo); (focus rfl)) | ((first | ((with_reducible apply i_V); (focus rfl); (focus rfl); (focus rfl)) | ((with_reducible apply i_E); (focus rfl); (focus (first | rfl | (simp only [push_cast, ↓reduceIte, effOk, touch, refsOf, List.flatMap_cons, List.flatMap_nil])))) | ((with_reducible apply i_S); (focus rfl); (focus (first | rfl | (simp only [push_cast, ↓reduceIte, effOk, touch, refsOf, List.flatMap_cons, List.flatMap_nil])))) | ((with_reducible apply i_Vq); (focus rfl); (focus rfl)) | ((with_reducible apply i_Vp); (focus rfl); (focus rfl); (focus rfl)) | (with_reducible first | apply i_Gb | apply i_cond)); (focus (simp (disch := (first | omega | (simp only [push_cast]; done) | (simp only [push_cast]; omega) | ((try simp only [push_cast]); (with_reducible first | apply sel_lt | apply sel_ge); (focus decide); (focus (simp only [push_cast]; omega))))) only [push_cast, ↓reduceIte, Nat.reduceEqDiff, Nat.reduceBEq, Nat.reduceAdd, Nat.reduceSub, Int.reduceToNat, *] <;> with_reducible exact rfl)); all_goals try (intro hX; first | (cases hX; done) | ((with_reducible first | have hX0 : true = true := hX | have hX0 : false = false := hX); clear hX0 hX) | ((try simp only [decide_eq_true_eq, decide_eq_false_iff_not, Bool.not_eq_true', Bool.not_eq_false'] at hX); (try have hXb := inB_iff.1 hX)))))); all_goals try (exfalso; omega)
            refine ⟨(f, p + 2, o2, x2, y2), ⟨hI.out, ol2, by dsimp only; omega, by dsimp only; omega, hxy2⟩, by dsimp only; omega, ?_, ?_, rfl⟩
            · (simp (disch := (first | omega | (simp only [push_cast]; done) | (simp only [push_cast]; omega) | ((try simp only [push_cast]); (with_reducible first | apply sel_lt | apply sel_ge); (focus decide); (focus (simp only [push_cast]; omega))))) only [push_cast, ↓reduceIte, Nat.reduceEqDiff, Nat.reduceBEq, Nat.reduceAdd, Nat.reduceSub, Int.reduceToNat, List.length_append, *]) <;> exact congrArg (fun z => PV.val (Value.int IntKind.i64 z)) (by omega)
            · simp (disch := (first | omega | (simp only [push_cast]; done) | (simp only [push_cast]; omega) | ((try simp only [push_cast]); (with_reducible first | apply sel_lt | apply sel_ge); (focus decide); (focus (simp only [push_cast]; omega))))) only [push_cast, ↓reduceIte, Nat.reduceEqDiff, Nat.reduceBEq, Nat.reduceAdd, Nat.reduceSub, Int.reduceToNat, List.length_append, *]
          · clear hgo
            (repeat' (first | (with_reducible first | apply i_seq | apply i_block | apply i_skip | apply i_exit | apply i_ret | apply i_kS | apply i_kSx | apply i_kSr | apply i_kL | apply i_kLx | apply i_kLr | apply i_kB | apply i_kBr | apply i_kBs | apply i_nil) | ((with_reducible apply i_region); (focus (simp only [List.map_cons, List.map_nil] <;> exact rfl))) | ((with_reducible apply i_draw); (focus (simp only [List.map_cons, List.map_nil] <;> exact rfl)); (focus (decide +kernel))) | ((with_reducible apply i_kBo); (focus rfl)) | ((first | ((with_reducible apply i_V); (focus rfl); (focus rfl); (focus rfl)) | ((with_reducible apply i_E); (focus rfl); (focus (first | rfl | (simp only [push_cast, ↓reduceIte, effOk, touch, refsOf, List.flatMap_cons, List.flatMap_nil])))) | ((with_reducible apply i_S); (focus rfl); (focus (first | rfl | (simp only [push_cast, ↓reduceIte, effOk, touch, refsOf, List.flatMap_cons, List.flatMap_nil])))) | ((with_reducible apply i_Vq); (focus rfl); (focus rfl)) | ((with_reducible apply i_Vp); (focus rfl); (focus rfl); (focus rfl)) | (with_reducible first | apply i_Gb | apply i_cond)); (focus (simp (disch := (first | omega | (simp only [push_cast]; done) | (simp only [push_cast]; omega) | ((try simp only [push_cast]); (with_reducible first | apply sel_lt | apply sel_ge); (focus decide); (focus (simp only [push_cast]; omega))))) only [push_cast, ↓reduceIte, Nat.reduceEqDiff, Nat.reduceBEq, Nat.reduceAdd, Nat.reduceSub, Int.reduceToNat, *] <;> with_reducible exact rfl)); all_goals try (intro hX; first | (cases hX; done) | ((with_reducible first | have hX0 : true = true := hX | have hX0 : false = false := hX); clear hX0 hX) | ((try simp only [decide_eq_true_eq, decide_eq_false_iff_not, Bool.not_eq_true', Bool.not_eq_false'] at hX); (try have hXb := inB_iff.1 hX)))))); all_goals try (exfalso; omega)
            refine ⟨(f, p + 2, o2, x2, y2), ⟨hI.out, ol2, by dsimp only; omega, by dsimp only; omega, hxy2⟩, by dsimp only; omega, ?_, ?_, rfl⟩
            · (simp (disch := (first | omega | (simp only [push_cast]; done) | (simp only [push_cast]; omega) | ((try simp only [push_cast]); (with_reducible first | apply sel_lt | apply sel_ge); (focus decide); (focus (simp only [push_cast]; omega))))) only [push_cast, ↓reduceIte, Nat.reduceEqDiff, Nat.reduceBEq, Nat.reduceAdd, Nat.reduceSub, Int.reduceToNat, List.length_append, *]) <;> exact congrArg (fun z => PV.val (Value.int IntKind.i64 z)) (by omega)
            · simp (disch := (first | omega | (simp only [push_cast]; done) | (simp only [push_cast]; omega) | ((try simp only [push_cast]); (with_reducible first | apply sel_lt | apply sel_ge); (focus decide); (focus (simp only [push_cast]; omega))))) only [push_cast, ↓reduceIte, Nat.reduceEqDiff, Nat.reduceBEq, Nat.reduceAdd, Nat.reduceSub, Int.reduceToNat, List.length_append, *]
    · rw [if_neg (fun h => hc1 h.1)] at hI
      dsimp only at hI
      replace hI := Lib.hid hI
      clear ap2 rg2
      (repeat' (first | (with_reducible first | apply i_seq | apply i_block | apply i_skip | apply i_exit | apply i_ret | apply i_kS | apply i_kSx | apply i_kSr | apply i_kL | apply i_kLx | apply i_kLr | apply i_kB | apply i_kBr | apply i_kBs | apply i_nil) | ((with_reducible apply i_region); (focus (simp only [List.map_cons, List.map_nil] <;> exact rfl))) | ((with_reducible apply i_draw); (focus (simp only [List.map_cons, List.map_nil] <;> exact rfl)); (focus (decide +kernel))) | ((with_reducible apply i_kBo); (focus rfl)) | ((first | ((with_reducible apply i_V); (focus rfl); (focus rfl); (focus rfl)) | ((with_reducible apply i_E); (focus rfl); (focus (first | rfl | (simp only [push_cast, ↓reduceIte, effOk, touch, refsOf, List.flatMap_cons, List.flatMap_nil])))) | ((with_reducible apply i_S); (focus rfl); (focus (first | rfl | (simp only [push_cast, ↓reduceIte, effOk, touch, refsOf, List.flatMap_cons, List.flatMap_nil])))) | ((with_reducible apply i_Vq); (focus rfl); (focus rfl)) | ((with_reducible apply i_Vp); (focus rfl); (focus rfl); (focus rfl)) | (with_reducible first | apply i_Gb | apply i_cond)); (focus (simp (disch := (first | omega | (simp only [push_cast]; done) | (simp only [push_cast]; omega) | ((try simp only [push_cast]); (with_reducible first | apply sel_lt | apply sel_ge); (focus decide); (focus (simp only [push_cast]; omega))))) only [push_cast, ↓reduceIte, Nat.reduceEqDiff, Nat.reduceBEq, Nat.reduceAdd, Nat.reduceSub, Int.reduceToNat, *] <;> with_reducible exact rfl)); all_goals try (intro hX; first | (cases hX; done) | ((with_reducible first | have hX0 : true = true := hX | have hX0 : false = false := hX); clear hX0 hX) | ((try simp only [decide_eq_true_eq, decide_eq_false_iff_not, Bool.not_eq_true', Bool.not_eq_false'] at hX); (try have hXb := inB_iff.1 hX)))))); all_goals try (exfalso; omega)
      refine i_loop (α := Int × List Int × Nat × Nat) mixed (fun z => [(0, .val (.string s)), (4, .row z.2.2.1 1 0 z.2.1.length), (7, iv p), (8, iv a), (11, iv z.1)])
        (fun z => [(z.2.2.1, 3, 1, z.2.1.map fun n => .val (.int .i64 n))]) (fun z => z.2.2.2)
        (fun z => a ≤ z.1 ∧ (z.1 ≤ a + 1 ∨ z.1 = a) ∧ z.2.1 = out ++ rangeL a (z.1 - 1) ∧ z.2.1.length ≤ 31 ∧ z.2.2.1 < z.2.2.2) (fun z => (a + 1 - z.1).toNat) (by kernel_rfl) (a, out, x, y) ⟨Int.le_refl _, .inr rfl, by dsimp only; rw [rangeL_nil (by omega), List.append_nil], by dsimp only; omega, hxy⟩ ?_ ?_ rfl ?_
      · simp (disch := (first | omega | (simp only [push_cast]; done) | (simp only [push_cast]; omega) | ((try simp only [push_cast]); (with_reducible first | apply sel_lt | apply sel_ge); (focus decide); (focus (simp only [push_cast]; omega))))) only [push_cast, ↓reduceIte, Nat.reduceEqDiff, Nat.reduceBEq, Nat.reduceAdd, Nat.reduceSub, Int.reduceToNat, List.length_append, *]
      · simp (disch := (first | omega | (simp only [push_cast]; done) | (simp only [push_cast]; omega) | ((try simp only [push_cast]); (with_reducible first | apply sel_lt | apply sel_ge); (focus decide); (focus (simp only [push_cast]; omega))))) only [push_cast, ↓reduceIte, Nat.reduceEqDiff, Nat.reduceBEq, Nat.reduceAdd, Nat.reduceSub, Int.reduceToNat, List.length_append, *]
      rintro ⟨n, o2, x2, y2⟩ ⟨n1, n2, ho2, ol2, hxy2⟩
      dsimp only at n1 n2 ho2 ol2 hxy2
      by_cases hgo : n ≤ a ∧ o2.length ≤ 30
      · obtain ⟨hgo1, hgo2⟩ := hgo
        have hst : o2 ++ [n] = out ++ rangeL a (n + 1 - 1) := by
          rw [ho2, List.append_assoc, show n + 1 - 1 = (n - 1) + 1 by omega, rangeL_snoc (by omega), show n - 1 + 1 = n by omega]
        have hel := Lib.hid (show (o2 ++ [n]).length = o2.length + 1 by simp)
        have hes := Lib.hid (show ((o2 ++ [n]).map fun n => PV.val (.int .i64 n)) = (o2.map fun n => PV.val (.int .i64 n)) ++ [.val (.int .i64 n)] by rw [List.map_append]; rfl)
        replace hst := Lib.hid hst
        clear ho2
        (repeat' (first | (with_reducible first | apply i_seq | apply i_block | apply i_skip | apply i_exit | apply i_ret | apply i_kS | apply i_kSx | apply i_kSr | apply i_kL | apply i_kLx | apply i_kLr | apply i_kB | apply i_kBr | apply i_kBs | apply i_nil) | ((with_reducible apply i_region); (focus (simp only [List.map_cons, List.map_nil] <;> exact rfl))) | ((with_reducible apply i_draw); (focus (simp only [List.map_cons, List.map_nil] <;> exact rfl)); (focus (decide +kernel))) | ((with_reducible apply i_kBo); (focus rfl)) | ((first | ((with_reducible apply i_V); (focus rfl); (focus rfl); (focus rfl)) | ((with_reducible apply i_E); (focus rfl); (focus (first | rfl | (simp only [push_cast, ↓reduceIte, effOk, touch, refsOf, List.flatMap_cons, List.flatMap_nil])))) | ((with_reducible apply i_S); (focus rfl); (focus (first | rfl | (simp only [push_cast, ↓reduceIte, effOk, touch, refsOf, List.flatMap_cons, List.flatMap_nil])))) | ((with_reducible apply i_Vq); (focus rfl); (focus rfl)) | ((with_reducible apply i_Vp); (focus rfl); (focus rfl); (focus rfl)) | (with_reducible first | apply i_Gb | apply i_cond)); (focus (simp (disch := (first | omega | (simp only [push_cast]; done) | (simp only [push_cast]; omega) | ((try simp only [push_cast]); (with_reducible first | apply sel_lt | apply sel_ge); (focus decide); (focus (simp only [push_cast]; omega))))) only [push_cast, ↓reduceIte, Nat.reduceEqDiff, Nat.reduceBEq, Nat.reduceAdd, Nat.reduceSub, Int.reduceToNat, *] <;> with_reducible exact rfl)); all_goals try (intro hX; first | (cases hX; done) | ((with_reducible first | have hX0 : true = true := hX | have hX0 : false = false := hX); clear hX0 hX) | ((try simp only [decide_eq_true_eq, decide_eq_false_iff_not, Bool.not_eq_true', Bool.not_eq_false'] at hX); (try have hXb := inB_iff.1 hX)))))); all_goals try (exfalso; omega)
        refine ⟨(n + 1, o2 ++ [n], y2 + 1, y2 + 2), ⟨by dsimp only; omega, .inl (by dsimp only; omega), hst.out, by dsimp only; rw [hel.out]; omega, by dsimp only; omega⟩, by dsimp only; omega, ?_, ?_, rfl⟩
        · simp (disch := (first | omega | (simp only [push_cast]; done) | (simp only [push_cast]; omega) | ((try simp only [push_cast]); (with_reducible first | apply sel_lt | apply sel_ge); (focus decide); (focus (simp only [push_cast]; omega))))) only [push_cast, ↓reduceIte, Nat.reduceEqDiff, Nat.reduceBEq, Nat.reduceAdd, Nat.reduceSub, Int.reduceToNat, hel.out, *]
        · dsimp only
          rw [hes.out]
          clear hI hxy2 hgo2 hgo1
          simp (disch := (first | omega | (simp only [push_cast]; done) | (simp only [push_cast]; omega) | ((try simp only [push_cast]); (with_reducible first | apply sel_lt | apply sel_ge); (focus decide); (focus (simp only [push_cast]; omega))))) only [push_cast, ↓reduceIte, Nat.reduceEqDiff, Nat.reduceBEq, Nat.reduceAdd, Nat.reduceSub, Int.reduceToNat, *]
      · have hend : out ++ (rangeL a a).take (31 - out.length) = o2 := range_cut hgo n1 n2 ho2 ol2 hol
        replace hI := hI.out
        rw [hend] at hI
        replace hI := Lib.hid hI
        clear ho2 hend
        by_cases hgo1 : n ≤ a
        · have hgo2 : ¬ o2.length ≤ 30 := fun h => hgo ⟨hgo1, h⟩
          clear hgo
          (repeat' (first | (with_reducible first | apply i_seq | apply i_block | apply i_skip | apply i_exit | apply i_ret | apply i_kS | apply i_kSx | apply i_kSr | apply i_kL | apply i_kLx | apply i_kLr | apply i_kB | apply i_kBr | apply i_kBs | apply i_nil) | ((with_reducible apply i_region); (focus (simp only [List.map_cons, List.map_nil] <;> exact rfl))) | ((with_reducible apply i_draw); (focus (simp only [List.map_cons, List.map_nil] <;> exact rfl)); (focus (decide +kernel))) | ((with_reducible apply i_kBo); (focus rfl)) | ((first | ((with_reducible apply i_V); (focus rfl); (focus rfl); (focus rfl)) | ((with_reducible apply i_E); (focus rfl); (focus (first | rfl | (simp only [push_cast, ↓reduceIte, effOk, touch, refsOf, List.flatMap_cons, List.flatMap_nil])))) | ((with_reducible apply i_S); (focus rfl); (focus (first | rfl | (simp only [push_cast, ↓reduceIte, effOk, touch, refsOf, List.flatMap_cons, List.flatMap_nil])))) | ((with_reducible apply i_Vq); (focus rfl); (focus rfl)) | ((with_reducible apply i_Vp); (focus rfl); (focus rfl); (focus rfl)) | (with_reducible first | apply i_Gb | apply i_cond)); (focus (simp (disch := (first | omega | (simp only [push_cast]; done) | (simp only [push_cast]; omega) | ((try simp only [push_cast]); (with_reducible first | apply sel_lt | apply sel_ge); (focus decide); (focus (simp only [push_cast]; omega))))) only [push_cast, ↓reduceIte, Nat.reduceEqDiff, Nat.reduceBEq, Nat.reduceAdd, Nat.reduceSub, Int.reduceToNat, *] <;> with_reducible exact rfl)); all_goals try (intro hX; first | (cases hX; done) | ((with_reducible first | have hX0 : true = true := hX | have hX0 : false = false := hX); clear hX0 hX) | ((try simp only [decide_eq_true_eq, decide_eq_false_iff_not, Bool.not_eq_true', Bool.not_eq_false'] at hX); (try have hXb := inB_iff.1 hX)))))); all_goals try (exfalso; omega)
          refine ⟨(f, p + 2, o2, x2, y2), ⟨hI.out, ol2, by dsimp only; omega, by dsimp only; omega, hxy2⟩, by dsimp only; omega, ?_, ?_, rfl⟩
          · (simp (disch := (first | omega | (simp only [push_cast]; done) | (simp only [push_cast]; omega) | ((try simp only [push_cast]); (with_reducible first | apply sel_lt | apply sel_ge); (focus decide); (focus (simp only [push_cast]; omega))))) only [push_cast, ↓reduceIte, Nat.reduceEqDiff, Nat.reduceBEq, Nat.reduceAdd, Nat.reduceSub, Int.reduceToNat, List.length_append, *]) <;> exact congrArg (fun z => PV.val (Value.int IntKind.i64 z)) (by omega)
          · simp (disch := (first | omega | (simp only [push_cast]; done) | (simp only [push_cast]; omega) | ((try simp only [push_cast]); (with_reducible first | apply sel_lt | apply sel_ge); (focus decide); (focus (simp only [push_cast]; omega))))) only [push_cast, ↓reduceIte, Nat.reduceEqDiff, Nat.reduceBEq, Nat.reduceAdd, Nat.reduceSub, Int.reduceToNat, List.length_append, *]
        · clear hgo
          (repeat' (first | (with_reducible first | apply i_seq | apply i_block | apply i_skip | apply i_exit | apply i_ret | apply i_kS | apply i_kSx | apply i_kSr | apply i_kL | apply i_kLx | apply i_kLr | apply i_kB | apply i_kBr | apply i_kBs | apply i_nil) | ((with_reducible apply i_region); (focus (simp only [List.map_cons, List.map_nil] <;> exact rfl))) | ((with_reducible apply i_draw); (focus (simp only [List.map_cons, List.map_nil] <;> exact rfl)); (focus (decide +kernel))) | ((with_reducible apply i_kBo); (focus rfl)) | ((first | ((with_reducible apply i_V); (focus rfl); (focus rfl); (focus rfl)) | ((with_reducible apply i_E); (focus rfl); (focus (first | rfl | (simp only [push_cast, ↓reduceIte, effOk, touch, refsOf, List.flatMap_cons, List.flatMap_nil])))) | ((with_reducible apply i_S); (focus rfl); (focus (first | rfl | (simp only [push_cast, ↓reduceIte, effOk, touch, refsOf, List.flatMap_cons, List.flatMap_nil])))) | ((with_reducible apply i_Vq); (focus rfl); (focus rfl)) | ((with_reducible apply i_Vp); (focus rfl); (focus rfl); (focus rfl)) | (with_reducible first | apply i_Gb | apply i_cond)); (focus (simp (disch := (first | omega | (simp only [push_cast]; done) | (simp only [push_cast]; omega) | ((try simp only [push_cast]); (with_reducible first | apply sel_lt | apply sel_ge); (focus decide); (focus (simp only [push_cast]; omega))))) only [push_cast, ↓reduceIte, Nat.reduceEqDiff, Nat.reduceBEq, Nat.reduceAdd, Nat.reduceSub, Int.reduceToNat, *] <;> with_reducible exact rfl)); all_goals try (intro hX; first | (cases hX; done) | ((with_reducible first | have hX0 : true = true := hX | have hX0 : false = false := hX); clear hX0 hX) | ((try simp only [decide_eq_true_eq, decide_eq_false_iff_not, Bool.not_eq_true', Bool.not_eq_false'] at hX); (try have hXb := inB_iff.1 hX)))))); all_goals try (exfalso; omega)
          refine ⟨(f, p + 2, o2, x2, y2), ⟨hI.out, ol2, by dsimp only; omega, by dsimp only; omega, hxy2⟩, by dsimp only; omega, ?_, ?_, rfl⟩
          · (simp (disch := (first | omega | (simp only [push_cast]; done) | (simp only [push_cast]; omega) | ((try simp only [push_cast]); (with_reducible first | apply sel_lt | apply sel_ge); (focus decide); (focus (simp only [push_cast]; omega))))) only [push_cast, ↓reduceIte, Nat.reduceEqDiff, Nat.reduceBEq, Nat.reduceAdd, Nat.reduceSub, Int.reduceToNat, List.length_append, *]) <;> exact congrArg (fun z => PV.val (Value.int IntKind.i64 z)) (by omega)
          · simp (disch := (first | omega | (simp only [push_cast]; done) | (simp only [push_cast]; omega) | ((try simp only [push_cast]); (with_reducible first | apply sel_lt | apply sel_ge); (focus decide); (focus (simp only [push_cast]; omega))))) only [push_cast, ↓reduceIte, Nat.reduceEqDiff, Nat.reduceBEq, Nat.reduceAdd, Nat.reduceSub, Int.reduceToNat, List.length_append, *]
  · have hT : out = T9 := by
      cases f with
      | zero => exact hI
      | succ f =>
        unfold rdS at hI
        rw [if_neg hgo] at hI
        exact hI
    subst hT
    clear hI hf
    have ap5 := φPagesV_ap (zs := out) (by omega)
    have ap6 := φPt_ap (l := out) (by omega)
    have hgn : i < s.size → ¬ out.length ≤ 30 := fun h1 h2 => hgo ⟨h1, h2⟩
    clear hgo
    by_cases hc : pagesB out = true ∧ pagesT out = s
    · obtain ⟨hc1, hc2⟩ := hc
      have hR := hsp.out
      rw [if_pos ⟨hc1, hc2⟩] at hR
      subst hR
      rw [hc1] at ap5
      rw [hc2] at ap6
      clear hc1 hc2 hsp
      by_cases hi9 : i < s.size
      · have hgn := hgn hi9
        (repeat' (first | (with_reducible first | apply i_seq | apply i_block | apply i_skip | apply i_exit | apply i_ret | apply i_kS | apply i_kSx | apply i_kSr | apply i_kL | apply i_kLx | apply i_kLr | apply i_kB | apply i_kBr | apply i_kBs | apply i_nil) | ((with_reducible apply i_region); (focus (simp only [List.map_cons, List.map_nil] <;> exact rfl))) | ((with_reducible apply i_draw); (focus (simp only [List.map_cons, List.map_nil] <;> exact rfl)); (focus (decide +kernel))) | ((with_reducible apply i_kBo); (focus rfl)) | ((first | ((with_reducible apply i_V); (focus rfl); (focus rfl); (focus rfl)) | ((with_reducible apply i_E); (focus rfl); (focus (first | rfl | (simp only [push_cast, ↓reduceIte, effOk, touch, refsOf, List.flatMap_cons, List.flatMap_nil])))) | ((with_reducible apply i_S); (focus rfl); (focus (first | rfl | (simp only [push_cast, ↓reduceIte, effOk, touch, refsOf, List.flatMap_cons, List.flatMap_nil])))) | ((with_reducible apply i_Vq); (focus rfl); (focus rfl)) | ((with_reducible apply i_Vp); (focus rfl); (focus rfl); (focus rfl)) | (with_reducible first | apply i_Gb | apply i_cond)); (focus (simp (disch := (first | omega | (simp only [push_cast]; done) | (simp only [push_cast]; omega) | ((try simp only [push_cast]); (with_reducible first | apply sel_lt | apply sel_ge); (focus decide); (focus (simp only [push_cast]; omega))))) only [push_cast, ↓reduceIte, Nat.reduceEqDiff, Nat.reduceBEq, Nat.reduceAdd, Nat.reduceSub, Int.reduceToNat, *] <;> with_reducible exact rfl)); all_goals try (intro hX; first | (cases hX; done) | ((with_reducible first | have hX0 : true = true := hX | have hX0 : false = false := hX); clear hX0 hX) | ((try simp only [decide_eq_true_eq, decide_eq_false_iff_not, Bool.not_eq_true', Bool.not_eq_false'] at hX); (try have hXb := inB_iff.1 hX)))))); all_goals try (exfalso; omega)
        all_goals ((first | apply i_end | apply i_endN); simp (disch := (first | omega | (simp only [push_cast]; done) | (simp only [push_cast]; omega) | ((try simp only [push_cast]); (with_reducible first | apply sel_lt | apply sel_ge); (focus decide); (focus (simp only [push_cast]; omega))))) only [push_cast, ↓reduceIte, Nat.reduceEqDiff, Nat.reduceBEq, Nat.reduceAdd, Nat.reduceSub, Int.reduceToNat, *])
      · clear hgn
        (repeat' (first | (with_reducible first | apply i_seq | apply i_block | apply i_skip | apply i_exit | apply i_ret | apply i_kS | apply i_kSx | apply i_kSr | apply i_kL | apply i_kLx | apply i_kLr | apply i_kB | apply i_kBr | apply i_kBs | apply i_nil) | ((with_reducible apply i_region); (focus (simp only [List.map_cons, List.map_nil] <;> exact rfl))) | ((with_reducible apply i_draw); (focus (simp only [List.map_cons, List.map_nil] <;> exact rfl)); (focus (decide +kernel))) | ((with_reducible apply i_kBo); (focus rfl)) | ((first | ((with_reducible apply i_V); (focus rfl); (focus rfl); (focus rfl)) | ((with_reducible apply i_E); (focus rfl); (focus (first | rfl | (simp only [push_cast, ↓reduceIte, effOk, touch, refsOf, List.flatMap_cons, List.flatMap_nil])))) | ((with_reducible apply i_S); (focus rfl); (focus (first | rfl | (simp only [push_cast, ↓reduceIte, effOk, touch, refsOf, List.flatMap_cons, List.flatMap_nil])))) | ((with_reducible apply i_Vq); (focus rfl); (focus rfl)) | ((with_reducible apply i_Vp); (focus rfl); (focus rfl); (focus rfl)) | (with_reducible first | apply i_Gb | apply i_cond)); (focus (simp (disch := (first | omega | (simp only [push_cast]; done) | (simp only [push_cast]; omega) | ((try simp only [push_cast]); (with_reducible first | apply sel_lt | apply sel_ge); (focus decide); (focus (simp only [push_cast]; omega))))) only [push_cast, ↓reduceIte, Nat.reduceEqDiff, Nat.reduceBEq, Nat.reduceAdd, Nat.reduceSub, Int.reduceToNat, *] <;> with_reducible exact rfl)); all_goals try (intro hX; first | (cases hX; done) | ((with_reducible first | have hX0 : true = true := hX | have hX0 : false = false := hX); clear hX0 hX) | ((try simp only [decide_eq_true_eq, decide_eq_false_iff_not, Bool.not_eq_true', Bool.not_eq_false'] at hX); (try have hXb := inB_iff.1 hX)))))); all_goals try (exfalso; omega)
        all_goals ((first | apply i_end | apply i_endN); simp (disch := (first | omega | (simp only [push_cast]; done) | (simp only [push_cast]; omega) | ((try simp only [push_cast]); (with_reducible first | apply sel_lt | apply sel_ge); (focus decide); (focus (simp only [push_cast]; omega))))) only [push_cast, ↓reduceIte, Nat.reduceEqDiff, Nat.reduceBEq, Nat.reduceAdd, Nat.reduceSub, Int.reduceToNat, *])
    · have hR := hsp.out
      rw [if_neg hc] at hR
      subst hR
      clear hsp
      cases hb : pagesB out with
      | false =>
        rw [hb] at ap5
        clear hc hb
        by_cases hi9 : i < s.size
        · have hgn := hgn hi9
          (repeat' (first | (with_reducible first | apply i_seq | apply i_block | apply i_skip | apply i_exit | apply i_ret | apply i_kS | apply i_kSx | apply i_kSr | apply i_kL | apply i_kLx | apply i_kLr | apply i_kB | apply i_kBr | apply i_kBs | apply i_nil) | ((with_reducible apply i_region); (focus (simp only [List.map_cons, List.map_nil] <;> exact rfl))) | ((with_reducible apply i_draw); (focus (simp only [List.map_cons, List.map_nil] <;> exact rfl)); (focus (decide +kernel))) | ((with_reducible apply i_kBo); (focus rfl)) | ((first | ((with_reducible apply i_V); (focus rfl); (focus rfl); (focus rfl)) | ((with_reducible apply i_E); (focus rfl); (focus (first | rfl | (simp only [push_cast, ↓reduceIte, effOk, touch, refsOf, List.flatMap_cons, List.flatMap_nil])))) | ((with_reducible apply i_S); (focus rfl); (focus (first | rfl | (simp only [push_cast, ↓reduceIte, effOk, touch, refsOf, List.flatMap_cons, List.flatMap_nil])))) | ((with_reducible apply i_Vq); (focus rfl); (focus rfl)) | ((with_reducible apply i_Vp); (focus rfl); (focus rfl); (focus rfl)) | (with_reducible first | apply i_Gb | apply i_cond)); (focus (simp (disch := (first | omega | (simp only [push_cast]; done) | (simp only [push_cast]; omega) | ((try simp only [push_cast]); (with_reducible first | apply sel_lt | apply sel_ge); (focus decide); (focus (simp only [push_cast]; omega))))) only [push_cast, ↓reduceIte, Nat.reduceEqDiff, Nat.reduceBEq, Nat.reduceAdd, Nat.reduceSub, Int.reduceToNat, *] <;> with_reducible exact rfl)); all_goals try (intro hX; first | (cases hX; done) | ((with_reducible first | have hX0 : true = true := hX | have hX0 : false = false := hX); clear hX0 hX) | ((try simp only [decide_eq_true_eq, decide_eq_false_iff_not, Bool.not_eq_true', Bool.not_eq_false'] at hX); (try have hXb := inB_iff.1 hX)))))); all_goals try (exfalso; omega)
          all_goals ((((first | apply i_end | apply i_endN); simp (disch := (first | omega | (simp only [push_cast]; done) | (simp only [push_cast]; omega) | ((try simp only [push_cast]); (with_reducible first | apply sel_lt | apply sel_ge); (focus decide); (focus (simp only [push_cast]; omega))))) only [push_cast, ↓reduceIte, Nat.reduceEqDiff, Nat.reduceBEq, Nat.reduceAdd, Nat.reduceSub, Int.reduceToNat, *])) <;> rfl)
        · clear hgn
          (repeat' (first | (with_reducible first | apply i_seq | apply i_block | apply i_skip | apply i_exit | apply i_ret | apply i_kS | apply i_kSx | apply i_kSr | apply i_kL | apply i_kLx | apply i_kLr | apply i_kB | apply i_kBr | apply i_kBs | apply i_nil) | ((with_reducible apply i_region); (focus (simp only [List.map_cons, List.map_nil] <;> exact rfl))) | ((with_reducible apply i_draw); (focus (simp only [List.map_cons, List.map_nil] <;> exact rfl)); (focus (decide +kernel))) | ((with_reducible apply i_kBo); (focus rfl)) | ((first | ((with_reducible apply i_V); (focus rfl); (focus rfl); (focus rfl)) | ((with_reducible apply i_E); (focus rfl); (focus (first | rfl | (simp only [push_cast, ↓reduceIte, effOk, touch, refsOf, List.flatMap_cons, List.flatMap_nil])))) | ((with_reducible apply i_S); (focus rfl); (focus (first | rfl | (simp only [push_cast, ↓reduceIte, effOk, touch, refsOf, List.flatMap_cons, List.flatMap_nil])))) | ((with_reducible apply i_Vq); (focus rfl); (focus rfl)) | ((with_reducible apply i_Vp); (focus rfl); (focus rfl); (focus rfl)) | (with_reducible first | apply i_Gb | apply i_cond)); (focus (simp (disch := (first | omega | (simp only [push_cast]; done) | (simp only [push_cast]; omega) | ((try simp only [push_cast]); (with_reducible first | apply sel_lt | apply sel_ge); (focus decide); (focus (simp only [push_cast]; omega))))) only [push_cast, ↓reduceIte, Nat.reduceEqDiff, Nat.reduceBEq, Nat.reduceAdd, Nat.reduceSub, Int.reduceToNat, *] <;> with_reducible exact rfl)); all_goals try (intro hX; first | (cases hX; done) | ((with_reducible first | have hX0 : true = true := hX | have hX0 : false = false := hX); clear hX0 hX) | ((try simp only [decide_eq_true_eq, decide_eq_false_iff_not, Bool.not_eq_true', Bool.not_eq_false'] at hX); (try have hXb := inB_iff.1 hX)))))); all_goals try (exfalso; omega)
          all_goals ((((first | apply i_end | apply i_endN); simp (disch := (first | omega | (simp only [push_cast]; done) | (simp only [push_cast]; omega) | ((try simp only [push_cast]); (with_reducible first | apply sel_lt | apply sel_ge); (focus decide); (focus (simp only [push_cast]; omega))))) only [push_cast, ↓reduceIte, Nat.reduceEqDiff, Nat.reduceBEq, Nat.reduceAdd, Nat.reduceSub, Int.reduceToNat, *])) <;> rfl)
      | true =>
        have hc2 : ¬ pagesT out = s := fun e => hc ⟨hb, e⟩
        rw [hb] at ap5
        clear hc hb
        generalize pagesT out = t9 at *
        by_cases hi9 : i < s.size
        · have hgn := hgn hi9
          (repeat' (first | (with_reducible first | apply i_seq | apply i_block | apply i_skip | apply i_exit | apply i_ret | apply i_kS | apply i_kSx | apply i_kSr | apply i_kL | apply i_kLx | apply i_kLr | apply i_kB | apply i_kBr | apply i_kBs | apply i_nil) | ((with_reducible apply i_region); (focus (simp only [List.map_cons, List.map_nil] <;> exact rfl))) | ((with_reducible apply i_draw); (focus (simp only [List.map_cons, List.map_nil] <;> exact rfl)); (focus (decide +kernel))) | ((with_reducible apply i_kBo); (focus rfl)) | ((first | ((with_reducible apply i_V); (focus rfl); (focus rfl); (focus rfl)) | ((with_reducible apply i_E); (focus rfl); (focus (first | rfl | (simp only [push_cast, ↓reduceIte, effOk, touch, refsOf, List.flatMap_cons, List.flatMap_nil])))) | ((with_reducible apply i_S); (focus rfl); (focus (first | rfl | (simp only [push_cast, ↓reduceIte, effOk, touch, refsOf, List.flatMap_cons, List.flatMap_nil])))) | ((with_reducible apply i_Vq); (focus rfl); (focus rfl)) | ((with_reducible apply i_Vp); (focus rfl); (focus rfl); (focus rfl)) | (with_reducible first | apply i_Gb | apply i_cond)); (focus (simp (disch := (first | omega | (simp only [push_cast]; done) | (simp only [push_cast]; omega) | ((try simp only [push_cast]); (with_reducible first | apply sel_lt | apply sel_ge); (focus decide); (focus (simp only [push_cast]; omega))))) only [push_cast, ↓reduceIte, Nat.reduceEqDiff, Nat.reduceBEq, Nat.reduceAdd, Nat.reduceSub, Int.reduceToNat, *] <;> with_reducible exact rfl)); all_goals try (intro hX; first | (cases hX; done) | ((with_reducible first | have hX0 : true = true := hX | have hX0 : false = false := hX); clear hX0 hX) | ((try simp only [decide_eq_true_eq, decide_eq_false_iff_not, Bool.not_eq_true', Bool.not_eq_false'] at hX); (try have hXb := inB_iff.1 hX)))))); all_goals try (exfalso; omega)
          all_goals ((((first | apply i_end | apply i_endN); simp (disch := (first | omega | (simp only [push_cast]; done) | (simp only [push_cast]; omega) | ((try simp only [push_cast]); (with_reducible first | apply sel_lt | apply sel_ge); (focus decide); (focus (simp only [push_cast]; omega))))) only [push_cast, ↓reduceIte, Nat.reduceEqDiff, Nat.reduceBEq, Nat.reduceAdd, Nat.reduceSub, Int.reduceToNat, *])) <;> rfl)
        · clear hgn
          (repeat' (first | (with_reducible first | apply i_seq | apply i_block | apply i_skip | apply i_exit | apply i_ret | apply i_kS | apply i_kSx | apply i_kSr | apply i_kL | apply i_kLx | apply i_kLr | apply i_kB | apply i_kBr | apply i_kBs | apply i_nil) | ((with_reducible apply i_region); (focus (simp only [List.map_cons, List.map_nil] <;> exact rfl))) | ((with_reducible apply i_draw); (focus (simp only [List.map_cons, List.map_nil] <;> exact rfl)); (focus (decide +kernel))) | ((with_reducible apply i_kBo); (focus rfl)) | ((first | ((with_reducible apply i_V); (focus rfl); (focus rfl); (focus rfl)) | ((with_reducible apply i_E); (focus rfl); (focus (first | rfl | (simp only [push_cast, ↓reduceIte, effOk, touch, refsOf, List.flatMap_cons, List.flatMap_nil])))) | ((with_reducible apply i_S); (focus rfl); (focus (first | rfl | (simp only [push_cast, ↓reduceIte, effOk, touch, refsOf, List.flatMap_cons, List.flatMap_nil])))) | ((with_reducible apply i_Vq); (focus rfl); (focus rfl)) | ((with_reducible apply i_Vp); (focus rfl); (focus rfl); (focus rfl)) | (with_reducible first | apply i_Gb | apply i_cond)); (focus (simp (disch := (first | omega | (simp only [push_cast]; done) | (simp only [push_cast]; omega) | ((try simp only [push_cast]); (with_reducible first | apply sel_lt | apply sel_ge); (focus decide); (focus (simp only [push_cast]; omega))))) only [push_cast, ↓reduceIte, Nat.reduceEqDiff, Nat.reduceBEq, Nat.reduceAdd, Nat.reduceSub, Int.reduceToNat, *] <;> with_reducible exact rfl)); all_goals try (intro hX; first | (cases hX; done) | ((with_reducible first | have hX0 : true = true := hX | have hX0 : false = false := hX); clear hX0 hX) | ((try simp only [decide_eq_true_eq, decide_eq_false_iff_not, Bool.not_eq_true', Bool.not_eq_false'] at hX); (try have hXb := inB_iff.1 hX)))))); all_goals try (exfalso; omega)
          all_goals ((((first | apply i_end | apply i_endN); simp (disch := (first | omega | (simp only [push_cast]; done) | (simp only [push_cast]; omega) | ((try simp only [push_cast]); (with_reducible first | apply sel_lt | apply sel_ge); (focus decide); (focus (simp only [push_cast]; omega))))) only [push_cast, ↓reduceIte, Nat.reduceEqDiff, Nat.reduceBEq, Nat.reduceAdd, Nat.reduceSub, Int.reduceToNat, *])) <;> rfl)
end Go.Proofs.YtpggpdbipajchaaDoor
namespace Go.Proofs.YtpggpdbipajchaaDoor
open Go.RowKit
set_option linter.all false
def φEqRn : Fun := nilF 1 φEqI
def φHeldRn : Fun := nilF 1 φHeldI
theorem φEqRn_ap {a b : List Int} (h : a.length ≤ 1048576) (h2 : b.length ≤ 1048576) : φEqRn [.lst false 1 (a.map fun n => .val (.int .i64 n)), .lst false 1 (b.map fun n => .val (.int .i64 n))] = some (.val (.bool (decide (a = b)))) := φEqI_ap h h2
theorem φEqRn_nil : φEqRn [.val (.slice none 0 0), .lst false 1 []] = some (.val (.bool true)) := φEqI_ap (a := []) (b := []) (by simp) (by simp)
theorem φHeldRn_ap {k : Int} {n : Nat} (hn : n ≤ 1048576) (hk : 0 < k) (hk2 : k ≤ 1099511627776) : φHeldRn [.lst false 1 ((marksI k n).map fun n => .val (.int .i64 n)), .val (.int .i64 k)] = some (.val (.int .i64 (k + n))) := φHeldI_ap hn hk hk2
theorem φHeldRn_nil : φHeldRn [.val (.slice none 0 0), .val (.int .i64 1)] = some (.val (.int .i64 1)) := φHeldI_ap (k := 1) (n := 0) (by simp) (by simp) (by simp)
theorem ΨRdp_ap {s : ByteArray} (h : s.size ≤ 1048576) : ΨRdp [.val (.string s)] = some (rdZ s) := (G1_ap (A := dS) s).trans (if_pos h)
theorem renT_rowtup (cs : List CellIO) (n : Nat) : renT (cs.length + ·) fuel (.tup [.row 0 1 0 n, .val (.bool true)]) = some (.tup [.row cs.length 1 0 n, .val (.bool true)]) := by
  generalize cs.length = m
  rfl
theorem rd_lift {s : ByteArray} (h : s.size ≤ 1048576) (h0 : 0 < (resR s).length) (cs : List CellIO) : liftN ΨRdp [.val (.string s)] cs = some (.tup [.row cs.length 1 0 (resR s).length, .val (.bool true)], cs ++ [(3, 1, (resR s).map fun n => .val (.int .i64 n))]) ∧ (readR s).isSome = true := by
  unfold resR at h0 ⊢
  cases hR : readR s with
  | none => rw [hR] at h0; simp at h0
  | some P =>
    rw [hR] at h0
    simp only [Option.getD_some] at h0
    have hp : 0 < (P.map fun n => PV.val (.int .i64 n)).length := by simpa using h0
    refine ⟨liftN_of (cs := cs) (qs := [.val (.string s)]) (cs1 := [(3, 1, P.map fun n => .val (.int .i64 n))]) (r := .tup [.row 0 1 0 P.length, .val (.bool true)]) (cs0 := [(3, 1, P.map fun n => .val (.int .i64 n))]) (by rw [mapM_cons', reify_val, Option.bind_some, mapM_nil']; rfl) ((ΨRdp_ap h).trans (by unfold rdZ; rw [hR]; dsimp only; rw [nP_pos hp, nC_pos hp, List.length_map])) ?_ ?_, rfl⟩
    · exact renT_rowtup cs P.length
    · rw [mapM_cons', mapM_nil', renCT_vals]; rfl
theorem rd_lift0 {s : ByteArray} (h : s.size ≤ 1048576) (h0 : resR s = []) : liftN ΨRdp [.val (.string s)] [] = some (.tup [.val (.slice none 0 0), .val (.bool (readR s).isSome)], []) := by
  unfold resR at h0
  refine liftN_of (cs := []) (qs := [.val (.string s)]) (cs1 := []) (r := .tup [.val (.slice none 0 0), .val (.bool (readR s).isSome)]) (cs0 := []) (by rw [mapM_cons', reify_val, Option.bind_some, mapM_nil']; rfl) ((ΨRdp_ap h).trans ?_) rfl rfl
  unfold rdZ
  cases hR : readR s with
  | none => rfl
  | some P =>
    rw [hR] at h0
    have h1 : P = [] := h0
    subst h1
    rfl
theorem resR_len (s : ByteArray) : (resR s).length ≤ 30 := by
  unfold resR
  cases hR : readR s with
  | none => simp
  | some P => exact pages_len (readR_some hR).1
noncomputable def φLawRdE : Fun := F1 dS fun s => if s.size ≤ 9223372036854775807 then some (bv true) else none
noncomputable def GRdE : Ctx := ⟨fun f => if f = 33 then some φSRd else if f = 28 then some φEqRn else if f = 35 then some φHeldRn else none, fun f => if f = 31 then some (liftN ΨRdp) else if f = 34 then some ΦmarkI else none⟩
theorem GRdE_ok : SoundΓ Tryd.prog GRdE := ⟨(fun f φ h => by
  unfold GRdE at h
  dsimp only at h
  split at h
  · rename_i hf; cases h; subst hf; exact ⟨⟨_, Tryd.func33, rfl, rfl⟩, specRd_ok⟩
  split at h
  · rename_i hf; cases h; subst hf; exact ⟨⟨_, Tryd.func28, rfl, rfl⟩, (eqIntS_ok.nil 1)⟩
  split at h
  · rename_i hf; cases h; subst hf; exact ⟨⟨_, Tryd.func35, rfl, rfl⟩, (heldIntS_ok.nil 1)⟩
  cases h), (fun f φ h => by
  unfold GRdE at h
  dsimp only at h
  split at h
  · rename_i hf; cases h; subst hf; exact ⟨⟨_, Tryd.func31, rfl, rfl⟩, implRdN.lift⟩
  split at h
  · rename_i hf; cases h; subst hf; exact ⟨⟨_, Tryd.func34, rfl, rfl⟩, markI_io⟩
  cases h)⟩
theorem GRdE_33 (ob : Objs) (ps : List PV) : evCall GRdE ob 33 ps = (ps.mapM (reify false 0 ob fuel)).bind φSRd := by
  have h : GRdE.fn 33 = some φSRd := by simp [GRdE]
  unfold evCall
  rw [h]
  cases ps.mapM (reify false 0 ob fuel) <;> rfl
theorem GRdE_28 (ob : Objs) (ps : List PV) : evCall GRdE ob 28 ps = (ps.mapM (reify false 0 ob fuel)).bind φEqRn := by
  have h : GRdE.fn 28 = some φEqRn := by simp [GRdE]
  unfold evCall
  rw [h]
  cases ps.mapM (reify false 0 ob fuel) <;> rfl
theorem GRdE_35 (ob : Objs) (ps : List PV) : evCall GRdE ob 35 ps = (ps.mapM (reify false 0 ob fuel)).bind φHeldRn := by
  have h : GRdE.fn 35 = some φHeldRn := by simp [GRdE]
  unfold evCall
  rw [h]
  cases ps.mapM (reify false 0 ob fuel) <;> rfl
theorem GRdE_31 : GRdE.io 31 = some (liftN ΨRdp) := by simp [GRdE]
theorem GRdE_34 : GRdE.io 34 = some ΦmarkI := by simp [GRdE]
set_option maxHeartbeats 16000000 in
theorem lawRdE_ok : Sound Tryd.prog 7 φLawRdE := by
  refine sound_pq mixed GRdE_ok Tryd.func7 rfl 66 rfl [.tmp 2] rfl (by kernel_rfl) fun ps r hr => ?_
  obtain ⟨s, rfl, hq⟩ := F1_some hr
  clear hr
  split at hq
  case isFalse => cases hq
  case isTrue hpre =>
  cases hq
  refine ⟨by simp, ?_⟩
  simp only [dIs, dUs, dSs, dI_e, dU_e, dB_e, dS_e, dFn_e, dL_e, dA2_e, dA3_e, dA4_e, dA5_e]
  by_cases hbig : s.size ≤ 1048576
  · have ap1 := φSRd_ap hbig
    have hrl := resR_len s
    by_cases h0 : (resR s).length = 0
    · have e0 : resR s = [] := List.eq_nil_of_length_eq_zero h0
      have ap4 := rd_lift0 hbig e0
      rw [e0] at ap1
      have ap7 := markI_mk.2 1
      have ap8 := φEqRn_nil
      have ap9 := φHeldRn_nil
      clear hrl h0 e0
      generalize (readR s).isSome = b at *
      have grde_c33 := GRdE_33; have grde_c31 := GRdE_31; have grde_c28 := GRdE_28; have grde_c34 := GRdE_34; have grde_c35 := GRdE_35
      (repeat' (first | (with_reducible first | apply i_seq | apply i_block | apply i_skip | apply i_exit | apply i_ret | apply i_kS | apply i_kSx | apply i_kSr | apply i_kL | apply i_kLx | apply i_kLr | apply i_kB | apply i_kBr | apply i_kBs | apply i_nil) | ((with_reducible apply i_region); (focus (simp only [List.map_cons, List.map_nil] <;> exact rfl))) | ((with_reducible apply i_draw); (focus (simp only [List.map_cons, List.map_nil] <;> exact rfl)); (focus (decide +kernel))) | ((with_reducible apply i_kBo); (focus rfl)) | ((first | ((with_reducible apply i_V); (focus rfl); (focus rfl); (focus rfl)) | ((with_reducible apply i_E); (focus rfl); (focus (first | rfl | (simp only [push_cast, ↓reduceIte, effOk, touch, refsOf, List.flatMap_cons, List.flatMap_nil])))) | ((with_reducible apply i_S); (focus rfl); (focus (first | rfl | (simp only [push_cast, ↓reduceIte, effOk, touch, refsOf, List.flatMap_cons, List.flatMap_nil])))) | ((with_reducible apply i_Vq); (focus rfl); (focus rfl)) | ((with_reducible apply i_Vp); (focus rfl); (focus rfl); (focus rfl)) | (with_reducible first | apply i_Gb | apply i_cond)); (focus (simp (disch := (first | omega | (simp only [push_cast]; done) | (simp only [push_cast]; omega) | ((try simp only [push_cast]); (with_reducible first | apply sel_lt | apply sel_ge); (focus decide); (focus (simp only [push_cast]; omega))))) only [push_cast, ↓reduceIte, Nat.reduceEqDiff, Nat.reduceBEq, Nat.reduceAdd, Nat.reduceSub, Int.reduceToNat, *] <;> with_reducible exact rfl)); all_goals try (intro hX; first | (cases hX; done) | ((with_reducible first | have hX0 : true = true := hX | have hX0 : false = false := hX); clear hX0 hX) | ((try simp only [decide_eq_true_eq, decide_eq_false_iff_not, Bool.not_eq_true', Bool.not_eq_false'] at hX); (try have hXb := inB_iff.1 hX)))))); all_goals try (exfalso; omega)
      all_goals all_goals (first | (exfalso; omega) | ((first | apply i_end | apply i_endN); simp (disch := (first | omega | (simp only [push_cast]; done) | (simp only [push_cast]; omega) | ((try simp only [push_cast]); (with_reducible first | apply sel_lt | apply sel_ge); (focus decide); (focus (simp only [push_cast]; omega))))) only [push_cast, ↓reduceIte, Nat.reduceEqDiff, Nat.reduceBEq, Nat.reduceAdd, Nat.reduceSub, Int.reduceToNat, *]) | skip)
    · have ap4 := (rd_lift hbig (by omega) []).1
      have ap5 := fun e => (rd_lift hbig (by omega) [e]).1
      rw [(rd_lift hbig (by omega) []).2] at ap1
      have ap7 := markI_mk.1 (resR s) 1 (by omega) (by omega) (by omega)
      have ap8 := φEqRn_ap (a := resR s) (b := resR s) (by omega) (by omega)
      have ap9 := φHeldRn_ap (k := 1) (n := (resR s).length) (by omega) (by omega) (by omega)
      generalize resR s = x at *
      have hml := marksI_length 1 x.length
      have grde_c33 := GRdE_33; have grde_c31 := GRdE_31; have grde_c28 := GRdE_28; have grde_c34 := GRdE_34; have grde_c35 := GRdE_35
      (repeat' (first | (with_reducible first | apply i_seq | apply i_block | apply i_skip | apply i_exit | apply i_ret | apply i_kS | apply i_kSx | apply i_kSr | apply i_kL | apply i_kLx | apply i_kLr | apply i_kB | apply i_kBr | apply i_kBs | apply i_nil) | ((with_reducible apply i_region); (focus (simp only [List.map_cons, List.map_nil] <;> exact rfl))) | ((with_reducible apply i_draw); (focus (simp only [List.map_cons, List.map_nil] <;> exact rfl)); (focus (decide +kernel))) | ((with_reducible apply i_kBo); (focus rfl)) | ((first | ((with_reducible apply i_V); (focus rfl); (focus rfl); (focus rfl)) | ((with_reducible apply i_E); (focus rfl); (focus (first | rfl | (simp only [push_cast, ↓reduceIte, effOk, touch, refsOf, List.flatMap_cons, List.flatMap_nil])))) | ((with_reducible apply i_S); (focus rfl); (focus (first | rfl | (simp only [push_cast, ↓reduceIte, effOk, touch, refsOf, List.flatMap_cons, List.flatMap_nil])))) | ((with_reducible apply i_Vq); (focus rfl); (focus rfl)) | ((with_reducible apply i_Vp); (focus rfl); (focus rfl); (focus rfl)) | (with_reducible first | apply i_Gb | apply i_cond)); (focus (simp (disch := (first | omega | (simp only [push_cast]; done) | (simp only [push_cast]; omega) | ((try simp only [push_cast]); (with_reducible first | apply sel_lt | apply sel_ge); (focus decide); (focus (simp only [push_cast]; omega))))) only [push_cast, ↓reduceIte, Nat.reduceEqDiff, Nat.reduceBEq, Nat.reduceAdd, Nat.reduceSub, Int.reduceToNat, *] <;> with_reducible exact rfl)); all_goals try (intro hX; first | (cases hX; done) | ((with_reducible first | have hX0 : true = true := hX | have hX0 : false = false := hX); clear hX0 hX) | ((try simp only [decide_eq_true_eq, decide_eq_false_iff_not, Bool.not_eq_true', Bool.not_eq_false'] at hX); (try have hXb := inB_iff.1 hX)))))); all_goals try (exfalso; omega)
      all_goals all_goals (first | (exfalso; omega) | ((first | apply i_end | apply i_endN); simp (disch := (first | omega | (simp only [push_cast]; done) | (simp only [push_cast]; omega) | ((try simp only [push_cast]); (with_reducible first | apply sel_lt | apply sel_ge); (focus decide); (focus (simp only [push_cast]; omega))))) only [push_cast, ↓reduceIte, Nat.reduceEqDiff, Nat.reduceBEq, Nat.reduceAdd, Nat.reduceSub, Int.reduceToNat, *]) | skip)
  · have grde_c33 := GRdE_33; have grde_c31 := GRdE_31; have grde_c28 := GRdE_28; have grde_c34 := GRdE_34; have grde_c35 := GRdE_35
    (repeat' (first | (with_reducible first | apply i_seq | apply i_block | apply i_skip | apply i_exit | apply i_ret | apply i_kS | apply i_kSx | apply i_kSr | apply i_kL | apply i_kLx | apply i_kLr | apply i_kB | apply i_kBr | apply i_kBs | apply i_nil) | ((with_reducible apply i_region); (focus (simp only [List.map_cons, List.map_nil] <;> exact rfl))) | ((with_reducible apply i_draw); (focus (simp only [List.map_cons, List.map_nil] <;> exact rfl)); (focus (decide +kernel))) | ((with_reducible apply i_kBo); (focus rfl)) | ((first | ((with_reducible apply i_V); (focus rfl); (focus rfl); (focus rfl)) | ((with_reducible apply i_E); (focus rfl); (focus (first | rfl | (simp only [push_cast, ↓reduceIte, effOk, touch, refsOf, List.flatMap_cons, List.flatMap_nil])))) | ((with_reducible apply i_S); (focus rfl); (focus (first | rfl | (simp only [push_cast, ↓reduceIte, effOk, touch, refsOf, List.flatMap_cons, List.flatMap_nil])))) | ((with_reducible apply i_Vq); (focus rfl); (focus rfl)) | ((with_reducible apply i_Vp); (focus rfl); (focus rfl); (focus rfl)) | (with_reducible first | apply i_Gb | apply i_cond)); (focus (simp (disch := (first | omega | (simp only [push_cast]; done) | (simp only [push_cast]; omega) | ((try simp only [push_cast]); (with_reducible first | apply sel_lt | apply sel_ge); (focus decide); (focus (simp only [push_cast]; omega))))) only [push_cast, ↓reduceIte, Nat.reduceEqDiff, Nat.reduceBEq, Nat.reduceAdd, Nat.reduceSub, Int.reduceToNat, *] <;> with_reducible exact rfl)); all_goals try (intro hX; first | (cases hX; done) | ((with_reducible first | have hX0 : true = true := hX | have hX0 : false = false := hX); clear hX0 hX) | ((try simp only [decide_eq_true_eq, decide_eq_false_iff_not, Bool.not_eq_true', Bool.not_eq_false'] at hX); (try have hXb := inB_iff.1 hX)))))); all_goals try (exfalso; omega)
    all_goals all_goals (first | (exfalso; omega) | ((first | apply i_end | apply i_endN); simp (disch := (first | omega | (simp only [push_cast]; done) | (simp only [push_cast]; omega) | ((try simp only [push_cast]); (with_reducible first | apply sel_lt | apply sel_ge); (focus decide); (focus (simp only [push_cast]; omega))))) only [push_cast, ↓reduceIte, Nat.reduceEqDiff, Nat.reduceBEq, Nat.reduceAdd, Nat.reduceSub, Int.reduceToNat, *]) | skip)
end Go.Proofs.YtpggpdbipajchaaDoor
namespace Go.Proofs.YtpggpdbipajchaaDoor
open Go.ChangeShapes Go.WideShapes Go.ChangeAt Go.RowKit
open Go.ChangeMaps (open_string shut_string)
set_option linter.all false
theorem own : ownKnob Tryd.prog.godebug = none := by kernel_rfl
theorem laidOut : laidOutB Tryd.prog = true := by kernel_rfl
theorem tab_of {P : Program} {W : World} {name : String} {k : IntKind} {zs : List Int} {g : Nat} (hg : P.globalNamed name = some g) (h : Lib.TabIs P W name k zs) : ∃ T k', W.heap[g]? = some (.cells ((zs.map fun z => Value.int k z).toArray) T k') := by
  unfold Lib.TabIs World.var? at h
  rw [hg, Option.bind_some] at h
  split at h
  · rename_i cs T k' hc
    cases h
    exact ⟨_, _, hc⟩
  · cases h
theorem laid_tail {P : Program} {x : String × DataW Unit} {r : List (String × DataW Unit)} {w : World} (h : laidMet P (x :: r) w) : laidMet P r w := by
  obtain ⟨ps, hv, hnd, hc⟩ := h
  obtain ⟨g, t, cs, fuel, p, q, h1, h2, h3, h4, h5, rfl⟩ := hv
  exact ⟨q, h5, (List.nodup_append.1 hnd).2.1, fun b off hm => hc b off (List.mem_append_right _ hm)⟩
abbrev gW (W : World) : Gh := argG fun b => b < W.heap.size
section
variable {H : Type} {enc : TypeId × Value → H} {P : Program} {W : World} {base : Nat} {α β γ δ ε : Type}
def OpC (enc : TypeId × Value → H) (P : Program) (W : World) (base : Nat) (t : TypeId) (A : Dec α) (ok : α → Prop) : Prop :=
  ∀ fuel cs x, DataW.trod enc P W base (fun _ => true) true fuel t cs = some x → ∃ a v, ok a ∧ Rep (gW W) W (A.e a) v ∧ v.cells.toList = cs ∧ v.cells.all (·.oneCell') = true
theorem opS {t : TypeId} (ht : P.underlying t = some .string) : OpC enc P W base t dS okS := fun fuel cs x h => by
  obtain ⟨s, rfl, _, hs⟩ := DataW.trod_string ht h
  exact ⟨s, .string s, hs, rfl, rfl, by simp [Value.cells, Value.oneCell']⟩
theorem opF {t : TypeId} {A : Dec α} {ok : α → Prop} {n : Nat} {cs : List Value} {y : DataW H × List MemPlace} (hA : OpC enc P W base t A ok) (h1 : ∀ a, oneP (A.e a) = true)
    (h : DataW.trod enc P W base (fun _ => true) true n t cs = some y) : ∃ a v, ok a ∧ Rep (gW W) W (A.e a) v ∧ v.oneCell' = true ∧ cs = [v] := by
  obtain ⟨a, v, h3, h4, h5, h6⟩ := hA _ _ _ h
  have := oneP_rep h4 (h1 a)
  exact ⟨a, v, h3, h4, this, by rw [← h5, oneCell_cells this]⟩
theorem op1 {t : TypeId} {A : Dec α} {ok : α → Prop} {v : Value} {d : DataW H} {p : List MemPlace} (hA : OpC enc P W base t A ok) (h1 : ∀ a, oneP (A.e a) = true) (hv : v.cells = #[v])
    (h : DataW.Trod enc P W base (fun _ => true) true t v d p) : ∃ a, ok a ∧ Rep (gW W) W (A.e a) v := by
  obtain ⟨fuel, hf⟩ := h
  obtain ⟨a, u, h3, h4, h5, h6⟩ := opF hA h1 hf
  rw [hv] at h6
  have : v = u := by simpa using h6
  subst this
  exact ⟨a, h3, h4⟩
theorem walk_of {f : Nat} {φ : Fun} {ps : List PV} {args : Array Value} (h : Sound P f φ) (hT : TabF W fun _ => False) (ha : φ ps = some (bv true)) (hr : RepL (gW W) W ps args.toList) :
    Calls P f args W fun e w' => e = .returned (.bool true) ∧ Below W.heap.size W w' := by
  refine (h W (fun b => b < W.heap.size) ps args _ ha (fun b hb => hb) hT hr).mono ?_
  rintro e w' ⟨v, rfl, hb, hv⟩
  have := hv { I := fun _ _ => True, β := fun _ => 0, κ := fun _ => 0, nx := 0 } fun b _ _ => trivial
  have hv2 : v = .bool true := this
  subst hv2
  exact ⟨rfl, hb⟩
end
theorem err_of_head {P : Program} {W : World} {name nm : String} {d : DataW Unit} {rest : List (String × DataW Unit)} {g : Nat} {t : TypeId} {ms : Array (String × TypeId)}
    (hg : P.globalNamed name = some g) (hty : (P.globals[g]?).map (·.type) = some t) (hi : P.underlying t = some (.interface ms)) (h : laidMet P ((name, .iface nm d) :: rest) W) : ∃ u v, W.cell? ⟨g, 0, none⟩ = some (.iface u v) := by
  obtain ⟨ps, ⟨g', t', cs, fuel, p, q, hg', ht', hvar, hd, _, _⟩, _⟩ := h
  obtain rfl := Option.some.inj (hg.symm.trans hg')
  obtain rfl := Option.some.inj (hty.symm.trans ht')
  obtain ⟨_, u, v, hcs, _, _⟩ := iface_of_trod hi hd
  obtain rfl : cs = #[Value.iface u v] := Array.toList_inj.1 hcs
  have := World.var?_cell hg hvar 0
  exact ⟨u, v, by simpa using this⟩
theorem returns_and_shaped {H : Type} {enc : TypeId × Value → H} {a : Assume} {C : Checked} {os : Os} {f : FuncId} {fn : Func} {s : ChangeSpec} {conds : List PathCond} {apart fresh handsOn again : Bool} {X : World → Array Value → Prop}
    (hX : ∀ (w w' : World) (args : Array Value), w.heap = w'.heap → X w args → X w' args)
    (own : ownKnob C.prog.godebug = none) (started : os.Started) (noInit : C.prog.inits.idxOf? f = none) (hfn : C.prog.funcs[f]? = some fn)
    (witness : ∃ (w : World) (tape : Tape) (i : Input), w.os = os ∧ (w.forCall tape i).Shaped C.prog ∧ i.vars = [] ∧ Input.okWide C.prog (w.forCall tape i) .any w.heap.size f i ∧
      ((s.pre enc C.prog fn conds apart (w.forCall tape i).memory i.args ∧ X (w.forCall tape i).memory i.args) ∧ sizedMet enc C.prog fn (OpenSpec.ofChange s) apart (w.forCall tape i).memory i.args) ∧ a.holds C.prog (lone (Frame.enter C.prog f i.args .normal) [] (w.forCall tape i)))
    (contract : ∀ (W : World) (base : Nat) (args : Array Value) (ds gs : List (DataW H)) (before : List MemPlace),
      (∀ (j : Nat) t v, fn.params[j]? = some t → args[j]? = some v → Value.okWide C.prog W .any base t v) →
      DataW.Whole enc C.prog fn.params.toList s.vars apart W args.toList ds gs before →
      conds.all (PathCond.test C.prog ⟨fn.params.toList, ds, s.plain.varTypes C.prog, gs⟩) = true →
      (DataW.weightsEach C.prog (fn.params.toList ++ s.plain.varTypes C.prog) (ds ++ gs)).all (· ≤ reachBytes) = true → X W args → W.ShapedOpen C.prog →
      a.holds C.prog (lone (Frame.enter C.prog f args .normal) [] W) →
      Calls C.prog f args W fun e W' => ∃ v, e = .returned v ∧ s.post enc C.prog fn apart fresh handsOn again W args v W') :
    ReturnsInHanded a C os f .any (fun w args => (s.pre enc C.prog fn conds apart w args ∧ X w args) ∧ sizedMet enc C.prog fn (OpenSpec.ofChange s) apart w args) (s.post enc C.prog fn apart fresh handsOn again) := by
  refine returnsInHanded_of_calls own started noInit witness ?_
  intro w tape i _ hsh _ hok hpre hholds
  obtain ⟨_, _, _, fn', hfn', _, _, _, _, hval⟩ := hok
  have e : fn' = fn := Option.some.inj (hfn'.symm.trans hfn)
  subst e
  obtain ⟨⟨⟨ds, gs, before, hw, hc⟩, hx⟩, hz⟩ := hpre
  have hw' := DataW.Whole.of_heap (w' := w.forCall tape i) (by rfl) hw
  refine (contract (w.forCall tape i) w.heap.size i.args ds gs before hval hw' hc (hz.weights hw) (hX _ _ _ (by rfl) hx) hsh hholds).mono fun e W' ⟨v, he, hp⟩ => ?_
  subst he
  exact ChangeSpec.post_blind hp
end Go.Proofs.YtpggpdbipajchaaDoor
