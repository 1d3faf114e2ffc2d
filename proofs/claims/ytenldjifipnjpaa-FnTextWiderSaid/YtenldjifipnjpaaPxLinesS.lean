/- TextLines, of the reference. -/
import Derived.Test.YtenldjifipnjpaaPxLines
namespace Go.Proofs.Ytenldjifipnjpaa
open Go.RowKit
set_option linter.all false
theorem allWords_sub {l l' : LS} (h : allWords l = true) (hs : ∀ x ∈ l', x ∈ l) (hl : l'.length ≤ l.length) : allWords l' = true := by
  unfold allWords at h ⊢
  simp only [Bool.and_eq_true, decide_eq_true_eq, List.all_eq_true] at h ⊢
  exact ⟨by omega, fun x hx => h.2 x (hs x hx)⟩
theorem gapsB_fits {l : LS} {wd : Int} {a n : Nat} (hw : allWords l = true) (hwd : inB wd 1 60 = true) (h : a + n < l.length) : gapsB ((l.drop a).take (n + 1)) wd = fits (l.drop a) wd n := by
  have h1 : allWords ((l.drop a).take (n + 1)) = true := allWords_sub hw (fun x hx => List.mem_of_mem_drop (List.mem_of_mem_take hx)) (by simp only [List.length_take, List.length_drop]; omega)
  have h2 : ¬ ((l.drop a).take (n + 1)).length = 0 := by simp only [List.length_take, List.length_drop]; omega
  unfold gapsB fits
  rw [h1, hwd, decide_eq_false h2]
  simp
theorem join_snoc {l : LS} (h : 0 < l.length) (z : ByteArray) : joinB (l ++ [z]) spB = (joinB l spB ++ ⟨#[32]⟩) ++ z := by
  cases l with
  | nil => simp at h
  | cons x r =>
    refine ba_ext ?_
    rw [ba_app, ba_app]
    show Lib.join ((x :: (r ++ [z])).map (·.data.toList)) [32] = Lib.join ((x :: r).map (·.data.toList)) [32] ++ [32] ++ z.data.toList
    rw [List.map_cons, List.map_cons, Lib.join_cons, Lib.join_cons]
    simp [Lib.joinTail]
theorem join_take1 {l : LS} (h : 0 < l.length) : joinB (l.take 1) spB = l[0]?.getD .empty := by
  cases l with
  | nil => simp at h
  | cons x r =>
    refine ba_ext ?_
    show Lib.join [x.data.toList] [32] = x.data.toList
    rw [Lib.join_one]
theorem join_take_succ {l : LS} {k : Nat} (h0 : 0 < k) (h : k < l.length) : joinB (l.take (k + 1)) spB = (joinB (l.take k) spB ++ ⟨#[32]⟩) ++ (l[k]?.getD .empty) := by
  rw [← List.take_append_getElem h, join_snoc (by simp only [List.length_take]; omega), List.getElem?_eq_getElem h]
  rfl
noncomputable def φTL : Fun := F2 dSs dI fun l wd => if okSs l then some (.tup [.lst true 1 (((tlR l wd).getD []).map fun s => .val (.string s)), .val (.bool (tlR l wd).isSome)]) else none
theorem φTL_ap {l : LS} {wd : Int} (h : okSs l) : φTL [.lst false 1 (l.map fun s => .val (.string s)), .val (.int .i64 wd)] = some (.tup [.lst true 1 (((tlR l wd).getD []).map fun s => .val (.string s)), .val (.bool (tlR l wd).isSome)]) :=
  (F2_ap (A := dSs) (B := dI) l wd).trans (if_pos h)
noncomputable def GSTL : Ctx := ⟨fun f => if f = 35 then some φWords else if f = 24 then some φIn else if f = 30 then some φGaps else if f = 13 then some φJust else none, fun f => none⟩
theorem GSTL_ok : SoundΓ Try.prog GSTL := ⟨(fun f φ h => by
  unfold GSTL at h
  dsimp only at h
  split at h
  · rename_i hf; cases h; subst hf; exact ⟨⟨_, Try.func35, rfl, rfl⟩, specWordsValid_ok⟩
  split at h
  · rename_i hf; cases h; subst hf; exact ⟨⟨_, Try.func24, rfl, rfl⟩, l1In_ok⟩
  split at h
  · rename_i hf; cases h; subst hf; exact ⟨⟨_, Try.func30, rfl, rfl⟩, specTextGaps_ok⟩
  split at h
  · rename_i hf; cases h; subst hf; exact ⟨⟨_, Try.func13, rfl, rfl⟩, specJust_ok⟩
  cases h), (fun f φ h => by
  unfold GSTL at h
  dsimp only at h
  cases h)⟩
theorem GSTL_35 (ob : Objs) (ps : List PV) : evCall GSTL ob 35 ps = (ps.mapM (reify false 0 ob fuel)).bind φWords := by
  have h : GSTL.fn 35 = some φWords := by simp [GSTL]
  unfold evCall
  rw [h]
  cases ps.mapM (reify false 0 ob fuel) <;> rfl
theorem GSTL_24 (ob : Objs) (ps : List PV) : evCall GSTL ob 24 ps = (ps.mapM (reify false 0 ob fuel)).bind φIn := by
  have h : GSTL.fn 24 = some φIn := by simp [GSTL]
  unfold evCall
  rw [h]
  cases ps.mapM (reify false 0 ob fuel) <;> rfl
theorem GSTL_30 (ob : Objs) (ps : List PV) : evCall GSTL ob 30 ps = (ps.mapM (reify false 0 ob fuel)).bind φGaps := by
  have h : GSTL.fn 30 = some φGaps := by simp [GSTL]
  unfold evCall
  rw [h]
  cases ps.mapM (reify false 0 ob fuel) <;> rfl
theorem GSTL_13 (ob : Objs) (ps : List PV) : evCall GSTL ob 13 ps = (ps.mapM (reify false 0 ob fuel)).bind φJust := by
  have h : GSTL.fn 13 = some φJust := by simp [GSTL]
  unfold evCall
  rw [h]
  cases ps.mapM (reify false 0 ob fuel) <;> rfl
set_option maxHeartbeats 16000000 in
theorem specTL_ok : Sound Try.prog 17 φTL := by
  refine sound_pq mixed GSTL_ok Try.func17 rfl 96 rfl [.tmp 4, .tmp 5] rfl (by kernel_rfl) fun ps r hr => ?_
  obtain ⟨l, wd, rfl, hq⟩ := F2_some hr
  clear hr
  split at hq
  case isFalse => cases hq
  case isTrue hpre =>
  simp only [Option.some.injEq] at hq
  refine ⟨by simp, ?_⟩
  simp only [dIs, dUs, dSs, dI_e, dU_e, dB_e, dS_e, dFn_e, dL_e, dA2_e, dA3_e, dA4_e, dA5_e]
  have ap1 := φWords_ap hpre
  have ap3 := φIn_ap
  have hlen := hpre.1
  by_cases hA : allWords l = true ∧ inB wd 1 60 = true
  · obtain ⟨hw, hwd⟩ := hA
    have hwb := inB_iff.1 hwd
    have h12 := allWords_len hw
    have hR : tlR l wd = linesF wd l.length l [] := if_pos ⟨hw, hwd⟩
    rw [hw] at ap1
    have hgf := fun a n (h : a + n < l.length) => gapsB_fits (a := a) (n := n) hw hwd h
    have hwz := hpre.2
    replace hwz := Lib.hid hwz
    replace hgf := Lib.hid hgf
    replace hR := Lib.hid hR
    replace hq := Lib.hid hq
    have gstl_c35 := GSTL_35; have gstl_c24 := GSTL_24; have gstl_c30 := GSTL_30; have gstl_c13 := GSTL_13
    (repeat' (first | (with_reducible first | apply i_seq | apply i_block | apply i_skip | apply i_exit | apply i_ret | apply i_kS | apply i_kSx | apply i_kSr | apply i_kL | apply i_kLx | apply i_kLr | apply i_kB | apply i_kBr | apply i_kBs | apply i_nil) | ((with_reducible apply i_region); (focus (simp only [List.map_cons, List.map_nil] <;> exact rfl))) | ((with_reducible apply i_draw); (focus (simp only [List.map_cons, List.map_nil] <;> exact rfl)); (focus (decide +kernel))) | ((with_reducible apply i_kBo); (focus rfl)) | ((first | ((with_reducible apply i_V); (focus rfl); (focus rfl); (focus rfl)) | ((with_reducible apply i_E); (focus rfl); (focus (first | rfl | (simp only [push_cast, ↓reduceIte, effOk, touch, refsOf, List.flatMap_cons, List.flatMap_nil])))) | ((with_reducible apply i_S); (focus rfl); (focus (first | rfl | (simp only [push_cast, ↓reduceIte, effOk, touch, refsOf, List.flatMap_cons, List.flatMap_nil])))) | ((with_reducible apply i_Vq); (focus rfl); (focus rfl)) | ((with_reducible apply i_Vp); (focus rfl); (focus rfl); (focus rfl))); (focus (simp (disch := (first | omega | (simp only [push_cast]; done) | (simp only [push_cast]; omega) | ((try simp only [push_cast]); (with_reducible first | apply sel_lt | apply sel_ge); (focus decide); (focus (simp only [push_cast]; omega))))) only [push_cast, ↓reduceIte, Nat.reduceEqDiff, Nat.reduceBEq, Nat.reduceAdd, Nat.reduceSub, Int.reduceToNat, *] <;> with_reducible exact rfl))) | ((with_reducible first | apply i_Gb | apply i_cond); (focus (simp (disch := (first | omega | (simp only [push_cast]; done) | (simp only [push_cast]; omega) | ((try simp only [push_cast]); (with_reducible first | apply sel_lt | apply sel_ge); (focus decide); (focus (simp only [push_cast]; omega))))) only [push_cast, ↓reduceIte, Nat.reduceEqDiff, Nat.reduceBEq, Nat.reduceAdd, Nat.reduceSub, Int.reduceToNat, *] <;> with_reducible exact rfl)); all_goals (intro hX; first | (cases hX; done) | ((with_reducible first | have hX0 : true = true := hX | have hX0 : false = false := hX); clear hX0 hX) | ((try simp only [decide_eq_true_eq, decide_eq_false_iff_not, Bool.not_eq_true', Bool.not_eq_false'] at hX); (try have hXb := inB_iff.1 hX)))))); all_goals try (exfalso; omega)
    refine i_loop (α := Nat × LS × Nat × Nat) mixed (fun s => [(0, .lst false 1 (l.map fun s => .val (.string s))), (1, iv wd), (6, .row s.2.2.1 1 0 s.2.1.length), (7, iv s.1)])
      (fun s => [(s.2.2.1, 9, 1, s.2.1.map fun s => .val (.string s))]) (fun s => s.2.2.2)
      (fun s => s.1 ≤ l.length ∧ (∃ f, (l.drop s.1).length ≤ f ∧ linesF wd f (l.drop s.1) s.2.1 = tlR l wd) ∧ s.1 + s.2.1.length ≤ 2 * s.1 ∧ s.2.2.1 < s.2.2.2) (fun s => l.length - s.1) (by kernel_rfl) (0, [], 0, 1) ⟨Nat.zero_le _, ⟨l.length, by rw [List.drop_zero]; exact Nat.le_refl _, by rw [List.drop_zero]; exact hR.out.symm⟩, by simp, by simp⟩ ?_ ?_ rfl ?_
    · simp (disch := (first | omega | (simp only [push_cast]; done) | (simp only [push_cast]; omega) | ((try simp only [push_cast]); (with_reducible first | apply sel_lt | apply sel_ge); (focus decide); (focus (simp only [push_cast]; omega))))) only [push_cast, ↓reduceIte, Nat.reduceEqDiff, Nat.reduceBEq, Nat.reduceAdd, Nat.reduceSub, Int.reduceToNat, List.length_append, *]
    · simp (disch := (first | omega | (simp only [push_cast]; done) | (simp only [push_cast]; omega) | ((try simp only [push_cast]); (with_reducible first | apply sel_lt | apply sel_ge); (focus decide); (focus (simp only [push_cast]; omega))))) only [push_cast, ↓reduceIte, Nat.reduceEqDiff, Nat.reduceBEq, Nat.reduceAdd, Nat.reduceSub, Int.reduceToNat, List.length_append, *]
    clear ap1 ap3 hR hw hwd
    rintro ⟨a, acc, x, y⟩ ⟨ha, ⟨f, hf, hF⟩, hacc, hxy⟩
    dsimp only at ha hf hF hacc hxy
    have hok := okSs_drop hpre a
    by_cases hal : a < l.length
    · have hal0 : 0 < (l.drop a).length := by rw [List.length_drop]; omega
      have hdl : (l.drop a).length = l.length - a := List.length_drop
      have hap := fun n => φGaps_ap (wd := wd) (okSs_take hok (n + 1))
      have hget : ∀ k : Nat, l[a + k]?.getD .empty = (l.drop a)[k]?.getD .empty := fun k => by rw [List.getElem?_drop]
      replace hF := Lib.hid hF
      replace hap := Lib.hid hap
      replace hget := Lib.hid hget
      replace hdl := Lib.hid hdl
      clear hpre
      (repeat' (first | (with_reducible first | apply i_seq | apply i_block | apply i_skip | apply i_exit | apply i_ret | apply i_kS | apply i_kSx | apply i_kSr | apply i_kL | apply i_kLx | apply i_kLr | apply i_kB | apply i_kBr | apply i_kBs | apply i_nil) | ((with_reducible apply i_region); (focus (simp only [List.map_cons, List.map_nil] <;> exact rfl))) | ((with_reducible apply i_draw); (focus (simp only [List.map_cons, List.map_nil] <;> exact rfl)); (focus (decide +kernel))) | ((with_reducible apply i_kBo); (focus rfl)) | ((first | ((with_reducible apply i_V); (focus rfl); (focus rfl); (focus rfl)) | ((with_reducible apply i_E); (focus rfl); (focus (first | rfl | (simp only [push_cast, ↓reduceIte, effOk, touch, refsOf, List.flatMap_cons, List.flatMap_nil])))) | ((with_reducible apply i_S); (focus rfl); (focus (first | rfl | (simp only [push_cast, ↓reduceIte, effOk, touch, refsOf, List.flatMap_cons, List.flatMap_nil])))) | ((with_reducible apply i_Vq); (focus rfl); (focus rfl)) | ((with_reducible apply i_Vp); (focus rfl); (focus rfl); (focus rfl))); (focus (simp (disch := (first | omega | (simp only [push_cast]; done) | (simp only [push_cast]; omega) | ((try simp only [push_cast]); (with_reducible first | apply sel_lt | apply sel_ge); (focus decide); (focus (simp only [push_cast]; omega))))) only [push_cast, ↓reduceIte, Nat.reduceEqDiff, Nat.reduceBEq, Nat.reduceAdd, Nat.reduceSub, Int.reduceToNat, *] <;> with_reducible exact rfl))) | ((with_reducible first | apply i_Gb | apply i_cond); (focus (simp (disch := (first | omega | (simp only [push_cast]; done) | (simp only [push_cast]; omega) | ((try simp only [push_cast]); (with_reducible first | apply sel_lt | apply sel_ge); (focus decide); (focus (simp only [push_cast]; omega))))) only [push_cast, ↓reduceIte, Nat.reduceEqDiff, Nat.reduceBEq, Nat.reduceAdd, Nat.reduceSub, Int.reduceToNat, *] <;> with_reducible exact rfl)); all_goals (intro hX; first | (cases hX; done) | ((with_reducible first | have hX0 : true = true := hX | have hX0 : false = false := hX); clear hX0 hX) | ((try simp only [decide_eq_true_eq, decide_eq_false_iff_not, Bool.not_eq_true', Bool.not_eq_false'] at hX); (try have hXb := inB_iff.1 hX)))))); all_goals try (exfalso; omega)
      refine i_loop (α := Nat) mixed (fun n => [(0, .lst false 1 (l.map fun s => .val (.string s))), (1, iv wd), (6, .row x 1 0 acc.length), (7, iv a), (8, iv n)])
        (fun s => [(x, 9, 1, acc.map fun s => .val (.string s))]) (fun s => y)
        (fun n => a + n ≤ l.length ∧ ∀ m, m < n → fits (l.drop a) wd m = true) (fun n => l.length - n) (by kernel_rfl) 0 ⟨by omega, fun m hm => by omega⟩ ?_ ?_ rfl ?_
      · simp (disch := (first | omega | (simp only [push_cast]; done) | (simp only [push_cast]; omega) | ((try simp only [push_cast]); (with_reducible first | apply sel_lt | apply sel_ge); (focus decide); (focus (simp only [push_cast]; omega))))) only [push_cast, ↓reduceIte, Nat.reduceEqDiff, Nat.reduceBEq, Nat.reduceAdd, Nat.reduceSub, Int.reduceToNat, List.length_append, *]
      · simp (disch := (first | omega | (simp only [push_cast]; done) | (simp only [push_cast]; omega) | ((try simp only [push_cast]); (with_reducible first | apply sel_lt | apply sel_ge); (focus decide); (focus (simp only [push_cast]; omega))))) only [push_cast, ↓reduceIte, Nat.reduceEqDiff, Nat.reduceBEq, Nat.reduceAdd, Nat.reduceSub, Int.reduceToNat, List.length_append, *]
      rintro n ⟨hn, hfit⟩
      replace hfit := Lib.hid hfit
      have hs1 : a + n + 1 - a = n + 1 := by omega
      have hs2 : a + n - a = n := by omega
      have ht1 : ((a : Int) + n + 1).toNat = a + n + 1 := by omega
      have ht2 : ((a : Int) + n).toNat = a + n := by omega
      by_cases hnl : a + n < l.length
      · have ap2 := hap.out n
        rw [hgf.out a n hnl] at ap2
        cases hb : fits (l.drop a) wd n with
        | true =>
          have hfit2 : ∀ m, m < n + 1 → fits (l.drop a) wd m = true := fun m hm => by
            by_cases h : m < n
            · exact hfit.out m h
            · obtain rfl : m = n := by omega
              exact hb
          replace hfit2 := Lib.hid hfit2
          rw [hb] at ap2
          clear hfit hap
          (repeat' (first | (with_reducible first | apply i_seq | apply i_block | apply i_skip | apply i_exit | apply i_ret | apply i_kS | apply i_kSx | apply i_kSr | apply i_kL | apply i_kLx | apply i_kLr | apply i_kB | apply i_kBr | apply i_kBs | apply i_nil) | ((with_reducible apply i_region); (focus (simp only [List.map_cons, List.map_nil] <;> exact rfl))) | ((with_reducible apply i_draw); (focus (simp only [List.map_cons, List.map_nil] <;> exact rfl)); (focus (decide +kernel))) | ((with_reducible apply i_kBo); (focus rfl)) | ((first | ((with_reducible apply i_V); (focus rfl); (focus rfl); (focus rfl)) | ((with_reducible apply i_E); (focus rfl); (focus (first | rfl | (simp only [push_cast, ↓reduceIte, effOk, touch, refsOf, List.flatMap_cons, List.flatMap_nil])))) | ((with_reducible apply i_S); (focus rfl); (focus (first | rfl | (simp only [push_cast, ↓reduceIte, effOk, touch, refsOf, List.flatMap_cons, List.flatMap_nil])))) | ((with_reducible apply i_Vq); (focus rfl); (focus rfl)) | ((with_reducible apply i_Vp); (focus rfl); (focus rfl); (focus rfl))); (focus (simp (disch := (first | omega | (simp only [push_cast]; done) | (simp only [push_cast]; omega) | ((try simp only [push_cast]); (with_reducible first | apply sel_lt | apply sel_ge); (focus decide); (focus (simp only [push_cast]; omega))))) only [push_cast, ↓reduceIte, Nat.reduceEqDiff, Nat.reduceBEq, Nat.reduceAdd, Nat.reduceSub, Int.reduceToNat, *] <;> with_reducible exact rfl))) | ((with_reducible first | apply i_Gb | apply i_cond); (focus (simp (disch := (first | omega | (simp only [push_cast]; done) | (simp only [push_cast]; omega) | ((try simp only [push_cast]); (with_reducible first | apply sel_lt | apply sel_ge); (focus decide); (focus (simp only [push_cast]; omega))))) only [push_cast, ↓reduceIte, Nat.reduceEqDiff, Nat.reduceBEq, Nat.reduceAdd, Nat.reduceSub, Int.reduceToNat, *] <;> with_reducible exact rfl)); all_goals (intro hX; first | (cases hX; done) | ((with_reducible first | have hX0 : true = true := hX | have hX0 : false = false := hX); clear hX0 hX) | ((try simp only [decide_eq_true_eq, decide_eq_false_iff_not, Bool.not_eq_true', Bool.not_eq_false'] at hX); (try have hXb := inB_iff.1 hX)))))); all_goals try (exfalso; omega)
          refine ⟨n + 1, ⟨by omega, hfit2.out⟩, by dsimp only; omega, ?_, ?_, rfl⟩
          · simp (disch := (first | omega | (simp only [push_cast]; done) | (simp only [push_cast]; omega) | ((try simp only [push_cast]); (with_reducible first | apply sel_lt | apply sel_ge); (focus decide); (focus (simp only [push_cast]; omega))))) only [push_cast, ↓reduceIte, Nat.reduceEqDiff, Nat.reduceBEq, Nat.reduceAdd, Nat.reduceSub, Int.reduceToNat, List.length_append, *]
          · simp (disch := (first | omega | (simp only [push_cast]; done) | (simp only [push_cast]; omega) | ((try simp only [push_cast]); (with_reducible first | apply sel_lt | apply sel_ge); (focus decide); (focus (simp only [push_cast]; omega))))) only [push_cast, ↓reduceIte, Nat.reduceEqDiff, Nat.reduceBEq, Nat.reduceAdd, Nat.reduceSub, Int.reduceToNat, List.length_append, *]
        | false =>
          have hN := fitN_eq (l := l.drop a) (by have := hdl.out; omega) (fun m hm => hfit.out m hm) (fun _ => hb)
          rw [hb] at ap2
          clear hb
          by_cases hn0 : n = 0
          · have hq := hq.out
            rw [← hF.out, linesF_none (acc := acc) hf hal0 (hN.trans hn0)] at hq
            subst hq
            have hn1 : n < 1 := by omega
            clear hF hf hok hap hfit hn0 hN
            (repeat' (first | (with_reducible first | apply i_seq | apply i_block | apply i_skip | apply i_exit | apply i_ret | apply i_kS | apply i_kSx | apply i_kSr | apply i_kL | apply i_kLx | apply i_kLr | apply i_kB | apply i_kBr | apply i_kBs | apply i_nil) | ((with_reducible apply i_region); (focus (simp only [List.map_cons, List.map_nil] <;> exact rfl))) | ((with_reducible apply i_draw); (focus (simp only [List.map_cons, List.map_nil] <;> exact rfl)); (focus (decide +kernel))) | ((with_reducible apply i_kBo); (focus rfl)) | ((first | ((with_reducible apply i_V); (focus rfl); (focus rfl); (focus rfl)) | ((with_reducible apply i_E); (focus rfl); (focus (first | rfl | (simp only [push_cast, ↓reduceIte, effOk, touch, refsOf, List.flatMap_cons, List.flatMap_nil])))) | ((with_reducible apply i_S); (focus rfl); (focus (first | rfl | (simp only [push_cast, ↓reduceIte, effOk, touch, refsOf, List.flatMap_cons, List.flatMap_nil])))) | ((with_reducible apply i_Vq); (focus rfl); (focus rfl)) | ((with_reducible apply i_Vp); (focus rfl); (focus rfl); (focus rfl))); (focus (simp (disch := (first | omega | (simp only [push_cast]; done) | (simp only [push_cast]; omega) | ((try simp only [push_cast]); (with_reducible first | apply sel_lt | apply sel_ge); (focus decide); (focus (simp only [push_cast]; omega))))) only [push_cast, ↓reduceIte, Nat.reduceEqDiff, Nat.reduceBEq, Nat.reduceAdd, Nat.reduceSub, Int.reduceToNat, *] <;> with_reducible exact rfl))) | ((with_reducible first | apply i_Gb | apply i_cond); (focus (simp (disch := (first | omega | (simp only [push_cast]; done) | (simp only [push_cast]; omega) | ((try simp only [push_cast]); (with_reducible first | apply sel_lt | apply sel_ge); (focus decide); (focus (simp only [push_cast]; omega))))) only [push_cast, ↓reduceIte, Nat.reduceEqDiff, Nat.reduceBEq, Nat.reduceAdd, Nat.reduceSub, Int.reduceToNat, *] <;> with_reducible exact rfl)); all_goals (intro hX; first | (cases hX; done) | ((with_reducible first | have hX0 : true = true := hX | have hX0 : false = false := hX); clear hX0 hX) | ((try simp only [decide_eq_true_eq, decide_eq_false_iff_not, Bool.not_eq_true', Bool.not_eq_false'] at hX); (try have hXb := inB_iff.1 hX)))))); all_goals try (exfalso; omega)
            all_goals (first | (exfalso; omega) | ((first | apply i_end | apply i_endN); simp (disch := (first | omega | (simp only [push_cast]; done) | (simp only [push_cast]; omega) | ((try simp only [push_cast]); (with_reducible first | apply sel_lt | apply sel_ge); (focus decide); (focus (simp only [push_cast]; omega))))) only [push_cast, ↓reduceIte, Nat.reduceEqDiff, Nat.reduceBEq, Nat.reduceAdd, Nat.reduceSub, Int.reduceToNat, *]) | skip)
            all_goals rfl
          · have hst := Lib.hid (linesF_step (acc := acc) hf hal0 hN (by omega))
            have hdd : (l.drop a).drop n = l.drop (a + n) := by rw [List.drop_drop]
            replace hdd := Lib.hid hdd
            have apk := φJust_ap (wd := wd) (okSs_take hok n)
            have hL := Lib.hid (show lineS (l.drop a) wd n = justS ((l.drop a).take n) wd from if_pos (by have := hdl.out; omega))
            have hne : ¬ (a : Int) + n = l.length := by omega
            have hnp : 0 < n := by omega
            clear hap hfit hn0 hN
            (repeat' (first | (with_reducible first | apply i_seq | apply i_block | apply i_skip | apply i_exit | apply i_ret | apply i_kS | apply i_kSx | apply i_kSr | apply i_kL | apply i_kLx | apply i_kLr | apply i_kB | apply i_kBr | apply i_kBs | apply i_nil) | ((with_reducible apply i_region); (focus (simp only [List.map_cons, List.map_nil] <;> exact rfl))) | ((with_reducible apply i_draw); (focus (simp only [List.map_cons, List.map_nil] <;> exact rfl)); (focus (decide +kernel))) | ((with_reducible apply i_kBo); (focus rfl)) | ((first | ((with_reducible apply i_V); (focus rfl); (focus rfl); (focus rfl)) | ((with_reducible apply i_E); (focus rfl); (focus (first | rfl | (simp only [push_cast, ↓reduceIte, effOk, touch, refsOf, List.flatMap_cons, List.flatMap_nil])))) | ((with_reducible apply i_S); (focus rfl); (focus (first | rfl | (simp only [push_cast, ↓reduceIte, effOk, touch, refsOf, List.flatMap_cons, List.flatMap_nil])))) | ((with_reducible apply i_Vq); (focus rfl); (focus rfl)) | ((with_reducible apply i_Vp); (focus rfl); (focus rfl); (focus rfl))); (focus (simp (disch := (first | omega | (simp only [push_cast]; done) | (simp only [push_cast]; omega) | ((try simp only [push_cast]); (with_reducible first | apply sel_lt | apply sel_ge); (focus decide); (focus (simp only [push_cast]; omega))))) only [push_cast, ↓reduceIte, Nat.reduceEqDiff, Nat.reduceBEq, Nat.reduceAdd, Nat.reduceSub, Int.reduceToNat, *] <;> with_reducible exact rfl))) | ((with_reducible first | apply i_Gb | apply i_cond); (focus (simp (disch := (first | omega | (simp only [push_cast]; done) | (simp only [push_cast]; omega) | ((try simp only [push_cast]); (with_reducible first | apply sel_lt | apply sel_ge); (focus decide); (focus (simp only [push_cast]; omega))))) only [push_cast, ↓reduceIte, Nat.reduceEqDiff, Nat.reduceBEq, Nat.reduceAdd, Nat.reduceSub, Int.reduceToNat, *] <;> with_reducible exact rfl)); all_goals (intro hX; first | (cases hX; done) | ((with_reducible first | have hX0 : true = true := hX | have hX0 : false = false := hX); clear hX0 hX) | ((try simp only [decide_eq_true_eq, decide_eq_false_iff_not, Bool.not_eq_true', Bool.not_eq_false'] at hX); (try have hXb := inB_iff.1 hX)))))); all_goals try (exfalso; omega)
            obtain ⟨g, hg1, hg2⟩ := hst.out
            rw [hdd.out] at hg1 hg2
            refine ⟨(a + n, acc ++ [lineS (l.drop a) wd n], y + 1, y + 2), ⟨by dsimp only; omega, ⟨g, hg1, by rw [← hg2]; exact hF.out⟩, by simp; omega, by dsimp only; omega⟩, by dsimp only; omega, ?_, ?_, rfl⟩
            · simp (disch := (first | omega | (simp only [push_cast]; done) | (simp only [push_cast]; omega) | ((try simp only [push_cast]); (with_reducible first | apply sel_lt | apply sel_ge); (focus decide); (focus (simp only [push_cast]; omega))))) only [push_cast, ↓reduceIte, Nat.reduceEqDiff, Nat.reduceBEq, Nat.reduceAdd, Nat.reduceSub, Int.reduceToNat, hL.out, List.length_append, *]
            · simp (disch := (first | omega | (simp only [push_cast]; done) | (simp only [push_cast]; omega) | ((try simp only [push_cast]); (with_reducible first | apply sel_lt | apply sel_ge); (focus decide); (focus (simp only [push_cast]; omega))))) only [push_cast, ↓reduceIte, Nat.reduceEqDiff, Nat.reduceBEq, Nat.reduceAdd, Nat.reduceSub, Int.reduceToNat, hL.out, *]
      · have hN := fitN_eq (l := l.drop a) (by have := hdl.out; omega) (fun m hm => hfit.out m hm) (fun h => absurd h (by have := hdl.out; omega))
        by_cases hn0 : n = 0
        · have hq := hq.out
          rw [← hF.out, linesF_none (acc := acc) hf hal0 (hN.trans hn0)] at hq
          subst hq
          have hn1 : n < 1 := by omega
          clear hF hf hok hap hfit hn0 hN
          (repeat' (first | (with_reducible first | apply i_seq | apply i_block | apply i_skip | apply i_exit | apply i_ret | apply i_kS | apply i_kSx | apply i_kSr | apply i_kL | apply i_kLx | apply i_kLr | apply i_kB | apply i_kBr | apply i_kBs | apply i_nil) | ((with_reducible apply i_region); (focus (simp only [List.map_cons, List.map_nil] <;> exact rfl))) | ((with_reducible apply i_draw); (focus (simp only [List.map_cons, List.map_nil] <;> exact rfl)); (focus (decide +kernel))) | ((with_reducible apply i_kBo); (focus rfl)) | ((first | ((with_reducible apply i_V); (focus rfl); (focus rfl); (focus rfl)) | ((with_reducible apply i_E); (focus rfl); (focus (first | rfl | (simp only [push_cast, ↓reduceIte, effOk, touch, refsOf, List.flatMap_cons, List.flatMap_nil])))) | ((with_reducible apply i_S); (focus rfl); (focus (first | rfl | (simp only [push_cast, ↓reduceIte, effOk, touch, refsOf, List.flatMap_cons, List.flatMap_nil])))) | ((with_reducible apply i_Vq); (focus rfl); (focus rfl)) | ((with_reducible apply i_Vp); (focus rfl); (focus rfl); (focus rfl))); (focus (simp (disch := (first | omega | (simp only [push_cast]; done) | (simp only [push_cast]; omega) | ((try simp only [push_cast]); (with_reducible first | apply sel_lt | apply sel_ge); (focus decide); (focus (simp only [push_cast]; omega))))) only [push_cast, ↓reduceIte, Nat.reduceEqDiff, Nat.reduceBEq, Nat.reduceAdd, Nat.reduceSub, Int.reduceToNat, *] <;> with_reducible exact rfl))) | ((with_reducible first | apply i_Gb | apply i_cond); (focus (simp (disch := (first | omega | (simp only [push_cast]; done) | (simp only [push_cast]; omega) | ((try simp only [push_cast]); (with_reducible first | apply sel_lt | apply sel_ge); (focus decide); (focus (simp only [push_cast]; omega))))) only [push_cast, ↓reduceIte, Nat.reduceEqDiff, Nat.reduceBEq, Nat.reduceAdd, Nat.reduceSub, Int.reduceToNat, *] <;> with_reducible exact rfl)); all_goals (intro hX; first | (cases hX; done) | ((with_reducible first | have hX0 : true = true := hX | have hX0 : false = false := hX); clear hX0 hX) | ((try simp only [decide_eq_true_eq, decide_eq_false_iff_not, Bool.not_eq_true', Bool.not_eq_false'] at hX); (try have hXb := inB_iff.1 hX)))))); all_goals try (exfalso; omega)
          all_goals (first | (exfalso; omega) | ((first | apply i_end | apply i_endN); simp (disch := (first | omega | (simp only [push_cast]; done) | (simp only [push_cast]; omega) | ((try simp only [push_cast]); (with_reducible first | apply sel_lt | apply sel_ge); (focus decide); (focus (simp only [push_cast]; omega))))) only [push_cast, ↓reduceIte, Nat.reduceEqDiff, Nat.reduceBEq, Nat.reduceAdd, Nat.reduceSub, Int.reduceToNat, *]) | skip)
          all_goals rfl
        · have hst := Lib.hid (linesF_step (acc := acc) hf hal0 hN (by omega))
          have hdd : (l.drop a).drop n = l.drop (a + n) := by rw [List.drop_drop]
          replace hdd := Lib.hid hdd
          have apk := φJust_ap (wd := wd) (okSs_take hok n)
          have hL := Lib.hid (show lineS (l.drop a) wd n = joinB ((l.drop a).take n) spB from if_neg (by have := hdl.out; omega))
          have hj1 : joinB ((l.drop a).take 1) spB = l[a]?.getD .empty := by rw [join_take1 hal0, List.getElem?_drop]; rfl
          have hjs := fun k => join_ok2 (okSs_take hok k)
          replace hjs := Lib.hid hjs
          have hnp : 0 < n := by omega
          clear hap hfit hn0 hN
          (repeat' (first | (with_reducible first | apply i_seq | apply i_block | apply i_skip | apply i_exit | apply i_ret | apply i_kS | apply i_kSx | apply i_kSr | apply i_kL | apply i_kLx | apply i_kLr | apply i_kB | apply i_kBr | apply i_kBs | apply i_nil) | ((with_reducible apply i_region); (focus (simp only [List.map_cons, List.map_nil] <;> exact rfl))) | ((with_reducible apply i_draw); (focus (simp only [List.map_cons, List.map_nil] <;> exact rfl)); (focus (decide +kernel))) | ((with_reducible apply i_kBo); (focus rfl)) | ((first | ((with_reducible apply i_V); (focus rfl); (focus rfl); (focus rfl)) | ((with_reducible apply i_E); (focus rfl); (focus (first | rfl | (simp only [push_cast, ↓reduceIte, effOk, touch, refsOf, List.flatMap_cons, List.flatMap_nil])))) | ((with_reducible apply i_S); (focus rfl); (focus (first | rfl | (simp only [push_cast, ↓reduceIte, effOk, touch, refsOf, List.flatMap_cons, List.flatMap_nil])))) | ((with_reducible apply i_Vq); (focus rfl); (focus rfl)) | ((with_reducible apply i_Vp); (focus rfl); (focus rfl); (focus rfl))); (focus (simp (disch := (first | omega | (simp only [push_cast]; done) | (simp only [push_cast]; omega) | ((try simp only [push_cast]); (with_reducible first | apply sel_lt | apply sel_ge); (focus decide); (focus (simp only [push_cast]; omega))))) only [push_cast, ↓reduceIte, Nat.reduceEqDiff, Nat.reduceBEq, Nat.reduceAdd, Nat.reduceSub, Int.reduceToNat, *] <;> with_reducible exact rfl))) | ((with_reducible first | apply i_Gb | apply i_cond); (focus (simp (disch := (first | omega | (simp only [push_cast]; done) | (simp only [push_cast]; omega) | ((try simp only [push_cast]); (with_reducible first | apply sel_lt | apply sel_ge); (focus decide); (focus (simp only [push_cast]; omega))))) only [push_cast, ↓reduceIte, Nat.reduceEqDiff, Nat.reduceBEq, Nat.reduceAdd, Nat.reduceSub, Int.reduceToNat, *] <;> with_reducible exact rfl)); all_goals (intro hX; first | (cases hX; done) | ((with_reducible first | have hX0 : true = true := hX | have hX0 : false = false := hX); clear hX0 hX) | ((try simp only [decide_eq_true_eq, decide_eq_false_iff_not, Bool.not_eq_true', Bool.not_eq_false'] at hX); (try have hXb := inB_iff.1 hX)))))); all_goals try (exfalso; omega)
          refine i_loop (α := Nat) mixed (fun k => [(0, .lst false 1 (l.map fun s => .val (.string s))), (1, iv wd), (6, .row x 1 0 acc.length), (7, iv a), (8, iv n), (11, .val (.string (joinB ((l.drop a).take k) spB))), (13, iv k)])
            (fun s => [(x, 9, 1, acc.map fun s => .val (.string s))]) (fun s => y)
            (fun k => 1 ≤ k ∧ k ≤ n) (fun k => n - k) (by kernel_rfl) 1 ⟨by omega, by omega⟩ ?_ ?_ rfl ?_
          · simp (disch := (first | omega | (simp only [push_cast]; done) | (simp only [push_cast]; omega) | ((try simp only [push_cast]); (with_reducible first | apply sel_lt | apply sel_ge); (focus decide); (focus (simp only [push_cast]; omega))))) only [push_cast, ↓reduceIte, Nat.reduceEqDiff, Nat.reduceBEq, Nat.reduceAdd, Nat.reduceSub, Int.reduceToNat, hj1, *]
            exact rfl
          · simp (disch := (first | omega | (simp only [push_cast]; done) | (simp only [push_cast]; omega) | ((try simp only [push_cast]); (with_reducible first | apply sel_lt | apply sel_ge); (focus decide); (focus (simp only [push_cast]; omega))))) only [push_cast, ↓reduceIte, Nat.reduceEqDiff, Nat.reduceBEq, Nat.reduceAdd, Nat.reduceSub, Int.reduceToNat, List.length_append, *]
          rintro k ⟨hk1, hk2⟩
          have ht3 : ((a : Int) + k).toNat = a + k := by omega
          by_cases hkn : k < n
          · have hjk := hjs.out k
            have hwk := hwz.out (a + k)
            have h32 : ((⟨#[32]⟩ : ByteArray)).size = 1 := rfl
            have hjn := join_take_succ (l := l.drop a) (k := k) (by omega) (by have := hdl.out; omega)
            rw [← hget.out k] at hjn
            replace hjn := Lib.hid hjn
            (repeat' (first | (with_reducible first | apply i_seq | apply i_block | apply i_skip | apply i_exit | apply i_ret | apply i_kS | apply i_kSx | apply i_kSr | apply i_kL | apply i_kLx | apply i_kLr | apply i_kB | apply i_kBr | apply i_kBs | apply i_nil) | ((with_reducible apply i_region); (focus (simp only [List.map_cons, List.map_nil] <;> exact rfl))) | ((with_reducible apply i_draw); (focus (simp only [List.map_cons, List.map_nil] <;> exact rfl)); (focus (decide +kernel))) | ((with_reducible apply i_kBo); (focus rfl)) | ((first | ((with_reducible apply i_V); (focus rfl); (focus rfl); (focus rfl)) | ((with_reducible apply i_E); (focus rfl); (focus (first | rfl | (simp only [push_cast, ↓reduceIte, effOk, touch, refsOf, List.flatMap_cons, List.flatMap_nil])))) | ((with_reducible apply i_S); (focus rfl); (focus (first | rfl | (simp only [push_cast, ↓reduceIte, effOk, touch, refsOf, List.flatMap_cons, List.flatMap_nil])))) | ((with_reducible apply i_Vq); (focus rfl); (focus rfl)) | ((with_reducible apply i_Vp); (focus rfl); (focus rfl); (focus rfl))); (focus (simp (disch := (first | omega | (simp only [push_cast]; done) | (simp only [push_cast]; omega) | ((try simp only [push_cast]); (with_reducible first | apply sel_lt | apply sel_ge); (focus decide); (focus (simp only [push_cast]; omega))))) only [push_cast, ↓reduceIte, Nat.reduceEqDiff, Nat.reduceBEq, Nat.reduceAdd, Nat.reduceSub, Int.reduceToNat, *] <;> with_reducible exact rfl))) | ((with_reducible first | apply i_Gb | apply i_cond); (focus (simp (disch := (first | omega | (simp only [push_cast]; done) | (simp only [push_cast]; omega) | ((try simp only [push_cast]); (with_reducible first | apply sel_lt | apply sel_ge); (focus decide); (focus (simp only [push_cast]; omega))))) only [push_cast, ↓reduceIte, Nat.reduceEqDiff, Nat.reduceBEq, Nat.reduceAdd, Nat.reduceSub, Int.reduceToNat, *] <;> with_reducible exact rfl)); all_goals (intro hX; first | (cases hX; done) | ((with_reducible first | have hX0 : true = true := hX | have hX0 : false = false := hX); clear hX0 hX) | ((try simp only [decide_eq_true_eq, decide_eq_false_iff_not, Bool.not_eq_true', Bool.not_eq_false'] at hX); (try have hXb := inB_iff.1 hX)))))); all_goals try (exfalso; omega)
            refine ⟨k + 1, ⟨by omega, by omega⟩, by dsimp only; omega, ?_, ?_, rfl⟩
            · simp (disch := (first | omega | (simp only [push_cast]; done) | (simp only [push_cast]; omega) | ((try simp only [push_cast]); (with_reducible first | apply sel_lt | apply sel_ge); (focus decide); (focus (simp only [push_cast]; omega))))) only [push_cast, ↓reduceIte, Nat.reduceEqDiff, Nat.reduceBEq, Nat.reduceAdd, Nat.reduceSub, Int.reduceToNat, hjn.out, *]
            · simp (disch := (first | omega | (simp only [push_cast]; done) | (simp only [push_cast]; omega) | ((try simp only [push_cast]); (with_reducible first | apply sel_lt | apply sel_ge); (focus decide); (focus (simp only [push_cast]; omega))))) only [push_cast, ↓reduceIte, Nat.reduceEqDiff, Nat.reduceBEq, Nat.reduceAdd, Nat.reduceSub, Int.reduceToNat, List.length_append, *]
          obtain rfl : k = n := by omega
          (repeat' (first | (with_reducible first | apply i_seq | apply i_block | apply i_skip | apply i_exit | apply i_ret | apply i_kS | apply i_kSx | apply i_kSr | apply i_kL | apply i_kLx | apply i_kLr | apply i_kB | apply i_kBr | apply i_kBs | apply i_nil) | ((with_reducible apply i_region); (focus (simp only [List.map_cons, List.map_nil] <;> exact rfl))) | ((with_reducible apply i_draw); (focus (simp only [List.map_cons, List.map_nil] <;> exact rfl)); (focus (decide +kernel))) | ((with_reducible apply i_kBo); (focus rfl)) | ((first | ((with_reducible apply i_V); (focus rfl); (focus rfl); (focus rfl)) | ((with_reducible apply i_E); (focus rfl); (focus (first | rfl | (simp only [push_cast, ↓reduceIte, effOk, touch, refsOf, List.flatMap_cons, List.flatMap_nil])))) | ((with_reducible apply i_S); (focus rfl); (focus (first | rfl | (simp only [push_cast, ↓reduceIte, effOk, touch, refsOf, List.flatMap_cons, List.flatMap_nil])))) | ((with_reducible apply i_Vq); (focus rfl); (focus rfl)) | ((with_reducible apply i_Vp); (focus rfl); (focus rfl); (focus rfl))); (focus (simp (disch := (first | omega | (simp only [push_cast]; done) | (simp only [push_cast]; omega) | ((try simp only [push_cast]); (with_reducible first | apply sel_lt | apply sel_ge); (focus decide); (focus (simp only [push_cast]; omega))))) only [push_cast, ↓reduceIte, Nat.reduceEqDiff, Nat.reduceBEq, Nat.reduceAdd, Nat.reduceSub, Int.reduceToNat, *] <;> with_reducible exact rfl))) | ((with_reducible first | apply i_Gb | apply i_cond); (focus (simp (disch := (first | omega | (simp only [push_cast]; done) | (simp only [push_cast]; omega) | ((try simp only [push_cast]); (with_reducible first | apply sel_lt | apply sel_ge); (focus decide); (focus (simp only [push_cast]; omega))))) only [push_cast, ↓reduceIte, Nat.reduceEqDiff, Nat.reduceBEq, Nat.reduceAdd, Nat.reduceSub, Int.reduceToNat, *] <;> with_reducible exact rfl)); all_goals (intro hX; first | (cases hX; done) | ((with_reducible first | have hX0 : true = true := hX | have hX0 : false = false := hX); clear hX0 hX) | ((try simp only [decide_eq_true_eq, decide_eq_false_iff_not, Bool.not_eq_true', Bool.not_eq_false'] at hX); (try have hXb := inB_iff.1 hX)))))); all_goals try (exfalso; omega)
          obtain ⟨g, hg1, hg2⟩ := hst.out
          rw [hdd.out] at hg1 hg2
          refine ⟨(a + k, acc ++ [lineS (l.drop a) wd k], y + 1, y + 2), ⟨by dsimp only; omega, ⟨g, hg1, by rw [← hg2]; exact hF.out⟩, by simp; omega, by dsimp only; omega⟩, by dsimp only; omega, ?_, ?_, rfl⟩
          · simp (disch := (first | omega | (simp only [push_cast]; done) | (simp only [push_cast]; omega) | ((try simp only [push_cast]); (with_reducible first | apply sel_lt | apply sel_ge); (focus decide); (focus (simp only [push_cast]; omega))))) only [push_cast, ↓reduceIte, Nat.reduceEqDiff, Nat.reduceBEq, Nat.reduceAdd, Nat.reduceSub, Int.reduceToNat, hL.out, List.length_append, *]
          · simp (disch := (first | omega | (simp only [push_cast]; done) | (simp only [push_cast]; omega) | ((try simp only [push_cast]); (with_reducible first | apply sel_lt | apply sel_ge); (focus decide); (focus (simp only [push_cast]; omega))))) only [push_cast, ↓reduceIte, Nat.reduceEqDiff, Nat.reduceBEq, Nat.reduceAdd, Nat.reduceSub, Int.reduceToNat, hL.out, *]
    · obtain rfl : a = l.length := by omega
      rw [linesF_nil (by rw [List.length_drop]; omega)] at hF
      have hq := hq.out
      rw [← hF] at hq
      subst hq
      clear hF hf hok hgf
      (repeat' (first | (with_reducible first | apply i_seq | apply i_block | apply i_skip | apply i_exit | apply i_ret | apply i_kS | apply i_kSx | apply i_kSr | apply i_kL | apply i_kLx | apply i_kLr | apply i_kB | apply i_kBr | apply i_kBs | apply i_nil) | ((with_reducible apply i_region); (focus (simp only [List.map_cons, List.map_nil] <;> exact rfl))) | ((with_reducible apply i_draw); (focus (simp only [List.map_cons, List.map_nil] <;> exact rfl)); (focus (decide +kernel))) | ((with_reducible apply i_kBo); (focus rfl)) | ((first | ((with_reducible apply i_V); (focus rfl); (focus rfl); (focus rfl)) | ((with_reducible apply i_E); (focus rfl); (focus (first | rfl | (simp only [push_cast, ↓reduceIte, effOk, touch, refsOf, List.flatMap_cons, List.flatMap_nil])))) | ((with_reducible apply i_S); (focus rfl); (focus (first | rfl | (simp only [push_cast, ↓reduceIte, effOk, touch, refsOf, List.flatMap_cons, List.flatMap_nil])))) | ((with_reducible apply i_Vq); (focus rfl); (focus rfl)) | ((with_reducible apply i_Vp); (focus rfl); (focus rfl); (focus rfl))); (focus (simp (disch := (first | omega | (simp only [push_cast]; done) | (simp only [push_cast]; omega) | ((try simp only [push_cast]); (with_reducible first | apply sel_lt | apply sel_ge); (focus decide); (focus (simp only [push_cast]; omega))))) only [push_cast, ↓reduceIte, Nat.reduceEqDiff, Nat.reduceBEq, Nat.reduceAdd, Nat.reduceSub, Int.reduceToNat, *] <;> with_reducible exact rfl))) | ((with_reducible first | apply i_Gb | apply i_cond); (focus (simp (disch := (first | omega | (simp only [push_cast]; done) | (simp only [push_cast]; omega) | ((try simp only [push_cast]); (with_reducible first | apply sel_lt | apply sel_ge); (focus decide); (focus (simp only [push_cast]; omega))))) only [push_cast, ↓reduceIte, Nat.reduceEqDiff, Nat.reduceBEq, Nat.reduceAdd, Nat.reduceSub, Int.reduceToNat, *] <;> with_reducible exact rfl)); all_goals (intro hX; first | (cases hX; done) | ((with_reducible first | have hX0 : true = true := hX | have hX0 : false = false := hX); clear hX0 hX) | ((try simp only [decide_eq_true_eq, decide_eq_false_iff_not, Bool.not_eq_true', Bool.not_eq_false'] at hX); (try have hXb := inB_iff.1 hX)))))); all_goals try (exfalso; omega)
      all_goals (first | (exfalso; omega) | ((first | apply i_end | apply i_endN); simp (disch := (first | omega | (simp only [push_cast]; done) | (simp only [push_cast]; omega) | ((try simp only [push_cast]); (with_reducible first | apply sel_lt | apply sel_ge); (focus decide); (focus (simp only [push_cast]; omega))))) only [push_cast, ↓reduceIte, Nat.reduceEqDiff, Nat.reduceBEq, Nat.reduceAdd, Nat.reduceSub, Int.reduceToNat, *]) | skip)
  · have hn : tlR l wd = none := if_neg hA
    rw [hn] at hq
    subst hq
    clear hn hpre
    have hd : allWords l = false ∨ (allWords l = true ∧ inB wd 1 60 = false) := by
      cases h1 : allWords l with
      | false => exact .inl rfl
      | true =>
        cases h2 : inB wd 1 60 with
        | false => exact .inr ⟨rfl, rfl⟩
        | true => exact absurd ⟨h1, h2⟩ hA
    clear hA
    rcases hd with hd | ⟨hd, hd2⟩
    · rw [hd] at ap1
      have gstl_c35 := GSTL_35; have gstl_c24 := GSTL_24; have gstl_c30 := GSTL_30; have gstl_c13 := GSTL_13
      (repeat' (first | (with_reducible first | apply i_seq | apply i_block | apply i_skip | apply i_exit | apply i_ret | apply i_kS | apply i_kSx | apply i_kSr | apply i_kL | apply i_kLx | apply i_kLr | apply i_kB | apply i_kBr | apply i_kBs | apply i_nil) | ((with_reducible apply i_region); (focus (simp only [List.map_cons, List.map_nil] <;> exact rfl))) | ((with_reducible apply i_draw); (focus (simp only [List.map_cons, List.map_nil] <;> exact rfl)); (focus (decide +kernel))) | ((with_reducible apply i_kBo); (focus rfl)) | ((first | ((with_reducible apply i_V); (focus rfl); (focus rfl); (focus rfl)) | ((with_reducible apply i_E); (focus rfl); (focus (first | rfl | (simp only [push_cast, ↓reduceIte, effOk, touch, refsOf, List.flatMap_cons, List.flatMap_nil])))) | ((with_reducible apply i_S); (focus rfl); (focus (first | rfl | (simp only [push_cast, ↓reduceIte, effOk, touch, refsOf, List.flatMap_cons, List.flatMap_nil])))) | ((with_reducible apply i_Vq); (focus rfl); (focus rfl)) | ((with_reducible apply i_Vp); (focus rfl); (focus rfl); (focus rfl))); (focus (simp (disch := (first | omega | (simp only [push_cast]; done) | (simp only [push_cast]; omega) | ((try simp only [push_cast]); (with_reducible first | apply sel_lt | apply sel_ge); (focus decide); (focus (simp only [push_cast]; omega))))) only [push_cast, ↓reduceIte, Nat.reduceEqDiff, Nat.reduceBEq, Nat.reduceAdd, Nat.reduceSub, Int.reduceToNat, *] <;> with_reducible exact rfl))) | ((with_reducible first | apply i_Gb | apply i_cond); (focus (simp (disch := (first | omega | (simp only [push_cast]; done) | (simp only [push_cast]; omega) | ((try simp only [push_cast]); (with_reducible first | apply sel_lt | apply sel_ge); (focus decide); (focus (simp only [push_cast]; omega))))) only [push_cast, ↓reduceIte, Nat.reduceEqDiff, Nat.reduceBEq, Nat.reduceAdd, Nat.reduceSub, Int.reduceToNat, *] <;> with_reducible exact rfl)); all_goals (intro hX; first | (cases hX; done) | ((with_reducible first | have hX0 : true = true := hX | have hX0 : false = false := hX); clear hX0 hX) | ((try simp only [decide_eq_true_eq, decide_eq_false_iff_not, Bool.not_eq_true', Bool.not_eq_false'] at hX); (try have hXb := inB_iff.1 hX)))))); all_goals try (exfalso; omega)
      all_goals (first | (exfalso; omega) | ((first | apply i_end | apply i_endN); simp (disch := (first | omega | (simp only [push_cast]; done) | (simp only [push_cast]; omega) | ((try simp only [push_cast]); (with_reducible first | apply sel_lt | apply sel_ge); (focus decide); (focus (simp only [push_cast]; omega))))) only [push_cast, ↓reduceIte, Nat.reduceEqDiff, Nat.reduceBEq, Nat.reduceAdd, Nat.reduceSub, Int.reduceToNat, *]) | skip)
      all_goals rfl
    · rw [hd] at ap1
      have gstl_c35 := GSTL_35; have gstl_c24 := GSTL_24; have gstl_c30 := GSTL_30; have gstl_c13 := GSTL_13
      (repeat' (first | (with_reducible first | apply i_seq | apply i_block | apply i_skip | apply i_exit | apply i_ret | apply i_kS | apply i_kSx | apply i_kSr | apply i_kL | apply i_kLx | apply i_kLr | apply i_kB | apply i_kBr | apply i_kBs | apply i_nil) | ((with_reducible apply i_region); (focus (simp only [List.map_cons, List.map_nil] <;> exact rfl))) | ((with_reducible apply i_draw); (focus (simp only [List.map_cons, List.map_nil] <;> exact rfl)); (focus (decide +kernel))) | ((with_reducible apply i_kBo); (focus rfl)) | ((first | ((with_reducible apply i_V); (focus rfl); (focus rfl); (focus rfl)) | ((with_reducible apply i_E); (focus rfl); (focus (first | rfl | (simp only [push_cast, ↓reduceIte, effOk, touch, refsOf, List.flatMap_cons, List.flatMap_nil])))) | ((with_reducible apply i_S); (focus rfl); (focus (first | rfl | (simp only [push_cast, ↓reduceIte, effOk, touch, refsOf, List.flatMap_cons, List.flatMap_nil])))) | ((with_reducible apply i_Vq); (focus rfl); (focus rfl)) | ((with_reducible apply i_Vp); (focus rfl); (focus rfl); (focus rfl))); (focus (simp (disch := (first | omega | (simp only [push_cast]; done) | (simp only [push_cast]; omega) | ((try simp only [push_cast]); (with_reducible first | apply sel_lt | apply sel_ge); (focus decide); (focus (simp only [push_cast]; omega))))) only [push_cast, ↓reduceIte, Nat.reduceEqDiff, Nat.reduceBEq, Nat.reduceAdd, Nat.reduceSub, Int.reduceToNat, *] <;> with_reducible exact rfl))) | ((with_reducible first | apply i_Gb | apply i_cond); (focus (simp (disch := (first | omega | (simp only [push_cast]; done) | (simp only [push_cast]; omega) | ((try simp only [push_cast]); (with_reducible first | apply sel_lt | apply sel_ge); (focus decide); (focus (simp only [push_cast]; omega))))) only [push_cast, ↓reduceIte, Nat.reduceEqDiff, Nat.reduceBEq, Nat.reduceAdd, Nat.reduceSub, Int.reduceToNat, *] <;> with_reducible exact rfl)); all_goals (intro hX; first | (cases hX; done) | ((with_reducible first | have hX0 : true = true := hX | have hX0 : false = false := hX); clear hX0 hX) | ((try simp only [decide_eq_true_eq, decide_eq_false_iff_not, Bool.not_eq_true', Bool.not_eq_false'] at hX); (try have hXb := inB_iff.1 hX)))))); all_goals try (exfalso; omega)
      all_goals (first | (exfalso; omega) | ((first | apply i_end | apply i_endN); simp (disch := (first | omega | (simp only [push_cast]; done) | (simp only [push_cast]; omega) | ((try simp only [push_cast]); (with_reducible first | apply sel_lt | apply sel_ge); (focus decide); (focus (simp only [push_cast]; omega))))) only [push_cast, ↓reduceIte, Nat.reduceEqDiff, Nat.reduceBEq, Nat.reduceAdd, Nat.reduceSub, Int.reduceToNat, *]) | skip)
      all_goals rfl
theorem linesF_len {wd : Int} : ∀ (f : Nat) (ws acc L : LS), linesF wd f ws acc = some L → L.length ≤ acc.length + ws.length
  | 0, ws, acc, L, h => by
    have : acc = L := by simpa [linesF] using h
    subst this
    omega
  | f + 1, ws, acc, L, h => by
    unfold linesF at h
    split at h
    · have : acc = L := by simpa using h
      subst this
      omega
    · split at h
      · cases h
      · have := linesF_len f _ _ _ h
        simp only [List.length_append, List.length_cons, List.length_nil, List.length_drop] at this
        omega
theorem tlR_len {l : LS} {wd : Int} {L : LS} (h : tlR l wd = some L) : L.length ≤ l.length := by
  unfold tlR at h
  split at h
  · simpa using linesF_len _ _ _ _ h
  · cases h
theorem TL_lift {l L : LS} {wd : Int} (h : okSs l) (hR : tlR l wd = some L) (h0 : 0 < L.length) : liftN ΨTL [.row 0 1 0 l.length, .val (.int .i64 wd)] [(9, 1, l.map fun s => .val (.string s))] = some (.tup [.row 1 1 0 L.length, .val (.bool true)], [(9, 1, l.map fun s => .val (.string s)), (9, 1, L.map fun s => .val (.string s))]) := by
  have hp : 0 < (L.map fun s => PV.val (.string s)).length := by simpa using h0
  refine (liftN_of (qs := [.lst false 1 (l.map fun s => .val (.string s)), .val (.int .i64 wd)]) (cs1 := [(9, 1, L.map fun s => .val (.string s))]) (r := .tup [.row 0 1 0 L.length, .val (.bool true)]) (cs0 := [(9, 1, L.map fun s => .val (.string s))]) (by
    rw [mapM_cons', reify_row rfl, Option.bind_some, mapM_cons', reify_val, Option.bind_some, mapM_nil']; rfl) ((G2_ap (A := dSs) (B := dI) l wd).trans ((if_pos h).trans (by rw [hR]; dsimp only; rw [nP_pos hp, nC_pos hp, List.length_map]))) rfl (by rw [mapM_cons', mapM_nil', renCT_vals]; rfl)).trans ?_
  rfl
theorem TL_lift0 {l : LS} {wd : Int} {b : Bool} (h : okSs l) (hR : tlR l wd = if b = true then some [] else none) : liftN ΨTL [.row 0 1 0 l.length, .val (.int .i64 wd)] [(9, 1, l.map fun s => .val (.string s))] = some (.tup [.val (.slice none 0 0), .val (.bool b)], [(9, 1, l.map fun s => .val (.string s))]) := by
  refine (liftN_of (qs := [.lst false 1 (l.map fun s => .val (.string s)), .val (.int .i64 wd)]) (cs1 := []) (r := .tup [.val (.slice none 0 0), .val (.bool b)]) (cs0 := []) (by
    rw [mapM_cons', reify_row rfl, Option.bind_some, mapM_cons', reify_val, Option.bind_some, mapM_nil']; rfl) ((G2_ap (A := dSs) (B := dI) l wd).trans ((if_pos h).trans (by rw [hR]; cases b <;> rfl))) rfl rfl).trans ?_
  rfl
noncomputable def φLawTlE : Fun := F2 dSs dI fun l wd => if okSL l then some (bv true) else none
noncomputable def φEqSn : Fun := nilF 1 φEqS
noncomputable def φHeldSn : Fun := nilF 1 φHeldS
theorem φEqSn_ap {a b : LS} (h : a.length ≤ 1048576) (h2 : b.length ≤ 1048576) : φEqSn [.lst false 1 (a.map fun s => .val (.string s)), .lst false 1 (b.map fun s => .val (.string s))] = some (.val (.bool (decide (a = b)))) := φEqS_ap h h2
theorem φEqSn_nil : φEqSn [.val (.slice none 0 0), .lst false 1 []] = some (.val (.bool true)) := φEqS_ap (a := []) (b := []) (by simp) (by simp)
theorem φHeldSn_ap {k : Int} {n : Nat} (hn : n ≤ 1048576) (hk : 0 < k) (hk2 : k ≤ 1099511627776) : φHeldSn [.lst false 1 ((marksS k n).map fun s => .val (.string s)), .val (.int .i64 k)] = some (.val (.int .i64 (k + n))) := φHeldS_ap hn hk hk2
theorem φHeldSn_nil : φHeldSn [.val (.slice none 0 0), .val (.int .i64 1)] = some (.val (.int .i64 1)) := φHeldS_ap (k := 1) (n := 0) (by simp) (by simp) (by simp)
noncomputable def GTlE : Ctx := ⟨fun f => if f = 12 then some φSzS else if f = 17 then some φTL else if f = 16 then some φEqSn else if f = 20 then some φHeldSn else none, fun f => if f = 14 then some (liftN ΨToS) else if f = 18 then some (liftN ΨTL) else if f = 19 then some ΦmarkS else none⟩
theorem GTlE_ok : SoundΓ Try.prog GTlE := ⟨(fun f φ h => by
  unfold GTlE at h
  dsimp only at h
  split at h
  · rename_i hf; cases h; subst hf; exact ⟨⟨_, Try.func12, rfl, rfl⟩, szStringS_ok⟩
  split at h
  · rename_i hf; cases h; subst hf; exact ⟨⟨_, Try.func17, rfl, rfl⟩, specTL_ok⟩
  split at h
  · rename_i hf; cases h; subst hf; exact ⟨⟨_, Try.func16, rfl, rfl⟩, (eqStringS_ok.nil 1)⟩
  split at h
  · rename_i hf; cases h; subst hf; exact ⟨⟨_, Try.func20, rfl, rfl⟩, (heldStringS_ok.nil 1)⟩
  cases h), (fun f φ h => by
  unfold GTlE at h
  dsimp only at h
  split at h
  · rename_i hf; cases h; subst hf; exact ⟨⟨_, Try.func14, rfl, rfl⟩, toStringSN.lift⟩
  split at h
  · rename_i hf; cases h; subst hf; exact ⟨⟨_, Try.func18, rfl, rfl⟩, implTLN.lift⟩
  split at h
  · rename_i hf; cases h; subst hf; exact ⟨⟨_, Try.func19, rfl, rfl⟩, markS_io⟩
  cases h)⟩
theorem GTlE_12 (ob : Objs) (ps : List PV) : evCall GTlE ob 12 ps = (ps.mapM (reify false 0 ob fuel)).bind φSzS := by
  have h : GTlE.fn 12 = some φSzS := by simp [GTlE]
  unfold evCall
  rw [h]
  cases ps.mapM (reify false 0 ob fuel) <;> rfl
theorem GTlE_17 (ob : Objs) (ps : List PV) : evCall GTlE ob 17 ps = (ps.mapM (reify false 0 ob fuel)).bind φTL := by
  have h : GTlE.fn 17 = some φTL := by simp [GTlE]
  unfold evCall
  rw [h]
  cases ps.mapM (reify false 0 ob fuel) <;> rfl
theorem GTlE_16 (ob : Objs) (ps : List PV) : evCall GTlE ob 16 ps = (ps.mapM (reify false 0 ob fuel)).bind φEqSn := by
  have h : GTlE.fn 16 = some φEqSn := by simp [GTlE]
  unfold evCall
  rw [h]
  cases ps.mapM (reify false 0 ob fuel) <;> rfl
theorem GTlE_20 (ob : Objs) (ps : List PV) : evCall GTlE ob 20 ps = (ps.mapM (reify false 0 ob fuel)).bind φHeldSn := by
  have h : GTlE.fn 20 = some φHeldSn := by simp [GTlE]
  unfold evCall
  rw [h]
  cases ps.mapM (reify false 0 ob fuel) <;> rfl
theorem GTlE_14 : GTlE.io 14 = some (liftN ΨToS) := by simp [GTlE]
theorem GTlE_18 : GTlE.io 18 = some (liftN ΨTL) := by simp [GTlE]
theorem GTlE_19 : GTlE.io 19 = some ΦmarkS := by simp [GTlE]
set_option maxHeartbeats 16000000 in
theorem lawTlE_ok : Sound Try.prog 5 φLawTlE := by
  refine sound_pq mixed GTlE_ok Try.func5 rfl 101 rfl [.tmp 4] rfl (by kernel_rfl) fun ps r hr => ?_
  obtain ⟨l, wd, rfl, hq⟩ := F2_some hr
  clear hr
  split at hq
  case isFalse => cases hq
  case isTrue hpre =>
  cases hq
  refine ⟨by simp, ?_⟩
  simp only [dIs, dUs, dSs, dI_e, dU_e, dB_e, dS_e, dFn_e, dL_e, dA2_e, dA3_e, dA4_e, dA5_e]
  have ap1 := φSzS_ap hpre (left := 1048576) (by omega) (by omega)
  by_cases hneg : szS 1048576 l < 0
  · have gtle_c12 := GTlE_12; have gtle_c14 := GTlE_14; have gtle_c17 := GTlE_17; have gtle_c18 := GTlE_18; have gtle_c16 := GTlE_16; have gtle_c19 := GTlE_19; have gtle_c20 := GTlE_20
    (repeat' (first | (with_reducible first | apply i_seq | apply i_block | apply i_skip | apply i_exit | apply i_ret | apply i_kS | apply i_kSx | apply i_kSr | apply i_kL | apply i_kLx | apply i_kLr | apply i_kB | apply i_kBr | apply i_kBs | apply i_nil) | ((with_reducible apply i_region); (focus (simp only [List.map_cons, List.map_nil] <;> exact rfl))) | ((with_reducible apply i_draw); (focus (simp only [List.map_cons, List.map_nil] <;> exact rfl)); (focus (decide +kernel))) | ((with_reducible apply i_kBo); (focus rfl)) | ((first | ((with_reducible apply i_V); (focus rfl); (focus rfl); (focus rfl)) | ((with_reducible apply i_E); (focus rfl); (focus (first | rfl | (simp only [push_cast, ↓reduceIte, effOk, touch, refsOf, List.flatMap_cons, List.flatMap_nil])))) | ((with_reducible apply i_S); (focus rfl); (focus (first | rfl | (simp only [push_cast, ↓reduceIte, effOk, touch, refsOf, List.flatMap_cons, List.flatMap_nil])))) | ((with_reducible apply i_Vq); (focus rfl); (focus rfl)) | ((with_reducible apply i_Vp); (focus rfl); (focus rfl); (focus rfl))); (focus (simp (disch := (first | omega | (simp only [push_cast]; done) | (simp only [push_cast]; omega) | ((try simp only [push_cast]); (with_reducible first | apply sel_lt | apply sel_ge); (focus decide); (focus (simp only [push_cast]; omega))))) only [push_cast, ↓reduceIte, Nat.reduceEqDiff, Nat.reduceBEq, Nat.reduceAdd, Nat.reduceSub, Int.reduceToNat, *] <;> with_reducible exact rfl))) | ((with_reducible first | apply i_Gb | apply i_cond); (focus (simp (disch := (first | omega | (simp only [push_cast]; done) | (simp only [push_cast]; omega) | ((try simp only [push_cast]); (with_reducible first | apply sel_lt | apply sel_ge); (focus decide); (focus (simp only [push_cast]; omega))))) only [push_cast, ↓reduceIte, Nat.reduceEqDiff, Nat.reduceBEq, Nat.reduceAdd, Nat.reduceSub, Int.reduceToNat, *] <;> with_reducible exact rfl)); all_goals (intro hX; first | (cases hX; done) | ((with_reducible first | have hX0 : true = true := hX | have hX0 : false = false := hX); clear hX0 hX) | ((try simp only [decide_eq_true_eq, decide_eq_false_iff_not, Bool.not_eq_true', Bool.not_eq_false'] at hX); (try have hXb := inB_iff.1 hX)))))); all_goals try (exfalso; omega)
    all_goals ((first | apply i_end | apply i_endN); simp (disch := (first | omega | (simp only [push_cast]; done) | (simp only [push_cast]; omega) | ((try simp only [push_cast]); (with_reducible first | apply sel_lt | apply sel_ge); (focus decide); (focus (simp only [push_cast]; omega))))) only [push_cast, ↓reduceIte, Nat.reduceEqDiff, Nat.reduceBEq, Nat.reduceAdd, Nat.reduceSub, Int.reduceToNat, *])
  have hok : okSs l := szS_ok (left := 1048576) (by omega) (by omega) (by omega)
  have ap2 := toS_lift hok.1
  have ap3 := φTL_ap (wd := wd) hok
  have hlen := hok.1
  have ap5 := φEqSn_ap (a := l) (b := l) hok.1 hok.1
  have ap6 := markS_mk.1 l 1 hok.1 (by omega) (by omega)
  have hcase : (∃ b : Bool, tlR l wd = if b = true then some [] else none) ∨ ∃ L, tlR l wd = some L ∧ 0 < L.length := by
    cases hR : tlR l wd with
    | none => exact .inl ⟨false, rfl⟩
    | some L =>
      cases L with
      | nil => exact .inl ⟨true, rfl⟩
      | cons z L => exact .inr ⟨_, rfl, by simp⟩
  rcases hcase with ⟨b, hR⟩ | ⟨L, hR, hL0⟩
  · have ap4 := TL_lift0 hok hR
    have ap7 := markS_mk.2 1
    have ap8 := φEqSn_nil
    have ap9 := φHeldSn_nil
    rw [hR] at ap3
    clear hpre hok hR
    cases b <;>
    · simp only [if_true, Bool.false_eq_true, if_false, Option.getD_some, Option.getD_none, Option.isSome_some, Option.isSome_none] at ap3
      have gtle_c12 := GTlE_12; have gtle_c14 := GTlE_14; have gtle_c17 := GTlE_17; have gtle_c18 := GTlE_18; have gtle_c16 := GTlE_16; have gtle_c19 := GTlE_19; have gtle_c20 := GTlE_20
      (repeat' (first | (with_reducible first | apply i_seq | apply i_block | apply i_skip | apply i_exit | apply i_ret | apply i_kS | apply i_kSx | apply i_kSr | apply i_kL | apply i_kLx | apply i_kLr | apply i_kB | apply i_kBr | apply i_kBs | apply i_nil) | ((with_reducible apply i_region); (focus (simp only [List.map_cons, List.map_nil] <;> exact rfl))) | ((with_reducible apply i_draw); (focus (simp only [List.map_cons, List.map_nil] <;> exact rfl)); (focus (decide +kernel))) | ((with_reducible apply i_kBo); (focus rfl)) | ((first | ((with_reducible apply i_V); (focus rfl); (focus rfl); (focus rfl)) | ((with_reducible apply i_E); (focus rfl); (focus (first | rfl | (simp only [push_cast, ↓reduceIte, effOk, touch, refsOf, List.flatMap_cons, List.flatMap_nil])))) | ((with_reducible apply i_S); (focus rfl); (focus (first | rfl | (simp only [push_cast, ↓reduceIte, effOk, touch, refsOf, List.flatMap_cons, List.flatMap_nil])))) | ((with_reducible apply i_Vq); (focus rfl); (focus rfl)) | ((with_reducible apply i_Vp); (focus rfl); (focus rfl); (focus rfl))); (focus (simp (disch := (first | omega | (simp only [push_cast]; done) | (simp only [push_cast]; omega) | ((try simp only [push_cast]); (with_reducible first | apply sel_lt | apply sel_ge); (focus decide); (focus (simp only [push_cast]; omega))))) only [push_cast, ↓reduceIte, Nat.reduceEqDiff, Nat.reduceBEq, Nat.reduceAdd, Nat.reduceSub, Int.reduceToNat, *] <;> with_reducible exact rfl))) | ((with_reducible first | apply i_Gb | apply i_cond); (focus (simp (disch := (first | omega | (simp only [push_cast]; done) | (simp only [push_cast]; omega) | ((try simp only [push_cast]); (with_reducible first | apply sel_lt | apply sel_ge); (focus decide); (focus (simp only [push_cast]; omega))))) only [push_cast, ↓reduceIte, Nat.reduceEqDiff, Nat.reduceBEq, Nat.reduceAdd, Nat.reduceSub, Int.reduceToNat, *] <;> with_reducible exact rfl)); all_goals (intro hX; first | (cases hX; done) | ((with_reducible first | have hX0 : true = true := hX | have hX0 : false = false := hX); clear hX0 hX) | ((try simp only [decide_eq_true_eq, decide_eq_false_iff_not, Bool.not_eq_true', Bool.not_eq_false'] at hX); (try have hXb := inB_iff.1 hX)))))); all_goals try (exfalso; omega)
      all_goals (first | (exfalso; omega) | ((first | apply i_end | apply i_endN); simp (disch := (first | omega | (simp only [push_cast]; done) | (simp only [push_cast]; omega) | ((try simp only [push_cast]); (with_reducible first | apply sel_lt | apply sel_ge); (focus decide); (focus (simp only [push_cast]; omega))))) only [push_cast, ↓reduceIte, Nat.reduceEqDiff, Nat.reduceBEq, Nat.reduceAdd, Nat.reduceSub, Int.reduceToNat, *]) | skip)
  · have ap4 := TL_lift hok hR hL0
    have hLl := tlR_len hR
    have ap7 := markS_mk.1 L 1 (by omega) (by omega) (by omega)
    have ap8 := φEqSn_ap (a := L) (b := L) (by omega) (by omega)
    have ap9 := φHeldSn_ap (k := 1) (n := L.length) (by omega) (by omega) (by omega)
    have hml := marksS_length 1 L.length
    rw [hR, Option.getD_some, Option.isSome_some] at ap3
    clear hpre hok hR
    have gtle_c12 := GTlE_12; have gtle_c14 := GTlE_14; have gtle_c17 := GTlE_17; have gtle_c18 := GTlE_18; have gtle_c16 := GTlE_16; have gtle_c19 := GTlE_19; have gtle_c20 := GTlE_20
    (repeat' (first | (with_reducible first | apply i_seq | apply i_block | apply i_skip | apply i_exit | apply i_ret | apply i_kS | apply i_kSx | apply i_kSr | apply i_kL | apply i_kLx | apply i_kLr | apply i_kB | apply i_kBr | apply i_kBs | apply i_nil) | ((with_reducible apply i_region); (focus (simp only [List.map_cons, List.map_nil] <;> exact rfl))) | ((with_reducible apply i_draw); (focus (simp only [List.map_cons, List.map_nil] <;> exact rfl)); (focus (decide +kernel))) | ((with_reducible apply i_kBo); (focus rfl)) | ((first | ((with_reducible apply i_V); (focus rfl); (focus rfl); (focus rfl)) | ((with_reducible apply i_E); (focus rfl); (focus (first | rfl | (simp only [push_cast, ↓reduceIte, effOk, touch, refsOf, List.flatMap_cons, List.flatMap_nil])))) | ((with_reducible apply i_S); (focus rfl); (focus (first | rfl | (simp only [push_cast, ↓reduceIte, effOk, touch, refsOf, List.flatMap_cons, List.flatMap_nil])))) | ((with_reducible apply i_Vq); (focus rfl); (focus rfl)) | ((with_reducible apply i_Vp); (focus rfl); (focus rfl); (focus rfl))); (focus (simp (disch := (first | omega | (simp only [push_cast]; done) | (simp only [push_cast]; omega) | ((try simp only [push_cast]); (with_reducible first | apply sel_lt | apply sel_ge); (focus decide); (focus (simp only [push_cast]; omega))))) only [push_cast, ↓reduceIte, Nat.reduceEqDiff, Nat.reduceBEq, Nat.reduceAdd, Nat.reduceSub, Int.reduceToNat, *] <;> with_reducible exact rfl))) | ((with_reducible first | apply i_Gb | apply i_cond); (focus (simp (disch := (first | omega | (simp only [push_cast]; done) | (simp only [push_cast]; omega) | ((try simp only [push_cast]); (with_reducible first | apply sel_lt | apply sel_ge); (focus decide); (focus (simp only [push_cast]; omega))))) only [push_cast, ↓reduceIte, Nat.reduceEqDiff, Nat.reduceBEq, Nat.reduceAdd, Nat.reduceSub, Int.reduceToNat, *] <;> with_reducible exact rfl)); all_goals (intro hX; first | (cases hX; done) | ((with_reducible first | have hX0 : true = true := hX | have hX0 : false = false := hX); clear hX0 hX) | ((try simp only [decide_eq_true_eq, decide_eq_false_iff_not, Bool.not_eq_true', Bool.not_eq_false'] at hX); (try have hXb := inB_iff.1 hX)))))); all_goals try (exfalso; omega)
    all_goals (first | (exfalso; omega) | ((first | apply i_end | apply i_endN); simp (disch := (first | omega | (simp only [push_cast]; done) | (simp only [push_cast]; omega) | ((try simp only [push_cast]); (with_reducible first | apply sel_lt | apply sel_ge); (focus decide); (focus (simp only [push_cast]; omega))))) only [push_cast, ↓reduceIte, Nat.reduceEqDiff, Nat.reduceBEq, Nat.reduceAdd, Nat.reduceSub, Int.reduceToNat, *]) | skip)
end Go.Proofs.Ytenldjifipnjpaa
