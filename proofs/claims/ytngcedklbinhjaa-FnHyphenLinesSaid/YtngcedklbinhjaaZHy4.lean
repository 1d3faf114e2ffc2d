/- What the proof rests on, part 4: contracts of functions. No condition beyond what each states. -/
import Derived.Test.YtngcedklbinhjaaZHy3
namespace Go.Proofs.Ytngcedklbinhjaa
open Go.RowKit
set_option linter.all false
abbrev pvS (s : ByteArray) : PV := .val (.string s)
def signsV (s : ByteArray) : LS := if wordB s = true then signs s else []
def φSgS : Fun := F1 dS fun s => if s.size ≤ 1048576 then some (.lst true 1 ((signsV s).map fun s => .val (.string s))) else none
theorem φSgS_ap {s : ByteArray} (h : s.size ≤ 1048576) : φSgS [.val (.string s)] = some (.lst true 1 ((signsV s).map fun s => .val (.string s))) := (F1_ap (A := dS) s).trans (if_pos h)
noncomputable def GSgS : Ctx := ⟨fun f => if f = 116 then some φJoinQ else if f = 69 then some φWord else none, fun f => none⟩
theorem GSgS_ok : SoundΓ Try.prog GSgS := ⟨(fun f φ h => by
  unfold GSgS at h
  dsimp only at h
  split at h
  · rename_i hf; cases h; subst hf; exact ⟨⟨_, Try.func116, rfl, rfl⟩, specJoinQ_ok⟩
  split at h
  · rename_i hf; cases h; subst hf; exact ⟨⟨_, Try.func69, rfl, rfl⟩, specWordValid_ok⟩
  cases h), (fun f φ h => by
  unfold GSgS at h
  dsimp only at h
  cases h)⟩
theorem GSgS_116 (ob : Objs) (ps : List PV) : evCall GSgS ob 116 ps = (ps.mapM (reify false 0 ob fuel)).bind φJoinQ := by
  have h : GSgS.fn 116 = some φJoinQ := by simp [GSgS]
  unfold evCall
  rw [h]
  cases ps.mapM (reify false 0 ob fuel) <;> rfl
theorem GSgS_69 (ob : Objs) (ps : List PV) : evCall GSgS ob 69 ps = (ps.mapM (reify false 0 ob fuel)).bind φWord := by
  have h : GSgS.fn 69 = some φWord := by simp [GSgS]
  unfold evCall
  rw [h]
  cases ps.mapM (reify false 0 ob fuel) <;> rfl
set_option maxHeartbeats 8000000 in
theorem signsS_ok : Sound Try.prog 100 φSgS := by
  refine sound_pq mixed GSgS_ok Try.func100 rfl 50 rfl [.tmp 2] rfl (by kernel_rfl) fun ps r hr => ?_
  obtain ⟨s, rfl, hq⟩ := F1_some hr
  clear hr
  split at hq
  case isFalse => cases hq
  case isTrue hpre =>
  cases hq
  refine ⟨by simp, ?_⟩
  simp only [dIs, dUs, dSs, dI_e, dU_e, dB_e, dS_e, dFn_e, dL_e, dA2_e, dA3_e, dA4_e, dA5_e]
  have apw := φWord_ap (s := s) (by omega)
  unfold signsV
  cases hw : wordB s with
  | false =>
    rw [hw] at apw
    rw [if_neg (by decide)]
    clear hw
    have gsgs_c116 := GSgS_116; have gsgs_c69 := GSgS_69
    (repeat' (first | (with_reducible first | apply i_seq | apply i_block | apply i_skip | apply i_exit | apply i_ret | apply i_kS | apply i_kSx | apply i_kSr | apply i_kL | apply i_kLx | apply i_kLr | apply i_kB | apply i_kBr | apply i_kBs | apply i_nil) | ((with_reducible apply i_region); (focus (simp only [List.map_cons, List.map_nil] <;> exact rfl))) | ((with_reducible apply i_draw); (focus (simp only [List.map_cons, List.map_nil] <;> exact rfl)); (focus (decide +kernel))) | ((with_reducible apply i_kBo); (focus rfl)) | ((first | ((with_reducible apply i_V); (focus rfl); (focus rfl); (focus rfl)) | ((with_reducible apply i_E); (focus rfl); (focus (first | rfl | (simp only [push_cast, ↓reduceIte, effOk, touch, refsOf, List.flatMap_cons, List.flatMap_nil])))) | ((with_reducible apply i_S); (focus rfl); (focus (first | rfl | (simp only [push_cast, ↓reduceIte, effOk, touch, refsOf, List.flatMap_cons, List.flatMap_nil])))) | ((with_reducible apply i_Vq); (focus rfl); (focus rfl)) | ((with_reducible apply i_Vp); (focus rfl); (focus rfl); (focus rfl)) | (with_reducible first | apply i_Gb | apply i_cond)); (focus (simp (disch := (first | omega | (simp only [push_cast]; done) | (simp only [push_cast]; omega) | ((try simp only [push_cast]); (with_reducible first | apply sel_lt | apply sel_ge); (focus decide); (focus (simp only [push_cast]; omega))))) only [push_cast, ↓reduceIte, Nat.reduceEqDiff, Nat.reduceBEq, Nat.reduceAdd, Nat.reduceSub, Int.reduceToNat, *] <;> with_reducible exact rfl)); all_goals try (intro hX; first | (cases hX; done) | ((with_reducible first | have hX0 : true = true := hX | have hX0 : false = false := hX); clear hX0 hX) | ((try simp only [decide_eq_true_eq, decide_eq_false_iff_not, Bool.not_eq_true', Bool.not_eq_false'] at hX); (try have hXb := inB_iff.1 hX)))))); all_goals try (exfalso; omega)
    refine i_loop (α := Unit) mixed (fun z => [(0, .val (.string s)), (3, .row 0 1 0 0), (4, iv 0)]) (fun z => [(0, 9, 1, [])]) (fun z => 1) (fun _ => True) (fun _ => 0) (by kernel_rfl) () trivial ?_ ?_ rfl ?_
    · simp (disch := (first | omega | (simp only [push_cast]; done) | (simp only [push_cast]; omega) | ((try simp only [push_cast]); (with_reducible first | apply sel_lt | apply sel_ge); (focus decide); (focus (simp only [push_cast]; omega))))) only [push_cast, ↓reduceIte, Nat.reduceEqDiff, Nat.reduceBEq, Nat.reduceAdd, Nat.reduceSub, Int.reduceToNat, List.length_append, *]
    · simp (disch := (first | omega | (simp only [push_cast]; done) | (simp only [push_cast]; omega) | ((try simp only [push_cast]); (with_reducible first | apply sel_lt | apply sel_ge); (focus decide); (focus (simp only [push_cast]; omega))))) only [push_cast, ↓reduceIte, Nat.reduceEqDiff, Nat.reduceBEq, Nat.reduceAdd, Nat.reduceSub, Int.reduceToNat, List.length_append, *]
    rintro ⟨⟩ -
    (repeat' (first | (with_reducible first | apply i_seq | apply i_block | apply i_skip | apply i_exit | apply i_ret | apply i_kS | apply i_kSx | apply i_kSr | apply i_kL | apply i_kLx | apply i_kLr | apply i_kB | apply i_kBr | apply i_kBs | apply i_nil) | ((with_reducible apply i_region); (focus (simp only [List.map_cons, List.map_nil] <;> exact rfl))) | ((with_reducible apply i_draw); (focus (simp only [List.map_cons, List.map_nil] <;> exact rfl)); (focus (decide +kernel))) | ((with_reducible apply i_kBo); (focus rfl)) | ((first | ((with_reducible apply i_V); (focus rfl); (focus rfl); (focus rfl)) | ((with_reducible apply i_E); (focus rfl); (focus (first | rfl | (simp only [push_cast, ↓reduceIte, effOk, touch, refsOf, List.flatMap_cons, List.flatMap_nil])))) | ((with_reducible apply i_S); (focus rfl); (focus (first | rfl | (simp only [push_cast, ↓reduceIte, effOk, touch, refsOf, List.flatMap_cons, List.flatMap_nil])))) | ((with_reducible apply i_Vq); (focus rfl); (focus rfl)) | ((with_reducible apply i_Vp); (focus rfl); (focus rfl); (focus rfl)) | (with_reducible first | apply i_Gb | apply i_cond)); (focus (simp (disch := (first | omega | (simp only [push_cast]; done) | (simp only [push_cast]; omega) | ((try simp only [push_cast]); (with_reducible first | apply sel_lt | apply sel_ge); (focus decide); (focus (simp only [push_cast]; omega))))) only [push_cast, ↓reduceIte, Nat.reduceEqDiff, Nat.reduceBEq, Nat.reduceAdd, Nat.reduceSub, Int.reduceToNat, *] <;> with_reducible exact rfl)); all_goals try (intro hX; first | (cases hX; done) | ((with_reducible first | have hX0 : true = true := hX | have hX0 : false = false := hX); clear hX0 hX) | ((try simp only [decide_eq_true_eq, decide_eq_false_iff_not, Bool.not_eq_true', Bool.not_eq_false'] at hX); (try have hXb := inB_iff.1 hX)))))); all_goals try (exfalso; omega)
    all_goals ((first | apply i_end | apply i_endN); simp (disch := (first | omega | (simp only [push_cast]; done) | (simp only [push_cast]; omega) | ((try simp only [push_cast]); (with_reducible first | apply sel_lt | apply sel_ge); (focus decide); (focus (simp only [push_cast]; omega))))) only [push_cast, ↓reduceIte, Nat.reduceEqDiff, Nat.reduceBEq, Nat.reduceAdd, Nat.reduceSub, Int.reduceToNat, *])
  | true =>
    rw [hw] at apw
    rw [if_pos rfl]
    obtain ⟨-, hs1, hs2⟩ := wordB_letters hw
    have apj := fun i => φJoinQ_ap (at8 s i) (at8 s (i + 1))
    have hI0 : [] ++ sgF s s.size 0 = signs s := rfl
    replace hI0 := Lib.hid hI0
    generalize signs s = R at *
    clear hpre hw
    have gsgs_c116 := GSgS_116; have gsgs_c69 := GSgS_69
    (repeat' (first | (with_reducible first | apply i_seq | apply i_block | apply i_skip | apply i_exit | apply i_ret | apply i_kS | apply i_kSx | apply i_kSr | apply i_kL | apply i_kLx | apply i_kLr | apply i_kB | apply i_kBr | apply i_kBs | apply i_nil) | ((with_reducible apply i_region); (focus (simp only [List.map_cons, List.map_nil] <;> exact rfl))) | ((with_reducible apply i_draw); (focus (simp only [List.map_cons, List.map_nil] <;> exact rfl)); (focus (decide +kernel))) | ((with_reducible apply i_kBo); (focus rfl)) | ((first | ((with_reducible apply i_V); (focus rfl); (focus rfl); (focus rfl)) | ((with_reducible apply i_E); (focus rfl); (focus (first | rfl | (simp only [push_cast, ↓reduceIte, effOk, touch, refsOf, List.flatMap_cons, List.flatMap_nil])))) | ((with_reducible apply i_S); (focus rfl); (focus (first | rfl | (simp only [push_cast, ↓reduceIte, effOk, touch, refsOf, List.flatMap_cons, List.flatMap_nil])))) | ((with_reducible apply i_Vq); (focus rfl); (focus rfl)) | ((with_reducible apply i_Vp); (focus rfl); (focus rfl); (focus rfl)) | (with_reducible first | apply i_Gb | apply i_cond)); (focus (simp (disch := (first | omega | (simp only [push_cast]; done) | (simp only [push_cast]; omega) | ((try simp only [push_cast]); (with_reducible first | apply sel_lt | apply sel_ge); (focus decide); (focus (simp only [push_cast]; omega))))) only [push_cast, ↓reduceIte, Nat.reduceEqDiff, Nat.reduceBEq, Nat.reduceAdd, Nat.reduceSub, Int.reduceToNat, *] <;> with_reducible exact rfl)); all_goals try (intro hX; first | (cases hX; done) | ((with_reducible first | have hX0 : true = true := hX | have hX0 : false = false := hX); clear hX0 hX) | ((try simp only [decide_eq_true_eq, decide_eq_false_iff_not, Bool.not_eq_true', Bool.not_eq_false'] at hX); (try have hXb := inB_iff.1 hX)))))); all_goals try (exfalso; omega)
    refine i_loop (α := Nat × Nat × LS × Nat × Nat) mixed (fun z => [(0, .val (.string s)), (3, .row z.2.2.2.1 1 0 z.2.2.1.length), (4, iv z.2.1)])
      (fun z => [(z.2.2.2.1, 9, 1, z.2.2.1.map pvS)]) (fun z => z.2.2.2.2)
      (fun z => z.2.2.1 ++ sgF s z.1 z.2.1 = R ∧ s.size ≤ z.2.1 + z.1 ∧ z.2.1 ≤ s.size ∧ z.2.2.1.length ≤ z.2.1 ∧ z.2.2.2.1 < z.2.2.2.2) (fun z => z.1) (by kernel_rfl) (s.size, 0, [], 0, 1) ⟨hI0.out, by simp, by simp, by simp, by simp⟩ ?_ ?_ rfl ?_
    · simp (disch := (first | omega | (simp only [push_cast]; done) | (simp only [push_cast]; omega) | ((try simp only [push_cast]); (with_reducible first | apply sel_lt | apply sel_ge); (focus decide); (focus (simp only [push_cast]; omega))))) only [push_cast, ↓reduceIte, Nat.reduceEqDiff, Nat.reduceBEq, Nat.reduceAdd, Nat.reduceSub, Int.reduceToNat, List.length_append, *]
    · simp (disch := (first | omega | (simp only [push_cast]; done) | (simp only [push_cast]; omega) | ((try simp only [push_cast]); (with_reducible first | apply sel_lt | apply sel_ge); (focus decide); (focus (simp only [push_cast]; omega))))) only [push_cast, ↓reduceIte, Nat.reduceEqDiff, Nat.reduceBEq, Nat.reduceAdd, Nat.reduceSub, Int.reduceToNat, List.length_append, *]
    rintro ⟨f, i, out, x, y⟩ ⟨hI, hf, hi, ho, hxy⟩
    dsimp only at hI hf hi ho hxy
    clear hI0
    by_cases h0 : i < s.size
    · cases f with
      | zero => omega
      | succ f =>
      rw [sgF_step h0] at hI
      have hI2 : (out ++ [s.extract i (i + sgN s i)]) ++ sgF s f (i + sgN s i) = R := by rw [List.append_assoc]; exact hI
      clear hI
      replace apj := apj i
      by_cases hj : i + 1 < s.size ∧ joinQ (at8 s i) (at8 s (i + 1)) = true
      · have hn : sgN s i = 2 := if_pos hj
        rw [hn] at hI2
        replace hI2 := Lib.hid hI2
        obtain ⟨hj1, hj2⟩ := hj
        rw [hj2] at apj
        have e3 : ((i : Int) + 2).toNat = i + 2 := by omega
        clear hn
        (repeat' (first | (with_reducible first | apply i_seq | apply i_block | apply i_skip | apply i_exit | apply i_ret | apply i_kS | apply i_kSx | apply i_kSr | apply i_kL | apply i_kLx | apply i_kLr | apply i_kB | apply i_kBr | apply i_kBs | apply i_nil) | ((with_reducible apply i_region); (focus (simp only [List.map_cons, List.map_nil] <;> exact rfl))) | ((with_reducible apply i_draw); (focus (simp only [List.map_cons, List.map_nil] <;> exact rfl)); (focus (decide +kernel))) | ((with_reducible apply i_kBo); (focus rfl)) | ((first | ((with_reducible apply i_V); (focus rfl); (focus rfl); (focus rfl)) | ((with_reducible apply i_E); (focus rfl); (focus (first | rfl | (simp only [push_cast, ↓reduceIte, effOk, touch, refsOf, List.flatMap_cons, List.flatMap_nil])))) | ((with_reducible apply i_S); (focus rfl); (focus (first | rfl | (simp only [push_cast, ↓reduceIte, effOk, touch, refsOf, List.flatMap_cons, List.flatMap_nil])))) | ((with_reducible apply i_Vq); (focus rfl); (focus rfl)) | ((with_reducible apply i_Vp); (focus rfl); (focus rfl); (focus rfl)) | (with_reducible first | apply i_Gb | apply i_cond)); (focus (simp (disch := (first | omega | (simp only [push_cast]; done) | (simp only [push_cast]; omega) | ((try simp only [push_cast]); (with_reducible first | apply sel_lt | apply sel_ge); (focus decide); (focus (simp only [push_cast]; omega))))) only [push_cast, ↓reduceIte, Nat.reduceEqDiff, Nat.reduceBEq, Nat.reduceAdd, Nat.reduceSub, Int.reduceToNat, *] <;> with_reducible exact rfl)); all_goals try (intro hX; first | (cases hX; done) | ((with_reducible first | have hX0 : true = true := hX | have hX0 : false = false := hX); clear hX0 hX) | ((try simp only [decide_eq_true_eq, decide_eq_false_iff_not, Bool.not_eq_true', Bool.not_eq_false'] at hX); (try have hXb := inB_iff.1 hX)))))); all_goals try (exfalso; omega)
        refine ⟨(f, i + 2, out ++ [s.extract i (i + 2)], y + 1, y + 2), ⟨hI2.out, by dsimp only; omega, by dsimp only; omega, by simp; omega, by dsimp only; omega⟩, by dsimp only; omega, ?_, ?_, rfl⟩
        · (simp (disch := (first | omega | (simp only [push_cast]; done) | (simp only [push_cast]; omega) | ((try simp only [push_cast]); (with_reducible first | apply sel_lt | apply sel_ge); (focus decide); (focus (simp only [push_cast]; omega))))) only [push_cast, ↓reduceIte, Nat.reduceEqDiff, Nat.reduceBEq, Nat.reduceAdd, Nat.reduceSub, Int.reduceToNat, List.length_append, *]; try exact congrArg (fun z => PV.val (Value.int IntKind.i64 z)) (by omega))
        · simp (disch := (first | omega | (simp only [push_cast]; done) | (simp only [push_cast]; omega) | ((try simp only [push_cast]); (with_reducible first | apply sel_lt | apply sel_ge); (focus decide); (focus (simp only [push_cast]; omega))))) only [push_cast, ↓reduceIte, Nat.reduceEqDiff, Nat.reduceBEq, Nat.reduceAdd, Nat.reduceSub, Int.reduceToNat, List.length_append, *]
      · have hn : sgN s i = 1 := if_neg hj
        rw [hn] at hI2
        replace hI2 := Lib.hid hI2
        clear hn
        have hj3 : i + 1 < s.size → joinQ (at8 s i) (at8 s (i + 1)) = false := fun h => by
          cases hq : joinQ (at8 s i) (at8 s (i + 1)) with
          | false => rfl
          | true => exact absurd ⟨h, hq⟩ hj
        clear hj
        by_cases h1 : i + 1 < s.size
        · rw [hj3 h1] at apj
          clear hj3
          (repeat' (first | (with_reducible first | apply i_seq | apply i_block | apply i_skip | apply i_exit | apply i_ret | apply i_kS | apply i_kSx | apply i_kSr | apply i_kL | apply i_kLx | apply i_kLr | apply i_kB | apply i_kBr | apply i_kBs | apply i_nil) | ((with_reducible apply i_region); (focus (simp only [List.map_cons, List.map_nil] <;> exact rfl))) | ((with_reducible apply i_draw); (focus (simp only [List.map_cons, List.map_nil] <;> exact rfl)); (focus (decide +kernel))) | ((with_reducible apply i_kBo); (focus rfl)) | ((first | ((with_reducible apply i_V); (focus rfl); (focus rfl); (focus rfl)) | ((with_reducible apply i_E); (focus rfl); (focus (first | rfl | (simp only [push_cast, ↓reduceIte, effOk, touch, refsOf, List.flatMap_cons, List.flatMap_nil])))) | ((with_reducible apply i_S); (focus rfl); (focus (first | rfl | (simp only [push_cast, ↓reduceIte, effOk, touch, refsOf, List.flatMap_cons, List.flatMap_nil])))) | ((with_reducible apply i_Vq); (focus rfl); (focus rfl)) | ((with_reducible apply i_Vp); (focus rfl); (focus rfl); (focus rfl)) | (with_reducible first | apply i_Gb | apply i_cond)); (focus (simp (disch := (first | omega | (simp only [push_cast]; done) | (simp only [push_cast]; omega) | ((try simp only [push_cast]); (with_reducible first | apply sel_lt | apply sel_ge); (focus decide); (focus (simp only [push_cast]; omega))))) only [push_cast, ↓reduceIte, Nat.reduceEqDiff, Nat.reduceBEq, Nat.reduceAdd, Nat.reduceSub, Int.reduceToNat, *] <;> with_reducible exact rfl)); all_goals try (intro hX; first | (cases hX; done) | ((with_reducible first | have hX0 : true = true := hX | have hX0 : false = false := hX); clear hX0 hX) | ((try simp only [decide_eq_true_eq, decide_eq_false_iff_not, Bool.not_eq_true', Bool.not_eq_false'] at hX); (try have hXb := inB_iff.1 hX)))))); all_goals try (exfalso; omega)
          refine ⟨(f, i + 1, out ++ [s.extract i (i + 1)], y + 1, y + 2), ⟨hI2.out, by dsimp only; omega, by dsimp only; omega, by simp; omega, by dsimp only; omega⟩, by dsimp only; omega, ?_, ?_, rfl⟩
          · simp (disch := (first | omega | (simp only [push_cast]; done) | (simp only [push_cast]; omega) | ((try simp only [push_cast]); (with_reducible first | apply sel_lt | apply sel_ge); (focus decide); (focus (simp only [push_cast]; omega))))) only [push_cast, ↓reduceIte, Nat.reduceEqDiff, Nat.reduceBEq, Nat.reduceAdd, Nat.reduceSub, Int.reduceToNat, List.length_append, *]
          · simp (disch := (first | omega | (simp only [push_cast]; done) | (simp only [push_cast]; omega) | ((try simp only [push_cast]); (with_reducible first | apply sel_lt | apply sel_ge); (focus decide); (focus (simp only [push_cast]; omega))))) only [push_cast, ↓reduceIte, Nat.reduceEqDiff, Nat.reduceBEq, Nat.reduceAdd, Nat.reduceSub, Int.reduceToNat, List.length_append, *]
        · clear hj3
          (repeat' (first | (with_reducible first | apply i_seq | apply i_block | apply i_skip | apply i_exit | apply i_ret | apply i_kS | apply i_kSx | apply i_kSr | apply i_kL | apply i_kLx | apply i_kLr | apply i_kB | apply i_kBr | apply i_kBs | apply i_nil) | ((with_reducible apply i_region); (focus (simp only [List.map_cons, List.map_nil] <;> exact rfl))) | ((with_reducible apply i_draw); (focus (simp only [List.map_cons, List.map_nil] <;> exact rfl)); (focus (decide +kernel))) | ((with_reducible apply i_kBo); (focus rfl)) | ((first | ((with_reducible apply i_V); (focus rfl); (focus rfl); (focus rfl)) | ((with_reducible apply i_E); (focus rfl); (focus (first | rfl | (simp only [push_cast, ↓reduceIte, effOk, touch, refsOf, List.flatMap_cons, List.flatMap_nil])))) | ((with_reducible apply i_S); (focus rfl); (focus (first | rfl | (simp only [push_cast, ↓reduceIte, effOk, touch, refsOf, List.flatMap_cons, List.flatMap_nil])))) | ((with_reducible apply i_Vq); (focus rfl); (focus rfl)) | ((with_reducible apply i_Vp); (focus rfl); (focus rfl); (focus rfl)) | (with_reducible first | apply i_Gb | apply i_cond)); (focus (simp (disch := (first | omega | (simp only [push_cast]; done) | (simp only [push_cast]; omega) | ((try simp only [push_cast]); (with_reducible first | apply sel_lt | apply sel_ge); (focus decide); (focus (simp only [push_cast]; omega))))) only [push_cast, ↓reduceIte, Nat.reduceEqDiff, Nat.reduceBEq, Nat.reduceAdd, Nat.reduceSub, Int.reduceToNat, *] <;> with_reducible exact rfl)); all_goals try (intro hX; first | (cases hX; done) | ((with_reducible first | have hX0 : true = true := hX | have hX0 : false = false := hX); clear hX0 hX) | ((try simp only [decide_eq_true_eq, decide_eq_false_iff_not, Bool.not_eq_true', Bool.not_eq_false'] at hX); (try have hXb := inB_iff.1 hX)))))); all_goals try (exfalso; omega)
          refine ⟨(f, i + 1, out ++ [s.extract i (i + 1)], y + 1, y + 2), ⟨hI2.out, by dsimp only; omega, by dsimp only; omega, by simp; omega, by dsimp only; omega⟩, by dsimp only; omega, ?_, ?_, rfl⟩
          · simp (disch := (first | omega | (simp only [push_cast]; done) | (simp only [push_cast]; omega) | ((try simp only [push_cast]); (with_reducible first | apply sel_lt | apply sel_ge); (focus decide); (focus (simp only [push_cast]; omega))))) only [push_cast, ↓reduceIte, Nat.reduceEqDiff, Nat.reduceBEq, Nat.reduceAdd, Nat.reduceSub, Int.reduceToNat, List.length_append, *]
          · simp (disch := (first | omega | (simp only [push_cast]; done) | (simp only [push_cast]; omega) | ((try simp only [push_cast]); (with_reducible first | apply sel_lt | apply sel_ge); (focus decide); (focus (simp only [push_cast]; omega))))) only [push_cast, ↓reduceIte, Nat.reduceEqDiff, Nat.reduceBEq, Nat.reduceAdd, Nat.reduceSub, Int.reduceToNat, List.length_append, *]
    · rw [sgF_end (by omega), List.append_nil] at hI
      subst hI
      clear apj
      (repeat' (first | (with_reducible first | apply i_seq | apply i_block | apply i_skip | apply i_exit | apply i_ret | apply i_kS | apply i_kSx | apply i_kSr | apply i_kL | apply i_kLx | apply i_kLr | apply i_kB | apply i_kBr | apply i_kBs | apply i_nil) | ((with_reducible apply i_region); (focus (simp only [List.map_cons, List.map_nil] <;> exact rfl))) | ((with_reducible apply i_draw); (focus (simp only [List.map_cons, List.map_nil] <;> exact rfl)); (focus (decide +kernel))) | ((with_reducible apply i_kBo); (focus rfl)) | ((first | ((with_reducible apply i_V); (focus rfl); (focus rfl); (focus rfl)) | ((with_reducible apply i_E); (focus rfl); (focus (first | rfl | (simp only [push_cast, ↓reduceIte, effOk, touch, refsOf, List.flatMap_cons, List.flatMap_nil])))) | ((with_reducible apply i_S); (focus rfl); (focus (first | rfl | (simp only [push_cast, ↓reduceIte, effOk, touch, refsOf, List.flatMap_cons, List.flatMap_nil])))) | ((with_reducible apply i_Vq); (focus rfl); (focus rfl)) | ((with_reducible apply i_Vp); (focus rfl); (focus rfl); (focus rfl)) | (with_reducible first | apply i_Gb | apply i_cond)); (focus (simp (disch := (first | omega | (simp only [push_cast]; done) | (simp only [push_cast]; omega) | ((try simp only [push_cast]); (with_reducible first | apply sel_lt | apply sel_ge); (focus decide); (focus (simp only [push_cast]; omega))))) only [push_cast, ↓reduceIte, Nat.reduceEqDiff, Nat.reduceBEq, Nat.reduceAdd, Nat.reduceSub, Int.reduceToNat, *] <;> with_reducible exact rfl)); all_goals try (intro hX; first | (cases hX; done) | ((with_reducible first | have hX0 : true = true := hX | have hX0 : false = false := hX); clear hX0 hX) | ((try simp only [decide_eq_true_eq, decide_eq_false_iff_not, Bool.not_eq_true', Bool.not_eq_false'] at hX); (try have hXb := inB_iff.1 hX)))))); all_goals try (exfalso; omega)
      all_goals ((first | apply i_end | apply i_endN); simp (disch := (first | omega | (simp only [push_cast]; done) | (simp only [push_cast]; omega) | ((try simp only [push_cast]); (with_reducible first | apply sel_lt | apply sel_ge); (focus decide); (focus (simp only [push_cast]; omega))))) only [push_cast, ↓reduceIte, Nat.reduceEqDiff, Nat.reduceBEq, Nat.reduceAdd, Nat.reduceSub, Int.reduceToNat, *])
def φWw : Fun := F1 dS fun s => if s.size ≤ 1048576 then some (iv (wordW s)) else none
theorem φWw_ap {s : ByteArray} (h : s.size ≤ 1048576) : φWw [.val (.string s)] = some (.val (.int .i64 (wordW s))) := (F1_ap (A := dS) s).trans (if_pos h)
noncomputable def GWwS : Ctx := ⟨fun f => if f = 100 then some φSgS else if f = 101 then some φLetW else if f = 102 then some φNear else none, fun f => none⟩
theorem GWwS_ok : SoundΓ Try.prog GWwS := ⟨(fun f φ h => by
  unfold GWwS at h
  dsimp only at h
  split at h
  · rename_i hf; cases h; subst hf; exact ⟨⟨_, Try.func100, rfl, rfl⟩, signsS_ok⟩
  split at h
  · rename_i hf; cases h; subst hf; exact ⟨⟨_, Try.func101, rfl, rfl⟩, specLetW_ok⟩
  split at h
  · rename_i hf; cases h; subst hf; exact ⟨⟨_, Try.func102, rfl, rfl⟩, specNear_ok⟩
  cases h), (fun f φ h => by
  unfold GWwS at h
  dsimp only at h
  cases h)⟩
theorem GWwS_100 (ob : Objs) (ps : List PV) : evCall GWwS ob 100 ps = (ps.mapM (reify false 0 ob fuel)).bind φSgS := by
  have h : GWwS.fn 100 = some φSgS := by simp [GWwS]
  unfold evCall
  rw [h]
  cases ps.mapM (reify false 0 ob fuel) <;> rfl
theorem GWwS_101 (ob : Objs) (ps : List PV) : evCall GWwS ob 101 ps = (ps.mapM (reify false 0 ob fuel)).bind φLetW := by
  have h : GWwS.fn 101 = some φLetW := by simp [GWwS]
  unfold evCall
  rw [h]
  cases ps.mapM (reify false 0 ob fuel) <;> rfl
theorem GWwS_102 (ob : Objs) (ps : List PV) : evCall GWwS ob 102 ps = (ps.mapM (reify false 0 ob fuel)).bind φNear := by
  have h : GWwS.fn 102 = some φNear := by simp [GWwS]
  unfold evCall
  rw [h]
  cases ps.mapM (reify false 0 ob fuel) <;> rfl
set_option maxHeartbeats 16000000 in
theorem specWw_ok : Sound Try.prog 82 φWw := by
  refine sound_pq mixed GWwS_ok Try.func82 rfl 70 rfl [.tmp 2] rfl (by kernel_rfl) fun ps r hr => ?_
  obtain ⟨s, rfl, hq⟩ := F1_some hr
  clear hr
  split at hq
  case isFalse => cases hq
  case isTrue hpre =>
  cases hq
  refine ⟨by simp, ?_⟩
  simp only [dIs, dUs, dSs, dI_e, dU_e, dB_e, dS_e, dFn_e, dL_e, dA2_e, dA3_e, dA4_e, dA5_e]
  have aps := φSgS_ap (s := s) hpre
  unfold wordW
  unfold signsV at aps
  cases hw : wordB s with
  | false =>
    rw [hw, if_neg (by decide)] at aps
    rw [if_neg (by decide)]
    clear hw
    have gwws_c100 := GWwS_100; have gwws_c101 := GWwS_101; have gwws_c102 := GWwS_102
    (repeat' (first | (with_reducible first | apply i_seq | apply i_block | apply i_skip | apply i_exit | apply i_ret | apply i_kS | apply i_kSx | apply i_kSr | apply i_kL | apply i_kLx | apply i_kLr | apply i_kB | apply i_kBr | apply i_kBs | apply i_nil) | ((with_reducible apply i_region); (focus (simp only [List.map_cons, List.map_nil] <;> exact rfl))) | ((with_reducible apply i_draw); (focus (simp only [List.map_cons, List.map_nil] <;> exact rfl)); (focus (decide +kernel))) | ((with_reducible apply i_kBo); (focus rfl)) | ((first | ((with_reducible apply i_V); (focus rfl); (focus rfl); (focus rfl)) | ((with_reducible apply i_E); (focus rfl); (focus (first | rfl | (simp only [push_cast, ↓reduceIte, effOk, touch, refsOf, List.flatMap_cons, List.flatMap_nil])))) | ((with_reducible apply i_S); (focus rfl); (focus (first | rfl | (simp only [push_cast, ↓reduceIte, effOk, touch, refsOf, List.flatMap_cons, List.flatMap_nil])))) | ((with_reducible apply i_Vq); (focus rfl); (focus rfl)) | ((with_reducible apply i_Vp); (focus rfl); (focus rfl); (focus rfl)) | (with_reducible first | apply i_Gb | apply i_cond)); (focus (simp (disch := (first | omega | (simp only [push_cast]; done) | (simp only [push_cast]; omega) | ((try simp only [push_cast]); (with_reducible first | apply sel_lt | apply sel_ge); (focus decide); (focus (simp only [push_cast]; omega))))) only [push_cast, ↓reduceIte, Nat.reduceEqDiff, Nat.reduceBEq, Nat.reduceAdd, Nat.reduceSub, Int.reduceToNat, *] <;> with_reducible exact rfl)); all_goals try (intro hX; first | (cases hX; done) | ((with_reducible first | have hX0 : true = true := hX | have hX0 : false = false := hX); clear hX0 hX) | ((try simp only [decide_eq_true_eq, decide_eq_false_iff_not, Bool.not_eq_true', Bool.not_eq_false'] at hX); (try have hXb := inB_iff.1 hX)))))); all_goals try (exfalso; omega)
    all_goals ((first | apply i_end | apply i_endN); simp (disch := (first | omega | (simp only [push_cast]; done) | (simp only [push_cast]; omega) | ((try simp only [push_cast]); (with_reducible first | apply sel_lt | apply sel_ge); (focus decide); (focus (simp only [push_cast]; omega))))) only [push_cast, ↓reduceIte, Nat.reduceEqDiff, Nat.reduceBEq, Nat.reduceAdd, Nat.reduceSub, Int.reduceToNat, *])
  | true =>
    rw [hw, if_pos rfl] at aps
    rw [if_pos rfl]
    have hat := fun k hk => signs_at hw (k := k) hk
    have hlen := (signs_ok hw).2
    have hrg := wdK_rng hat
    generalize signs s = g at *
    clear hw hpre
    have gwws_c100 := GWwS_100; have gwws_c101 := GWwS_101; have gwws_c102 := GWwS_102
    (repeat' (first | (with_reducible first | apply i_seq | apply i_block | apply i_skip | apply i_exit | apply i_ret | apply i_kS | apply i_kSx | apply i_kSr | apply i_kL | apply i_kLx | apply i_kLr | apply i_kB | apply i_kBr | apply i_kBs | apply i_nil) | ((with_reducible apply i_region); (focus (simp only [List.map_cons, List.map_nil] <;> exact rfl))) | ((with_reducible apply i_draw); (focus (simp only [List.map_cons, List.map_nil] <;> exact rfl)); (focus (decide +kernel))) | ((with_reducible apply i_kBo); (focus rfl)) | ((first | ((with_reducible apply i_V); (focus rfl); (focus rfl); (focus rfl)) | ((with_reducible apply i_E); (focus rfl); (focus (first | rfl | (simp only [push_cast, ↓reduceIte, effOk, touch, refsOf, List.flatMap_cons, List.flatMap_nil])))) | ((with_reducible apply i_S); (focus rfl); (focus (first | rfl | (simp only [push_cast, ↓reduceIte, effOk, touch, refsOf, List.flatMap_cons, List.flatMap_nil])))) | ((with_reducible apply i_Vq); (focus rfl); (focus rfl)) | ((with_reducible apply i_Vp); (focus rfl); (focus rfl); (focus rfl)) | (with_reducible first | apply i_Gb | apply i_cond)); (focus (simp (disch := (first | omega | (simp only [push_cast]; done) | (simp only [push_cast]; omega) | ((try simp only [push_cast]); (with_reducible first | apply sel_lt | apply sel_ge); (focus decide); (focus (simp only [push_cast]; omega))))) only [push_cast, ↓reduceIte, Nat.reduceEqDiff, Nat.reduceBEq, Nat.reduceAdd, Nat.reduceSub, Int.reduceToNat, *] <;> with_reducible exact rfl)); all_goals try (intro hX; first | (cases hX; done) | ((with_reducible first | have hX0 : true = true := hX | have hX0 : false = false := hX); clear hX0 hX) | ((try simp only [decide_eq_true_eq, decide_eq_false_iff_not, Bool.not_eq_true', Bool.not_eq_false'] at hX); (try have hXb := inB_iff.1 hX)))))); all_goals try (exfalso; omega)
    refine i_loop (α := Nat) mixed (fun k => [(3, .lst true 1 (g.map pvS)), (4, iv (wdK g k)), (5, iv k)]) (fun _ => []) (fun _ => 0)
      (fun k => k ≤ g.length) (fun k => g.length - k) (by kernel_rfl) 0 (Nat.zero_le _) ?_ ?_ rfl ?_
    · simp only [push_cast, ↓reduceIte, Nat.reduceEqDiff, Nat.reduceBEq, Nat.reduceAdd, Nat.reduceSub, Int.reduceToNat, wdK]
    · simp (disch := (first | omega | (simp only [push_cast]; done) | (simp only [push_cast]; omega) | ((try simp only [push_cast]); (with_reducible first | apply sel_lt | apply sel_ge); (focus decide); (focus (simp only [push_cast]; omega))))) only [push_cast, ↓reduceIte, Nat.reduceEqDiff, Nat.reduceBEq, Nat.reduceAdd, Nat.reduceSub, Int.reduceToNat, List.length_append, *]
    intro k hk
    have hrk := hrg k hk
    by_cases hkl : k < g.length
    · have hsg := hat k hkl
      have hnx := fun h => hat (k + 1) h
      have hfl := sgW_full hsg
      have hsn : wdK g (k + 1) = wdK g k + sgW (g[k]?.getD .empty) (g[k]?.getD .empty).size - ((g[k]?.getD .empty).size - 1) - nearK g k := rfl
      have hne : nearK g k = if k + 1 < g.length then nearI (at8 (g[k]?.getD .empty) ((g[k]?.getD .empty).size - 1)) (at8 (g[k + 1]?.getD .empty) 0) else 0 := rfl
      replace hsn := Lib.hid hsn
      replace hne := Lib.hid hne
      clear hat hrg
      generalize hx9 : g[k]?.getD ByteArray.empty = x at *
      obtain ⟨hx1, hx2, -⟩ := hsg
      generalize hw9 : wdK g k = w9 at *
      (repeat' (first | (with_reducible first | apply i_seq | apply i_block | apply i_skip | apply i_exit | apply i_ret | apply i_kS | apply i_kSx | apply i_kSr | apply i_kL | apply i_kLx | apply i_kLr | apply i_kB | apply i_kBr | apply i_kBs | apply i_nil) | ((with_reducible apply i_region); (focus (simp only [List.map_cons, List.map_nil] <;> exact rfl))) | ((with_reducible apply i_draw); (focus (simp only [List.map_cons, List.map_nil] <;> exact rfl)); (focus (decide +kernel))) | ((with_reducible apply i_kBo); (focus rfl)) | ((first | ((with_reducible apply i_V); (focus rfl); (focus rfl); (focus rfl)) | ((with_reducible apply i_E); (focus rfl); (focus (first | rfl | (simp only [push_cast, ↓reduceIte, effOk, touch, refsOf, List.flatMap_cons, List.flatMap_nil])))) | ((with_reducible apply i_S); (focus rfl); (focus (first | rfl | (simp only [push_cast, ↓reduceIte, effOk, touch, refsOf, List.flatMap_cons, List.flatMap_nil])))) | ((with_reducible apply i_Vq); (focus rfl); (focus rfl)) | ((with_reducible apply i_Vp); (focus rfl); (focus rfl); (focus rfl)) | (with_reducible first | apply i_Gb | apply i_cond)); (focus (simp (disch := (first | omega | (simp only [push_cast]; done) | (simp only [push_cast]; omega) | ((try simp only [push_cast]); (with_reducible first | apply sel_lt | apply sel_ge); (focus decide); (focus (simp only [push_cast]; omega))))) only [push_cast, ↓reduceIte, Nat.reduceEqDiff, Nat.reduceBEq, Nat.reduceAdd, Nat.reduceSub, Int.reduceToNat, *] <;> with_reducible exact rfl)); all_goals try (intro hX; first | (cases hX; done) | ((with_reducible first | have hX0 : true = true := hX | have hX0 : false = false := hX); clear hX0 hX) | ((try simp only [decide_eq_true_eq, decide_eq_false_iff_not, Bool.not_eq_true', Bool.not_eq_false'] at hX); (try have hXb := inB_iff.1 hX)))))); all_goals try (exfalso; omega)
      refine i_loop (α := Nat) mixed (fun j => [(3, .lst true 1 (g.map pvS)), (4, iv (w9 + sgW x j)), (5, iv k), (6, iv j)]) (fun _ => []) (fun _ => 0)
        (fun j => j ≤ x.size) (fun j => x.size - j) (by kernel_rfl) 0 (Nat.zero_le _) ?_ ?_ rfl ?_
      · simp (disch := (first | omega | (simp only [push_cast]; done) | (simp only [push_cast]; omega) | ((try simp only [push_cast]); (with_reducible first | apply sel_lt | apply sel_ge); (focus decide); (focus (simp only [push_cast]; omega))))) only [push_cast, ↓reduceIte, Nat.reduceEqDiff, Nat.reduceBEq, Nat.reduceAdd, Nat.reduceSub, Int.reduceToNat, sgW, Int.add_zero, *]
      · simp (disch := (first | omega | (simp only [push_cast]; done) | (simp only [push_cast]; omega) | ((try simp only [push_cast]); (with_reducible first | apply sel_lt | apply sel_ge); (focus decide); (focus (simp only [push_cast]; omega))))) only [push_cast, ↓reduceIte, Nat.reduceEqDiff, Nat.reduceBEq, Nat.reduceAdd, Nat.reduceSub, Int.reduceToNat, List.length_append, *]
      intro j hj
      have hfj := hfl j hj
      have apl := φLetW_ap (at8 x j)
      have hlw := letW_rng (at8 x j)
      have hsj : sgW x (j + 1) = sgW x j + letW (at8 x j) := rfl
      replace hsj := Lib.hid hsj
      by_cases hjl : j < x.size
      · clear hfl hnx
        generalize letW (at8 x j) = lw at *
        (repeat' (first | (with_reducible first | apply i_seq | apply i_block | apply i_skip | apply i_exit | apply i_ret | apply i_kS | apply i_kSx | apply i_kSr | apply i_kL | apply i_kLx | apply i_kLr | apply i_kB | apply i_kBr | apply i_kBs | apply i_nil) | ((with_reducible apply i_region); (focus (simp only [List.map_cons, List.map_nil] <;> exact rfl))) | ((with_reducible apply i_draw); (focus (simp only [List.map_cons, List.map_nil] <;> exact rfl)); (focus (decide +kernel))) | ((with_reducible apply i_kBo); (focus rfl)) | ((first | ((with_reducible apply i_V); (focus rfl); (focus rfl); (focus rfl)) | ((with_reducible apply i_E); (focus rfl); (focus (first | rfl | (simp only [push_cast, ↓reduceIte, effOk, touch, refsOf, List.flatMap_cons, List.flatMap_nil])))) | ((with_reducible apply i_S); (focus rfl); (focus (first | rfl | (simp only [push_cast, ↓reduceIte, effOk, touch, refsOf, List.flatMap_cons, List.flatMap_nil])))) | ((with_reducible apply i_Vq); (focus rfl); (focus rfl)) | ((with_reducible apply i_Vp); (focus rfl); (focus rfl); (focus rfl)) | (with_reducible first | apply i_Gb | apply i_cond)); (focus (simp (disch := (first | omega | (simp only [push_cast]; done) | (simp only [push_cast]; omega) | ((try simp only [push_cast]); (with_reducible first | apply sel_lt | apply sel_ge); (focus decide); (focus (simp only [push_cast]; omega))))) only [push_cast, ↓reduceIte, Nat.reduceEqDiff, Nat.reduceBEq, Nat.reduceAdd, Nat.reduceSub, Int.reduceToNat, *] <;> with_reducible exact rfl)); all_goals try (intro hX; first | (cases hX; done) | ((with_reducible first | have hX0 : true = true := hX | have hX0 : false = false := hX); clear hX0 hX) | ((try simp only [decide_eq_true_eq, decide_eq_false_iff_not, Bool.not_eq_true', Bool.not_eq_false'] at hX); (try have hXb := inB_iff.1 hX)))))); all_goals try (exfalso; omega)
        refine ⟨j + 1, by omega, by dsimp only; omega, ?_, ?_, rfl⟩
        · dsimp only
          rw [hsj.out, ← Int.add_assoc]
          simp (disch := (first | omega | (simp only [push_cast]; done) | (simp only [push_cast]; omega) | ((try simp only [push_cast]); (with_reducible first | apply sel_lt | apply sel_ge); (focus decide); (focus (simp only [push_cast]; omega))))) only [push_cast, ↓reduceIte, Nat.reduceEqDiff, Nat.reduceBEq, Nat.reduceAdd, Nat.reduceSub, Int.reduceToNat, List.length_append, *]
        · simp (disch := (first | omega | (simp only [push_cast]; done) | (simp only [push_cast]; omega) | ((try simp only [push_cast]); (with_reducible first | apply sel_lt | apply sel_ge); (focus decide); (focus (simp only [push_cast]; omega))))) only [push_cast, ↓reduceIte, Nat.reduceEqDiff, Nat.reduceBEq, Nat.reduceAdd, Nat.reduceSub, Int.reduceToNat, List.length_append, *]
      · obtain rfl : j = x.size := by omega
        clear apl hlw hsj hfl
        by_cases h1 : k + 1 < g.length
        · have hn1 := hnx h1
          clear hnx
          obtain ⟨hy1, -, -⟩ := hn1
          have apn := φNear_ap (at8 x (x.size - 1)) (at8 (g[k + 1]?.getD .empty) 0)
          have hnr := nearI_rng (at8 x (x.size - 1)) (at8 (g[k + 1]?.getD .empty) 0)
          have hne := hne.out
          rw [if_pos h1] at hne
          have hsn := hsn.out
          rw [hne] at hsn
          replace hsn := Lib.hid hsn
          clear hne
          generalize nearI (at8 x (x.size - 1)) (at8 (g[k + 1]?.getD .empty) 0) = nr at *
          generalize sgW x x.size = sw at *
          (repeat' (first | (with_reducible first | apply i_seq | apply i_block | apply i_skip | apply i_exit | apply i_ret | apply i_kS | apply i_kSx | apply i_kSr | apply i_kL | apply i_kLx | apply i_kLr | apply i_kB | apply i_kBr | apply i_kBs | apply i_nil) | ((with_reducible apply i_region); (focus (simp only [List.map_cons, List.map_nil] <;> exact rfl))) | ((with_reducible apply i_draw); (focus (simp only [List.map_cons, List.map_nil] <;> exact rfl)); (focus (decide +kernel))) | ((with_reducible apply i_kBo); (focus rfl)) | ((first | ((with_reducible apply i_V); (focus rfl); (focus rfl); (focus rfl)) | ((with_reducible apply i_E); (focus rfl); (focus (first | rfl | (simp only [push_cast, ↓reduceIte, effOk, touch, refsOf, List.flatMap_cons, List.flatMap_nil])))) | ((with_reducible apply i_S); (focus rfl); (focus (first | rfl | (simp only [push_cast, ↓reduceIte, effOk, touch, refsOf, List.flatMap_cons, List.flatMap_nil])))) | ((with_reducible apply i_Vq); (focus rfl); (focus rfl)) | ((with_reducible apply i_Vp); (focus rfl); (focus rfl); (focus rfl)) | (with_reducible first | apply i_Gb | apply i_cond)); (focus (simp (disch := (first | omega | (simp only [push_cast]; done) | (simp only [push_cast]; omega) | ((try simp only [push_cast]); (with_reducible first | apply sel_lt | apply sel_ge); (focus decide); (focus (simp only [push_cast]; omega))))) only [push_cast, ↓reduceIte, Nat.reduceEqDiff, Nat.reduceBEq, Nat.reduceAdd, Nat.reduceSub, Int.reduceToNat, *] <;> with_reducible exact rfl)); all_goals try (intro hX; first | (cases hX; done) | ((with_reducible first | have hX0 : true = true := hX | have hX0 : false = false := hX); clear hX0 hX) | ((try simp only [decide_eq_true_eq, decide_eq_false_iff_not, Bool.not_eq_true', Bool.not_eq_false'] at hX); (try have hXb := inB_iff.1 hX)))))); all_goals try (exfalso; omega)
          refine ⟨k + 1, by omega, by dsimp only; omega, ?_, ?_, rfl⟩
          · dsimp only
            rw [hsn.out, show w9 + sw - ((x.size : Int) - 1) - nr = w9 + sw - x.size + 1 - nr by omega]
            simp (disch := (first | omega | (simp only [push_cast]; done) | (simp only [push_cast]; omega) | ((try simp only [push_cast]); (with_reducible first | apply sel_lt | apply sel_ge); (focus decide); (focus (simp only [push_cast]; omega))))) only [push_cast, ↓reduceIte, Nat.reduceEqDiff, Nat.reduceBEq, Nat.reduceAdd, Nat.reduceSub, Int.reduceToNat, List.length_append, *]
          · simp (disch := (first | omega | (simp only [push_cast]; done) | (simp only [push_cast]; omega) | ((try simp only [push_cast]); (with_reducible first | apply sel_lt | apply sel_ge); (focus decide); (focus (simp only [push_cast]; omega))))) only [push_cast, ↓reduceIte, Nat.reduceEqDiff, Nat.reduceBEq, Nat.reduceAdd, Nat.reduceSub, Int.reduceToNat, List.length_append, *]
        · have hne := hne.out
          rw [if_neg h1] at hne
          have hsn := hsn.out
          rw [hne, Int.sub_zero] at hsn
          replace hsn := Lib.hid hsn
          clear hne hnx
          generalize sgW x x.size = sw at *
          (repeat' (first | (with_reducible first | apply i_seq | apply i_block | apply i_skip | apply i_exit | apply i_ret | apply i_kS | apply i_kSx | apply i_kSr | apply i_kL | apply i_kLx | apply i_kLr | apply i_kB | apply i_kBr | apply i_kBs | apply i_nil) | ((with_reducible apply i_region); (focus (simp only [List.map_cons, List.map_nil] <;> exact rfl))) | ((with_reducible apply i_draw); (focus (simp only [List.map_cons, List.map_nil] <;> exact rfl)); (focus (decide +kernel))) | ((with_reducible apply i_kBo); (focus rfl)) | ((first | ((with_reducible apply i_V); (focus rfl); (focus rfl); (focus rfl)) | ((with_reducible apply i_E); (focus rfl); (focus (first | rfl | (simp only [push_cast, ↓reduceIte, effOk, touch, refsOf, List.flatMap_cons, List.flatMap_nil])))) | ((with_reducible apply i_S); (focus rfl); (focus (first | rfl | (simp only [push_cast, ↓reduceIte, effOk, touch, refsOf, List.flatMap_cons, List.flatMap_nil])))) | ((with_reducible apply i_Vq); (focus rfl); (focus rfl)) | ((with_reducible apply i_Vp); (focus rfl); (focus rfl); (focus rfl)) | (with_reducible first | apply i_Gb | apply i_cond)); (focus (simp (disch := (first | omega | (simp only [push_cast]; done) | (simp only [push_cast]; omega) | ((try simp only [push_cast]); (with_reducible first | apply sel_lt | apply sel_ge); (focus decide); (focus (simp only [push_cast]; omega))))) only [push_cast, ↓reduceIte, Nat.reduceEqDiff, Nat.reduceBEq, Nat.reduceAdd, Nat.reduceSub, Int.reduceToNat, *] <;> with_reducible exact rfl)); all_goals try (intro hX; first | (cases hX; done) | ((with_reducible first | have hX0 : true = true := hX | have hX0 : false = false := hX); clear hX0 hX) | ((try simp only [decide_eq_true_eq, decide_eq_false_iff_not, Bool.not_eq_true', Bool.not_eq_false'] at hX); (try have hXb := inB_iff.1 hX)))))); all_goals try (exfalso; omega)
          refine ⟨k + 1, by omega, by dsimp only; omega, ?_, ?_, rfl⟩
          · dsimp only
            rw [hsn.out, show w9 + sw - ((x.size : Int) - 1) = w9 + sw - x.size + 1 by omega]
            simp (disch := (first | omega | (simp only [push_cast]; done) | (simp only [push_cast]; omega) | ((try simp only [push_cast]); (with_reducible first | apply sel_lt | apply sel_ge); (focus decide); (focus (simp only [push_cast]; omega))))) only [push_cast, ↓reduceIte, Nat.reduceEqDiff, Nat.reduceBEq, Nat.reduceAdd, Nat.reduceSub, Int.reduceToNat, List.length_append, *]
          · simp (disch := (first | omega | (simp only [push_cast]; done) | (simp only [push_cast]; omega) | ((try simp only [push_cast]); (with_reducible first | apply sel_lt | apply sel_ge); (focus decide); (focus (simp only [push_cast]; omega))))) only [push_cast, ↓reduceIte, Nat.reduceEqDiff, Nat.reduceBEq, Nat.reduceAdd, Nat.reduceSub, Int.reduceToNat, List.length_append, *]
    · obtain rfl : k = g.length := by omega
      clear hat hrg
      generalize wdK g g.length = w9 at *
      (repeat' (first | (with_reducible first | apply i_seq | apply i_block | apply i_skip | apply i_exit | apply i_ret | apply i_kS | apply i_kSx | apply i_kSr | apply i_kL | apply i_kLx | apply i_kLr | apply i_kB | apply i_kBr | apply i_kBs | apply i_nil) | ((with_reducible apply i_region); (focus (simp only [List.map_cons, List.map_nil] <;> exact rfl))) | ((with_reducible apply i_draw); (focus (simp only [List.map_cons, List.map_nil] <;> exact rfl)); (focus (decide +kernel))) | ((with_reducible apply i_kBo); (focus rfl)) | ((first | ((with_reducible apply i_V); (focus rfl); (focus rfl); (focus rfl)) | ((with_reducible apply i_E); (focus rfl); (focus (first | rfl | (simp only [push_cast, ↓reduceIte, effOk, touch, refsOf, List.flatMap_cons, List.flatMap_nil])))) | ((with_reducible apply i_S); (focus rfl); (focus (first | rfl | (simp only [push_cast, ↓reduceIte, effOk, touch, refsOf, List.flatMap_cons, List.flatMap_nil])))) | ((with_reducible apply i_Vq); (focus rfl); (focus rfl)) | ((with_reducible apply i_Vp); (focus rfl); (focus rfl); (focus rfl)) | (with_reducible first | apply i_Gb | apply i_cond)); (focus (simp (disch := (first | omega | (simp only [push_cast]; done) | (simp only [push_cast]; omega) | ((try simp only [push_cast]); (with_reducible first | apply sel_lt | apply sel_ge); (focus decide); (focus (simp only [push_cast]; omega))))) only [push_cast, ↓reduceIte, Nat.reduceEqDiff, Nat.reduceBEq, Nat.reduceAdd, Nat.reduceSub, Int.reduceToNat, *] <;> with_reducible exact rfl)); all_goals try (intro hX; first | (cases hX; done) | ((with_reducible first | have hX0 : true = true := hX | have hX0 : false = false := hX); clear hX0 hX) | ((try simp only [decide_eq_true_eq, decide_eq_false_iff_not, Bool.not_eq_true', Bool.not_eq_false'] at hX); (try have hXb := inB_iff.1 hX)))))); all_goals try (exfalso; omega)
      all_goals ((first | apply i_end | apply i_endN); simp (disch := (first | omega | (simp only [push_cast]; done) | (simp only [push_cast]; omega) | ((try simp only [push_cast]); (with_reducible first | apply sel_lt | apply sel_ge); (focus decide); (focus (simp only [push_cast]; omega))))) only [push_cast, ↓reduceIte, Nat.reduceEqDiff, Nat.reduceBEq, Nat.reduceAdd, Nat.reduceSub, Int.reduceToNat, *])
end Go.Proofs.Ytngcedklbinhjaa
namespace Go.Proofs.Ytngcedklbinhjaa
open Go.RowKit
set_option linter.all false
abbrev pvN (n : Int) : PV := .val (.int .i64 n)
theorem patB_size {p : ByteArray} (h : patB p = true) : 1 ≤ p.size ∧ p.size ≤ 12 := by
  unfold patB at h
  simp only [Bool.and_eq_true, decide_eq_true_eq] at h
  obtain ⟨-, h1, h2⟩ := h
  refine ⟨?_, h2⟩
  rcases Nat.eq_zero_or_pos p.size with h0 | h0
  · rw [h0] at h1
    simp [anyS] at h1
  · exact h0
def φPl : Fun := F1 dS fun p => if patB p = true then some (.val (.string (lettersP p))) else none
theorem φPl_ap {p : ByteArray} (h : patB p = true) : φPl [.val (.string p)] = some (.val (.string (lettersP p))) := (F1_ap (A := dS) p).trans (if_pos h)
noncomputable def GPl : Ctx := ⟨fun f => if f = 81 then some φPat else none, fun f => none⟩
theorem GPl_ok : SoundΓ Try.prog GPl := ⟨(fun f φ h => by
  unfold GPl at h
  dsimp only at h
  split at h
  · rename_i hf; cases h; subst hf; exact ⟨⟨_, Try.func81, rfl, rfl⟩, specPatternValid_ok⟩
  cases h), (fun f φ h => by
  unfold GPl at h
  dsimp only at h
  cases h)⟩
theorem GPl_81 (ob : Objs) (ps : List PV) : evCall GPl ob 81 ps = (ps.mapM (reify false 0 ob fuel)).bind φPat := by
  have h : GPl.fn 81 = some φPat := by simp [GPl]
  unfold evCall
  rw [h]
  cases ps.mapM (reify false 0 ob fuel) <;> rfl
set_option maxHeartbeats 8000000 in
theorem specPl_ok : Sound Try.prog 105 φPl := by
  refine sound_pq mixed GPl_ok Try.func105 rfl 33 rfl [.tmp 2] rfl (by kernel_rfl) fun ps r hr => ?_
  obtain ⟨p, rfl, hq⟩ := F1_some hr
  clear hr
  split at hq
  case isFalse => cases hq
  case isTrue hpre =>
  cases hq
  refine ⟨by simp, ?_⟩
  simp only [dIs, dUs, dSs, dI_e, dU_e, dB_e, dS_e, dFn_e, dL_e, dA2_e, dA3_e, dA4_e, dA5_e]
  have hsz := patB_size hpre
  have hrg := patK_rng p
  have apv := φPat_ap (s := p) (by omega)
  rw [hpre] at apv
  unfold lettersP
  clear hpre
  have gpl_c81 := GPl_81
  (repeat' (first | (with_reducible first | apply i_seq | apply i_block | apply i_skip | apply i_exit | apply i_ret | apply i_kS | apply i_kSx | apply i_kSr | apply i_kL | apply i_kLx | apply i_kLr | apply i_kB | apply i_kBr | apply i_kBs | apply i_nil) | ((with_reducible apply i_region); (focus (simp only [List.map_cons, List.map_nil] <;> exact rfl))) | ((with_reducible apply i_draw); (focus (simp only [List.map_cons, List.map_nil] <;> exact rfl)); (focus (decide +kernel))) | ((with_reducible apply i_kBo); (focus rfl)) | ((first | ((with_reducible apply i_V); (focus rfl); (focus rfl); (focus rfl)) | ((with_reducible apply i_E); (focus rfl); (focus (first | rfl | (simp only [push_cast, ↓reduceIte, effOk, touch, refsOf, List.flatMap_cons, List.flatMap_nil])))) | ((with_reducible apply i_S); (focus rfl); (focus (first | rfl | (simp only [push_cast, ↓reduceIte, effOk, touch, refsOf, List.flatMap_cons, List.flatMap_nil])))) | ((with_reducible apply i_Vq); (focus rfl); (focus rfl)) | ((with_reducible apply i_Vp); (focus rfl); (focus rfl); (focus rfl)) | (with_reducible first | apply i_Gb | apply i_cond)); (focus (simp (disch := (first | omega | (simp only [push_cast]; done) | (simp only [push_cast]; omega) | ((try simp only [push_cast]); (with_reducible first | apply sel_lt | apply sel_ge); (focus decide); (focus (simp only [push_cast]; omega))))) only [push_cast, ↓reduceIte, Nat.reduceEqDiff, Nat.reduceBEq, Nat.reduceAdd, Nat.reduceSub, Int.reduceToNat, *] <;> with_reducible exact rfl)); all_goals try (intro hX; first | (cases hX; done) | ((with_reducible first | have hX0 : true = true := hX | have hX0 : false = false := hX); clear hX0 hX) | ((try simp only [decide_eq_true_eq, decide_eq_false_iff_not, Bool.not_eq_true', Bool.not_eq_false'] at hX); (try have hXb := inB_iff.1 hX)))))); all_goals try (exfalso; omega)
  refine i_loop (α := Nat) mixed (fun k => [(0, .val (.string p)), (3, .val (.string (patK p k).1)), (4, iv k)]) (fun _ => []) (fun _ => 0)
    (fun k => k ≤ p.size) (fun k => p.size - k) (by kernel_rfl) 0 (Nat.zero_le _) ?_ ?_ rfl ?_
  · simp (disch := (first | omega | (simp only [push_cast]; done) | (simp only [push_cast]; omega) | ((try simp only [push_cast]); (with_reducible first | apply sel_lt | apply sel_ge); (focus decide); (focus (simp only [push_cast]; omega))))) only [push_cast, ↓reduceIte, Nat.reduceEqDiff, Nat.reduceBEq, Nat.reduceAdd, Nat.reduceSub, Int.reduceToNat, patK, *]
  · simp (disch := (first | omega | (simp only [push_cast]; done) | (simp only [push_cast]; omega) | ((try simp only [push_cast]); (with_reducible first | apply sel_lt | apply sel_ge); (focus decide); (focus (simp only [push_cast]; omega))))) only [push_cast, ↓reduceIte, Nat.reduceEqDiff, Nat.reduceBEq, Nat.reduceAdd, Nat.reduceSub, Int.reduceToNat, List.length_append, *]
  intro k hk
  obtain ⟨r1, r2, r3, -⟩ := hrg k hk
  by_cases h0 : k < p.size
  · have hb8 := at8_rng p k
    cases hd : digC (at8 p k) with
    | true =>
      have hst := patK_dig hd
      have hin := inB_iff.1 hd
      have w1 : IntKind.u8.wrap (at8 p k - 48) = at8 p k - 48 := by rw [IntKind.wrap_u8]; omega
      have w3 := wrap_id (n := at8 p k - 48) (by omega) (by omega)
      replace hst := Lib.hid hst
      clear hrg hd
      generalize (patK p k).1 = lt at *
      (repeat' (first | (with_reducible first | apply i_seq | apply i_block | apply i_skip | apply i_exit | apply i_ret | apply i_kS | apply i_kSx | apply i_kSr | apply i_kL | apply i_kLx | apply i_kLr | apply i_kB | apply i_kBr | apply i_kBs | apply i_nil) | ((with_reducible apply i_region); (focus (simp only [List.map_cons, List.map_nil] <;> exact rfl))) | ((with_reducible apply i_draw); (focus (simp only [List.map_cons, List.map_nil] <;> exact rfl)); (focus (decide +kernel))) | ((with_reducible apply i_kBo); (focus rfl)) | ((first | ((with_reducible apply i_V); (focus rfl); (focus rfl); (focus rfl)) | ((with_reducible apply i_E); (focus rfl); (focus (first | rfl | (simp only [push_cast, ↓reduceIte, effOk, touch, refsOf, List.flatMap_cons, List.flatMap_nil])))) | ((with_reducible apply i_S); (focus rfl); (focus (first | rfl | (simp only [push_cast, ↓reduceIte, effOk, touch, refsOf, List.flatMap_cons, List.flatMap_nil])))) | ((with_reducible apply i_Vq); (focus rfl); (focus rfl)) | ((with_reducible apply i_Vp); (focus rfl); (focus rfl); (focus rfl)) | (with_reducible first | apply i_Gb | apply i_cond)); (focus (simp (disch := (first | omega | (simp only [push_cast]; done) | (simp only [push_cast]; omega) | ((try simp only [push_cast]); (with_reducible first | apply sel_lt | apply sel_ge); (focus decide); (focus (simp only [push_cast]; omega))))) only [push_cast, ↓reduceIte, Nat.reduceEqDiff, Nat.reduceBEq, Nat.reduceAdd, Nat.reduceSub, Int.reduceToNat, *] <;> with_reducible exact rfl)); all_goals try (intro hX; first | (cases hX; done) | ((with_reducible first | have hX0 : true = true := hX | have hX0 : false = false := hX); clear hX0 hX) | ((try simp only [decide_eq_true_eq, decide_eq_false_iff_not, Bool.not_eq_true', Bool.not_eq_false'] at hX); (try have hXb := inB_iff.1 hX)))))); all_goals try (exfalso; omega)
      refine ⟨k + 1, by omega, by dsimp only; omega, ?_, ?_, rfl⟩
      · dsimp only
        rw [hst.out]
        simp (disch := (first | omega | (simp only [push_cast]; done) | (simp only [push_cast]; omega) | ((try simp only [push_cast]); (with_reducible first | apply sel_lt | apply sel_ge); (focus decide); (focus (simp only [push_cast]; omega))))) only [push_cast, ↓reduceIte, Nat.reduceEqDiff, Nat.reduceBEq, Nat.reduceAdd, Nat.reduceSub, Int.reduceToNat, List.length_append, *]
      · simp (disch := (first | omega | (simp only [push_cast]; done) | (simp only [push_cast]; omega) | ((try simp only [push_cast]); (with_reducible first | apply sel_lt | apply sel_ge); (focus decide); (focus (simp only [push_cast]; omega))))) only [push_cast, ↓reduceIte, Nat.reduceEqDiff, Nat.reduceBEq, Nat.reduceAdd, Nat.reduceSub, Int.reduceToNat, List.length_append, *]
    | false =>
      have hxz : (p.extract k (k + 1)).size = 1 := by rw [ByteArray.size_extract]; omega
      have hst := patK_let hd
      have hno : at8 p k < 48 ∨ 57 < at8 p k := by
        by_cases hh : 48 ≤ at8 p k ∧ at8 p k ≤ 57
        · have : digC (at8 p k) = true := inB_iff.2 hh
          rw [this] at hd; cases hd
        · omega
      replace hst := Lib.hid hst
      clear hrg hd
      generalize (patK p k).1 = lt at *
      (repeat' (first | (with_reducible first | apply i_seq | apply i_block | apply i_skip | apply i_exit | apply i_ret | apply i_kS | apply i_kSx | apply i_kSr | apply i_kL | apply i_kLx | apply i_kLr | apply i_kB | apply i_kBr | apply i_kBs | apply i_nil) | ((with_reducible apply i_region); (focus (simp only [List.map_cons, List.map_nil] <;> exact rfl))) | ((with_reducible apply i_draw); (focus (simp only [List.map_cons, List.map_nil] <;> exact rfl)); (focus (decide +kernel))) | ((with_reducible apply i_kBo); (focus rfl)) | ((first | ((with_reducible apply i_V); (focus rfl); (focus rfl); (focus rfl)) | ((with_reducible apply i_E); (focus rfl); (focus (first | rfl | (simp only [push_cast, ↓reduceIte, effOk, touch, refsOf, List.flatMap_cons, List.flatMap_nil])))) | ((with_reducible apply i_S); (focus rfl); (focus (first | rfl | (simp only [push_cast, ↓reduceIte, effOk, touch, refsOf, List.flatMap_cons, List.flatMap_nil])))) | ((with_reducible apply i_Vq); (focus rfl); (focus rfl)) | ((with_reducible apply i_Vp); (focus rfl); (focus rfl); (focus rfl)) | (with_reducible first | apply i_Gb | apply i_cond)); (focus (simp (disch := (first | omega | (simp only [push_cast]; done) | (simp only [push_cast]; omega) | ((try simp only [push_cast]); (with_reducible first | apply sel_lt | apply sel_ge); (focus decide); (focus (simp only [push_cast]; omega))))) only [push_cast, ↓reduceIte, Nat.reduceEqDiff, Nat.reduceBEq, Nat.reduceAdd, Nat.reduceSub, Int.reduceToNat, *] <;> with_reducible exact rfl)); all_goals try (intro hX; first | (cases hX; done) | ((with_reducible first | have hX0 : true = true := hX | have hX0 : false = false := hX); clear hX0 hX) | ((try simp only [decide_eq_true_eq, decide_eq_false_iff_not, Bool.not_eq_true', Bool.not_eq_false'] at hX); (try have hXb := inB_iff.1 hX)))))); all_goals try (exfalso; omega)
      all_goals
        refine ⟨k + 1, by omega, by dsimp only; omega, ?_, ?_, rfl⟩
        · dsimp only
          rw [hst.out]
          simp (disch := (first | omega | (simp only [push_cast]; done) | (simp only [push_cast]; omega) | ((try simp only [push_cast]); (with_reducible first | apply sel_lt | apply sel_ge); (focus decide); (focus (simp only [push_cast]; omega))))) only [push_cast, ↓reduceIte, Nat.reduceEqDiff, Nat.reduceBEq, Nat.reduceAdd, Nat.reduceSub, Int.reduceToNat, List.length_append, *]
        · simp (disch := (first | omega | (simp only [push_cast]; done) | (simp only [push_cast]; omega) | ((try simp only [push_cast]); (with_reducible first | apply sel_lt | apply sel_ge); (focus decide); (focus (simp only [push_cast]; omega))))) only [push_cast, ↓reduceIte, Nat.reduceEqDiff, Nat.reduceBEq, Nat.reduceAdd, Nat.reduceSub, Int.reduceToNat, List.length_append, *]
  · obtain rfl : k = p.size := by omega
    clear hrg
    (repeat' (first | (with_reducible first | apply i_seq | apply i_block | apply i_skip | apply i_exit | apply i_ret | apply i_kS | apply i_kSx | apply i_kSr | apply i_kL | apply i_kLx | apply i_kLr | apply i_kB | apply i_kBr | apply i_kBs | apply i_nil) | ((with_reducible apply i_region); (focus (simp only [List.map_cons, List.map_nil] <;> exact rfl))) | ((with_reducible apply i_draw); (focus (simp only [List.map_cons, List.map_nil] <;> exact rfl)); (focus (decide +kernel))) | ((with_reducible apply i_kBo); (focus rfl)) | ((first | ((with_reducible apply i_V); (focus rfl); (focus rfl); (focus rfl)) | ((with_reducible apply i_E); (focus rfl); (focus (first | rfl | (simp only [push_cast, ↓reduceIte, effOk, touch, refsOf, List.flatMap_cons, List.flatMap_nil])))) | ((with_reducible apply i_S); (focus rfl); (focus (first | rfl | (simp only [push_cast, ↓reduceIte, effOk, touch, refsOf, List.flatMap_cons, List.flatMap_nil])))) | ((with_reducible apply i_Vq); (focus rfl); (focus rfl)) | ((with_reducible apply i_Vp); (focus rfl); (focus rfl); (focus rfl)) | (with_reducible first | apply i_Gb | apply i_cond)); (focus (simp (disch := (first | omega | (simp only [push_cast]; done) | (simp only [push_cast]; omega) | ((try simp only [push_cast]); (with_reducible first | apply sel_lt | apply sel_ge); (focus decide); (focus (simp only [push_cast]; omega))))) only [push_cast, ↓reduceIte, Nat.reduceEqDiff, Nat.reduceBEq, Nat.reduceAdd, Nat.reduceSub, Int.reduceToNat, *] <;> with_reducible exact rfl)); all_goals try (intro hX; first | (cases hX; done) | ((with_reducible first | have hX0 : true = true := hX | have hX0 : false = false := hX); clear hX0 hX) | ((try simp only [decide_eq_true_eq, decide_eq_false_iff_not, Bool.not_eq_true', Bool.not_eq_false'] at hX); (try have hXb := inB_iff.1 hX)))))); all_goals try (exfalso; omega)
    all_goals ((first | apply i_end | apply i_endN); simp (disch := (first | omega | (simp only [push_cast]; done) | (simp only [push_cast]; omega) | ((try simp only [push_cast]); (with_reducible first | apply sel_lt | apply sel_ge); (focus decide); (focus (simp only [push_cast]; omega))))) only [push_cast, ↓reduceIte, Nat.reduceEqDiff, Nat.reduceBEq, Nat.reduceAdd, Nat.reduceSub, Int.reduceToNat, *])
def φPv : Fun := F1 dS fun p => if patB p = true then some (.lst true 1 ((levelsP p).map fun n => .val (.int .i64 n))) else none
theorem φPv_ap {p : ByteArray} (h : patB p = true) : φPv [.val (.string p)] = some (.lst true 1 ((levelsP p).map fun n => .val (.int .i64 n))) := (F1_ap (A := dS) p).trans (if_pos h)
set_option maxHeartbeats 8000000 in
theorem specPv_ok : Sound Try.prog 106 φPv := by
  refine sound_pq mixed GPl_ok Try.func106 rfl 44 rfl [.tmp 2] rfl (by kernel_rfl) fun ps r hr => ?_
  obtain ⟨p, rfl, hq⟩ := F1_some hr
  clear hr
  split at hq
  case isFalse => cases hq
  case isTrue hpre =>
  cases hq
  refine ⟨by simp, ?_⟩
  simp only [dIs, dUs, dSs, dI_e, dU_e, dB_e, dS_e, dFn_e, dL_e, dA2_e, dA3_e, dA4_e, dA5_e]
  have hsz := patB_size hpre
  have hrg := patK_rng p
  have apv := φPat_ap (s := p) (by omega)
  rw [hpre] at apv
  unfold levelsP
  clear hpre
  have gpl_c81 := GPl_81
  (repeat' (first | (with_reducible first | apply i_seq | apply i_block | apply i_skip | apply i_exit | apply i_ret | apply i_kS | apply i_kSx | apply i_kSr | apply i_kL | apply i_kLx | apply i_kLr | apply i_kB | apply i_kBr | apply i_kBs | apply i_nil) | ((with_reducible apply i_region); (focus (simp only [List.map_cons, List.map_nil] <;> exact rfl))) | ((with_reducible apply i_draw); (focus (simp only [List.map_cons, List.map_nil] <;> exact rfl)); (focus (decide +kernel))) | ((with_reducible apply i_kBo); (focus rfl)) | ((first | ((with_reducible apply i_V); (focus rfl); (focus rfl); (focus rfl)) | ((with_reducible apply i_E); (focus rfl); (focus (first | rfl | (simp only [push_cast, ↓reduceIte, effOk, touch, refsOf, List.flatMap_cons, List.flatMap_nil])))) | ((with_reducible apply i_S); (focus rfl); (focus (first | rfl | (simp only [push_cast, ↓reduceIte, effOk, touch, refsOf, List.flatMap_cons, List.flatMap_nil])))) | ((with_reducible apply i_Vq); (focus rfl); (focus rfl)) | ((with_reducible apply i_Vp); (focus rfl); (focus rfl); (focus rfl)) | (with_reducible first | apply i_Gb | apply i_cond)); (focus (simp (disch := (first | omega | (simp only [push_cast]; done) | (simp only [push_cast]; omega) | ((try simp only [push_cast]); (with_reducible first | apply sel_lt | apply sel_ge); (focus decide); (focus (simp only [push_cast]; omega))))) only [push_cast, ↓reduceIte, Nat.reduceEqDiff, Nat.reduceBEq, Nat.reduceAdd, Nat.reduceSub, Int.reduceToNat, *] <;> with_reducible exact rfl)); all_goals try (intro hX; first | (cases hX; done) | ((with_reducible first | have hX0 : true = true := hX | have hX0 : false = false := hX); clear hX0 hX) | ((try simp only [decide_eq_true_eq, decide_eq_false_iff_not, Bool.not_eq_true', Bool.not_eq_false'] at hX); (try have hXb := inB_iff.1 hX)))))); all_goals try (exfalso; omega)
  refine i_loop (α := Nat × Nat × Nat) mixed (fun z => [(0, .val (.string p)), (3, .row z.2.1 1 0 (patK p z.1).2.1.length), (4, iv (patK p z.1).2.2), (5, iv z.1)])
    (fun z => [(z.2.1, 3, 1, (patK p z.1).2.1.map pvN)]) (fun z => z.2.2)
    (fun z => z.1 ≤ p.size ∧ z.2.1 < z.2.2) (fun z => p.size - z.1) (by kernel_rfl) (0, 0, 1) ⟨by simp, by simp⟩ ?_ ?_ rfl ?_
  · simp (disch := (first | omega | (simp only [push_cast]; done) | (simp only [push_cast]; omega) | ((try simp only [push_cast]); (with_reducible first | apply sel_lt | apply sel_ge); (focus decide); (focus (simp only [push_cast]; omega))))) only [push_cast, ↓reduceIte, Nat.reduceEqDiff, Nat.reduceBEq, Nat.reduceAdd, Nat.reduceSub, Int.reduceToNat, patK, List.length_nil, *]
  · simp (disch := (first | omega | (simp only [push_cast]; done) | (simp only [push_cast]; omega) | ((try simp only [push_cast]); (with_reducible first | apply sel_lt | apply sel_ge); (focus decide); (focus (simp only [push_cast]; omega))))) only [push_cast, ↓reduceIte, Nat.reduceEqDiff, Nat.reduceBEq, Nat.reduceAdd, Nat.reduceSub, Int.reduceToNat, patK, List.map_nil, *]
  rintro ⟨k, x, y⟩ ⟨hk, hxy⟩
  dsimp only at hk hxy
  obtain ⟨r1, r2, r3, -⟩ := hrg k hk
  by_cases h0 : k < p.size
  · have hb8 := at8_rng p k
    cases hd : digC (at8 p k) with
    | true =>
      have hst := patK_dig hd
      have hin := inB_iff.1 hd
      have w1 : IntKind.u8.wrap (at8 p k - 48) = at8 p k - 48 := by rw [IntKind.wrap_u8]; omega
      have w3 := wrap_id (n := at8 p k - 48) (by omega) (by omega)
      replace hst := Lib.hid hst
      clear hrg hd
      generalize (patK p k).2.1 = o at *
      generalize (patK p k).2.2 = v at *
      generalize (patK p k).1 = lt at *
      (repeat' (first | (with_reducible first | apply i_seq | apply i_block | apply i_skip | apply i_exit | apply i_ret | apply i_kS | apply i_kSx | apply i_kSr | apply i_kL | apply i_kLx | apply i_kLr | apply i_kB | apply i_kBr | apply i_kBs | apply i_nil) | ((with_reducible apply i_region); (focus (simp only [List.map_cons, List.map_nil] <;> exact rfl))) | ((with_reducible apply i_draw); (focus (simp only [List.map_cons, List.map_nil] <;> exact rfl)); (focus (decide +kernel))) | ((with_reducible apply i_kBo); (focus rfl)) | ((first | ((with_reducible apply i_V); (focus rfl); (focus rfl); (focus rfl)) | ((with_reducible apply i_E); (focus rfl); (focus (first | rfl | (simp only [push_cast, ↓reduceIte, effOk, touch, refsOf, List.flatMap_cons, List.flatMap_nil])))) | ((with_reducible apply i_S); (focus rfl); (focus (first | rfl | (simp only [push_cast, ↓reduceIte, effOk, touch, refsOf, List.flatMap_cons, List.flatMap_nil])))) | ((with_reducible apply i_Vq); (focus rfl); (focus rfl)) | ((with_reducible apply i_Vp); (focus rfl); (focus rfl); (focus rfl)) | (with_reducible first | apply i_Gb | apply i_cond)); (focus (simp (disch := (first | omega | (simp only [push_cast]; done) | (simp only [push_cast]; omega) | ((try simp only [push_cast]); (with_reducible first | apply sel_lt | apply sel_ge); (focus decide); (focus (simp only [push_cast]; omega))))) only [push_cast, ↓reduceIte, Nat.reduceEqDiff, Nat.reduceBEq, Nat.reduceAdd, Nat.reduceSub, Int.reduceToNat, *] <;> with_reducible exact rfl)); all_goals try (intro hX; first | (cases hX; done) | ((with_reducible first | have hX0 : true = true := hX | have hX0 : false = false := hX); clear hX0 hX) | ((try simp only [decide_eq_true_eq, decide_eq_false_iff_not, Bool.not_eq_true', Bool.not_eq_false'] at hX); (try have hXb := inB_iff.1 hX)))))); all_goals try (exfalso; omega)
      refine ⟨(k + 1, x, y), ⟨by dsimp only; omega, hxy⟩, by dsimp only; omega, ?_, ?_, rfl⟩
      · dsimp only
        rw [hst.out]
        simp (disch := (first | omega | (simp only [push_cast]; done) | (simp only [push_cast]; omega) | ((try simp only [push_cast]); (with_reducible first | apply sel_lt | apply sel_ge); (focus decide); (focus (simp only [push_cast]; omega))))) only [push_cast, ↓reduceIte, Nat.reduceEqDiff, Nat.reduceBEq, Nat.reduceAdd, Nat.reduceSub, Int.reduceToNat, List.length_append, *]
      · dsimp only
        rw [hst.out]
        simp (disch := (first | omega | (simp only [push_cast]; done) | (simp only [push_cast]; omega) | ((try simp only [push_cast]); (with_reducible first | apply sel_lt | apply sel_ge); (focus decide); (focus (simp only [push_cast]; omega))))) only [push_cast, ↓reduceIte, Nat.reduceEqDiff, Nat.reduceBEq, Nat.reduceAdd, Nat.reduceSub, Int.reduceToNat, List.length_append, *]
    | false =>
      have hxz : (p.extract k (k + 1)).size = 1 := by rw [ByteArray.size_extract]; omega
      have hst := patK_let hd
      have hno : at8 p k < 48 ∨ 57 < at8 p k := by
        by_cases hh : 48 ≤ at8 p k ∧ at8 p k ≤ 57
        · have : digC (at8 p k) = true := inB_iff.2 hh
          rw [this] at hd; cases hd
        · omega
      replace hst := Lib.hid hst
      clear hrg hd
      generalize (patK p k).2.1 = o at *
      generalize (patK p k).2.2 = v at *
      generalize (patK p k).1 = lt at *
      (repeat' (first | (with_reducible first | apply i_seq | apply i_block | apply i_skip | apply i_exit | apply i_ret | apply i_kS | apply i_kSx | apply i_kSr | apply i_kL | apply i_kLx | apply i_kLr | apply i_kB | apply i_kBr | apply i_kBs | apply i_nil) | ((with_reducible apply i_region); (focus (simp only [List.map_cons, List.map_nil] <;> exact rfl))) | ((with_reducible apply i_draw); (focus (simp only [List.map_cons, List.map_nil] <;> exact rfl)); (focus (decide +kernel))) | ((with_reducible apply i_kBo); (focus rfl)) | ((first | ((with_reducible apply i_V); (focus rfl); (focus rfl); (focus rfl)) | ((with_reducible apply i_E); (focus rfl); (focus (first | rfl | (simp only [push_cast, ↓reduceIte, effOk, touch, refsOf, List.flatMap_cons, List.flatMap_nil])))) | ((with_reducible apply i_S); (focus rfl); (focus (first | rfl | (simp only [push_cast, ↓reduceIte, effOk, touch, refsOf, List.flatMap_cons, List.flatMap_nil])))) | ((with_reducible apply i_Vq); (focus rfl); (focus rfl)) | ((with_reducible apply i_Vp); (focus rfl); (focus rfl); (focus rfl)) | (with_reducible first | apply i_Gb | apply i_cond)); (focus (simp (disch := (first | omega | (simp only [push_cast]; done) | (simp only [push_cast]; omega) | ((try simp only [push_cast]); (with_reducible first | apply sel_lt | apply sel_ge); (focus decide); (focus (simp only [push_cast]; omega))))) only [push_cast, ↓reduceIte, Nat.reduceEqDiff, Nat.reduceBEq, Nat.reduceAdd, Nat.reduceSub, Int.reduceToNat, *] <;> with_reducible exact rfl)); all_goals try (intro hX; first | (cases hX; done) | ((with_reducible first | have hX0 : true = true := hX | have hX0 : false = false := hX); clear hX0 hX) | ((try simp only [decide_eq_true_eq, decide_eq_false_iff_not, Bool.not_eq_true', Bool.not_eq_false'] at hX); (try have hXb := inB_iff.1 hX)))))); all_goals try (exfalso; omega)
      all_goals
        refine ⟨(k + 1, y + 1, y + 2), ⟨by dsimp only; omega, by dsimp only; omega⟩, by dsimp only; omega, ?_, ?_, rfl⟩
        · dsimp only
          rw [hst.out]
          simp (disch := (first | omega | (simp only [push_cast]; done) | (simp only [push_cast]; omega) | ((try simp only [push_cast]); (with_reducible first | apply sel_lt | apply sel_ge); (focus decide); (focus (simp only [push_cast]; omega))))) only [push_cast, ↓reduceIte, Nat.reduceEqDiff, Nat.reduceBEq, Nat.reduceAdd, Nat.reduceSub, Int.reduceToNat, List.length_append, *]
        · dsimp only
          rw [hst.out]
          simp (disch := (first | omega | (simp only [push_cast]; done) | (simp only [push_cast]; omega) | ((try simp only [push_cast]); (with_reducible first | apply sel_lt | apply sel_ge); (focus decide); (focus (simp only [push_cast]; omega))))) only [push_cast, ↓reduceIte, Nat.reduceEqDiff, Nat.reduceBEq, Nat.reduceAdd, Nat.reduceSub, Int.reduceToNat, List.length_append, *]
  · obtain rfl : k = p.size := by omega
    clear hrg
    (repeat' (first | (with_reducible first | apply i_seq | apply i_block | apply i_skip | apply i_exit | apply i_ret | apply i_kS | apply i_kSx | apply i_kSr | apply i_kL | apply i_kLx | apply i_kLr | apply i_kB | apply i_kBr | apply i_kBs | apply i_nil) | ((with_reducible apply i_region); (focus (simp only [List.map_cons, List.map_nil] <;> exact rfl))) | ((with_reducible apply i_draw); (focus (simp only [List.map_cons, List.map_nil] <;> exact rfl)); (focus (decide +kernel))) | ((with_reducible apply i_kBo); (focus rfl)) | ((first | ((with_reducible apply i_V); (focus rfl); (focus rfl); (focus rfl)) | ((with_reducible apply i_E); (focus rfl); (focus (first | rfl | (simp only [push_cast, ↓reduceIte, effOk, touch, refsOf, List.flatMap_cons, List.flatMap_nil])))) | ((with_reducible apply i_S); (focus rfl); (focus (first | rfl | (simp only [push_cast, ↓reduceIte, effOk, touch, refsOf, List.flatMap_cons, List.flatMap_nil])))) | ((with_reducible apply i_Vq); (focus rfl); (focus rfl)) | ((with_reducible apply i_Vp); (focus rfl); (focus rfl); (focus rfl)) | (with_reducible first | apply i_Gb | apply i_cond)); (focus (simp (disch := (first | omega | (simp only [push_cast]; done) | (simp only [push_cast]; omega) | ((try simp only [push_cast]); (with_reducible first | apply sel_lt | apply sel_ge); (focus decide); (focus (simp only [push_cast]; omega))))) only [push_cast, ↓reduceIte, Nat.reduceEqDiff, Nat.reduceBEq, Nat.reduceAdd, Nat.reduceSub, Int.reduceToNat, *] <;> with_reducible exact rfl)); all_goals try (intro hX; first | (cases hX; done) | ((with_reducible first | have hX0 : true = true := hX | have hX0 : false = false := hX); clear hX0 hX) | ((try simp only [decide_eq_true_eq, decide_eq_false_iff_not, Bool.not_eq_true', Bool.not_eq_false'] at hX); (try have hXb := inB_iff.1 hX)))))); all_goals try (exfalso; omega)
    all_goals ((first | apply i_end | apply i_endN); simp (disch := (first | omega | (simp only [push_cast]; done) | (simp only [push_cast]; omega) | ((try simp only [push_cast]); (with_reducible first | apply sel_lt | apply sel_ge); (focus decide); (focus (simp only [push_cast]; omega))))) only [push_cast, ↓reduceIte, Nat.reduceEqDiff, Nat.reduceBEq, Nat.reduceAdd, Nat.reduceSub, Int.reduceToNat, *])
end Go.Proofs.Ytngcedklbinhjaa
namespace Go.Proofs.Ytngcedklbinhjaa
open Go.RowKit
set_option linter.all false
def hypB (w : ByteArray) (pats : LS) : Bool := wordB w && allPats pats
theorem hypB_iff {w : ByteArray} {pats : LS} : hypB w pats = true ↔ wordB w = true ∧ allPats pats = true := by simp [hypB]
theorem pats_at {pats : LS} (h : allPats pats = true) {k : Nat} (hk : k < pats.length) : patB (pats[k]?.getD .empty) = true := by
  unfold allPats at h
  rw [Bool.and_eq_true, List.all_eq_true] at h
  rw [List.getElem?_eq_getElem hk, Option.getD_some]
  exact h.2 _ (List.getElem_mem hk)
theorem pats_len {pats : LS} (h : allPats pats = true) : pats.length ≤ 20 := by
  unfold allPats at h
  rw [Bool.and_eq_true] at h
  exact of_decide_eq_true h.1
noncomputable def levelsV (w : ByteArray) (pats : LS) : List Int := if hypB w pats = true then levelsR w pats else []
abbrev okHy (w : ByteArray) (pats : LS) : Prop := w.size ≤ 1048576 ∧ okSs pats
noncomputable instance (w : ByteArray) (pats : LS) : Decidable (okHy w pats) := Classical.propDecidable _
noncomputable def φLv : Fun := F2 dS dSs fun w pats => if okHy w pats then some (.lst true 1 ((levelsV w pats).map fun n => .val (.int .i64 n))) else none
theorem φLv_ap {w : ByteArray} {pats : LS} (h : okHy w pats) : φLv [.val (.string w), .lst false 1 (pats.map fun s => .val (.string s))] = some (.lst true 1 ((levelsV w pats).map fun n => .val (.int .i64 n))) := (F2_ap (A := dS) (B := dSs) w pats).trans (if_pos h)
theorem lvSet_in {sz a j : Nat} {lv o : List Int} (h : 1 ≤ a + j) (h2 : a + j ≤ sz + 1) : lvSet sz a j lv o = o.set (a + j - 1) (if lv[j]?.getD 0 > o[a + j - 1]?.getD 0 then lv[j]?.getD 0 else o[a + j - 1]?.getD 0) := if_pos ⟨h, h2⟩
theorem lvSet_out {sz a j : Nat} {lv o : List Int} (h : ¬ (1 ≤ a + j ∧ a + j ≤ sz + 1)) : lvSet sz a j lv o = o := if_neg h
theorem lvA_hit {d lt : ByteArray} {sz a : Nat} {lv o : List Int} (h : d.extract a (a + lt.size) = lt) : lvA d sz lt lv o (a + 1) = lvJ sz a lv (lvA d sz lt lv o a) lv.length := by
  rw [lvA, if_pos h]
theorem lvA_miss {d lt : ByteArray} {sz a : Nat} {lv o : List Int} (h : ¬ d.extract a (a + lt.size) = lt) : lvA d sz lt lv o (a + 1) = lvA d sz lt lv o a := by
  rw [lvA, if_neg h]
noncomputable def GLvS : Ctx := ⟨fun f => if f = 69 then some φWord else if f = 59 then some φPats else if f = 105 then some φPl else if f = 106 then some φPv else if f = 62 then some φIn else none, fun f => none⟩
theorem GLvS_ok : SoundΓ Try.prog GLvS := ⟨(fun f φ h => by
  unfold GLvS at h
  dsimp only at h
  split at h
  · rename_i hf; cases h; subst hf; exact ⟨⟨_, Try.func69, rfl, rfl⟩, specWordValid_ok⟩
  split at h
  · rename_i hf; cases h; subst hf; exact ⟨⟨_, Try.func59, rfl, rfl⟩, specPatternsValid_ok⟩
  split at h
  · rename_i hf; cases h; subst hf; exact ⟨⟨_, Try.func105, rfl, rfl⟩, specPl_ok⟩
  split at h
  · rename_i hf; cases h; subst hf; exact ⟨⟨_, Try.func106, rfl, rfl⟩, specPv_ok⟩
  split at h
  · rename_i hf; cases h; subst hf; exact ⟨⟨_, Try.func62, rfl, rfl⟩, l1In_ok⟩
  cases h), (fun f φ h => by
  unfold GLvS at h
  dsimp only at h
  cases h)⟩
theorem GLvS_69 (ob : Objs) (ps : List PV) : evCall GLvS ob 69 ps = (ps.mapM (reify false 0 ob fuel)).bind φWord := by
  have h : GLvS.fn 69 = some φWord := by simp [GLvS]
  unfold evCall
  rw [h]
  cases ps.mapM (reify false 0 ob fuel) <;> rfl
theorem GLvS_59 (ob : Objs) (ps : List PV) : evCall GLvS ob 59 ps = (ps.mapM (reify false 0 ob fuel)).bind φPats := by
  have h : GLvS.fn 59 = some φPats := by simp [GLvS]
  unfold evCall
  rw [h]
  cases ps.mapM (reify false 0 ob fuel) <;> rfl
theorem GLvS_105 (ob : Objs) (ps : List PV) : evCall GLvS ob 105 ps = (ps.mapM (reify false 0 ob fuel)).bind φPl := by
  have h : GLvS.fn 105 = some φPl := by simp [GLvS]
  unfold evCall
  rw [h]
  cases ps.mapM (reify false 0 ob fuel) <;> rfl
theorem GLvS_106 (ob : Objs) (ps : List PV) : evCall GLvS ob 106 ps = (ps.mapM (reify false 0 ob fuel)).bind φPv := by
  have h : GLvS.fn 106 = some φPv := by simp [GLvS]
  unfold evCall
  rw [h]
  cases ps.mapM (reify false 0 ob fuel) <;> rfl
theorem GLvS_62 (ob : Objs) (ps : List PV) : evCall GLvS ob 62 ps = (ps.mapM (reify false 0 ob fuel)).bind φIn := by
  have h : GLvS.fn 62 = some φIn := by simp [GLvS]
  unfold evCall
  rw [h]
  cases ps.mapM (reify false 0 ob fuel) <;> rfl
set_option maxHeartbeats 16000000 in
theorem specLv_ok : Sound Try.prog 88 φLv := by
  refine sound_pq mixed GLvS_ok Try.func88 rfl 90 rfl [.tmp 4] rfl (by kernel_rfl) fun ps r hr => ?_
  obtain ⟨w, pats, rfl, hq⟩ := F2_some hr
  clear hr
  split at hq
  case isFalse => cases hq
  case isTrue hpre =>
  cases hq
  refine ⟨by simp, ?_⟩
  simp only [dIs, dUs, dSs, dI_e, dU_e, dB_e, dS_e, dFn_e, dL_e, dA2_e, dA3_e, dA4_e, dA5_e]
  have ap1 := φWord_ap (s := w) (by omega)
  have ap2 := φPats_ap hpre.2
  unfold levelsV hypB
  cases hw : wordB w with
  | false =>
    rw [hw] at ap1
    clear hpre hw
    rw [Bool.false_and, if_neg (by decide)]
    have glvs_c69 := GLvS_69; have glvs_c59 := GLvS_59; have glvs_c105 := GLvS_105; have glvs_c106 := GLvS_106; have glvs_c62 := GLvS_62
    (repeat' (first | (with_reducible first | apply i_seq | apply i_block | apply i_skip | apply i_exit | apply i_ret | apply i_kS | apply i_kSx | apply i_kSr | apply i_kL | apply i_kLx | apply i_kLr | apply i_kB | apply i_kBr | apply i_kBs | apply i_nil) | ((with_reducible apply i_region); (focus (simp only [List.map_cons, List.map_nil] <;> exact rfl))) | ((with_reducible apply i_draw); (focus (simp only [List.map_cons, List.map_nil] <;> exact rfl)); (focus (decide +kernel))) | ((with_reducible apply i_kBo); (focus rfl)) | ((first | ((with_reducible apply i_V); (focus rfl); (focus rfl); (focus rfl)) | ((with_reducible apply i_E); (focus rfl); (focus (first | rfl | (simp only [push_cast, ↓reduceIte, effOk, touch, refsOf, List.flatMap_cons, List.flatMap_nil])))) | ((with_reducible apply i_S); (focus rfl); (focus (first | rfl | (simp only [push_cast, ↓reduceIte, effOk, touch, refsOf, List.flatMap_cons, List.flatMap_nil])))) | ((with_reducible apply i_Vq); (focus rfl); (focus rfl)) | ((with_reducible apply i_Vp); (focus rfl); (focus rfl); (focus rfl)) | (with_reducible first | apply i_Gb | apply i_cond)); (focus (simp (disch := (first | omega | (simp only [push_cast]; done) | (simp only [push_cast]; omega) | ((try simp only [push_cast]); (with_reducible first | apply sel_lt | apply sel_ge); (focus decide); (focus (simp only [push_cast]; omega))))) only [push_cast, ↓reduceIte, Nat.reduceEqDiff, Nat.reduceBEq, Nat.reduceAdd, Nat.reduceSub, Int.reduceToNat, *] <;> with_reducible exact rfl)); all_goals try (intro hX; first | (cases hX; done) | ((with_reducible first | have hX0 : true = true := hX | have hX0 : false = false := hX); clear hX0 hX) | ((try simp only [decide_eq_true_eq, decide_eq_false_iff_not, Bool.not_eq_true', Bool.not_eq_false'] at hX); (try have hXb := inB_iff.1 hX)))))); all_goals try (exfalso; omega)
    all_goals ((first | apply i_end | apply i_endN); simp (disch := (first | omega | (simp only [push_cast]; done) | (simp only [push_cast]; omega) | ((try simp only [push_cast]); (with_reducible first | apply sel_lt | apply sel_ge); (focus decide); (focus (simp only [push_cast]; omega))))) only [push_cast, ↓reduceIte, Nat.reduceEqDiff, Nat.reduceBEq, Nat.reduceAdd, Nat.reduceSub, Int.reduceToNat, *])
  | true =>
  cases hp : allPats pats with
  | false =>
    rw [hw] at ap1
    rw [hp] at ap2
    clear hpre hw hp
    rw [Bool.and_false, if_neg (by decide)]
    have glvs_c69 := GLvS_69; have glvs_c59 := GLvS_59; have glvs_c105 := GLvS_105; have glvs_c106 := GLvS_106; have glvs_c62 := GLvS_62
    (repeat' (first | (with_reducible first | apply i_seq | apply i_block | apply i_skip | apply i_exit | apply i_ret | apply i_kS | apply i_kSx | apply i_kSr | apply i_kL | apply i_kLx | apply i_kLr | apply i_kB | apply i_kBr | apply i_kBs | apply i_nil) | ((with_reducible apply i_region); (focus (simp only [List.map_cons, List.map_nil] <;> exact rfl))) | ((with_reducible apply i_draw); (focus (simp only [List.map_cons, List.map_nil] <;> exact rfl)); (focus (decide +kernel))) | ((with_reducible apply i_kBo); (focus rfl)) | ((first | ((with_reducible apply i_V); (focus rfl); (focus rfl); (focus rfl)) | ((with_reducible apply i_E); (focus rfl); (focus (first | rfl | (simp only [push_cast, ↓reduceIte, effOk, touch, refsOf, List.flatMap_cons, List.flatMap_nil])))) | ((with_reducible apply i_S); (focus rfl); (focus (first | rfl | (simp only [push_cast, ↓reduceIte, effOk, touch, refsOf, List.flatMap_cons, List.flatMap_nil])))) | ((with_reducible apply i_Vq); (focus rfl); (focus rfl)) | ((with_reducible apply i_Vp); (focus rfl); (focus rfl); (focus rfl)) | (with_reducible first | apply i_Gb | apply i_cond)); (focus (simp (disch := (first | omega | (simp only [push_cast]; done) | (simp only [push_cast]; omega) | ((try simp only [push_cast]); (with_reducible first | apply sel_lt | apply sel_ge); (focus decide); (focus (simp only [push_cast]; omega))))) only [push_cast, ↓reduceIte, Nat.reduceEqDiff, Nat.reduceBEq, Nat.reduceAdd, Nat.reduceSub, Int.reduceToNat, *] <;> with_reducible exact rfl)); all_goals try (intro hX; first | (cases hX; done) | ((with_reducible first | have hX0 : true = true := hX | have hX0 : false = false := hX); clear hX0 hX) | ((try simp only [decide_eq_true_eq, decide_eq_false_iff_not, Bool.not_eq_true', Bool.not_eq_false'] at hX); (try have hXb := inB_iff.1 hX)))))); all_goals try (exfalso; omega)
    all_goals ((first | apply i_end | apply i_endN); simp (disch := (first | omega | (simp only [push_cast]; done) | (simp only [push_cast]; omega) | ((try simp only [push_cast]); (with_reducible first | apply sel_lt | apply sel_ge); (focus decide); (focus (simp only [push_cast]; omega))))) only [push_cast, ↓reduceIte, Nat.reduceEqDiff, Nat.reduceBEq, Nat.reduceAdd, Nat.reduceSub, Int.reduceToNat, *])
  | true =>
  rw [hw] at ap1
  rw [hp] at ap2
  rw [Bool.and_true, if_pos rfl]
  obtain ⟨-, hw1, hw2⟩ := wordB_letters hw
  have hpl := pats_len hp
  have hpa := fun k hk => pats_at hp (k := k) hk
  have hds := dotW_size w
  have hlo := lvP_ok w pats
  have hd0 : dotW w = (⟨#[46]⟩ ++ w) ++ ⟨#[46]⟩ := rfl
  have h46 : (⟨#[46]⟩ : ByteArray).size = 1 := rfl
  have api := φIn_ap
  unfold levelsR
  clear hw hp hpre
  have glvs_c69 := GLvS_69; have glvs_c59 := GLvS_59; have glvs_c105 := GLvS_105; have glvs_c106 := GLvS_106; have glvs_c62 := GLvS_62
  (repeat' (first | (with_reducible first | apply i_seq | apply i_block | apply i_skip | apply i_exit | apply i_ret | apply i_kS | apply i_kSx | apply i_kSr | apply i_kL | apply i_kLx | apply i_kLr | apply i_kB | apply i_kBr | apply i_kBs | apply i_nil) | ((with_reducible apply i_region); (focus (simp only [List.map_cons, List.map_nil] <;> exact rfl))) | ((with_reducible apply i_draw); (focus (simp only [List.map_cons, List.map_nil] <;> exact rfl)); (focus (decide +kernel))) | ((with_reducible apply i_kBo); (focus rfl)) | ((first | ((with_reducible apply i_V); (focus rfl); (focus rfl); (focus rfl)) | ((with_reducible apply i_E); (focus rfl); (focus (first | rfl | (simp only [push_cast, ↓reduceIte, effOk, touch, refsOf, List.flatMap_cons, List.flatMap_nil])))) | ((with_reducible apply i_S); (focus rfl); (focus (first | rfl | (simp only [push_cast, ↓reduceIte, effOk, touch, refsOf, List.flatMap_cons, List.flatMap_nil])))) | ((with_reducible apply i_Vq); (focus rfl); (focus rfl)) | ((with_reducible apply i_Vp); (focus rfl); (focus rfl); (focus rfl)) | (with_reducible first | apply i_Gb | apply i_cond)); (focus (simp (disch := (first | omega | (simp only [push_cast]; done) | (simp only [push_cast]; omega) | ((try simp only [push_cast]); (with_reducible first | apply sel_lt | apply sel_ge); (focus decide); (focus (simp only [push_cast]; omega))))) only [push_cast, ↓reduceIte, Nat.reduceEqDiff, Nat.reduceBEq, Nat.reduceAdd, Nat.reduceSub, Int.reduceToNat, *] <;> with_reducible exact rfl)); all_goals try (intro hX; first | (cases hX; done) | ((with_reducible first | have hX0 : true = true := hX | have hX0 : false = false := hX); clear hX0 hX) | ((try simp only [decide_eq_true_eq, decide_eq_false_iff_not, Bool.not_eq_true', Bool.not_eq_false'] at hX); (try have hXb := inB_iff.1 hX)))))); all_goals try (exfalso; omega)
  rw [← hd0]
  clear hd0 h46
  generalize hdd : dotW w = d at *
  refine i_loop (α := Nat) mixed (fun k => [(0, .val (.string w)), (1, .lst false 1 (pats.map fun s => .val (.string s))), (5, .row 0 1 0 (w.size + 1)), (6, .val (.string d)), (7, iv k)])
    (fun k => [(0, 3, 1, (lvP w pats k).map pvN)]) (fun _ => 1)
    (fun k => k ≤ pats.length) (fun k => pats.length - k) (by kernel_rfl) 0 (Nat.zero_le _) ?_ ?_ rfl ?_
  · simp (disch := (first | omega | (simp only [push_cast]; done) | (simp only [push_cast]; omega) | ((try simp only [push_cast]); (with_reducible first | apply sel_lt | apply sel_ge); (focus decide); (focus (simp only [push_cast]; omega))))) only [push_cast, ↓reduceIte, Nat.reduceEqDiff, Nat.reduceBEq, Nat.reduceAdd, Nat.reduceSub, Int.reduceToNat, List.length_append, *]
  · simp (disch := (first | omega | (simp only [push_cast]; done) | (simp only [push_cast]; omega) | ((try simp only [push_cast]); (with_reducible first | apply sel_lt | apply sel_ge); (focus decide); (focus (simp only [push_cast]; omega))))) only [push_cast, ↓reduceIte, Nat.reduceEqDiff, Nat.reduceBEq, Nat.reduceAdd, Nat.reduceSub, Int.reduceToNat, lvP, List.map_replicate, *]
  intro k hk
  by_cases h0 : k < pats.length
  · have hpk := hpa k h0
    have hap1 := φPl_ap hpk
    have hap2 := φPv_ap hpk
    obtain ⟨g1, g2, g3⟩ := levelsP_rng (pats[k]?.getD .empty)
    have hps := (patB_size hpk).2
    have hnx : lvP w pats (k + 1) = lvA d w.size (lettersP (pats[k]?.getD .empty)) (levelsP (pats[k]?.getD .empty)) (lvP w pats k) (w.size + 3 - (lettersP (pats[k]?.getD .empty)).size) := by rw [lvP, hdd]
    have ho := hlo k
    replace hnx := Lib.hid hnx
    clear hpa hlo hpk
    generalize hp9 : pats[k]?.getD ByteArray.empty = p at *
    generalize lettersP p = lt at *
    generalize levelsP p = lv at *
    generalize lvP w pats k = o at *
    have hA := fun a => (ho.lvA (d := d) (lt := lt) (lv := lv) g3 a)
    (repeat' (first | (with_reducible first | apply i_seq | apply i_block | apply i_skip | apply i_exit | apply i_ret | apply i_kS | apply i_kSx | apply i_kSr | apply i_kL | apply i_kLx | apply i_kLr | apply i_kB | apply i_kBr | apply i_kBs | apply i_nil) | ((with_reducible apply i_region); (focus (simp only [List.map_cons, List.map_nil] <;> exact rfl))) | ((with_reducible apply i_draw); (focus (simp only [List.map_cons, List.map_nil] <;> exact rfl)); (focus (decide +kernel))) | ((with_reducible apply i_kBo); (focus rfl)) | ((first | ((with_reducible apply i_V); (focus rfl); (focus rfl); (focus rfl)) | ((with_reducible apply i_E); (focus rfl); (focus (first | rfl | (simp only [push_cast, ↓reduceIte, effOk, touch, refsOf, List.flatMap_cons, List.flatMap_nil])))) | ((with_reducible apply i_S); (focus rfl); (focus (first | rfl | (simp only [push_cast, ↓reduceIte, effOk, touch, refsOf, List.flatMap_cons, List.flatMap_nil])))) | ((with_reducible apply i_Vq); (focus rfl); (focus rfl)) | ((with_reducible apply i_Vp); (focus rfl); (focus rfl); (focus rfl)) | (with_reducible first | apply i_Gb | apply i_cond)); (focus (simp (disch := (first | omega | (simp only [push_cast]; done) | (simp only [push_cast]; omega) | ((try simp only [push_cast]); (with_reducible first | apply sel_lt | apply sel_ge); (focus decide); (focus (simp only [push_cast]; omega))))) only [push_cast, ↓reduceIte, Nat.reduceEqDiff, Nat.reduceBEq, Nat.reduceAdd, Nat.reduceSub, Int.reduceToNat, *] <;> with_reducible exact rfl)); all_goals try (intro hX; first | (cases hX; done) | ((with_reducible first | have hX0 : true = true := hX | have hX0 : false = false := hX); clear hX0 hX) | ((try simp only [decide_eq_true_eq, decide_eq_false_iff_not, Bool.not_eq_true', Bool.not_eq_false'] at hX); (try have hXb := inB_iff.1 hX)))))); all_goals try (exfalso; omega)
    refine i_loop (α := Nat) mixed (fun a => [(0, .val (.string w)), (1, .lst false 1 (pats.map fun s => .val (.string s))), (5, .row 0 1 0 (w.size + 1)), (6, .val (.string d)), (7, iv k), (8, .val (.string lt)), (9, .lst true 1 (lv.map pvN)), (10, iv a)])
      (fun a => [(0, 3, 1, (lvA d w.size lt lv o a).map pvN)]) (fun _ => 1)
      (fun a => a ≤ w.size + 3 - lt.size) (fun a => w.size + 3 - lt.size - a) (by kernel_rfl) 0 (Nat.zero_le _) ?_ ?_ rfl ?_
    · simp (disch := (first | omega | (simp only [push_cast]; done) | (simp only [push_cast]; omega) | ((try simp only [push_cast]); (with_reducible first | apply sel_lt | apply sel_ge); (focus decide); (focus (simp only [push_cast]; omega))))) only [push_cast, ↓reduceIte, Nat.reduceEqDiff, Nat.reduceBEq, Nat.reduceAdd, Nat.reduceSub, Int.reduceToNat, List.length_append, *]
    · simp (disch := (first | omega | (simp only [push_cast]; done) | (simp only [push_cast]; omega) | ((try simp only [push_cast]); (with_reducible first | apply sel_lt | apply sel_ge); (focus decide); (focus (simp only [push_cast]; omega))))) only [push_cast, ↓reduceIte, Nat.reduceEqDiff, Nat.reduceBEq, Nat.reduceAdd, Nat.reduceSub, Int.reduceToNat, lvA, *]
    intro a ha
    by_cases ha0 : a < w.size + 3 - lt.size
    · obtain ⟨oa1, oa2⟩ := hA a
      have hJ := fun j => ((hA a).lvJ (a := a) (lv := lv) g3 j)
      clear hA ho hap1 hap2
      by_cases hm : d.extract a (a + lt.size) = lt
      · have hn := lvA_hit (sz := w.size) (lv := lv) (o := o) hm
        replace hn := Lib.hid hn
        replace hm := Lib.hid hm
        generalize lvA d w.size lt lv o a = oa at *
        have hm := hm.out
        (repeat' (first | (with_reducible first | apply i_seq | apply i_block | apply i_skip | apply i_exit | apply i_ret | apply i_kS | apply i_kSx | apply i_kSr | apply i_kL | apply i_kLx | apply i_kLr | apply i_kB | apply i_kBr | apply i_kBs | apply i_nil) | ((with_reducible apply i_region); (focus (simp only [List.map_cons, List.map_nil] <;> exact rfl))) | ((with_reducible apply i_draw); (focus (simp only [List.map_cons, List.map_nil] <;> exact rfl)); (focus (decide +kernel))) | ((with_reducible apply i_kBo); (focus rfl)) | ((first | ((with_reducible apply i_V); (focus rfl); (focus rfl); (focus rfl)) | ((with_reducible apply i_E); (focus rfl); (focus (first | rfl | (simp only [push_cast, ↓reduceIte, effOk, touch, refsOf, List.flatMap_cons, List.flatMap_nil])))) | ((with_reducible apply i_S); (focus rfl); (focus (first | rfl | (simp only [push_cast, ↓reduceIte, effOk, touch, refsOf, List.flatMap_cons, List.flatMap_nil])))) | ((with_reducible apply i_Vq); (focus rfl); (focus rfl)) | ((with_reducible apply i_Vp); (focus rfl); (focus rfl); (focus rfl)) | (with_reducible first | apply i_Gb | apply i_cond)); (focus (simp (disch := (first | omega | (simp only [push_cast]; done) | (simp only [push_cast]; omega) | ((try simp only [push_cast]); (with_reducible first | apply sel_lt | apply sel_ge); (focus decide); (focus (simp only [push_cast]; omega))))) only [push_cast, ↓reduceIte, Nat.reduceEqDiff, Nat.reduceBEq, Nat.reduceAdd, Nat.reduceSub, Int.reduceToNat, *] <;> with_reducible exact rfl)); all_goals try (intro hX; first | (cases hX; done) | ((with_reducible first | have hX0 : true = true := hX | have hX0 : false = false := hX); clear hX0 hX) | ((try simp only [decide_eq_true_eq, decide_eq_false_iff_not, Bool.not_eq_true', Bool.not_eq_false'] at hX); (try have hXb := inB_iff.1 hX)))))); all_goals try (exfalso; omega)
        clear hm
        refine i_loop (α := Nat) mixed (fun j => [(0, .val (.string w)), (1, .lst false 1 (pats.map fun s => .val (.string s))), (5, .row 0 1 0 (w.size + 1)), (6, .val (.string d)), (7, iv k), (8, .val (.string lt)), (9, .lst true 1 (lv.map pvN)), (10, iv a), (11, iv j)])
          (fun j => [(0, 3, 1, (lvJ w.size a lv oa j).map pvN)]) (fun _ => 1)
          (fun j => j ≤ lv.length) (fun j => lv.length - j) (by kernel_rfl) 0 (Nat.zero_le _) ?_ ?_ rfl ?_
        · simp (disch := (first | omega | (simp only [push_cast]; done) | (simp only [push_cast]; omega) | ((try simp only [push_cast]); (with_reducible first | apply sel_lt | apply sel_ge); (focus decide); (focus (simp only [push_cast]; omega))))) only [push_cast, ↓reduceIte, Nat.reduceEqDiff, Nat.reduceBEq, Nat.reduceAdd, Nat.reduceSub, Int.reduceToNat, List.length_append, *]
        · simp (disch := (first | omega | (simp only [push_cast]; done) | (simp only [push_cast]; omega) | ((try simp only [push_cast]); (with_reducible first | apply sel_lt | apply sel_ge); (focus decide); (focus (simp only [push_cast]; omega))))) only [push_cast, ↓reduceIte, Nat.reduceEqDiff, Nat.reduceBEq, Nat.reduceAdd, Nat.reduceSub, Int.reduceToNat, lvJ, *]
        intro j hj
        by_cases hj0 : j < lv.length
        · obtain ⟨oj1, oj2⟩ := hJ j
          clear hJ
          have hs : lvJ w.size a lv oa (j + 1) = lvSet w.size a j lv (lvJ w.size a lv oa j) := rfl
          have hg3 := g3 j
          by_cases hin : 1 ≤ a + j ∧ a + j ≤ w.size + 1
          · rw [lvSet_in hin.1 hin.2] at hs
            replace hs := Lib.hid hs
            have api1 : inB ((a : Int) + j - 1) 0 w.size = true := inB_iff.2 ⟨by omega, by omega⟩
            have hti : ((a : Int) + j - 1).toNat = a + j - 1 := by omega
            generalize lvJ w.size a lv oa j = oj at *
            (repeat' (first | (with_reducible first | apply i_seq | apply i_block | apply i_skip | apply i_exit | apply i_ret | apply i_kS | apply i_kSx | apply i_kSr | apply i_kL | apply i_kLx | apply i_kLr | apply i_kB | apply i_kBr | apply i_kBs | apply i_nil) | ((with_reducible apply i_region); (focus (simp only [List.map_cons, List.map_nil] <;> exact rfl))) | ((with_reducible apply i_draw); (focus (simp only [List.map_cons, List.map_nil] <;> exact rfl)); (focus (decide +kernel))) | ((with_reducible apply i_kBo); (focus rfl)) | ((first | ((with_reducible apply i_V); (focus rfl); (focus rfl); (focus rfl)) | ((with_reducible apply i_E); (focus rfl); (focus (first | rfl | (simp only [push_cast, ↓reduceIte, effOk, touch, refsOf, List.flatMap_cons, List.flatMap_nil])))) | ((with_reducible apply i_S); (focus rfl); (focus (first | rfl | (simp only [push_cast, ↓reduceIte, effOk, touch, refsOf, List.flatMap_cons, List.flatMap_nil])))) | ((with_reducible apply i_Vq); (focus rfl); (focus rfl)) | ((with_reducible apply i_Vp); (focus rfl); (focus rfl); (focus rfl)) | (with_reducible first | apply i_Gb | apply i_cond)); (focus (simp (disch := (first | omega | (simp only [push_cast]; done) | (simp only [push_cast]; omega) | ((try simp only [push_cast]); (with_reducible first | apply sel_lt | apply sel_ge); (focus decide); (focus (simp only [push_cast]; omega))))) only [push_cast, ↓reduceIte, Nat.reduceEqDiff, Nat.reduceBEq, Nat.reduceAdd, Nat.reduceSub, Int.reduceToNat, *] <;> with_reducible exact rfl)); all_goals try (intro hX; first | (cases hX; done) | ((with_reducible first | have hX0 : true = true := hX | have hX0 : false = false := hX); clear hX0 hX) | ((try simp only [decide_eq_true_eq, decide_eq_false_iff_not, Bool.not_eq_true', Bool.not_eq_false'] at hX); (try have hXb := inB_iff.1 hX)))))); all_goals try (exfalso; omega)
            refine ⟨j + 1, by omega, by dsimp only; omega, ?_, ?_, rfl⟩
            · simp (disch := (first | omega | (simp only [push_cast]; done) | (simp only [push_cast]; omega) | ((try simp only [push_cast]); (with_reducible first | apply sel_lt | apply sel_ge); (focus decide); (focus (simp only [push_cast]; omega))))) only [push_cast, ↓reduceIte, Nat.reduceEqDiff, Nat.reduceBEq, Nat.reduceAdd, Nat.reduceSub, Int.reduceToNat, List.length_append, *]
            · dsimp only
              rw [hs.out]
              simp (disch := (first | omega | (simp only [push_cast]; done) | (simp only [push_cast]; omega) | ((try simp only [push_cast]); (with_reducible first | apply sel_lt | apply sel_ge); (focus decide); (focus (simp only [push_cast]; omega))))) only [push_cast, ↓reduceIte, Nat.reduceEqDiff, Nat.reduceBEq, Nat.reduceAdd, Nat.reduceSub, Int.reduceToNat, List.length_append, *]
          · rw [lvSet_out hin] at hs
            replace hs := Lib.hid hs
            have api1 : inB ((a : Int) + j - 1) 0 w.size = false := Bool.eq_false_iff.2 fun q => by have := inB_iff.1 q; omega
            generalize lvJ w.size a lv oa j = oj at *
            (repeat' (first | (with_reducible first | apply i_seq | apply i_block | apply i_skip | apply i_exit | apply i_ret | apply i_kS | apply i_kSx | apply i_kSr | apply i_kL | apply i_kLx | apply i_kLr | apply i_kB | apply i_kBr | apply i_kBs | apply i_nil) | ((with_reducible apply i_region); (focus (simp only [List.map_cons, List.map_nil] <;> exact rfl))) | ((with_reducible apply i_draw); (focus (simp only [List.map_cons, List.map_nil] <;> exact rfl)); (focus (decide +kernel))) | ((with_reducible apply i_kBo); (focus rfl)) | ((first | ((with_reducible apply i_V); (focus rfl); (focus rfl); (focus rfl)) | ((with_reducible apply i_E); (focus rfl); (focus (first | rfl | (simp only [push_cast, ↓reduceIte, effOk, touch, refsOf, List.flatMap_cons, List.flatMap_nil])))) | ((with_reducible apply i_S); (focus rfl); (focus (first | rfl | (simp only [push_cast, ↓reduceIte, effOk, touch, refsOf, List.flatMap_cons, List.flatMap_nil])))) | ((with_reducible apply i_Vq); (focus rfl); (focus rfl)) | ((with_reducible apply i_Vp); (focus rfl); (focus rfl); (focus rfl)) | (with_reducible first | apply i_Gb | apply i_cond)); (focus (simp (disch := (first | omega | (simp only [push_cast]; done) | (simp only [push_cast]; omega) | ((try simp only [push_cast]); (with_reducible first | apply sel_lt | apply sel_ge); (focus decide); (focus (simp only [push_cast]; omega))))) only [push_cast, ↓reduceIte, Nat.reduceEqDiff, Nat.reduceBEq, Nat.reduceAdd, Nat.reduceSub, Int.reduceToNat, *] <;> with_reducible exact rfl)); all_goals try (intro hX; first | (cases hX; done) | ((with_reducible first | have hX0 : true = true := hX | have hX0 : false = false := hX); clear hX0 hX) | ((try simp only [decide_eq_true_eq, decide_eq_false_iff_not, Bool.not_eq_true', Bool.not_eq_false'] at hX); (try have hXb := inB_iff.1 hX)))))); all_goals try (exfalso; omega)
            refine ⟨j + 1, by omega, by dsimp only; omega, ?_, ?_, rfl⟩
            · simp (disch := (first | omega | (simp only [push_cast]; done) | (simp only [push_cast]; omega) | ((try simp only [push_cast]); (with_reducible first | apply sel_lt | apply sel_ge); (focus decide); (focus (simp only [push_cast]; omega))))) only [push_cast, ↓reduceIte, Nat.reduceEqDiff, Nat.reduceBEq, Nat.reduceAdd, Nat.reduceSub, Int.reduceToNat, List.length_append, *]
            · dsimp only
              rw [hs.out]
              simp (disch := (first | omega | (simp only [push_cast]; done) | (simp only [push_cast]; omega) | ((try simp only [push_cast]); (with_reducible first | apply sel_lt | apply sel_ge); (focus decide); (focus (simp only [push_cast]; omega))))) only [push_cast, ↓reduceIte, Nat.reduceEqDiff, Nat.reduceBEq, Nat.reduceAdd, Nat.reduceSub, Int.reduceToNat, List.length_append, *]
        · obtain rfl : j = lv.length := by omega
          clear hJ
          (repeat' (first | (with_reducible first | apply i_seq | apply i_block | apply i_skip | apply i_exit | apply i_ret | apply i_kS | apply i_kSx | apply i_kSr | apply i_kL | apply i_kLx | apply i_kLr | apply i_kB | apply i_kBr | apply i_kBs | apply i_nil) | ((with_reducible apply i_region); (focus (simp only [List.map_cons, List.map_nil] <;> exact rfl))) | ((with_reducible apply i_draw); (focus (simp only [List.map_cons, List.map_nil] <;> exact rfl)); (focus (decide +kernel))) | ((with_reducible apply i_kBo); (focus rfl)) | ((first | ((with_reducible apply i_V); (focus rfl); (focus rfl); (focus rfl)) | ((with_reducible apply i_E); (focus rfl); (focus (first | rfl | (simp only [push_cast, ↓reduceIte, effOk, touch, refsOf, List.flatMap_cons, List.flatMap_nil])))) | ((with_reducible apply i_S); (focus rfl); (focus (first | rfl | (simp only [push_cast, ↓reduceIte, effOk, touch, refsOf, List.flatMap_cons, List.flatMap_nil])))) | ((with_reducible apply i_Vq); (focus rfl); (focus rfl)) | ((with_reducible apply i_Vp); (focus rfl); (focus rfl); (focus rfl)) | (with_reducible first | apply i_Gb | apply i_cond)); (focus (simp (disch := (first | omega | (simp only [push_cast]; done) | (simp only [push_cast]; omega) | ((try simp only [push_cast]); (with_reducible first | apply sel_lt | apply sel_ge); (focus decide); (focus (simp only [push_cast]; omega))))) only [push_cast, ↓reduceIte, Nat.reduceEqDiff, Nat.reduceBEq, Nat.reduceAdd, Nat.reduceSub, Int.reduceToNat, *] <;> with_reducible exact rfl)); all_goals try (intro hX; first | (cases hX; done) | ((with_reducible first | have hX0 : true = true := hX | have hX0 : false = false := hX); clear hX0 hX) | ((try simp only [decide_eq_true_eq, decide_eq_false_iff_not, Bool.not_eq_true', Bool.not_eq_false'] at hX); (try have hXb := inB_iff.1 hX)))))); all_goals try (exfalso; omega)
          refine ⟨a + 1, by omega, by dsimp only; omega, ?_, ?_, rfl⟩
          · simp (disch := (first | omega | (simp only [push_cast]; done) | (simp only [push_cast]; omega) | ((try simp only [push_cast]); (with_reducible first | apply sel_lt | apply sel_ge); (focus decide); (focus (simp only [push_cast]; omega))))) only [push_cast, ↓reduceIte, Nat.reduceEqDiff, Nat.reduceBEq, Nat.reduceAdd, Nat.reduceSub, Int.reduceToNat, List.length_append, *]
          · dsimp only
            rw [hn.out]
            simp (disch := (first | omega | (simp only [push_cast]; done) | (simp only [push_cast]; omega) | ((try simp only [push_cast]); (with_reducible first | apply sel_lt | apply sel_ge); (focus decide); (focus (simp only [push_cast]; omega))))) only [push_cast, ↓reduceIte, Nat.reduceEqDiff, Nat.reduceBEq, Nat.reduceAdd, Nat.reduceSub, Int.reduceToNat, List.length_append, *]
      · have hn := lvA_miss (sz := w.size) (lv := lv) (o := o) hm
        replace hn := Lib.hid hn
        generalize lvA d w.size lt lv o a = oa at *
        (repeat' (first | (with_reducible first | apply i_seq | apply i_block | apply i_skip | apply i_exit | apply i_ret | apply i_kS | apply i_kSx | apply i_kSr | apply i_kL | apply i_kLx | apply i_kLr | apply i_kB | apply i_kBr | apply i_kBs | apply i_nil) | ((with_reducible apply i_region); (focus (simp only [List.map_cons, List.map_nil] <;> exact rfl))) | ((with_reducible apply i_draw); (focus (simp only [List.map_cons, List.map_nil] <;> exact rfl)); (focus (decide +kernel))) | ((with_reducible apply i_kBo); (focus rfl)) | ((first | ((with_reducible apply i_V); (focus rfl); (focus rfl); (focus rfl)) | ((with_reducible apply i_E); (focus rfl); (focus (first | rfl | (simp only [push_cast, ↓reduceIte, effOk, touch, refsOf, List.flatMap_cons, List.flatMap_nil])))) | ((with_reducible apply i_S); (focus rfl); (focus (first | rfl | (simp only [push_cast, ↓reduceIte, effOk, touch, refsOf, List.flatMap_cons, List.flatMap_nil])))) | ((with_reducible apply i_Vq); (focus rfl); (focus rfl)) | ((with_reducible apply i_Vp); (focus rfl); (focus rfl); (focus rfl)) | (with_reducible first | apply i_Gb | apply i_cond)); (focus (simp (disch := (first | omega | (simp only [push_cast]; done) | (simp only [push_cast]; omega) | ((try simp only [push_cast]); (with_reducible first | apply sel_lt | apply sel_ge); (focus decide); (focus (simp only [push_cast]; omega))))) only [push_cast, ↓reduceIte, Nat.reduceEqDiff, Nat.reduceBEq, Nat.reduceAdd, Nat.reduceSub, Int.reduceToNat, *] <;> with_reducible exact rfl)); all_goals try (intro hX; first | (cases hX; done) | ((with_reducible first | have hX0 : true = true := hX | have hX0 : false = false := hX); clear hX0 hX) | ((try simp only [decide_eq_true_eq, decide_eq_false_iff_not, Bool.not_eq_true', Bool.not_eq_false'] at hX); (try have hXb := inB_iff.1 hX)))))); all_goals try (exfalso; omega)
        refine ⟨a + 1, by omega, by dsimp only; omega, ?_, ?_, rfl⟩
        · simp (disch := (first | omega | (simp only [push_cast]; done) | (simp only [push_cast]; omega) | ((try simp only [push_cast]); (with_reducible first | apply sel_lt | apply sel_ge); (focus decide); (focus (simp only [push_cast]; omega))))) only [push_cast, ↓reduceIte, Nat.reduceEqDiff, Nat.reduceBEq, Nat.reduceAdd, Nat.reduceSub, Int.reduceToNat, List.length_append, *]
        · dsimp only
          rw [hn.out]
          simp (disch := (first | omega | (simp only [push_cast]; done) | (simp only [push_cast]; omega) | ((try simp only [push_cast]); (with_reducible first | apply sel_lt | apply sel_ge); (focus decide); (focus (simp only [push_cast]; omega))))) only [push_cast, ↓reduceIte, Nat.reduceEqDiff, Nat.reduceBEq, Nat.reduceAdd, Nat.reduceSub, Int.reduceToNat, List.length_append, *]
    · have hae : a = w.size + 3 - lt.size := by omega
      clear hA ho hap1 hap2
      rw [← hae] at hnx
      generalize lvA d w.size lt lv o a = oa at *
      clear hae
      (repeat' (first | (with_reducible first | apply i_seq | apply i_block | apply i_skip | apply i_exit | apply i_ret | apply i_kS | apply i_kSx | apply i_kSr | apply i_kL | apply i_kLx | apply i_kLr | apply i_kB | apply i_kBr | apply i_kBs | apply i_nil) | ((with_reducible apply i_region); (focus (simp only [List.map_cons, List.map_nil] <;> exact rfl))) | ((with_reducible apply i_draw); (focus (simp only [List.map_cons, List.map_nil] <;> exact rfl)); (focus (decide +kernel))) | ((with_reducible apply i_kBo); (focus rfl)) | ((first | ((with_reducible apply i_V); (focus rfl); (focus rfl); (focus rfl)) | ((with_reducible apply i_E); (focus rfl); (focus (first | rfl | (simp only [push_cast, ↓reduceIte, effOk, touch, refsOf, List.flatMap_cons, List.flatMap_nil])))) | ((with_reducible apply i_S); (focus rfl); (focus (first | rfl | (simp only [push_cast, ↓reduceIte, effOk, touch, refsOf, List.flatMap_cons, List.flatMap_nil])))) | ((with_reducible apply i_Vq); (focus rfl); (focus rfl)) | ((with_reducible apply i_Vp); (focus rfl); (focus rfl); (focus rfl)) | (with_reducible first | apply i_Gb | apply i_cond)); (focus (simp (disch := (first | omega | (simp only [push_cast]; done) | (simp only [push_cast]; omega) | ((try simp only [push_cast]); (with_reducible first | apply sel_lt | apply sel_ge); (focus decide); (focus (simp only [push_cast]; omega))))) only [push_cast, ↓reduceIte, Nat.reduceEqDiff, Nat.reduceBEq, Nat.reduceAdd, Nat.reduceSub, Int.reduceToNat, *] <;> with_reducible exact rfl)); all_goals try (intro hX; first | (cases hX; done) | ((with_reducible first | have hX0 : true = true := hX | have hX0 : false = false := hX); clear hX0 hX) | ((try simp only [decide_eq_true_eq, decide_eq_false_iff_not, Bool.not_eq_true', Bool.not_eq_false'] at hX); (try have hXb := inB_iff.1 hX)))))); all_goals try (exfalso; omega)
      refine ⟨k + 1, by omega, by dsimp only; omega, ?_, ?_, rfl⟩
      · simp (disch := (first | omega | (simp only [push_cast]; done) | (simp only [push_cast]; omega) | ((try simp only [push_cast]); (with_reducible first | apply sel_lt | apply sel_ge); (focus decide); (focus (simp only [push_cast]; omega))))) only [push_cast, ↓reduceIte, Nat.reduceEqDiff, Nat.reduceBEq, Nat.reduceAdd, Nat.reduceSub, Int.reduceToNat, List.length_append, *]
      · dsimp only
        rw [hnx.out]
        simp (disch := (first | omega | (simp only [push_cast]; done) | (simp only [push_cast]; omega) | ((try simp only [push_cast]); (with_reducible first | apply sel_lt | apply sel_ge); (focus decide); (focus (simp only [push_cast]; omega))))) only [push_cast, ↓reduceIte, Nat.reduceEqDiff, Nat.reduceBEq, Nat.reduceAdd, Nat.reduceSub, Int.reduceToNat, List.length_append, *]
  · obtain rfl : k = pats.length := by omega
    obtain ⟨o1, o2⟩ := hlo pats.length
    clear hlo hpa
    generalize lvP w pats pats.length = o at *
    (repeat' (first | (with_reducible first | apply i_seq | apply i_block | apply i_skip | apply i_exit | apply i_ret | apply i_kS | apply i_kSx | apply i_kSr | apply i_kL | apply i_kLx | apply i_kLr | apply i_kB | apply i_kBr | apply i_kBs | apply i_nil) | ((with_reducible apply i_region); (focus (simp only [List.map_cons, List.map_nil] <;> exact rfl))) | ((with_reducible apply i_draw); (focus (simp only [List.map_cons, List.map_nil] <;> exact rfl)); (focus (decide +kernel))) | ((with_reducible apply i_kBo); (focus rfl)) | ((first | ((with_reducible apply i_V); (focus rfl); (focus rfl); (focus rfl)) | ((with_reducible apply i_E); (focus rfl); (focus (first | rfl | (simp only [push_cast, ↓reduceIte, effOk, touch, refsOf, List.flatMap_cons, List.flatMap_nil])))) | ((with_reducible apply i_S); (focus rfl); (focus (first | rfl | (simp only [push_cast, ↓reduceIte, effOk, touch, refsOf, List.flatMap_cons, List.flatMap_nil])))) | ((with_reducible apply i_Vq); (focus rfl); (focus rfl)) | ((with_reducible apply i_Vp); (focus rfl); (focus rfl); (focus rfl)) | (with_reducible first | apply i_Gb | apply i_cond)); (focus (simp (disch := (first | omega | (simp only [push_cast]; done) | (simp only [push_cast]; omega) | ((try simp only [push_cast]); (with_reducible first | apply sel_lt | apply sel_ge); (focus decide); (focus (simp only [push_cast]; omega))))) only [push_cast, ↓reduceIte, Nat.reduceEqDiff, Nat.reduceBEq, Nat.reduceAdd, Nat.reduceSub, Int.reduceToNat, *] <;> with_reducible exact rfl)); all_goals try (intro hX; first | (cases hX; done) | ((with_reducible first | have hX0 : true = true := hX | have hX0 : false = false := hX); clear hX0 hX) | ((try simp only [decide_eq_true_eq, decide_eq_false_iff_not, Bool.not_eq_true', Bool.not_eq_false'] at hX); (try have hXb := inB_iff.1 hX)))))); all_goals try (exfalso; omega)
    all_goals ((first | apply i_end | apply i_endN); simp (disch := (first | omega | (simp only [push_cast]; done) | (simp only [push_cast]; omega) | ((try simp only [push_cast]); (with_reducible first | apply sel_lt | apply sel_ge); (focus decide); (focus (simp only [push_cast]; omega))))) only [push_cast, ↓reduceIte, Nat.reduceEqDiff, Nat.reduceBEq, Nat.reduceAdd, Nat.reduceSub, Int.reduceToNat, *])
end Go.Proofs.Ytngcedklbinhjaa
namespace Go.Proofs.Ytngcedklbinhjaa
open Go.RowKit
set_option linter.all false
noncomputable def placesV (w : ByteArray) (pats : LS) : List Int := if hypB w pats = true then placesR w pats else []
noncomputable def φPc : Fun := F2 dS dSs fun w pats => if okHy w pats then some (.lst true 1 ((placesV w pats).map fun n => .val (.int .i64 n))) else none
theorem φPc_ap {w : ByteArray} {pats : LS} (h : okHy w pats) : φPc [.val (.string w), .lst false 1 (pats.map fun s => .val (.string s))] = some (.lst true 1 ((placesV w pats).map fun n => .val (.int .i64 n))) := (F2_ap (A := dS) (B := dSs) w pats).trans (if_pos h)
abbrev LI := List Int
theorem plB_no {sz : Nat} {lv : List Int} {k : Nat} (h : ¬ (2 ≤ k ∧ k + 3 ≤ sz ∧ lv[k]?.getD 0 % 2 = 1)) : plB sz lv k = false := decide_eq_false h
theorem plB_yes {sz : Nat} {lv : List Int} {k : Nat} (h : 2 ≤ k ∧ k + 3 ≤ sz ∧ lv[k]?.getD 0 % 2 = 1) : plB sz lv k = true := decide_eq_true h
noncomputable def GPcS : Ctx := ⟨fun f => if f = 88 then some φLv else none, fun f => none⟩
theorem GPcS_ok : SoundΓ Try.prog GPcS := ⟨(fun f φ h => by
  unfold GPcS at h
  dsimp only at h
  split at h
  · rename_i hf; cases h; subst hf; exact ⟨⟨_, Try.func88, rfl, rfl⟩, specLv_ok⟩
  cases h), (fun f φ h => by
  unfold GPcS at h
  dsimp only at h
  cases h)⟩
theorem GPcS_88 (ob : Objs) (ps : List PV) : evCall GPcS ob 88 ps = (ps.mapM (reify false 0 ob fuel)).bind φLv := by
  have h : GPcS.fn 88 = some φLv := by simp [GPcS]
  unfold evCall
  rw [h]
  cases ps.mapM (reify false 0 ob fuel) <;> rfl
set_option maxHeartbeats 16000000 in
theorem specPc_ok : Sound Try.prog 70 φPc := by
  refine sound_pq mixed GPcS_ok Try.func70 rfl 30 rfl [.tmp 4] rfl (by kernel_rfl) fun ps r hr => ?_
  obtain ⟨w, pats, rfl, hq⟩ := F2_some hr
  clear hr
  split at hq
  case isFalse => cases hq
  case isTrue hpre =>
  cases hq
  refine ⟨by simp, ?_⟩
  simp only [dIs, dUs, dSs, dI_e, dU_e, dB_e, dS_e, dFn_e, dL_e, dA2_e, dA3_e, dA4_e, dA5_e]
  have apl := φLv_ap hpre
  unfold levelsV at apl
  unfold placesV
  cases hB : hypB w pats with
  | false =>
    rw [hB, if_neg (by decide)] at apl
    rw [if_neg (by decide)]
    clear hB hpre
    have gpcs_c88 := GPcS_88
    (repeat' (first | (with_reducible first | apply i_seq | apply i_block | apply i_skip | apply i_exit | apply i_ret | apply i_kS | apply i_kSx | apply i_kSr | apply i_kL | apply i_kLx | apply i_kLr | apply i_kB | apply i_kBr | apply i_kBs | apply i_nil) | ((with_reducible apply i_region); (focus (simp only [List.map_cons, List.map_nil] <;> exact rfl))) | ((with_reducible apply i_draw); (focus (simp only [List.map_cons, List.map_nil] <;> exact rfl)); (focus (decide +kernel))) | ((with_reducible apply i_kBo); (focus rfl)) | ((first | ((with_reducible apply i_V); (focus rfl); (focus rfl); (focus rfl)) | ((with_reducible apply i_E); (focus rfl); (focus (first | rfl | (simp only [push_cast, ↓reduceIte, effOk, touch, refsOf, List.flatMap_cons, List.flatMap_nil])))) | ((with_reducible apply i_S); (focus rfl); (focus (first | rfl | (simp only [push_cast, ↓reduceIte, effOk, touch, refsOf, List.flatMap_cons, List.flatMap_nil])))) | ((with_reducible apply i_Vq); (focus rfl); (focus rfl)) | ((with_reducible apply i_Vp); (focus rfl); (focus rfl); (focus rfl)) | (with_reducible first | apply i_Gb | apply i_cond)); (focus (simp (disch := (first | omega | (simp only [push_cast]; done) | (simp only [push_cast]; omega) | ((try simp only [push_cast]); (with_reducible first | apply sel_lt | apply sel_ge); (focus decide); (focus (simp only [push_cast]; omega))))) only [push_cast, ↓reduceIte, Nat.reduceEqDiff, Nat.reduceBEq, Nat.reduceAdd, Nat.reduceSub, Int.reduceToNat, *] <;> with_reducible exact rfl)); all_goals try (intro hX; first | (cases hX; done) | ((with_reducible first | have hX0 : true = true := hX | have hX0 : false = false := hX); clear hX0 hX) | ((try simp only [decide_eq_true_eq, decide_eq_false_iff_not, Bool.not_eq_true', Bool.not_eq_false'] at hX); (try have hXb := inB_iff.1 hX)))))); all_goals try (exfalso; omega)
    refine i_loop (α := Unit) mixed (fun _ => [(5, .row 0 1 0 0), (6, .lst true 1 []), (7, iv 2)]) (fun _ => [(0, 3, 1, [])]) (fun _ => 1) (fun _ => True) (fun _ => 0) (by kernel_rfl) () trivial ?_ ?_ rfl ?_
    · simp (disch := (first | omega | (simp only [push_cast]; done) | (simp only [push_cast]; omega) | ((try simp only [push_cast]); (with_reducible first | apply sel_lt | apply sel_ge); (focus decide); (focus (simp only [push_cast]; omega))))) only [push_cast, ↓reduceIte, Nat.reduceEqDiff, Nat.reduceBEq, Nat.reduceAdd, Nat.reduceSub, Int.reduceToNat, List.length_append, *]
    · simp (disch := (first | omega | (simp only [push_cast]; done) | (simp only [push_cast]; omega) | ((try simp only [push_cast]); (with_reducible first | apply sel_lt | apply sel_ge); (focus decide); (focus (simp only [push_cast]; omega))))) only [push_cast, ↓reduceIte, Nat.reduceEqDiff, Nat.reduceBEq, Nat.reduceAdd, Nat.reduceSub, Int.reduceToNat, List.length_append, *]
    rintro ⟨⟩ -
    (repeat' (first | (with_reducible first | apply i_seq | apply i_block | apply i_skip | apply i_exit | apply i_ret | apply i_kS | apply i_kSx | apply i_kSr | apply i_kL | apply i_kLx | apply i_kLr | apply i_kB | apply i_kBr | apply i_kBs | apply i_nil) | ((with_reducible apply i_region); (focus (simp only [List.map_cons, List.map_nil] <;> exact rfl))) | ((with_reducible apply i_draw); (focus (simp only [List.map_cons, List.map_nil] <;> exact rfl)); (focus (decide +kernel))) | ((with_reducible apply i_kBo); (focus rfl)) | ((first | ((with_reducible apply i_V); (focus rfl); (focus rfl); (focus rfl)) | ((with_reducible apply i_E); (focus rfl); (focus (first | rfl | (simp only [push_cast, ↓reduceIte, effOk, touch, refsOf, List.flatMap_cons, List.flatMap_nil])))) | ((with_reducible apply i_S); (focus rfl); (focus (first | rfl | (simp only [push_cast, ↓reduceIte, effOk, touch, refsOf, List.flatMap_cons, List.flatMap_nil])))) | ((with_reducible apply i_Vq); (focus rfl); (focus rfl)) | ((with_reducible apply i_Vp); (focus rfl); (focus rfl); (focus rfl)) | (with_reducible first | apply i_Gb | apply i_cond)); (focus (simp (disch := (first | omega | (simp only [push_cast]; done) | (simp only [push_cast]; omega) | ((try simp only [push_cast]); (with_reducible first | apply sel_lt | apply sel_ge); (focus decide); (focus (simp only [push_cast]; omega))))) only [push_cast, ↓reduceIte, Nat.reduceEqDiff, Nat.reduceBEq, Nat.reduceAdd, Nat.reduceSub, Int.reduceToNat, *] <;> with_reducible exact rfl)); all_goals try (intro hX; first | (cases hX; done) | ((with_reducible first | have hX0 : true = true := hX | have hX0 : false = false := hX); clear hX0 hX) | ((try simp only [decide_eq_true_eq, decide_eq_false_iff_not, Bool.not_eq_true', Bool.not_eq_false'] at hX); (try have hXb := inB_iff.1 hX)))))); all_goals try (exfalso; omega)
    all_goals ((first | apply i_end | apply i_endN); simp (disch := (first | omega | (simp only [push_cast]; done) | (simp only [push_cast]; omega) | ((try simp only [push_cast]); (with_reducible first | apply sel_lt | apply sel_ge); (focus decide); (focus (simp only [push_cast]; omega))))) only [push_cast, ↓reduceIte, Nat.reduceEqDiff, Nat.reduceBEq, Nat.reduceAdd, Nat.reduceSub, Int.reduceToNat, *])
  | true =>
    rw [hB, if_pos rfl] at apl
    rw [if_pos rfl]
    obtain ⟨-, hw1, hw2⟩ := wordB_letters (hypB_iff.1 hB).1
    obtain ⟨l1, l2⟩ := lvP_ok w pats pats.length
    unfold placesR
    have he : levelsR w pats = lvP w pats pats.length := rfl
    rw [he] at apl ⊢
    generalize lvP w pats pats.length = lv at *
    clear hB hpre he
    have hP0 := @plK_low w.size lv
    have hPl := plK_len w.size lv
    have hPh : ∀ k, w.size < k + 3 → k ≤ w.size + 1 → plK w.size lv (w.size + 1) = plK w.size lv k := fun k h1 h2 => by
      have := plK_high (lv := lv) h1 (w.size + 1 - k)
      rwa [show k + (w.size + 1 - k) = w.size + 1 by omega] at this
    have hPs : w.size < 5 → plK w.size lv (w.size + 1) = plK w.size lv 2 := fun h => by rw [plK_low2 h, hP0]
    replace hP0 := Lib.hid hP0
    have gpcs_c88 := GPcS_88
    (repeat' (first | (with_reducible first | apply i_seq | apply i_block | apply i_skip | apply i_exit | apply i_ret | apply i_kS | apply i_kSx | apply i_kSr | apply i_kL | apply i_kLx | apply i_kLr | apply i_kB | apply i_kBr | apply i_kBs | apply i_nil) | ((with_reducible apply i_region); (focus (simp only [List.map_cons, List.map_nil] <;> exact rfl))) | ((with_reducible apply i_draw); (focus (simp only [List.map_cons, List.map_nil] <;> exact rfl)); (focus (decide +kernel))) | ((with_reducible apply i_kBo); (focus rfl)) | ((first | ((with_reducible apply i_V); (focus rfl); (focus rfl); (focus rfl)) | ((with_reducible apply i_E); (focus rfl); (focus (first | rfl | (simp only [push_cast, ↓reduceIte, effOk, touch, refsOf, List.flatMap_cons, List.flatMap_nil])))) | ((with_reducible apply i_S); (focus rfl); (focus (first | rfl | (simp only [push_cast, ↓reduceIte, effOk, touch, refsOf, List.flatMap_cons, List.flatMap_nil])))) | ((with_reducible apply i_Vq); (focus rfl); (focus rfl)) | ((with_reducible apply i_Vp); (focus rfl); (focus rfl); (focus rfl)) | (with_reducible first | apply i_Gb | apply i_cond)); (focus (simp (disch := (first | omega | (simp only [push_cast]; done) | (simp only [push_cast]; omega) | ((try simp only [push_cast]); (with_reducible first | apply sel_lt | apply sel_ge); (focus decide); (focus (simp only [push_cast]; omega))))) only [push_cast, ↓reduceIte, Nat.reduceEqDiff, Nat.reduceBEq, Nat.reduceAdd, Nat.reduceSub, Int.reduceToNat, *] <;> with_reducible exact rfl)); all_goals try (intro hX; first | (cases hX; done) | ((with_reducible first | have hX0 : true = true := hX | have hX0 : false = false := hX); clear hX0 hX) | ((try simp only [decide_eq_true_eq, decide_eq_false_iff_not, Bool.not_eq_true', Bool.not_eq_false'] at hX); (try have hXb := inB_iff.1 hX)))))); all_goals try (exfalso; omega)
    refine i_loop (α := Nat × LI × Nat × Nat) mixed (fun z => [(5, .row z.2.2.1 1 0 z.2.1.length), (6, .lst true 1 (lv.map pvN)), (7, iv z.1)])
      (fun z => [(z.2.2.1, 3, 1, z.2.1.map pvN)]) (fun z => z.2.2.2)
      (fun z => 2 ≤ z.1 ∧ (2 < z.1 → z.1 + 2 ≤ w.size) ∧ z.2.1 = plK w.size lv z.1 ∧ z.2.2.1 < z.2.2.2) (fun z => lv.length - z.1) (by kernel_rfl) (2, [], 0, 1) ⟨by simp, by simp, hP0.out.symm, by simp⟩ ?_ ?_ rfl ?_
    · (simp (disch := (first | omega | (simp only [push_cast]; done) | (simp only [push_cast]; omega) | ((try simp only [push_cast]); (with_reducible first | apply sel_lt | apply sel_ge); (focus decide); (focus (simp only [push_cast]; omega))))) only [push_cast, ↓reduceIte, Nat.reduceEqDiff, Nat.reduceBEq, Nat.reduceAdd, Nat.reduceSub, Int.reduceToNat, List.length_append, *]; try exact congrArg (fun z => PV.val (Value.int IntKind.i64 z)) (by omega))
    · simp (disch := (first | omega | (simp only [push_cast]; done) | (simp only [push_cast]; omega) | ((try simp only [push_cast]); (with_reducible first | apply sel_lt | apply sel_ge); (focus decide); (focus (simp only [push_cast]; omega))))) only [push_cast, ↓reduceIte, Nat.reduceEqDiff, Nat.reduceBEq, Nat.reduceAdd, Nat.reduceSub, Int.reduceToNat, List.length_append, *]
    rintro ⟨k, out, x, y⟩ ⟨hk, hk2, hI, hxy⟩
    dsimp only at hk hk2 hI hxy
    have hol : out.length ≤ 22 := by
      rw [hI]
      by_cases h2 : 2 < k
      · have := hPl k; have := hk2 h2; omega
      · have := hPl k; omega
    clear hPl hP0
    by_cases h0 : k + 3 < lv.length
    · have hlk := l2 k
      by_cases c3 : lv[k]?.getD 0 % 2 = 1
      · have hI2 : out ++ [(k : Int)] = plK w.size lv (k + 1) := by rw [plK_yes (plB_yes ⟨hk, by omega, c3⟩), ← hI]
        replace hI2 := Lib.hid hI2
        clear hI l2 hPh hPs
        (repeat' (first | (with_reducible first | apply i_seq | apply i_block | apply i_skip | apply i_exit | apply i_ret | apply i_kS | apply i_kSx | apply i_kSr | apply i_kL | apply i_kLx | apply i_kLr | apply i_kB | apply i_kBr | apply i_kBs | apply i_nil) | ((with_reducible apply i_region); (focus (simp only [List.map_cons, List.map_nil] <;> exact rfl))) | ((with_reducible apply i_draw); (focus (simp only [List.map_cons, List.map_nil] <;> exact rfl)); (focus (decide +kernel))) | ((with_reducible apply i_kBo); (focus rfl)) | ((first | ((with_reducible apply i_V); (focus rfl); (focus rfl); (focus rfl)) | ((with_reducible apply i_E); (focus rfl); (focus (first | rfl | (simp only [push_cast, ↓reduceIte, effOk, touch, refsOf, List.flatMap_cons, List.flatMap_nil])))) | ((with_reducible apply i_S); (focus rfl); (focus (first | rfl | (simp only [push_cast, ↓reduceIte, effOk, touch, refsOf, List.flatMap_cons, List.flatMap_nil])))) | ((with_reducible apply i_Vq); (focus rfl); (focus rfl)) | ((with_reducible apply i_Vp); (focus rfl); (focus rfl); (focus rfl)) | (with_reducible first | apply i_Gb | apply i_cond)); (focus (simp (disch := (first | omega | (simp only [push_cast]; done) | (simp only [push_cast]; omega) | ((try simp only [push_cast]); (with_reducible first | apply sel_lt | apply sel_ge); (focus decide); (focus (simp only [push_cast]; omega))))) only [push_cast, ↓reduceIte, Nat.reduceEqDiff, Nat.reduceBEq, Nat.reduceAdd, Nat.reduceSub, Int.reduceToNat, *] <;> with_reducible exact rfl)); all_goals try (intro hX; first | (cases hX; done) | ((with_reducible first | have hX0 : true = true := hX | have hX0 : false = false := hX); clear hX0 hX) | ((try simp only [decide_eq_true_eq, decide_eq_false_iff_not, Bool.not_eq_true', Bool.not_eq_false'] at hX); (try have hXb := inB_iff.1 hX)))))); all_goals try (exfalso; omega)
        refine ⟨(k + 1, out ++ [(k : Int)], y + 1, y + 2), ⟨by dsimp only; omega, fun _ => by dsimp only; omega, hI2.out, by dsimp only; omega⟩, by dsimp only; omega, ?_, ?_, rfl⟩
        · simp (disch := (first | omega | (simp only [push_cast]; done) | (simp only [push_cast]; omega) | ((try simp only [push_cast]); (with_reducible first | apply sel_lt | apply sel_ge); (focus decide); (focus (simp only [push_cast]; omega))))) only [push_cast, ↓reduceIte, Nat.reduceEqDiff, Nat.reduceBEq, Nat.reduceAdd, Nat.reduceSub, Int.reduceToNat, List.length_append, *]
        · simp (disch := (first | omega | (simp only [push_cast]; done) | (simp only [push_cast]; omega) | ((try simp only [push_cast]); (with_reducible first | apply sel_lt | apply sel_ge); (focus decide); (focus (simp only [push_cast]; omega))))) only [push_cast, ↓reduceIte, Nat.reduceEqDiff, Nat.reduceBEq, Nat.reduceAdd, Nat.reduceSub, Int.reduceToNat, List.length_append, *]
      · have hI2 : out = plK w.size lv (k + 1) := by rw [plK_no (plB_no fun q => c3 q.2.2), ← hI]
        replace hI2 := Lib.hid hI2
        clear hI l2 hPh hPs
        (repeat' (first | (with_reducible first | apply i_seq | apply i_block | apply i_skip | apply i_exit | apply i_ret | apply i_kS | apply i_kSx | apply i_kSr | apply i_kL | apply i_kLx | apply i_kLr | apply i_kB | apply i_kBr | apply i_kBs | apply i_nil) | ((with_reducible apply i_region); (focus (simp only [List.map_cons, List.map_nil] <;> exact rfl))) | ((with_reducible apply i_draw); (focus (simp only [List.map_cons, List.map_nil] <;> exact rfl)); (focus (decide +kernel))) | ((with_reducible apply i_kBo); (focus rfl)) | ((first | ((with_reducible apply i_V); (focus rfl); (focus rfl); (focus rfl)) | ((with_reducible apply i_E); (focus rfl); (focus (first | rfl | (simp only [push_cast, ↓reduceIte, effOk, touch, refsOf, List.flatMap_cons, List.flatMap_nil])))) | ((with_reducible apply i_S); (focus rfl); (focus (first | rfl | (simp only [push_cast, ↓reduceIte, effOk, touch, refsOf, List.flatMap_cons, List.flatMap_nil])))) | ((with_reducible apply i_Vq); (focus rfl); (focus rfl)) | ((with_reducible apply i_Vp); (focus rfl); (focus rfl); (focus rfl)) | (with_reducible first | apply i_Gb | apply i_cond)); (focus (simp (disch := (first | omega | (simp only [push_cast]; done) | (simp only [push_cast]; omega) | ((try simp only [push_cast]); (with_reducible first | apply sel_lt | apply sel_ge); (focus decide); (focus (simp only [push_cast]; omega))))) only [push_cast, ↓reduceIte, Nat.reduceEqDiff, Nat.reduceBEq, Nat.reduceAdd, Nat.reduceSub, Int.reduceToNat, *] <;> with_reducible exact rfl)); all_goals try (intro hX; first | (cases hX; done) | ((with_reducible first | have hX0 : true = true := hX | have hX0 : false = false := hX); clear hX0 hX) | ((try simp only [decide_eq_true_eq, decide_eq_false_iff_not, Bool.not_eq_true', Bool.not_eq_false'] at hX); (try have hXb := inB_iff.1 hX)))))); all_goals try (exfalso; omega)
        refine ⟨(k + 1, out, x, y), ⟨by dsimp only; omega, fun _ => by dsimp only; omega, hI2.out, hxy⟩, by dsimp only; omega, ?_, ?_, rfl⟩
        · simp (disch := (first | omega | (simp only [push_cast]; done) | (simp only [push_cast]; omega) | ((try simp only [push_cast]); (with_reducible first | apply sel_lt | apply sel_ge); (focus decide); (focus (simp only [push_cast]; omega))))) only [push_cast, ↓reduceIte, Nat.reduceEqDiff, Nat.reduceBEq, Nat.reduceAdd, Nat.reduceSub, Int.reduceToNat, List.length_append, *]
        · simp (disch := (first | omega | (simp only [push_cast]; done) | (simp only [push_cast]; omega) | ((try simp only [push_cast]); (with_reducible first | apply sel_lt | apply sel_ge); (focus decide); (focus (simp only [push_cast]; omega))))) only [push_cast, ↓reduceIte, Nat.reduceEqDiff, Nat.reduceBEq, Nat.reduceAdd, Nat.reduceSub, Int.reduceToNat, List.length_append, *]
    · have hfin : plK w.size lv (w.size + 1) = out := by
        rw [hI]
        by_cases h5 : w.size < 5
        · by_cases h2 : 2 < k
          · have := hk2 h2
            omega
          · obtain rfl : k = 2 := by omega
            exact hPs h5
        · refine hPh k (by omega) ?_
          by_cases h2 : 2 < k
          · have := hk2 h2; omega
          · omega
      rw [hfin]
      clear hI l2 hPh hPs hfin
      (repeat' (first | (with_reducible first | apply i_seq | apply i_block | apply i_skip | apply i_exit | apply i_ret | apply i_kS | apply i_kSx | apply i_kSr | apply i_kL | apply i_kLx | apply i_kLr | apply i_kB | apply i_kBr | apply i_kBs | apply i_nil) | ((with_reducible apply i_region); (focus (simp only [List.map_cons, List.map_nil] <;> exact rfl))) | ((with_reducible apply i_draw); (focus (simp only [List.map_cons, List.map_nil] <;> exact rfl)); (focus (decide +kernel))) | ((with_reducible apply i_kBo); (focus rfl)) | ((first | ((with_reducible apply i_V); (focus rfl); (focus rfl); (focus rfl)) | ((with_reducible apply i_E); (focus rfl); (focus (first | rfl | (simp only [push_cast, ↓reduceIte, effOk, touch, refsOf, List.flatMap_cons, List.flatMap_nil])))) | ((with_reducible apply i_S); (focus rfl); (focus (first | rfl | (simp only [push_cast, ↓reduceIte, effOk, touch, refsOf, List.flatMap_cons, List.flatMap_nil])))) | ((with_reducible apply i_Vq); (focus rfl); (focus rfl)) | ((with_reducible apply i_Vp); (focus rfl); (focus rfl); (focus rfl)) | (with_reducible first | apply i_Gb | apply i_cond)); (focus (simp (disch := (first | omega | (simp only [push_cast]; done) | (simp only [push_cast]; omega) | ((try simp only [push_cast]); (with_reducible first | apply sel_lt | apply sel_ge); (focus decide); (focus (simp only [push_cast]; omega))))) only [push_cast, ↓reduceIte, Nat.reduceEqDiff, Nat.reduceBEq, Nat.reduceAdd, Nat.reduceSub, Int.reduceToNat, *] <;> with_reducible exact rfl)); all_goals try (intro hX; first | (cases hX; done) | ((with_reducible first | have hX0 : true = true := hX | have hX0 : false = false := hX); clear hX0 hX) | ((try simp only [decide_eq_true_eq, decide_eq_false_iff_not, Bool.not_eq_true', Bool.not_eq_false'] at hX); (try have hXb := inB_iff.1 hX)))))); all_goals try (exfalso; omega)
      all_goals ((first | apply i_end | apply i_endN); simp (disch := (first | omega | (simp only [push_cast]; done) | (simp only [push_cast]; omega) | ((try simp only [push_cast]); (with_reducible first | apply sel_lt | apply sel_ge); (focus decide); (focus (simp only [push_cast]; omega))))) only [push_cast, ↓reduceIte, Nat.reduceEqDiff, Nat.reduceBEq, Nat.reduceAdd, Nat.reduceSub, Int.reduceToNat, *])
noncomputable def partsV (w : ByteArray) (pats : LS) : LS := if hypB w pats = true then partsR w pats else []
noncomputable def φPr : Fun := F2 dS dSs fun w pats => if okHy w pats then some (.lst true 1 ((partsV w pats).map fun s => .val (.string s))) else none
theorem φPr_ap {w : ByteArray} {pats : LS} (h : okHy w pats) : φPr [.val (.string w), .lst false 1 (pats.map fun s => .val (.string s))] = some (.lst true 1 ((partsV w pats).map fun s => .val (.string s))) := (F2_ap (A := dS) (B := dSs) w pats).trans (if_pos h)
noncomputable def GPrS : Ctx := ⟨fun f => if f = 69 then some φWord else if f = 59 then some φPats else if f = 70 then some φPc else none, fun f => none⟩
theorem GPrS_ok : SoundΓ Try.prog GPrS := ⟨(fun f φ h => by
  unfold GPrS at h
  dsimp only at h
  split at h
  · rename_i hf; cases h; subst hf; exact ⟨⟨_, Try.func69, rfl, rfl⟩, specWordValid_ok⟩
  split at h
  · rename_i hf; cases h; subst hf; exact ⟨⟨_, Try.func59, rfl, rfl⟩, specPatternsValid_ok⟩
  split at h
  · rename_i hf; cases h; subst hf; exact ⟨⟨_, Try.func70, rfl, rfl⟩, specPc_ok⟩
  cases h), (fun f φ h => by
  unfold GPrS at h
  dsimp only at h
  cases h)⟩
theorem GPrS_69 (ob : Objs) (ps : List PV) : evCall GPrS ob 69 ps = (ps.mapM (reify false 0 ob fuel)).bind φWord := by
  have h : GPrS.fn 69 = some φWord := by simp [GPrS]
  unfold evCall
  rw [h]
  cases ps.mapM (reify false 0 ob fuel) <;> rfl
theorem GPrS_59 (ob : Objs) (ps : List PV) : evCall GPrS ob 59 ps = (ps.mapM (reify false 0 ob fuel)).bind φPats := by
  have h : GPrS.fn 59 = some φPats := by simp [GPrS]
  unfold evCall
  rw [h]
  cases ps.mapM (reify false 0 ob fuel) <;> rfl
theorem GPrS_70 (ob : Objs) (ps : List PV) : evCall GPrS ob 70 ps = (ps.mapM (reify false 0 ob fuel)).bind φPc := by
  have h : GPrS.fn 70 = some φPc := by simp [GPrS]
  unfold evCall
  rw [h]
  cases ps.mapM (reify false 0 ob fuel) <;> rfl
set_option maxHeartbeats 16000000 in
theorem specPr_ok : Sound Try.prog 38 φPr := by
  refine sound_pq mixed GPrS_ok Try.func38 rfl 48 rfl [.tmp 4] rfl (by kernel_rfl) fun ps r hr => ?_
  obtain ⟨w, pats, rfl, hq⟩ := F2_some hr
  clear hr
  split at hq
  case isFalse => cases hq
  case isTrue hpre =>
  cases hq
  refine ⟨by simp, ?_⟩
  simp only [dIs, dUs, dSs, dI_e, dU_e, dB_e, dS_e, dFn_e, dL_e, dA2_e, dA3_e, dA4_e, dA5_e]
  have ap1 := φWord_ap (s := w) (by omega)
  have ap2 := φPats_ap hpre.2
  have apc := φPc_ap hpre
  unfold placesV at apc
  unfold partsV
  cases hw : wordB w with
  | false =>
    have hB : hypB w pats = false := by unfold hypB; rw [hw]; rfl
    rw [hw] at ap1
    rw [hB, if_neg (by decide)]
    clear apc hpre hw hB
    have gprs_c69 := GPrS_69; have gprs_c59 := GPrS_59; have gprs_c70 := GPrS_70
    (repeat' (first | (with_reducible first | apply i_seq | apply i_block | apply i_skip | apply i_exit | apply i_ret | apply i_kS | apply i_kSx | apply i_kSr | apply i_kL | apply i_kLx | apply i_kLr | apply i_kB | apply i_kBr | apply i_kBs | apply i_nil) | ((with_reducible apply i_region); (focus (simp only [List.map_cons, List.map_nil] <;> exact rfl))) | ((with_reducible apply i_draw); (focus (simp only [List.map_cons, List.map_nil] <;> exact rfl)); (focus (decide +kernel))) | ((with_reducible apply i_kBo); (focus rfl)) | ((first | ((with_reducible apply i_V); (focus rfl); (focus rfl); (focus rfl)) | ((with_reducible apply i_E); (focus rfl); (focus (first | rfl | (simp only [push_cast, ↓reduceIte, effOk, touch, refsOf, List.flatMap_cons, List.flatMap_nil])))) | ((with_reducible apply i_S); (focus rfl); (focus (first | rfl | (simp only [push_cast, ↓reduceIte, effOk, touch, refsOf, List.flatMap_cons, List.flatMap_nil])))) | ((with_reducible apply i_Vq); (focus rfl); (focus rfl)) | ((with_reducible apply i_Vp); (focus rfl); (focus rfl); (focus rfl)) | (with_reducible first | apply i_Gb | apply i_cond)); (focus (simp (disch := (first | omega | (simp only [push_cast]; done) | (simp only [push_cast]; omega) | ((try simp only [push_cast]); (with_reducible first | apply sel_lt | apply sel_ge); (focus decide); (focus (simp only [push_cast]; omega))))) only [push_cast, ↓reduceIte, Nat.reduceEqDiff, Nat.reduceBEq, Nat.reduceAdd, Nat.reduceSub, Int.reduceToNat, *] <;> with_reducible exact rfl)); all_goals try (intro hX; first | (cases hX; done) | ((with_reducible first | have hX0 : true = true := hX | have hX0 : false = false := hX); clear hX0 hX) | ((try simp only [decide_eq_true_eq, decide_eq_false_iff_not, Bool.not_eq_true', Bool.not_eq_false'] at hX); (try have hXb := inB_iff.1 hX)))))); all_goals try (exfalso; omega)
    all_goals ((first | apply i_end | apply i_endN); simp (disch := (first | omega | (simp only [push_cast]; done) | (simp only [push_cast]; omega) | ((try simp only [push_cast]); (with_reducible first | apply sel_lt | apply sel_ge); (focus decide); (focus (simp only [push_cast]; omega))))) only [push_cast, ↓reduceIte, Nat.reduceEqDiff, Nat.reduceBEq, Nat.reduceAdd, Nat.reduceSub, Int.reduceToNat, *])
  | true =>
  cases hp : allPats pats with
  | false =>
    have hB : hypB w pats = false := by unfold hypB; rw [hw, hp]; rfl
    rw [hw] at ap1
    rw [hp] at ap2
    rw [hB, if_neg (by decide)]
    clear apc hpre hw hp hB
    have gprs_c69 := GPrS_69; have gprs_c59 := GPrS_59; have gprs_c70 := GPrS_70
    (repeat' (first | (with_reducible first | apply i_seq | apply i_block | apply i_skip | apply i_exit | apply i_ret | apply i_kS | apply i_kSx | apply i_kSr | apply i_kL | apply i_kLx | apply i_kLr | apply i_kB | apply i_kBr | apply i_kBs | apply i_nil) | ((with_reducible apply i_region); (focus (simp only [List.map_cons, List.map_nil] <;> exact rfl))) | ((with_reducible apply i_draw); (focus (simp only [List.map_cons, List.map_nil] <;> exact rfl)); (focus (decide +kernel))) | ((with_reducible apply i_kBo); (focus rfl)) | ((first | ((with_reducible apply i_V); (focus rfl); (focus rfl); (focus rfl)) | ((with_reducible apply i_E); (focus rfl); (focus (first | rfl | (simp only [push_cast, ↓reduceIte, effOk, touch, refsOf, List.flatMap_cons, List.flatMap_nil])))) | ((with_reducible apply i_S); (focus rfl); (focus (first | rfl | (simp only [push_cast, ↓reduceIte, effOk, touch, refsOf, List.flatMap_cons, List.flatMap_nil])))) | ((with_reducible apply i_Vq); (focus rfl); (focus rfl)) | ((with_reducible apply i_Vp); (focus rfl); (focus rfl); (focus rfl)) | (with_reducible first | apply i_Gb | apply i_cond)); (focus (simp (disch := (first | omega | (simp only [push_cast]; done) | (simp only [push_cast]; omega) | ((try simp only [push_cast]); (with_reducible first | apply sel_lt | apply sel_ge); (focus decide); (focus (simp only [push_cast]; omega))))) only [push_cast, ↓reduceIte, Nat.reduceEqDiff, Nat.reduceBEq, Nat.reduceAdd, Nat.reduceSub, Int.reduceToNat, *] <;> with_reducible exact rfl)); all_goals try (intro hX; first | (cases hX; done) | ((with_reducible first | have hX0 : true = true := hX | have hX0 : false = false := hX); clear hX0 hX) | ((try simp only [decide_eq_true_eq, decide_eq_false_iff_not, Bool.not_eq_true', Bool.not_eq_false'] at hX); (try have hXb := inB_iff.1 hX)))))); all_goals try (exfalso; omega)
    all_goals ((first | apply i_end | apply i_endN); simp (disch := (first | omega | (simp only [push_cast]; done) | (simp only [push_cast]; omega) | ((try simp only [push_cast]); (with_reducible first | apply sel_lt | apply sel_ge); (focus decide); (focus (simp only [push_cast]; omega))))) only [push_cast, ↓reduceIte, Nat.reduceEqDiff, Nat.reduceBEq, Nat.reduceAdd, Nat.reduceSub, Int.reduceToNat, *])
  | true =>
    have hB : hypB w pats = true := by unfold hypB; rw [hw, hp]; rfl
    have hok := places_ok (pats := pats) hw
    obtain ⟨-, hw1, hw2⟩ := wordB_letters hw
    rw [hw] at ap1
    rw [hp] at ap2
    rw [hB, if_pos rfl] at apc
    rw [hB, if_pos rfl]
    unfold partsR
    have hfr := frK_rng hok hw1
    generalize placesR w pats = pl at *
    obtain ⟨hl, hat⟩ := hok
    unfold ptR
    have hpl := ptF_len w pl
    clear hB hw hp hpre
    have gprs_c69 := GPrS_69; have gprs_c59 := GPrS_59; have gprs_c70 := GPrS_70
    (repeat' (first | (with_reducible first | apply i_seq | apply i_block | apply i_skip | apply i_exit | apply i_ret | apply i_kS | apply i_kSx | apply i_kSr | apply i_kL | apply i_kLx | apply i_kLr | apply i_kB | apply i_kBr | apply i_kBs | apply i_nil) | ((with_reducible apply i_region); (focus (simp only [List.map_cons, List.map_nil] <;> exact rfl))) | ((with_reducible apply i_draw); (focus (simp only [List.map_cons, List.map_nil] <;> exact rfl)); (focus (decide +kernel))) | ((with_reducible apply i_kBo); (focus rfl)) | ((first | ((with_reducible apply i_V); (focus rfl); (focus rfl); (focus rfl)) | ((with_reducible apply i_E); (focus rfl); (focus (first | rfl | (simp only [push_cast, ↓reduceIte, effOk, touch, refsOf, List.flatMap_cons, List.flatMap_nil])))) | ((with_reducible apply i_S); (focus rfl); (focus (first | rfl | (simp only [push_cast, ↓reduceIte, effOk, touch, refsOf, List.flatMap_cons, List.flatMap_nil])))) | ((with_reducible apply i_Vq); (focus rfl); (focus rfl)) | ((with_reducible apply i_Vp); (focus rfl); (focus rfl); (focus rfl)) | (with_reducible first | apply i_Gb | apply i_cond)); (focus (simp (disch := (first | omega | (simp only [push_cast]; done) | (simp only [push_cast]; omega) | ((try simp only [push_cast]); (with_reducible first | apply sel_lt | apply sel_ge); (focus decide); (focus (simp only [push_cast]; omega))))) only [push_cast, ↓reduceIte, Nat.reduceEqDiff, Nat.reduceBEq, Nat.reduceAdd, Nat.reduceSub, Int.reduceToNat, *] <;> with_reducible exact rfl)); all_goals try (intro hX; first | (cases hX; done) | ((with_reducible first | have hX0 : true = true := hX | have hX0 : false = false := hX); clear hX0 hX) | ((try simp only [decide_eq_true_eq, decide_eq_false_iff_not, Bool.not_eq_true', Bool.not_eq_false'] at hX); (try have hXb := inB_iff.1 hX)))))); all_goals try (exfalso; omega)
    refine i_loop (α := Nat × Nat × Nat) mixed (fun z => [(0, .val (.string w)), (5, .row z.2.1 1 0 (ptF w pl z.1).length), (6, .lst true 1 (pl.map pvN)), (7, iv (frK pl z.1)), (8, iv z.1)])
      (fun z => [(z.2.1, 9, 1, (ptF w pl z.1).map pvS)]) (fun z => z.2.2)
      (fun z => z.1 ≤ pl.length ∧ z.2.1 < z.2.2) (fun z => pl.length - z.1) (by kernel_rfl) (0, 0, 1) ⟨Nat.zero_le _, by simp⟩ ?_ ?_ rfl ?_
    · simp (disch := (first | omega | (simp only [push_cast]; done) | (simp only [push_cast]; omega) | ((try simp only [push_cast]); (with_reducible first | apply sel_lt | apply sel_ge); (focus decide); (focus (simp only [push_cast]; omega))))) only [push_cast, ↓reduceIte, Nat.reduceEqDiff, Nat.reduceBEq, Nat.reduceAdd, Nat.reduceSub, Int.reduceToNat, ptF, frK, List.length_nil, *]
    · simp (disch := (first | omega | (simp only [push_cast]; done) | (simp only [push_cast]; omega) | ((try simp only [push_cast]); (with_reducible first | apply sel_lt | apply sel_ge); (focus decide); (focus (simp only [push_cast]; omega))))) only [push_cast, ↓reduceIte, Nat.reduceEqDiff, Nat.reduceBEq, Nat.reduceAdd, Nat.reduceSub, Int.reduceToNat, ptF, List.map_nil, *]
    rintro ⟨k, x, y⟩ ⟨hk, hxy⟩
    dsimp only at hk hxy
    have hlk := hpl k
    have hfk := hfr k hk
    by_cases h0 : k < pl.length
    · obtain ⟨a1, a2⟩ := hat k h0
      have hn : ptF w pl (k + 1) = ptF w pl k ++ [w.extract (frK pl k).toNat (pl[k]?.getD 0).toNat] := rfl
      have hf := frK_succ pl k
      replace hn := Lib.hid hn
      replace hf := Lib.hid hf
      generalize ptF w pl k = out at *
      generalize frK pl k = fr at *
      clear hat hpl hfr
      (repeat' (first | (with_reducible first | apply i_seq | apply i_block | apply i_skip | apply i_exit | apply i_ret | apply i_kS | apply i_kSx | apply i_kSr | apply i_kL | apply i_kLx | apply i_kLr | apply i_kB | apply i_kBr | apply i_kBs | apply i_nil) | ((with_reducible apply i_region); (focus (simp only [List.map_cons, List.map_nil] <;> exact rfl))) | ((with_reducible apply i_draw); (focus (simp only [List.map_cons, List.map_nil] <;> exact rfl)); (focus (decide +kernel))) | ((with_reducible apply i_kBo); (focus rfl)) | ((first | ((with_reducible apply i_V); (focus rfl); (focus rfl); (focus rfl)) | ((with_reducible apply i_E); (focus rfl); (focus (first | rfl | (simp only [push_cast, ↓reduceIte, effOk, touch, refsOf, List.flatMap_cons, List.flatMap_nil])))) | ((with_reducible apply i_S); (focus rfl); (focus (first | rfl | (simp only [push_cast, ↓reduceIte, effOk, touch, refsOf, List.flatMap_cons, List.flatMap_nil])))) | ((with_reducible apply i_Vq); (focus rfl); (focus rfl)) | ((with_reducible apply i_Vp); (focus rfl); (focus rfl); (focus rfl)) | (with_reducible first | apply i_Gb | apply i_cond)); (focus (simp (disch := (first | omega | (simp only [push_cast]; done) | (simp only [push_cast]; omega) | ((try simp only [push_cast]); (with_reducible first | apply sel_lt | apply sel_ge); (focus decide); (focus (simp only [push_cast]; omega))))) only [push_cast, ↓reduceIte, Nat.reduceEqDiff, Nat.reduceBEq, Nat.reduceAdd, Nat.reduceSub, Int.reduceToNat, *] <;> with_reducible exact rfl)); all_goals try (intro hX; first | (cases hX; done) | ((with_reducible first | have hX0 : true = true := hX | have hX0 : false = false := hX); clear hX0 hX) | ((try simp only [decide_eq_true_eq, decide_eq_false_iff_not, Bool.not_eq_true', Bool.not_eq_false'] at hX); (try have hXb := inB_iff.1 hX)))))); all_goals try (exfalso; omega)
      refine ⟨(k + 1, y + 1, y + 2), ⟨by dsimp only; omega, by dsimp only; omega⟩, by dsimp only; omega, ?_, ?_, rfl⟩
      · dsimp only
        rw [hn.out, hf.out]
        simp (disch := (first | omega | (simp only [push_cast]; done) | (simp only [push_cast]; omega) | ((try simp only [push_cast]); (with_reducible first | apply sel_lt | apply sel_ge); (focus decide); (focus (simp only [push_cast]; omega))))) only [push_cast, ↓reduceIte, Nat.reduceEqDiff, Nat.reduceBEq, Nat.reduceAdd, Nat.reduceSub, Int.reduceToNat, List.length_append, *]
      · dsimp only
        rw [hn.out]
        simp (disch := (first | omega | (simp only [push_cast]; done) | (simp only [push_cast]; omega) | ((try simp only [push_cast]); (with_reducible first | apply sel_lt | apply sel_ge); (focus decide); (focus (simp only [push_cast]; omega))))) only [push_cast, ↓reduceIte, Nat.reduceEqDiff, Nat.reduceBEq, Nat.reduceAdd, Nat.reduceSub, Int.reduceToNat, List.length_append, *]
    · obtain rfl : k = pl.length := by omega
      generalize ptF w pl pl.length = out at *
      generalize frK pl pl.length = fr at *
      clear hat hpl hfr
      (repeat' (first | (with_reducible first | apply i_seq | apply i_block | apply i_skip | apply i_exit | apply i_ret | apply i_kS | apply i_kSx | apply i_kSr | apply i_kL | apply i_kLx | apply i_kLr | apply i_kB | apply i_kBr | apply i_kBs | apply i_nil) | ((with_reducible apply i_region); (focus (simp only [List.map_cons, List.map_nil] <;> exact rfl))) | ((with_reducible apply i_draw); (focus (simp only [List.map_cons, List.map_nil] <;> exact rfl)); (focus (decide +kernel))) | ((with_reducible apply i_kBo); (focus rfl)) | ((first | ((with_reducible apply i_V); (focus rfl); (focus rfl); (focus rfl)) | ((with_reducible apply i_E); (focus rfl); (focus (first | rfl | (simp only [push_cast, ↓reduceIte, effOk, touch, refsOf, List.flatMap_cons, List.flatMap_nil])))) | ((with_reducible apply i_S); (focus rfl); (focus (first | rfl | (simp only [push_cast, ↓reduceIte, effOk, touch, refsOf, List.flatMap_cons, List.flatMap_nil])))) | ((with_reducible apply i_Vq); (focus rfl); (focus rfl)) | ((with_reducible apply i_Vp); (focus rfl); (focus rfl); (focus rfl)) | (with_reducible first | apply i_Gb | apply i_cond)); (focus (simp (disch := (first | omega | (simp only [push_cast]; done) | (simp only [push_cast]; omega) | ((try simp only [push_cast]); (with_reducible first | apply sel_lt | apply sel_ge); (focus decide); (focus (simp only [push_cast]; omega))))) only [push_cast, ↓reduceIte, Nat.reduceEqDiff, Nat.reduceBEq, Nat.reduceAdd, Nat.reduceSub, Int.reduceToNat, *] <;> with_reducible exact rfl)); all_goals try (intro hX; first | (cases hX; done) | ((with_reducible first | have hX0 : true = true := hX | have hX0 : false = false := hX); clear hX0 hX) | ((try simp only [decide_eq_true_eq, decide_eq_false_iff_not, Bool.not_eq_true', Bool.not_eq_false'] at hX); (try have hXb := inB_iff.1 hX)))))); all_goals try (exfalso; omega)
      all_goals ((first | apply i_end | apply i_endN); simp (disch := (first | omega | (simp only [push_cast]; done) | (simp only [push_cast]; omega) | ((try simp only [push_cast]); (with_reducible first | apply sel_lt | apply sel_ge); (focus decide); (focus (simp only [push_cast]; omega))))) only [push_cast, ↓reduceIte, Nat.reduceEqDiff, Nat.reduceBEq, Nat.reduceAdd, Nat.reduceSub, Int.reduceToNat, *])
end Go.Proofs.Ytngcedklbinhjaa
namespace Go.Proofs.Ytngcedklbinhjaa
open Go.RowKit
set_option linter.all false
abbrev It := Int × Int × Int × Int × Int × Int × Bool
def it0 : It := (0, 0, 0, 0, 0, 0, false)
abbrev It.kd (x : It) : Int := x.1
abbrev It.wd (x : It) : Int := x.2.1
abbrev It.st (x : It) : Int := x.2.2.1
abbrev It.sh (x : It) : Int := x.2.2.2.1
abbrev It.od (x : It) : Int := x.2.2.2.2.1
abbrev It.cost (x : It) : Int := x.2.2.2.2.2.1
abbrev It.mark (x : It) : Bool := x.2.2.2.2.2.2
abbrev It.gl (x : It) : I4 := (x.2.1, x.2.2.1, x.2.2.2.1, x.2.2.2.2.1)
def glB (g : I4) : Bool := inB g.1 0 1000 && (inB g.2.1 0 1000 && (inB g.2.2.1 0 g.1 && inB g.2.2.2 0 1))
def rigidB (g : I4) : Bool := decide (g.2.1 = 0 ∧ g.2.2.1 = 0 ∧ g.2.2.2 = 0)
def costB (c : Int) : Bool := inB c 0 10000 || decide (c = -10000)
def itB (x : It) : Bool := glB x.gl && ((decide (x.kd = 1) && (rigidB x.gl && decide (x.cost = 0 ∧ x.mark = false))) || ((decide (x.kd = 2) && decide (x.cost = 0 ∧ x.mark = false)) || (decide (x.kd = 3) && (rigidB x.gl && costB x.cost))))
def itemsB (l : List It) : Bool := decide (l.length ≤ 60) && l.all itB
structure ItOk (x : It) : Prop where
  wd : 0 ≤ x.wd ∧ x.wd ≤ 1000
  st : 0 ≤ x.st ∧ x.st ≤ 1000
  sh : 0 ≤ x.sh ∧ x.sh ≤ 1000
  od : x.od = 0 ∨ x.od = 1
  kd : x.kd = 1 ∨ x.kd = 2 ∨ x.kd = 3
  cost : (0 ≤ x.cost ∧ x.cost ≤ 10000) ∨ x.cost = -10000
  mark : x.mark = true → x.kd = 3
theorem itB_ok {x : It} (h : itB x = true) : ItOk x := by
  obtain ⟨kd, wd, st, sh, od, cost, mark⟩ := x
  simp only [itB, glB, rigidB, costB, It.kd, It.gl, It.cost, It.mark, Bool.and_eq_true, Bool.or_eq_true, inB_iff, decide_eq_true_eq] at h
  obtain ⟨⟨h1, h2, h3, h4⟩, h5⟩ := h
  refine ⟨h1, h2, ⟨h3.1, show sh ≤ 1000 by omega⟩, show od = 0 ∨ od = 1 by omega, show kd = 1 ∨ kd = 2 ∨ kd = 3 by omega, show (0 ≤ cost ∧ cost ≤ 10000) ∨ cost = -10000 by omega, fun hm => ?_⟩
  rcases h5 with h5 | h5 | h5
  · rw [h5.2.2.2] at hm; cases hm
  · rw [h5.2.2] at hm; cases hm
  · exact h5.1
theorem items_len {l : List It} (h : itemsB l = true) : l.length ≤ 60 := by
  unfold itemsB at h
  rw [Bool.and_eq_true] at h
  exact of_decide_eq_true h.1
theorem items_at {l : List It} (h : itemsB l = true) {k : Nat} (hk : k < l.length) : ItOk (l[k]?.getD it0) := by
  unfold itemsB at h
  rw [Bool.and_eq_true, List.all_eq_true] at h
  rw [List.getElem?_eq_getElem hk, Option.getD_some]
  exact itB_ok (h.2 _ (List.getElem_mem hk))
abbrev gI (l : List It) (k : Nat) : It := l[k]?.getD it0
def forced (x : It) : Bool := decide (x.kd = 3 ∧ x.cost = -10000)
def brkQ (l : List It) (n : Nat) : Bool := if (gI l n).kd = 2 then decide (0 < n ∧ (gI l (n - 1)).kd = 1) else decide ((gI l n).kd = 3 ∧ (gI l n).cost < 10000)
def stN (l : List It) : Nat → Nat → Nat
  | 0, n => n
  | f + 1, n => if n < l.length ∧ ¬ (gI l n).kd = 1 ∧ forced (gI l n) = false then stN l f (n + 1) else n
def startN (l : List It) (a : Nat) : Nat := stN l (l.length - a) a
theorem stN_go {l : List It} {a : Nat} (h : a < l.length) (h1 : ¬ (gI l a).kd = 1) (h2 : forced (gI l a) = false) : startN l a = startN l (a + 1) := by
  unfold startN
  rw [show l.length - a = (l.length - (a + 1)) + 1 by omega, stN, if_pos ⟨h, h1, h2⟩]
theorem stN_stop {l : List It} {a : Nat} (h : ¬ (a < l.length ∧ ¬ (gI l a).kd = 1 ∧ forced (gI l a) = false)) : startN l a = a := by
  unfold startN
  cases hf : l.length - a with
  | zero => rfl
  | succ f => rw [stN, if_neg h]
def noFc (l : List It) (a b : Nat) : Bool := (List.range (b - a)).all fun i => !forced (gI l (a + i))
theorem noFc_nil {l : List It} {a b : Nat} (h : b ≤ a) : noFc l a b = true := by
  unfold noFc
  rw [show b - a = 0 by omega]
  rfl
theorem noFc_succ {l : List It} {a b : Nat} (h : a ≤ b) : noFc l a (b + 1) = (noFc l a b && !forced (gI l b)) := by
  unfold noFc
  rw [show b + 1 - a = (b - a) + 1 by omega, List.range_succ, List.all_append]
  simp [show a + (b - a) = b by omega]
theorem noFc_no {l : List It} {a b k : Nat} (h : noFc l a (k + 1) = false) (ha : a ≤ k) (hk : k < b) : noFc l a b = false := by
  unfold noFc at h ⊢
  rw [List.all_eq_false] at h ⊢
  obtain ⟨i, hi, h1⟩ := h
  have := List.mem_range.1 hi
  exact ⟨i, List.mem_range.2 (by omega), h1⟩
def lineQ (l : List It) (a en : Nat) : Bool := decide (a ≤ en ∧ en < l.length) && (brkQ l en && ((decide (a = 0) || brkQ l (a - 1)) && (decide (startN l a ≤ en) && noFc l a en)))
theorem lineQ_iff {l : List It} {a en : Nat} : lineQ l a en = true ↔ (a ≤ en ∧ en < l.length) ∧ brkQ l en = true ∧ (a = 0 ∨ brkQ l (a - 1) = true) ∧ startN l a ≤ en ∧ noFc l a en = true := by
  simp [lineQ]
def idxL (l : List It) (b c : Nat) : List Int := ((List.range (c - b)).filter fun i => !decide ((gI l (b + i)).kd = 3)).map fun i : Nat => ((b + i : Nat) : Int)
theorem idxL_nil {l : List It} {b c : Nat} (h : c ≤ b) : idxL l b c = [] := by
  unfold idxL
  rw [show c - b = 0 by omega]
  rfl
theorem idxL_yes {l : List It} {b c : Nat} (h : b ≤ c) (hk : ¬ (gI l c).kd = 3) : idxL l b (c + 1) = idxL l b c ++ [(c : Int)] := by
  unfold idxL
  rw [show c + 1 - b = (c - b) + 1 by omega, List.range_succ, List.filter_append, List.map_append]
  simp [show b + (c - b) = c by omega, hk]
  omega
theorem idxL_no {l : List It} {b c : Nat} (h : b ≤ c) (hk : (gI l c).kd = 3) : idxL l b (c + 1) = idxL l b c := by
  unfold idxL
  rw [show c + 1 - b = (c - b) + 1 by omega, List.range_succ, List.filter_append, List.map_append]
  simp [show b + (c - b) = c by omega, hk]
theorem idxL_len (l : List It) (b c : Nat) : (idxL l b c).length ≤ c - b := by
  unfold idxL
  rw [List.length_map]
  exact Nat.le_trans (List.length_filter_le _ _) (by simp)
theorem idxL_mem {l : List It} {b c : Nat} : ∀ x ∈ idxL l b c, (b : Int) ≤ x ∧ x < c ∧ ¬ (gI l x.toNat).kd = 3 := fun x hx => by
  obtain ⟨i, hi, rfl⟩ := List.mem_map.1 hx
  obtain ⟨h1, h2⟩ := List.mem_filter.1 hi
  have h3 := List.mem_range.1 h1
  refine ⟨by omega, by omega, ?_⟩
  rw [Int.toNat_natCast]
  simpa using h2
def g40 : I4 := (0, 0, 0, 0)
def add4 (a b : I4) : I4 :=
  let oa := if a.2.1 = 0 then 0 else a.2.2.2
  let ob := if b.2.1 = 0 then 0 else b.2.2.2
  let o := max oa ob
  (a.1 + b.1, (if oa = o then a.2.1 else 0) + (if ob = o then b.2.1 else 0), a.2.2.1 + b.2.2.1, o)
def totR (gs : List I4) : I4 := gs.foldl add4 g40
theorem totR_snoc (gs : List I4) (g : I4) : totR (gs ++ [g]) = add4 (totR gs) g := by simp [totR, List.foldl_append]
structure GOk (g : I4) : Prop where
  wd : 0 ≤ g.1 ∧ g.1 ≤ 1000
  st : 0 ≤ g.2.1 ∧ g.2.1 ≤ 1000
  sh : 0 ≤ g.2.2.1 ∧ g.2.2.1 ≤ 1000
  od : g.2.2.2 = 0 ∨ g.2.2.2 = 1
theorem ItOk.gl {x : It} (h : ItOk x) : GOk x.gl := ⟨h.wd, h.st, h.sh, h.od⟩
theorem list_snoc_ind {α : Type} {p : List α → Prop} (h0 : p []) (h1 : ∀ l x, p l → p (l ++ [x])) : ∀ l, p l := fun l => by
  have key : ∀ n, ∀ l : List α, l.length = n → p l := by
    intro n
    induction n with
    | zero => intro l h; rw [List.eq_nil_of_length_eq_zero h]; exact h0
    | succ n ih =>
      intro l h
      rcases List.eq_nil_or_concat l with h2 | ⟨l0, x, h2⟩
      · subst h2; simp at h
      · rw [List.concat_eq_append] at h2
        subst h2
        rw [List.length_append, List.length_singleton] at h
        exact h1 _ _ (ih l0 (by omega))
  exact key _ l rfl
theorem tot_rng : ∀ gs : List I4, (∀ g ∈ gs, GOk g) → (0 ≤ (totR gs).1 ∧ (totR gs).1 ≤ 1000 * gs.length) ∧ (0 ≤ (totR gs).2.1 ∧ (totR gs).2.1 ≤ 1000 * gs.length) ∧ (0 ≤ (totR gs).2.2.1 ∧ (totR gs).2.2.1 ≤ 1000 * gs.length) ∧ ((totR gs).2.2.2 = 0 ∨ (totR gs).2.2.2 = 1) := by
  refine list_snoc_ind ?_ ?_
  · intro _
    exact ⟨by decide, by decide, by decide, by decide⟩
  · intro gs g ih hg
    obtain ⟨i1, i2, i3, i4⟩ := ih fun x hx => hg x (List.mem_append.2 (.inl hx))
    have gk := hg g (by simp)
    obtain ⟨w, st, sh, od⟩ := g
    obtain ⟨g1, g2, g3, g4⟩ := gk
    dsimp only at g1 g2 g3 g4
    rw [totR_snoc, List.length_append, List.length_singleton]
    generalize totR gs = t at *
    obtain ⟨tw, ts, th, en⟩ := t
    dsimp only at i1 i2 i3 i4
    unfold add4
    dsimp only
    push_cast
    refine ⟨by omega, ?_, by omega, ?_⟩
    · (repeat' split) <;> omega
    · (repeat' split) <;> omega
def badR (need room : Int) : Int := if need = 0 then 0 else if room = 0 ∨ 10 * room < need then 10000 else min 10000 (100 * need * need * need / (room * room * room))
theorem cube_big {n r : Int} (h0 : 0 < r) (h : 5 * r < n) : 10000 ≤ 100 * n * n * n / (r * r * r) := by
  have hr : 0 < r * r * r := Int.mul_pos (Int.mul_pos h0 h0) h0
  rw [Int.le_ediv_iff_mul_le hr]
  have h1 : (5 * r) * (5 * r) ≤ n * n := Int.mul_le_mul (by omega) (by omega) (by omega) (by omega)
  have h2 : (5 * r) * (5 * r) * (5 * r) ≤ n * n * n := Int.mul_le_mul h1 (by omega) (by omega) (Int.mul_nonneg (by omega) (by omega))
  have e1 : (5 * r) * (5 * r) * (5 * r) = 125 * (r * r * r) := by
    rw [show 5 * r * (5 * r) * (5 * r) = (5 * 5 * 5) * (r * r * r) by simp only [Int.mul_assoc, Int.mul_left_comm r 5]]
    rfl
  have e2 : 100 * n * n * n = 100 * (n * n * n) := by simp only [Int.mul_assoc]
  rw [e2]
  omega
theorem badR_five {need room : Int} (hn : 0 ≤ need) (hr : 0 ≤ room) : badR need room = if need = 0 then 0 else if room = 0 ∨ 5 * room < need then 10000 else min 10000 (100 * need * need * need / (room * room * room)) := by
  unfold badR
  split
  · rfl
  · split
    · rename_i h1
      rw [if_pos (by omega)]
    · split
      · have := cube_big (n := need) (r := room) (by omega) (by omega)
        omega
      · rfl
def looksR (s : Bool) (bad : Int) : Int := if bad ≤ 12 then 1 else if s = false then 0 else if bad < 100 then 2 else 3
theorem looksR_rng (s : Bool) (bad : Int) : 0 ≤ looksR s bad ∧ looksR s bad ≤ 3 := by
  unfold looksR
  repeat' split
  all_goals omega
def costR (bad cost : Int) : Int := (10 + bad) * (10 + bad) + (if cost = -10000 then 0 else cost * cost)
theorem costR_rng {bad cost : Int} (h : 0 ≤ bad ∧ bad ≤ 10000) (h2 : (0 ≤ cost ∧ cost ≤ 10000) ∨ cost = -10000) : 0 ≤ costR bad cost ∧ costR bad cost ≤ 300000000 := by
  have h3 : 0 ≤ (10 + bad) * (10 + bad) := Int.mul_nonneg (by omega) (by omega)
  have h4 : (10 + bad) * (10 + bad) ≤ 10010 * 10010 := Int.mul_le_mul (by omega) (by omega) (by omega) (by omega)
  unfold costR
  split
  · omega
  · have h5 : 0 ≤ cost * cost := Int.mul_nonneg (by omega) (by omega)
    have h6 : cost * cost ≤ 10000 * 10000 := Int.mul_le_mul (by omega) (by omega) (by omega) (by omega)
    omega
def gluesL (l : List It) (a en : Nat) : List I4 := ((idxL l (startN l a) en).map fun n : Int => (gI l n.toNat).gl) ++ (if (gI l en).kd = 3 then [(gI l en).gl] else [])
def badG (g : I4) (wd : Int) : Int × Bool := if g.1 ≤ wd then (if g.2.2.2 = 1 then (0, true) else (badR (wd - g.1) g.2.1, true)) else if g.1 - wd ≤ g.2.2.1 then (badR (g.1 - wd) g.2.2.1, false) else (-1, false)
def badL (l : List It) (wd : Int) (a en : Nat) : Int × Bool := badG (totR (gluesL l a en)) wd
def lineR (l : List It) (wd most : Int) (a en : Nat) : Option (Int × Int) :=
  if lineQ l a en = true ∧ 0 ≤ (badL l wd a en).1 ∧ (badL l wd a en).1 ≤ most then some (costR (badL l wd a en).1 (gI l en).cost, looksR (badL l wd a en).2 (badL l wd a en).1) else none
def betwR (l : List It) (a en : Nat) (before looks : Int) : Int :=
  (if 0 < a ∧ (gI l (a - 1)).mark = true ∧ (gI l en).mark = true then 3000 else 0) + (if 0 < a ∧ (1 < before - looks ∨ before - looks < -1) then 3000 else 0)
theorem betwR_rng (l : List It) (a en : Nat) (b k : Int) : 0 ≤ betwR l a en b k ∧ betwR l a en b k ≤ 6000 := by
  unfold betwR
  repeat' split
  all_goals omega
abbrev Ch := Int × Nat × Int
def bestStep (l : List It) (wd most : Int) (a : Nat) (lk : Int) (rest : Nat → Int → Option Ch) (acc : Option Ch) (en : Nat) : Option Ch :=
  match lineR l wd most a en with
  | none => acc
  | some (c, k) => match rest (en + 1) k with
    | none => acc
    | some r => if acc.all (fun x => decide (c + betwR l a en lk k + r.1 < x.1)) = true then some (c + betwR l a en lk k + r.1, en, k) else acc
def bestTo (l : List It) (wd most : Int) (a : Nat) (lk : Int) (rest : Nat → Int → Option Ch) : Nat → Option Ch
  | 0 => none
  | j + 1 => bestStep l wd most a lk rest (bestTo l wd most a lk rest j) (l.length - (j + 1))
def bestF (l : List It) (wd most : Int) : Nat → Nat → Int → Option Ch
  | 0, _, _ => some (0, 0, 0)
  | f + 1, a, lk => if a = l.length then some (0, 0, 0) else bestTo l wd most a lk (bestF l wd most f) (l.length - a)
def bestA (l : List It) (wd most : Int) (a : Nat) (lk : Int) : Option Ch := bestF l wd most (l.length - a) a lk
theorem bestTo_congr {l : List It} {wd most : Int} {a : Nat} {lk : Int} {r r' : Nat → Int → Option Ch} : ∀ j, (∀ b k, l.length - j < b → b ≤ l.length → r b k = r' b k) → j ≤ l.length → bestTo l wd most a lk r j = bestTo l wd most a lk r' j
  | 0, _, _ => rfl
  | j + 1, h, hj => by
    rw [bestTo, bestTo, bestTo_congr j (fun b k h1 h2 => h b k (by omega) h2) (by omega)]
    unfold bestStep
    cases lineR l wd most a (l.length - (j + 1)) with
    | none => rfl
    | some c => dsimp only; rw [h _ _ (by omega) (by omega)]
theorem bestF_fuel {l : List It} {wd most : Int} : ∀ (f f' a : Nat) (lk : Int), l.length - a ≤ f → l.length - a ≤ f' → a ≤ l.length → bestF l wd most f a lk = bestF l wd most f' a lk
  | 0, f', a, lk, h, h', ha => by
    have : a = l.length := by omega
    subst this
    cases f' with
    | zero => rfl
    | succ f' => rw [bestF, bestF, if_pos rfl]
  | f + 1, 0, a, lk, h, h', ha => by
    have : a = l.length := by omega
    subst this
    rw [bestF, bestF, if_pos rfl]
  | f + 1, f' + 1, a, lk, h, h', ha => by
    rw [bestF, bestF]
    split
    · rfl
    · exact bestTo_congr _ (fun b k h1 h2 => bestF_fuel f f' b k (by omega) (by omega) h2) (by omega)
theorem bestA_end (l : List It) (wd most lk : Int) : bestA l wd most l.length lk = some (0, 0, 0) := by
  unfold bestA
  rw [Nat.sub_self]
  rfl
theorem bestA_eq {l : List It} {wd most lk : Int} {a : Nat} (h : a < l.length) : bestA l wd most a lk = bestTo l wd most a lk (bestA l wd most) (l.length - a) := by
  unfold bestA
  obtain ⟨f, hf⟩ : ∃ f, l.length - a = f + 1 := ⟨l.length - a - 1, by omega⟩
  conv => lhs; rw [hf]
  rw [bestF, if_neg (by omega)]
  exact bestTo_congr _ (fun b k h1 h2 => bestF_fuel _ _ _ _ (by omega) (by omega) h2) (by omega)
end Go.Proofs.Ytngcedklbinhjaa
namespace Go.Proofs.Ytngcedklbinhjaa
open Go.RowKit
set_option linter.all false
theorem lineR_some {l : List It} {wd most : Int} {a en : Nat} {x : Int × Int} (h : lineR l wd most a en = some x) : lineQ l a en = true ∧ (0 ≤ (badL l wd a en).1 ∧ (badL l wd a en).1 ≤ most) ∧ x = (costR (badL l wd a en).1 (gI l en).cost, looksR (badL l wd a en).2 (badL l wd a en).1) := by
  unfold lineR at h
  split at h
  · rename_i hc
    cases h
    exact ⟨hc.1, hc.2, rfl⟩
  · cases h
theorem lineR_rng {l : List It} {wd most : Int} {a en : Nat} {x : Int × Int} (hl : itemsB l = true) (hm : most ≤ 10000) (h : lineR l wd most a en = some x) : (a ≤ en ∧ en < l.length) ∧ (0 ≤ x.1 ∧ x.1 ≤ 300000000) ∧ 0 ≤ x.2 ∧ x.2 ≤ 3 := by
  obtain ⟨h1, h2, rfl⟩ := lineR_some h
  obtain ⟨h3, -⟩ := lineQ_iff.1 h1
  exact ⟨h3, costR_rng ⟨h2.1, by omega⟩ (items_at hl h3.2).cost, looksR_rng _ _⟩
theorem bestStep_none {l : List It} {wd most : Int} {a : Nat} {lk : Int} {rest : Nat → Int → Option Ch} {acc : Option Ch} {en : Nat} (h : lineR l wd most a en = none) : bestStep l wd most a lk rest acc en = acc := by
  unfold bestStep
  rw [h]
theorem bestStep_dead {l : List It} {wd most : Int} {a : Nat} {lk : Int} {rest : Nat → Int → Option Ch} {acc : Option Ch} {en : Nat} {c k : Int} (h : lineR l wd most a en = some (c, k)) (h2 : rest (en + 1) k = none) : bestStep l wd most a lk rest acc en = acc := by
  unfold bestStep
  rw [h]
  dsimp only
  rw [h2]
theorem bestStep_some {l : List It} {wd most : Int} {a : Nat} {lk : Int} {rest : Nat → Int → Option Ch} {acc : Option Ch} {en : Nat} {c k : Int} {r : Ch} (h : lineR l wd most a en = some (c, k)) (h2 : rest (en + 1) k = some r) :
    bestStep l wd most a lk rest acc en = if acc.all (fun x => decide (c + betwR l a en lk k + r.1 < x.1)) = true then some (c + betwR l a en lk k + r.1, en, k) else acc := by
  unfold bestStep
  rw [h]
  dsimp only
  rw [h2]
def ChOk (l : List It) (wd most : Int) (a : Nat) (lk : Int) (rest : Nat → Int → Option Ch) (j : Nat) (x : Ch) : Prop :=
  ∃ c0 r, lineR l wd most a x.2.1 = some (c0, x.2.2) ∧ rest (x.2.1 + 1) x.2.2 = some r ∧ x.1 = c0 + betwR l a x.2.1 lk x.2.2 + r.1 ∧ l.length - j ≤ x.2.1 ∧ x.2.1 < l.length
theorem bestTo_some {l : List It} {wd most : Int} {a : Nat} {lk : Int} {rest : Nat → Int → Option Ch} {x : Ch} : ∀ j, 0 < l.length → bestTo l wd most a lk rest j = some x → ChOk l wd most a lk rest j x
  | 0, _, h => by cases h
  | j + 1, hp, h => by
    have ih := @bestTo_some l wd most a lk rest x j hp
    have wk : ChOk l wd most a lk rest j x → ChOk l wd most a lk rest (j + 1) x := fun ⟨c0, r, h1, h2, h3, h4, h5⟩ => ⟨c0, r, h1, h2, h3, by omega, h5⟩
    rw [bestTo] at h
    cases hL : lineR l wd most a (l.length - (j + 1)) with
    | none => rw [bestStep_none hL] at h; exact wk (ih h)
    | some c =>
      obtain ⟨c, k⟩ := c
      cases hr : rest (l.length - (j + 1) + 1) k with
      | none => rw [bestStep_dead hL hr] at h; exact wk (ih h)
      | some r =>
        rw [bestStep_some hL hr] at h
        split at h
        · cases h
          exact ⟨c, r, hL, hr, rfl, Nat.le_refl _, by dsimp only; omega⟩
        · exact wk (ih h)
theorem bestA_some {l : List It} {wd most lk : Int} {a : Nat} {x : Ch} (h : a < l.length) (hx : bestA l wd most a lk = some x) : ChOk l wd most a lk (bestA l wd most) (l.length - a) x := by
  rw [bestA_eq h] at hx
  exact bestTo_some _ (by omega) hx
theorem bestA_rng {l : List It} {wd most : Int} (hl : itemsB l = true) (hm : most ≤ 10000) : ∀ (n a : Nat) (lk : Int) (x : Ch), l.length - a = n → a ≤ l.length → bestA l wd most a lk = some x → 0 ≤ x.1 ∧ x.1 ≤ 306000000 * n
  | 0, a, lk, x, hn, ha, h => by
    have : a = l.length := by omega
    subst this
    rw [bestA_end] at h
    cases h
    exact ⟨by decide, by simp⟩
  | n + 1, a, lk, x, hn, ha, h => by
    obtain ⟨c0, r, h1, h2, h3, h4, h5⟩ := bestA_some (by omega) h
    obtain ⟨g1, g2, g3⟩ := lineR_rng hl hm h1
    have hb := betwR_rng l a x.2.1 lk x.2.2
    have ih := bestA_rng hl hm (l.length - (x.2.1 + 1)) (x.2.1 + 1) _ r rfl (by omega) h2
    dsimp only at g2
    push_cast
    omega
theorem bestTo_rng {l : List It} {wd most : Int} (hl : itemsB l = true) (hm : most ≤ 10000) {a : Nat} {lk : Int} {j : Nat} {x : Ch} (ha : a < l.length) (h : bestTo l wd most a lk (bestA l wd most) j = some x) : (0 ≤ x.1 ∧ x.1 ≤ 20000000000) ∧ x.2.1 < l.length ∧ 0 ≤ x.2.2 ∧ x.2.2 ≤ 3 := by
  obtain ⟨c0, r, h1, h2, h3, h4, h5⟩ := bestTo_some j (by omega) h
  obtain ⟨g1, g2, g3⟩ := lineR_rng hl hm h1
  have hb := betwR_rng l a x.2.1 lk x.2.2
  have ih := bestA_rng hl hm _ _ _ r rfl (by omega) h2
  have := items_len hl
  dsimp only at g2 g3
  exact ⟨by omega, h5, g3⟩
theorem bestA_bound {l : List It} {wd most : Int} (hl : itemsB l = true) (hm : most ≤ 10000) {a : Nat} {lk : Int} {x : Ch} (ha : a ≤ l.length) (h : bestA l wd most a lk = some x) : (0 ≤ x.1 ∧ x.1 ≤ 20000000000) ∧ (a < l.length → (a ≤ x.2.1 ∧ x.2.1 < l.length) ∧ 0 ≤ x.2.2 ∧ x.2.2 ≤ 3) := by
  have h1 := bestA_rng hl hm _ a lk x rfl ha h
  have := items_len hl
  refine ⟨by omega, fun h2 => ?_⟩
  obtain ⟨c0, r, g1, g2, g3, g4, g5⟩ := bestA_some h2 h
  obtain ⟨k1, k2, k3⟩ := lineR_rng hl hm g1
  exact ⟨k1, k3⟩
theorem lineR_nobreak {l : List It} {wd most : Int} {a en : Nat} (h0 : 0 < a) (h : brkQ l (a - 1) = false) : lineR l wd most a en = none := by
  unfold lineR
  rw [if_neg]
  rintro ⟨h1, -⟩
  obtain ⟨-, -, h2, -⟩ := lineQ_iff.1 h1
  rcases h2 with h2 | h2
  · omega
  · rw [h] at h2; cases h2
theorem bestTo_nobreak {l : List It} {wd most : Int} {a : Nat} {lk : Int} {rest : Nat → Int → Option Ch} (h0 : 0 < a) (h : brkQ l (a - 1) = false) : ∀ j, bestTo l wd most a lk rest j = none
  | 0 => rfl
  | j + 1 => by rw [bestTo, bestStep_none (lineR_nobreak h0 h), bestTo_nobreak h0 h j]
theorem bestA_nobreak {l : List It} {wd most lk : Int} {a : Nat} (ha : a < l.length) (h0 : 0 < a) (h : brkQ l (a - 1) = false) : bestA l wd most a lk = none := by
  rw [bestA_eq ha, bestTo_nobreak h0 h]
def bkF (l : List It) (wd most : Int) : Nat → Nat → Int → List Int
  | 0, _, _ => []
  | f + 1, a, lk => if a = l.length then [] else match bestA l wd most a lk with
    | none => []
    | some r => (r.2.1 : Int) :: bkF l wd most f (r.2.1 + 1) r.2.2
def brkList (l : List It) (wd most : Int) : List Int := bkF l wd most (l.length + 1) 0 1
def brkOk (l : List It) (wd most : Int) : Bool := itemsB l && (decide (0 < l.length) && (inB wd 0 1000 && (inB most 0 10000 && (bestA l wd most 0 1).isSome)))
def brkR (l : List It) (wd most : Int) : List Int := if brkOk l wd most = true then brkList l wd most else []
theorem brkOk_iff {l : List It} {wd most : Int} : brkOk l wd most = true ↔ itemsB l = true ∧ 0 < l.length ∧ (0 ≤ wd ∧ wd ≤ 1000) ∧ (0 ≤ most ∧ most ≤ 10000) ∧ (bestA l wd most 0 1).isSome = true := by
  simp [brkOk, inB_iff]
theorem bkF_step {l : List It} {wd most : Int} {f a : Nat} {lk : Int} {r : Ch} (h : ¬ a = l.length) (hr : bestA l wd most a lk = some r) : bkF l wd most (f + 1) a lk = (r.2.1 : Int) :: bkF l wd most f (r.2.1 + 1) r.2.2 := by
  rw [bkF, if_neg h, hr]
theorem bkF_end {l : List It} {wd most : Int} {f : Nat} {lk : Int} : bkF l wd most f l.length lk = [] := by
  cases f with
  | zero => rfl
  | succ f => rw [bkF, if_pos rfl]
theorem bkF_len {l : List It} {wd most : Int} (hl : itemsB l = true) (hm : most ≤ 10000) : ∀ (f a : Nat) (lk : Int), a ≤ l.length → (bkF l wd most f a lk).length ≤ l.length - a
  | 0, a, lk, _ => by simp [bkF]
  | f + 1, a, lk, ha => by
    by_cases h : a = l.length
    · subst h; rw [bkF_end]; simp
    · cases hr : bestA l wd most a lk with
      | none => rw [bkF, if_neg h, hr]; simp
      | some r =>
        obtain ⟨h1, h2⟩ := bestA_bound hl hm ha hr
        have h2 := h2 (by omega)
        rw [bkF_step h hr, List.length_cons]
        have := bkF_len (wd := wd) hl hm f (r.2.1 + 1) r.2.2 (by omega)
        omega
theorem bestA_next {l : List It} {wd most : Int} {a : Nat} {lk : Int} {r : Ch} (ha : a < l.length) (hr : bestA l wd most a lk = some r) : ∃ x c0, bestA l wd most (r.2.1 + 1) r.2.2 = some x ∧ lineR l wd most a r.2.1 = some (c0, r.2.2) := by
  obtain ⟨c0, x, g1, g2, -⟩ := bestA_some ha hr
  exact ⟨x, c0, g2, g1⟩
def nbX (l : List It) (n : Nat) : Nat := ((l.take n).filter fun x => decide (x.kd = 1)).length
theorem nbX_yes {l : List It} {n : Nat} (h : n < l.length) (hk : (gI l n).kd = 1) : nbX l (n + 1) = nbX l n + 1 := by
  unfold nbX
  rw [List.take_succ_eq_append_getElem h, List.filter_append, List.length_append]
  have e : gI l n = l[n] := by unfold gI; rw [List.getElem?_eq_getElem h, Option.getD_some]
  rw [e] at hk
  simp [hk]
theorem nbX_no {l : List It} {n : Nat} (h : n < l.length) (hk : ¬ (gI l n).kd = 1) : nbX l (n + 1) = nbX l n := by
  unfold nbX
  rw [List.take_succ_eq_append_getElem h, List.filter_append, List.length_append]
  have e : gI l n = l[n] := by unfold gI; rw [List.getElem?_eq_getElem h, Option.getD_some]
  rw [e] at hk
  simp [hk]
def lnStep (l : List It) (tx : LS) (s : ByteArray) (n : Nat) : ByteArray :=
  if (gI l n).kd = 1 then s ++ (tx[nbX l n]?.getD .empty) else if (gI l n).kd = 2 ∧ 0 < (gI l n).wd ∧ ¬ s = ⟨#[]⟩ then s ++ ⟨#[32]⟩ else s
instance : DecidableEq ByteArray := inferInstance
def lnT (l : List It) (tx : LS) (a : Nat) : Nat → ByteArray
  | 0 => ⟨#[]⟩
  | j + 1 => lnStep l tx (lnT l tx a j) (a + j)
def lnR (l : List It) (tx : LS) (a en : Nat) : ByteArray := if (gI l en).mark = true then lnT l tx a (en - a) ++ ⟨#[45]⟩ else lnT l tx a (en - a)
end Go.Proofs.Ytngcedklbinhjaa
namespace Go.Proofs.Ytngcedklbinhjaa
open Go.RowKit
set_option linter.all false
def dA7 {α β γ δ ε ζ η : Type} (A : Dec α) (B : Dec β) (C : Dec γ) (D : Dec δ) (E : Dec ε) (F : Dec ζ) (G : Dec η) : Dec (α × β × γ × δ × ε × ζ × η) where
  d := fun | .agg [p, q, r, s, t, u, v] => (A.d p).bind fun a => (B.d q).bind fun b => (C.d r).bind fun c => (D.d s).bind fun d => (E.d t).bind fun e => (F.d u).bind fun f => (G.d v).map fun g => (a, b, c, d, e, f, g) | _ => none
  e := fun x => .agg [A.e x.1, B.e x.2.1, C.e x.2.2.1, D.e x.2.2.2.1, E.e x.2.2.2.2.1, F.e x.2.2.2.2.2.1, G.e x.2.2.2.2.2.2]
  h := fun p a h => by
    split at h
    · simp only [Option.bind_eq_some_iff, Option.map_eq_some_iff] at h
      obtain ⟨x, h1, y, h2, z, h3, t, h4, u, h5, v, h6, w, h7, rfl⟩ := h
      rw [A.h _ _ h1, B.h _ _ h2, C.h _ _ h3, D.h _ _ h4, E.h _ _ h5, F.h _ _ h6, G.h _ _ h7]
    · cases h
  h' := fun a => by simp [A.h', B.h', C.h', D.h', E.h', F.h', G.h']
theorem dA7_e {α β γ δ ε ζ η : Type} (A : Dec α) (B : Dec β) (C : Dec γ) (D : Dec δ) (E : Dec ε) (F : Dec ζ) (G : Dec η) : (dA7 A B C D E F G).e = fun x => .agg [A.e x.1, B.e x.2.1, C.e x.2.2.1, D.e x.2.2.2.1, E.e x.2.2.2.2.1, F.e x.2.2.2.2.2.1, G.e x.2.2.2.2.2.2] := rfl
abbrev dIt : Dec It := dA7 dI dI dI dI dI dI dB
abbrev dIts : Dec (List It) := dL 7 dIt
abbrev pvIt (x : It) : PV := .agg [.val (.int .i64 x.1), .val (.int .i64 x.2.1), .val (.int .i64 x.2.2.1), .val (.int .i64 x.2.2.2.1), .val (.int .i64 x.2.2.2.2.1), .val (.int .i64 x.2.2.2.2.2.1), .val (.bool x.2.2.2.2.2.2)]
section
variable {β : Type} {n sz f i : Nat} {ob : Objs} {k fr : Bool} {l : List It}
theorem get_it {g : It → PV} (h : i < l.length) : ((l[i]?).map g).getD .dead = g ((l[i]?).getD it0) := by simp [h]
theorem omg_it {g : It → β} (h : i < l.length) : Option.map g l[i]? = some (g ((l[i]?).getD it0)) := by simp [h]
theorem reifyS_it : reify false n ob (f + 3) (.lst k sz (l.map pvIt)) = some (.lst false sz (l.map pvIt)) := reifyS_flat fun _ => rfl
theorem reifyT_it : reify true n ob (f + 3) (.lst true sz (l.map pvIt)) = some (.lst true sz (l.map pvIt)) := reifyT_flat fun _ => rfl
theorem rowRe_it {m T : Nat} (hm : m = l.length) : rowRe fr (f + 2) ob sz 0 m (some (T, sz, l.map pvIt)) = some (.lst fr sz (l.map pvIt)) := rowRe_flat (fun _ => rfl) hm
end
attribute [push_cast]
  get_it omg_it reifyS_it reifyT_it rowRe_it
abbrev okIts (l : List It) : Prop := l.length ≤ 1000
noncomputable def φGl4 : Fun := F1 dI4 fun g => some (bv (glB g))
theorem φGl4_ap {a b c d : Int} : φGl4 [.agg [.val (.int .i64 a), .val (.int .i64 b), .val (.int .i64 c), .val (.int .i64 d)]] = some (.val (.bool (glB (a, b, c, d)))) := F1_ap (A := dI4) (a, b, c, d)
noncomputable def GGl4S : Ctx := ⟨fun f => if f = 62 then some φIn else none, fun f => none⟩
theorem GGl4S_ok : SoundΓ Try.prog GGl4S := ⟨(fun f φ h => by
  unfold GGl4S at h
  dsimp only at h
  split at h
  · rename_i hf; cases h; subst hf; exact ⟨⟨_, Try.func62, rfl, rfl⟩, l1In_ok⟩
  cases h), (fun f φ h => by
  unfold GGl4S at h
  dsimp only at h
  cases h)⟩
theorem GGl4S_62 (ob : Objs) (ps : List PV) : evCall GGl4S ob 62 ps = (ps.mapM (reify false 0 ob fuel)).bind φIn := by
  have h : GGl4S.fn 62 = some φIn := by simp [GGl4S]
  unfold evCall
  rw [h]
  cases ps.mapM (reify false 0 ob fuel) <;> rfl
set_option maxHeartbeats 4000000 in
theorem specGl4_ok : Sound Try.prog 103 φGl4 := by
  refine sound_pq mixed GGl4S_ok Try.func103 rfl 23 rfl [.tmp 2] rfl (by kernel_rfl) fun ps r hr => ?_
  obtain ⟨⟨a, b, c, d⟩, rfl, hr⟩ := F1_some hr
  cases hr
  refine ⟨by simp, ?_⟩
  simp only [dIs, dUs, dSs, dI_e, dU_e, dB_e, dS_e, dFn_e, dL_e, dA2_e, dA3_e, dA4_e, dA5_e]
  have ggl4s_c62 := GGl4S_62; have ap := φIn_ap
  repeat' (first | (with_reducible first | apply i_seq | apply i_block | apply i_skip | apply i_exit | apply i_ret | apply i_kS | apply i_kSx | apply i_kSr | apply i_kL | apply i_kLx | apply i_kLr | apply i_kB | apply i_kBr | apply i_kBs | apply i_nil) | ((with_reducible apply i_region); (focus (simp only [List.map_cons, List.map_nil] <;> exact rfl))) | ((with_reducible apply i_draw); (focus (simp only [List.map_cons, List.map_nil] <;> exact rfl)); (focus (decide +kernel))) | ((with_reducible apply i_kBo); (focus rfl)) | ((first | ((with_reducible apply i_V); (focus rfl); (focus rfl); (focus rfl)) | ((with_reducible apply i_E); (focus rfl); (focus (first | rfl | (simp only [push_cast, ↓reduceIte, effOk, touch, refsOf, List.flatMap_cons, List.flatMap_nil])))) | ((with_reducible apply i_S); (focus rfl); (focus (first | rfl | (simp only [push_cast, ↓reduceIte, effOk, touch, refsOf, List.flatMap_cons, List.flatMap_nil])))) | ((with_reducible apply i_Vq); (focus rfl); (focus rfl)) | ((with_reducible apply i_Vp); (focus rfl); (focus rfl); (focus rfl)) | (with_reducible first | apply i_Gb | apply i_cond)); (focus (simp (disch := (first | omega | (simp only [push_cast]; done) | (simp only [push_cast]; omega) | ((try simp only [push_cast]); (with_reducible first | apply sel_lt | apply sel_ge); (focus decide); (focus (simp only [push_cast]; omega))))) only [push_cast, ↓reduceIte, Nat.reduceEqDiff, Nat.reduceBEq, Nat.reduceAdd, Nat.reduceSub, Int.reduceToNat, *] <;> with_reducible exact rfl)); all_goals try (intro hX; first | (cases hX; done) | ((with_reducible first | have hX0 : true = true := hX | have hX0 : false = false := hX); clear hX0 hX) | ((try simp only [decide_eq_true_eq, decide_eq_false_iff_not, Bool.not_eq_true', Bool.not_eq_false'] at hX); (try have hXb := inB_iff.1 hX)))))
  all_goals ((first | apply i_end | apply i_endN); simp (disch := (first | omega | (simp only [push_cast]; done) | (simp only [push_cast]; omega) | ((try simp only [push_cast]); (with_reducible first | apply sel_lt | apply sel_ge); (focus decide); (focus (simp only [push_cast]; omega))))) only [push_cast, ↓reduceIte, Nat.reduceEqDiff, Nat.reduceBEq, Nat.reduceAdd, Nat.reduceSub, Int.reduceToNat, *])
  all_goals simp_all [glB]
noncomputable def φItV : Fun := F1 dIt fun x => some (bv (itB x))
theorem φItV_ap {a b c d e f : Int} {g : Bool} : φItV [.agg [.val (.int .i64 a), .val (.int .i64 b), .val (.int .i64 c), .val (.int .i64 d), .val (.int .i64 e), .val (.int .i64 f), .val (.bool g)]] = some (.val (.bool (itB (a, b, c, d, e, f, g)))) := F1_ap (A := dIt) (a, b, c, d, e, f, g)
noncomputable def GItS : Ctx := ⟨fun f => if f = 103 then some φGl4 else if f = 62 then some φIn else none, fun f => none⟩
theorem GItS_ok : SoundΓ Try.prog GItS := ⟨(fun f φ h => by
  unfold GItS at h
  dsimp only at h
  split at h
  · rename_i hf; cases h; subst hf; exact ⟨⟨_, Try.func103, rfl, rfl⟩, specGl4_ok⟩
  split at h
  · rename_i hf; cases h; subst hf; exact ⟨⟨_, Try.func62, rfl, rfl⟩, l1In_ok⟩
  cases h), (fun f φ h => by
  unfold GItS at h
  dsimp only at h
  cases h)⟩
theorem GItS_103 (ob : Objs) (ps : List PV) : evCall GItS ob 103 ps = (ps.mapM (reify false 0 ob fuel)).bind φGl4 := by
  have h : GItS.fn 103 = some φGl4 := by simp [GItS]
  unfold evCall
  rw [h]
  cases ps.mapM (reify false 0 ob fuel) <;> rfl
theorem GItS_62 (ob : Objs) (ps : List PV) : evCall GItS ob 62 ps = (ps.mapM (reify false 0 ob fuel)).bind φIn := by
  have h : GItS.fn 62 = some φIn := by simp [GItS]
  unfold evCall
  rw [h]
  cases ps.mapM (reify false 0 ob fuel) <;> rfl
set_option maxHeartbeats 16000000 in
theorem specItV_ok : Sound Try.prog 83 φItV := by
  refine sound_pq mixed GItS_ok Try.func83 rfl 62 rfl [.tmp 2] rfl (by kernel_rfl) fun ps r hr => ?_
  obtain ⟨⟨a, b, c, d, e, f, g⟩, rfl, hr⟩ := F1_some hr
  cases hr
  refine ⟨by simp, ?_⟩
  simp only [dIs, dUs, dSs, dI_e, dU_e, dB_e, dS_e, dFn_e, dL_e, dA2_e, dA3_e, dA4_e, dA5_e]
  simp only [dA7_e, dI_e, dB_e]
  have ap1 := @φGl4_ap
  have ap2 := φIn_ap
  have hE : itB (a, b, c, d, e, f, g) = (glB (b, c, d, e) && ((decide (a = 1) && (decide (c = 0 ∧ d = 0 ∧ e = 0) && decide (f = 0 ∧ g = false))) || ((decide (a = 2) && decide (f = 0 ∧ g = false)) || (decide (a = 3) && (decide (c = 0 ∧ d = 0 ∧ e = 0) && (inB f 0 10000 || decide (f = -10000))))))) := rfl
  rw [hE]
  clear hE
  cases hg : glB (b, c, d, e) <;>
  · have gits_c103 := GItS_103; have gits_c62 := GItS_62
    repeat' (first | (with_reducible first | apply i_seq | apply i_block | apply i_skip | apply i_exit | apply i_ret | apply i_kS | apply i_kSx | apply i_kSr | apply i_kL | apply i_kLx | apply i_kLr | apply i_kB | apply i_kBr | apply i_kBs | apply i_nil) | ((with_reducible apply i_region); (focus (simp only [List.map_cons, List.map_nil] <;> exact rfl))) | ((with_reducible apply i_draw); (focus (simp only [List.map_cons, List.map_nil] <;> exact rfl)); (focus (decide +kernel))) | ((with_reducible apply i_kBo); (focus rfl)) | ((first | ((with_reducible apply i_V); (focus rfl); (focus rfl); (focus rfl)) | ((with_reducible apply i_E); (focus rfl); (focus (first | rfl | (simp only [push_cast, ↓reduceIte, effOk, touch, refsOf, List.flatMap_cons, List.flatMap_nil])))) | ((with_reducible apply i_S); (focus rfl); (focus (first | rfl | (simp only [push_cast, ↓reduceIte, effOk, touch, refsOf, List.flatMap_cons, List.flatMap_nil])))) | ((with_reducible apply i_Vq); (focus rfl); (focus rfl)) | ((with_reducible apply i_Vp); (focus rfl); (focus rfl); (focus rfl)) | (with_reducible first | apply i_Gb | apply i_cond)); (focus (simp (disch := (first | omega | (simp only [push_cast]; done) | (simp only [push_cast]; omega) | ((try simp only [push_cast]); (with_reducible first | apply sel_lt | apply sel_ge); (focus decide); (focus (simp only [push_cast]; omega))))) only [push_cast, ↓reduceIte, Nat.reduceEqDiff, Nat.reduceBEq, Nat.reduceAdd, Nat.reduceSub, Int.reduceToNat, *] <;> with_reducible exact rfl)); all_goals try (intro hX; first | (cases hX; done) | ((with_reducible first | have hX0 : true = true := hX | have hX0 : false = false := hX); clear hX0 hX) | ((try simp only [decide_eq_true_eq, decide_eq_false_iff_not, Bool.not_eq_true', Bool.not_eq_false'] at hX); (try have hXb := inB_iff.1 hX)))))
    all_goals ((first | apply i_end | apply i_endN); simp (disch := (first | omega | (simp only [push_cast]; done) | (simp only [push_cast]; omega) | ((try simp only [push_cast]); (with_reducible first | apply sel_lt | apply sel_ge); (focus decide); (focus (simp only [push_cast]; omega))))) only [push_cast, ↓reduceIte, Nat.reduceEqDiff, Nat.reduceBEq, Nat.reduceAdd, Nat.reduceSub, Int.reduceToNat, *])
    all_goals (first | (simp_all; done) | (simp_all; omega))
noncomputable def φIts : Fun := F1 dIts fun l => if okIts l then some (bv (itemsB l)) else none
theorem φIts_ap {l : List It} (h : okIts l) : φIts [.lst false 7 (l.map pvIt)] = some (.val (.bool (itemsB l))) := (F1_ap (A := dIts) l).trans (if_pos h)
noncomputable def GItsS : Ctx := ⟨fun f => if f = 83 then some φItV else none, fun f => none⟩
theorem GItsS_ok : SoundΓ Try.prog GItsS := ⟨(fun f φ h => by
  unfold GItsS at h
  dsimp only at h
  split at h
  · rename_i hf; cases h; subst hf; exact ⟨⟨_, Try.func83, rfl, rfl⟩, specItV_ok⟩
  cases h), (fun f φ h => by
  unfold GItsS at h
  dsimp only at h
  cases h)⟩
theorem GItsS_83 (ob : Objs) (ps : List PV) : evCall GItsS ob 83 ps = (ps.mapM (reify false 0 ob fuel)).bind φItV := by
  have h : GItsS.fn 83 = some φItV := by simp [GItsS]
  unfold evCall
  rw [h]
  cases ps.mapM (reify false 0 ob fuel) <;> rfl
set_option maxHeartbeats 8000000 in
theorem specIts_ok : Sound Try.prog 61 φIts := by
  refine sound_pq mixed GItsS_ok Try.func61 rfl 19 rfl [.tmp 2] rfl (by kernel_rfl) fun ps r hr => ?_
  obtain ⟨l, rfl, hq⟩ := F1_some hr
  clear hr
  split at hq
  case isFalse => cases hq
  case isTrue hpre =>
  cases hq
  refine ⟨by simp, ?_⟩
  simp only [dIs, dUs, dSs, dI_e, dU_e, dB_e, dS_e, dFn_e, dL_e, dA2_e, dA3_e, dA4_e, dA5_e]
  have hlen : l.length ≤ 1000 := hpre
  have ap := @φItV_ap
  clear hpre
  show pq _ _ _ _ _ (initS [.lst false 7 (l.map pvIt)]).tm _ _
  have gitss_c83 := GItsS_83
  (repeat' (first | (with_reducible first | apply i_seq | apply i_block | apply i_skip | apply i_exit | apply i_ret | apply i_kS | apply i_kSx | apply i_kSr | apply i_kL | apply i_kLx | apply i_kLr | apply i_kB | apply i_kBr | apply i_kBs | apply i_nil) | ((with_reducible apply i_region); (focus (simp only [List.map_cons, List.map_nil] <;> exact rfl))) | ((with_reducible apply i_draw); (focus (simp only [List.map_cons, List.map_nil] <;> exact rfl)); (focus (decide +kernel))) | ((with_reducible apply i_kBo); (focus rfl)) | ((first | ((with_reducible apply i_V); (focus rfl); (focus rfl); (focus rfl)) | ((with_reducible apply i_E); (focus rfl); (focus (first | rfl | (simp only [push_cast, ↓reduceIte, effOk, touch, refsOf, List.flatMap_cons, List.flatMap_nil])))) | ((with_reducible apply i_S); (focus rfl); (focus (first | rfl | (simp only [push_cast, ↓reduceIte, effOk, touch, refsOf, List.flatMap_cons, List.flatMap_nil])))) | ((with_reducible apply i_Vq); (focus rfl); (focus rfl)) | ((with_reducible apply i_Vp); (focus rfl); (focus rfl); (focus rfl)) | (with_reducible first | apply i_Gb | apply i_cond)); (focus (simp (disch := (first | omega | (simp only [push_cast]; done) | (simp only [push_cast]; omega) | ((try simp only [push_cast]); (with_reducible first | apply sel_lt | apply sel_ge); (focus decide); (focus (simp only [push_cast]; omega))))) only [push_cast, ↓reduceIte, Nat.reduceEqDiff, Nat.reduceBEq, Nat.reduceAdd, Nat.reduceSub, Int.reduceToNat, *] <;> with_reducible exact rfl)); all_goals try (intro hX; first | (cases hX; done) | ((with_reducible first | have hX0 : true = true := hX | have hX0 : false = false := hX); clear hX0 hX) | ((try simp only [decide_eq_true_eq, decide_eq_false_iff_not, Bool.not_eq_true', Bool.not_eq_false'] at hX); (try have hXb := inB_iff.1 hX)))))); all_goals try (exfalso; omega)
  refine i_loop (α := Nat) mixed (fun k => [(0, .lst false 7 (l.map pvIt)), (3, iv k)]) (fun _ => []) (fun _ => 0)
    (fun k => k ≤ l.length ∧ ∀ j, j < k → itB (l[j]?.getD it0) = true) (fun k => l.length - k) (by kernel_rfl) 0 ⟨Nat.zero_le _, fun j hj => by simp at hj⟩ ?_ trivial rfl ?_
  · simp (disch := (first | omega | (simp only [push_cast]; done) | (simp only [push_cast]; omega) | ((try simp only [push_cast]); (with_reducible first | apply sel_lt | apply sel_ge); (focus decide); (focus (simp only [push_cast]; omega))))) only [push_cast, ↓reduceIte, Nat.reduceEqDiff, Nat.reduceBEq, Nat.reduceAdd, Nat.reduceSub, Int.reduceToNat, List.length_append, *]
  rintro k ⟨hk, hok⟩
  by_cases h0 : k < l.length
  · cases hb : itB (l[k]?.getD it0) with
    | false =>
      have hE : itemsB l = false := by
        unfold itemsB
        rw [all_noK (d := it0) h0 hb, Bool.and_false]
      rw [hE]
      clear hok hE
      generalize hx9 : l[k]?.getD it0 = x at *
      obtain ⟨a, b, c, d, e, f, g⟩ := x
      (repeat' (first | (with_reducible first | apply i_seq | apply i_block | apply i_skip | apply i_exit | apply i_ret | apply i_kS | apply i_kSx | apply i_kSr | apply i_kL | apply i_kLx | apply i_kLr | apply i_kB | apply i_kBr | apply i_kBs | apply i_nil) | ((with_reducible apply i_region); (focus (simp only [List.map_cons, List.map_nil] <;> exact rfl))) | ((with_reducible apply i_draw); (focus (simp only [List.map_cons, List.map_nil] <;> exact rfl)); (focus (decide +kernel))) | ((with_reducible apply i_kBo); (focus rfl)) | ((first | ((with_reducible apply i_V); (focus rfl); (focus rfl); (focus rfl)) | ((with_reducible apply i_E); (focus rfl); (focus (first | rfl | (simp only [push_cast, ↓reduceIte, effOk, touch, refsOf, List.flatMap_cons, List.flatMap_nil])))) | ((with_reducible apply i_S); (focus rfl); (focus (first | rfl | (simp only [push_cast, ↓reduceIte, effOk, touch, refsOf, List.flatMap_cons, List.flatMap_nil])))) | ((with_reducible apply i_Vq); (focus rfl); (focus rfl)) | ((with_reducible apply i_Vp); (focus rfl); (focus rfl); (focus rfl)) | (with_reducible first | apply i_Gb | apply i_cond)); (focus (simp (disch := (first | omega | (simp only [push_cast]; done) | (simp only [push_cast]; omega) | ((try simp only [push_cast]); (with_reducible first | apply sel_lt | apply sel_ge); (focus decide); (focus (simp only [push_cast]; omega))))) only [push_cast, ↓reduceIte, Nat.reduceEqDiff, Nat.reduceBEq, Nat.reduceAdd, Nat.reduceSub, Int.reduceToNat, *] <;> with_reducible exact rfl)); all_goals try (intro hX; first | (cases hX; done) | ((with_reducible first | have hX0 : true = true := hX | have hX0 : false = false := hX); clear hX0 hX) | ((try simp only [decide_eq_true_eq, decide_eq_false_iff_not, Bool.not_eq_true', Bool.not_eq_false'] at hX); (try have hXb := inB_iff.1 hX)))))); all_goals try (exfalso; omega)
      all_goals ((first | apply i_end | apply i_endN); simp (disch := (first | omega | (simp only [push_cast]; done) | (simp only [push_cast]; omega) | ((try simp only [push_cast]); (with_reducible first | apply sel_lt | apply sel_ge); (focus decide); (focus (simp only [push_cast]; omega))))) only [push_cast, ↓reduceIte, Nat.reduceEqDiff, Nat.reduceBEq, Nat.reduceAdd, Nat.reduceSub, Int.reduceToNat, *])
    | true =>
      have hok2 : ∀ j, j < k + 1 → itB (l[j]?.getD it0) = true := fun j hj => by
        by_cases h1 : j < k
        · exact hok j h1
        · obtain rfl : j = k := by omega
          exact hb
      replace hok2 := Lib.hid hok2
      clear hok
      generalize hx9 : l[k]?.getD it0 = x at *
      obtain ⟨a, b, c, d, e, f, g⟩ := x
      (repeat' (first | (with_reducible first | apply i_seq | apply i_block | apply i_skip | apply i_exit | apply i_ret | apply i_kS | apply i_kSx | apply i_kSr | apply i_kL | apply i_kLx | apply i_kLr | apply i_kB | apply i_kBr | apply i_kBs | apply i_nil) | ((with_reducible apply i_region); (focus (simp only [List.map_cons, List.map_nil] <;> exact rfl))) | ((with_reducible apply i_draw); (focus (simp only [List.map_cons, List.map_nil] <;> exact rfl)); (focus (decide +kernel))) | ((with_reducible apply i_kBo); (focus rfl)) | ((first | ((with_reducible apply i_V); (focus rfl); (focus rfl); (focus rfl)) | ((with_reducible apply i_E); (focus rfl); (focus (first | rfl | (simp only [push_cast, ↓reduceIte, effOk, touch, refsOf, List.flatMap_cons, List.flatMap_nil])))) | ((with_reducible apply i_S); (focus rfl); (focus (first | rfl | (simp only [push_cast, ↓reduceIte, effOk, touch, refsOf, List.flatMap_cons, List.flatMap_nil])))) | ((with_reducible apply i_Vq); (focus rfl); (focus rfl)) | ((with_reducible apply i_Vp); (focus rfl); (focus rfl); (focus rfl)) | (with_reducible first | apply i_Gb | apply i_cond)); (focus (simp (disch := (first | omega | (simp only [push_cast]; done) | (simp only [push_cast]; omega) | ((try simp only [push_cast]); (with_reducible first | apply sel_lt | apply sel_ge); (focus decide); (focus (simp only [push_cast]; omega))))) only [push_cast, ↓reduceIte, Nat.reduceEqDiff, Nat.reduceBEq, Nat.reduceAdd, Nat.reduceSub, Int.reduceToNat, *] <;> with_reducible exact rfl)); all_goals try (intro hX; first | (cases hX; done) | ((with_reducible first | have hX0 : true = true := hX | have hX0 : false = false := hX); clear hX0 hX) | ((try simp only [decide_eq_true_eq, decide_eq_false_iff_not, Bool.not_eq_true', Bool.not_eq_false'] at hX); (try have hXb := inB_iff.1 hX)))))); all_goals try (exfalso; omega)
      refine ⟨k + 1, ⟨by omega, hok2.out⟩, by dsimp only; omega, ?_, trivial, rfl⟩
      simp (disch := (first | omega | (simp only [push_cast]; done) | (simp only [push_cast]; omega) | ((try simp only [push_cast]); (with_reducible first | apply sel_lt | apply sel_ge); (focus decide); (focus (simp only [push_cast]; omega))))) only [push_cast, ↓reduceIte, Nat.reduceEqDiff, Nat.reduceBEq, Nat.reduceAdd, Nat.reduceSub, Int.reduceToNat, List.length_append, *]
  · obtain rfl : k = l.length := by omega
    have hE : itemsB l = decide (l.length ≤ 60) := by
      unfold itemsB
      rw [all_yesK (d := it0) fun j hj => hok j hj, Bool.and_true]
    rw [hE]
    clear hok hE
    (repeat' (first | (with_reducible first | apply i_seq | apply i_block | apply i_skip | apply i_exit | apply i_ret | apply i_kS | apply i_kSx | apply i_kSr | apply i_kL | apply i_kLx | apply i_kLr | apply i_kB | apply i_kBr | apply i_kBs | apply i_nil) | ((with_reducible apply i_region); (focus (simp only [List.map_cons, List.map_nil] <;> exact rfl))) | ((with_reducible apply i_draw); (focus (simp only [List.map_cons, List.map_nil] <;> exact rfl)); (focus (decide +kernel))) | ((with_reducible apply i_kBo); (focus rfl)) | ((first | ((with_reducible apply i_V); (focus rfl); (focus rfl); (focus rfl)) | ((with_reducible apply i_E); (focus rfl); (focus (first | rfl | (simp only [push_cast, ↓reduceIte, effOk, touch, refsOf, List.flatMap_cons, List.flatMap_nil])))) | ((with_reducible apply i_S); (focus rfl); (focus (first | rfl | (simp only [push_cast, ↓reduceIte, effOk, touch, refsOf, List.flatMap_cons, List.flatMap_nil])))) | ((with_reducible apply i_Vq); (focus rfl); (focus rfl)) | ((with_reducible apply i_Vp); (focus rfl); (focus rfl); (focus rfl)) | (with_reducible first | apply i_Gb | apply i_cond)); (focus (simp (disch := (first | omega | (simp only [push_cast]; done) | (simp only [push_cast]; omega) | ((try simp only [push_cast]); (with_reducible first | apply sel_lt | apply sel_ge); (focus decide); (focus (simp only [push_cast]; omega))))) only [push_cast, ↓reduceIte, Nat.reduceEqDiff, Nat.reduceBEq, Nat.reduceAdd, Nat.reduceSub, Int.reduceToNat, *] <;> with_reducible exact rfl)); all_goals try (intro hX; first | (cases hX; done) | ((with_reducible first | have hX0 : true = true := hX | have hX0 : false = false := hX); clear hX0 hX) | ((try simp only [decide_eq_true_eq, decide_eq_false_iff_not, Bool.not_eq_true', Bool.not_eq_false'] at hX); (try have hXb := inB_iff.1 hX)))))); all_goals try (exfalso; omega)
    all_goals ((first | apply i_end | apply i_endN); simp (disch := (first | omega | (simp only [push_cast]; done) | (simp only [push_cast]; omega) | ((try simp only [push_cast]); (with_reducible first | apply sel_lt | apply sel_ge); (focus decide); (focus (simp only [push_cast]; omega))))) only [push_cast, ↓reduceIte, Nat.reduceEqDiff, Nat.reduceBEq, Nat.reduceAdd, Nat.reduceSub, Int.reduceToNat, *])
    all_goals (first | (simp; omega) | skip)
end Go.Proofs.Ytngcedklbinhjaa
