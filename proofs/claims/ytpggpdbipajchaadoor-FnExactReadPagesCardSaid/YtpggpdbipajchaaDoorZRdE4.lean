/- What the proof rests on, part 4: contracts of functions. No condition beyond what each states. -/
import Derived.Test.YtpggpdbipajchaaDoorZRdE3
namespace Go.Proofs.YtpggpdbipajchaaDoor
open Go.RowKit
set_option linter.all false
def mixL {α : Type} (m : Nat → α) (l : List α) (j : Nat) : List α := (List.range j).map m ++ l.drop j
section
variable {α : Type} {m : Nat → α} {l : List α} {j : Nat}
theorem mixL_length (h : j ≤ l.length) : (mixL m l j).length = l.length := by simp [mixL]; omega
theorem mixL_zero : mixL m l 0 = l := by simp [mixL]
theorem mixL_full (h : l.length ≤ j) : mixL m l j = (List.range j).map m := by simp [mixL, List.drop_eq_nil_of_le h]
theorem mixL_set (h : j < l.length) : (mixL m l j).set j (m j) = mixL m l (j + 1) := by
  have e : l.drop j = l[j] :: l.drop (j + 1) := List.drop_eq_getElem_cons h
  unfold mixL
  rw [List.set_append_right _ _ (by simp), e, show j - ((List.range j).map m).length = 0 by simp, List.set_cons_zero, List.range_succ]
  simp
end
def marksI (k : Int) (n : Nat) : List Int := (List.range n).map fun j : Nat => k + j
theorem marksI_length (k : Int) (n : Nat) : (marksI k n).length = n := by simp [marksI]
theorem marksI_at (k : Int) {n j : Nat} (h : j < n) : (marksI k n)[j]?.getD 0 = k + j := by simp [marksI, h]
def MarkD {α : Type} (T : Nat) (en : α → PV) (ps : List PV) (cs : List CellIO) : Prop :=
  (∃ (l : List α) (k : Int), ps = [.row 0 1 0 l.length, .val (.int .i64 k)] ∧ cs = [(T, 1, l.map en)] ∧ l.length ≤ 1048576 ∧ 0 < k ∧ k ≤ 1099511627776) ∨ ∃ k : Int, ps = [.val (.slice none 0 0), .val (.int .i64 k)] ∧ cs = []
def Marks {α : Type} (T : Nat) (en : α → PV) (mk : Int → Nat → List α) (Φ : FunIO) : Prop :=
  (∀ (l : List α) (k : Int), l.length ≤ 1048576 → 0 < k → k ≤ 1099511627776 → Φ [.row 0 1 0 l.length, .val (.int .i64 k)] [(T, 1, l.map en)] = some (.val (.int .i64 (k + l.length)), [(T, 1, (mk k l.length).map en)])) ∧
  ∀ k : Int, Φ [.val (.slice none 0 0), .val (.int .i64 k)] [] = some (.val (.int .i64 k), [])
theorem markIntS_ex : ∃ Φ : FunIO, SoundIO Tryd.prog 34 Φ ∧ Marks 3 (fun n : Int => .val (.int .i64 n)) marksI Φ := by
  obtain ⟨Φ, h1, h2⟩ := relIO_any mixed GE_ok Tryd.func34 rfl 19 rfl [.tmp 4] rfl (by kernel_rfl) (MarkD 3 fun n : Int => .val (.int .i64 n))
    (fun ps cs r cs' => (∀ (l : List Int) (k : Int), ps = [.row 0 1 0 l.length, .val (.int .i64 k)] → cs = [(3, 1, l.map fun n => .val (.int .i64 n))] → r = .val (.int .i64 (k + l.length)) ∧ cs' = [(3, 1, (marksI k l.length).map fun n => .val (.int .i64 n))]) ∧ ∀ k : Int, ps = [.val (.slice none 0 0), .val (.int .i64 k)] → r = .val (.int .i64 k) ∧ cs' = [])
    (fun ps cs hd => by rcases hd with ⟨l, k, rfl, _⟩ | ⟨k, rfl, _⟩ <;> simp) (fun ps cs hd => by
      rcases hd with ⟨l, k, rfl, rfl, hl, hk, hk2⟩ | ⟨k, rfl, rfl⟩
      · rw [ls_one]
        repeat' (first | (with_reducible first | apply i_seq | apply i_block | apply i_skip | apply i_exit | apply i_ret | apply i_kS | apply i_kSx | apply i_kSr | apply i_kL | apply i_kLx | apply i_kLr | apply i_kB | apply i_kBr | apply i_kBs | apply i_nil) | ((with_reducible apply i_region); (focus (simp only [List.map_cons, List.map_nil] <;> exact rfl))) | ((with_reducible apply i_draw); (focus (simp only [List.map_cons, List.map_nil] <;> exact rfl)); (focus (decide +kernel))) | ((with_reducible apply i_kBo); (focus rfl)) | ((first | ((with_reducible apply i_V); (focus rfl); (focus rfl); (focus rfl)) | ((with_reducible apply i_E); (focus rfl); (focus (first | rfl | (simp only [push_cast, ↓reduceIte, effOk, touch, refsOf, List.flatMap_cons, List.flatMap_nil])))) | ((with_reducible apply i_S); (focus rfl); (focus (first | rfl | (simp only [push_cast, ↓reduceIte, effOk, touch, refsOf, List.flatMap_cons, List.flatMap_nil])))) | ((with_reducible apply i_Vq); (focus rfl); (focus rfl)) | ((with_reducible apply i_Vp); (focus rfl); (focus rfl); (focus rfl)) | (with_reducible first | apply i_Gb | apply i_cond)); (focus (simp (disch := (first | omega | (simp only [push_cast]; done) | (simp only [push_cast]; omega) | ((try simp only [push_cast]); (with_reducible first | apply sel_lt | apply sel_ge); (focus decide); (focus (simp only [push_cast]; omega))))) only [push_cast, ↓reduceIte, Nat.reduceEqDiff, Nat.reduceBEq, Nat.reduceAdd, Nat.reduceSub, Int.reduceToNat, *] <;> with_reducible exact rfl)); all_goals try (intro hX; first | (cases hX; done) | ((with_reducible first | have hX0 : true = true := hX | have hX0 : false = false := hX); clear hX0 hX) | ((try simp only [decide_eq_true_eq, decide_eq_false_iff_not, Bool.not_eq_true', Bool.not_eq_false'] at hX); (try have hXb := inB_iff.1 hX)))))
        refine i_loop (α := Nat) mixed (fun j => [(0, .row 0 1 0 l.length), (1, iv (k + j)), (5, iv j)]) (fun j => [(0, 3, 1, (mixL (fun j : Nat => k + j) l j).map fun n => .val (.int .i64 n))]) (fun _ => 1)
          (fun j => j ≤ l.length) (fun j => l.length - j) (by kernel_rfl) 0 (Nat.zero_le _) ?_ ?_ rfl ?_
        · simp (disch := (first | omega | (simp only [push_cast]; done) | (simp only [push_cast]; omega) | ((try simp only [push_cast]); (with_reducible first | apply sel_lt | apply sel_ge); (focus decide); (focus (simp only [push_cast]; omega))))) only [push_cast, ↓reduceIte, Nat.reduceEqDiff, Nat.reduceBEq, Nat.reduceAdd, Nat.reduceSub, Int.reduceToNat, Int.add_zero]
        · simp (disch := (first | omega | (simp only [push_cast]; done) | (simp only [push_cast]; omega) | ((try simp only [push_cast]); (with_reducible first | apply sel_lt | apply sel_ge); (focus decide); (focus (simp only [push_cast]; omega))))) only [push_cast, ↓reduceIte, Nat.reduceEqDiff, Nat.reduceBEq, Nat.reduceAdd, Nat.reduceSub, Int.reduceToNat, mixL_zero]
        intro j hj
        have hm : (mixL (fun j : Nat => k + j) l j).length = l.length := mixL_length hj
        by_cases h : j < l.length
        · (repeat' (first | (with_reducible first | apply i_seq | apply i_block | apply i_skip | apply i_exit | apply i_ret | apply i_kS | apply i_kSx | apply i_kSr | apply i_kL | apply i_kLx | apply i_kLr | apply i_kB | apply i_kBr | apply i_kBs | apply i_nil) | ((with_reducible apply i_region); (focus (simp only [List.map_cons, List.map_nil] <;> exact rfl))) | ((with_reducible apply i_draw); (focus (simp only [List.map_cons, List.map_nil] <;> exact rfl)); (focus (decide +kernel))) | ((with_reducible apply i_kBo); (focus rfl)) | ((first | ((with_reducible apply i_V); (focus rfl); (focus rfl); (focus rfl)) | ((with_reducible apply i_E); (focus rfl); (focus (first | rfl | (simp only [push_cast, ↓reduceIte, effOk, touch, refsOf, List.flatMap_cons, List.flatMap_nil])))) | ((with_reducible apply i_S); (focus rfl); (focus (first | rfl | (simp only [push_cast, ↓reduceIte, effOk, touch, refsOf, List.flatMap_cons, List.flatMap_nil])))) | ((with_reducible apply i_Vq); (focus rfl); (focus rfl)) | ((with_reducible apply i_Vp); (focus rfl); (focus rfl); (focus rfl)) | (with_reducible first | apply i_Gb | apply i_cond)); (focus (simp (disch := (first | omega | (simp only [push_cast]; done) | (simp only [push_cast]; omega) | ((try simp only [push_cast]); (with_reducible first | apply sel_lt | apply sel_ge); (focus decide); (focus (simp only [push_cast]; omega))))) only [push_cast, ↓reduceIte, Nat.reduceEqDiff, Nat.reduceBEq, Nat.reduceAdd, Nat.reduceSub, Int.reduceToNat, *] <;> with_reducible exact rfl)); all_goals try (intro hX; first | (cases hX; done) | ((with_reducible first | have hX0 : true = true := hX | have hX0 : false = false := hX); clear hX0 hX) | ((try simp only [decide_eq_true_eq, decide_eq_false_iff_not, Bool.not_eq_true', Bool.not_eq_false'] at hX); (try have hXb := inB_iff.1 hX)))))); all_goals try (exfalso; omega)
          refine ⟨j + 1, by omega, by dsimp only; omega, ?_, ?_, rfl⟩
          · simp (disch := (first | omega | (simp only [push_cast]; done) | (simp only [push_cast]; omega) | ((try simp only [push_cast]); (with_reducible first | apply sel_lt | apply sel_ge); (focus decide); (focus (simp only [push_cast]; omega))))) only [push_cast, ↓reduceIte, Nat.reduceEqDiff, Nat.reduceBEq, Nat.reduceAdd, Nat.reduceSub, Int.reduceToNat, *]
            simp only [Int.add_assoc, and_self]
          · simp (disch := (first | omega | (simp only [push_cast]; done) | (simp only [push_cast]; omega) | ((try simp only [push_cast]); (with_reducible first | apply sel_lt | apply sel_ge); (focus decide); (focus (simp only [push_cast]; omega))))) only [push_cast, ↓reduceIte, Nat.reduceEqDiff, Nat.reduceBEq, Nat.reduceAdd, Nat.reduceSub, Int.reduceToNat, *]
            rw [← mixL_set h]
        · (repeat' (first | (with_reducible first | apply i_seq | apply i_block | apply i_skip | apply i_exit | apply i_ret | apply i_kS | apply i_kSx | apply i_kSr | apply i_kL | apply i_kLx | apply i_kLr | apply i_kB | apply i_kBr | apply i_kBs | apply i_nil) | ((with_reducible apply i_region); (focus (simp only [List.map_cons, List.map_nil] <;> exact rfl))) | ((with_reducible apply i_draw); (focus (simp only [List.map_cons, List.map_nil] <;> exact rfl)); (focus (decide +kernel))) | ((with_reducible apply i_kBo); (focus rfl)) | ((first | ((with_reducible apply i_V); (focus rfl); (focus rfl); (focus rfl)) | ((with_reducible apply i_E); (focus rfl); (focus (first | rfl | (simp only [push_cast, ↓reduceIte, effOk, touch, refsOf, List.flatMap_cons, List.flatMap_nil])))) | ((with_reducible apply i_S); (focus rfl); (focus (first | rfl | (simp only [push_cast, ↓reduceIte, effOk, touch, refsOf, List.flatMap_cons, List.flatMap_nil])))) | ((with_reducible apply i_Vq); (focus rfl); (focus rfl)) | ((with_reducible apply i_Vp); (focus rfl); (focus rfl); (focus rfl)) | (with_reducible first | apply i_Gb | apply i_cond)); (focus (simp (disch := (first | omega | (simp only [push_cast]; done) | (simp only [push_cast]; omega) | ((try simp only [push_cast]); (with_reducible first | apply sel_lt | apply sel_ge); (focus decide); (focus (simp only [push_cast]; omega))))) only [push_cast, ↓reduceIte, Nat.reduceEqDiff, Nat.reduceBEq, Nat.reduceAdd, Nat.reduceSub, Int.reduceToNat, *] <;> with_reducible exact rfl)); all_goals try (intro hX; first | (cases hX; done) | ((with_reducible first | have hX0 : true = true := hX | have hX0 : false = false := hX); clear hX0 hX) | ((try simp only [decide_eq_true_eq, decide_eq_false_iff_not, Bool.not_eq_true', Bool.not_eq_false'] at hX); (try have hXb := inB_iff.1 hX)))))); all_goals try (exfalso; omega)
          refine i_any1 (r := .val (.int .i64 (k + j))) (c' := (3, 1, (mixL (fun j : Nat => k + j) l j).map fun n => .val (.int .i64 n))) (by first | exact .inl rfl | exact .inr rfl) (by (simp (disch := (first | omega | (simp only [push_cast]; done) | (simp only [push_cast]; omega) | ((try simp only [push_cast]); (with_reducible first | apply sel_lt | apply sel_ge); (focus decide); (focus (simp only [push_cast]; omega))))) only [push_cast, ↓reduceIte, Nat.reduceEqDiff, Nat.reduceBEq, Nat.reduceAdd, Nat.reduceSub, Int.reduceToNat, *] <;> with_reducible exact rfl)) (by (simp (disch := (first | omega | (simp only [push_cast]; done) | (simp only [push_cast]; omega) | ((try simp only [push_cast]); (with_reducible first | apply sel_lt | apply sel_ge); (focus decide); (focus (simp only [push_cast]; omega))))) only [push_cast, ↓reduceIte, Nat.reduceEqDiff, Nat.reduceBEq, Nat.reduceAdd, Nat.reduceSub, Int.reduceToNat, *] <;> with_reducible exact rfl)) ⟨fun l1 k1 e1 e2 => ?_, fun k1 e1 => by simp at e1⟩
          obtain ⟨e3, e4⟩ : l.length = l1.length ∧ k = k1 := by simpa using e1
          subst e4
          rw [mixL_full (by omega), ← e3, show j = l.length by omega]
          exact ⟨rfl, rfl⟩
      · rw [ls_nil]
        repeat' (first | (with_reducible first | apply i_seq | apply i_block | apply i_skip | apply i_exit | apply i_ret | apply i_kS | apply i_kSx | apply i_kSr | apply i_kL | apply i_kLx | apply i_kLr | apply i_kB | apply i_kBr | apply i_kBs | apply i_nil) | ((with_reducible apply i_region); (focus (simp only [List.map_cons, List.map_nil] <;> exact rfl))) | ((with_reducible apply i_draw); (focus (simp only [List.map_cons, List.map_nil] <;> exact rfl)); (focus (decide +kernel))) | ((with_reducible apply i_kBo); (focus rfl)) | ((first | ((with_reducible apply i_V); (focus rfl); (focus rfl); (focus rfl)) | ((with_reducible apply i_E); (focus rfl); (focus (first | rfl | (simp only [push_cast, ↓reduceIte, effOk, touch, refsOf, List.flatMap_cons, List.flatMap_nil])))) | ((with_reducible apply i_S); (focus rfl); (focus (first | rfl | (simp only [push_cast, ↓reduceIte, effOk, touch, refsOf, List.flatMap_cons, List.flatMap_nil])))) | ((with_reducible apply i_Vq); (focus rfl); (focus rfl)) | ((with_reducible apply i_Vp); (focus rfl); (focus rfl); (focus rfl)) | (with_reducible first | apply i_Gb | apply i_cond)); (focus (simp (disch := (first | omega | (simp only [push_cast]; done) | (simp only [push_cast]; omega) | ((try simp only [push_cast]); (with_reducible first | apply sel_lt | apply sel_ge); (focus decide); (focus (simp only [push_cast]; omega))))) only [push_cast, ↓reduceIte, Nat.reduceEqDiff, Nat.reduceBEq, Nat.reduceAdd, Nat.reduceSub, Int.reduceToNat, *] <;> with_reducible exact rfl)); all_goals try (intro hX; first | (cases hX; done) | ((with_reducible first | have hX0 : true = true := hX | have hX0 : false = false := hX); clear hX0 hX) | ((try simp only [decide_eq_true_eq, decide_eq_false_iff_not, Bool.not_eq_true', Bool.not_eq_false'] at hX); (try have hXb := inB_iff.1 hX)))))
        refine i_loop (α := Unit) mixed (fun j => [(0, .val (.slice none 0 0)), (1, iv k), (5, iv 0)]) (fun j => []) (fun _ => 0)
          (fun j => True) (fun j => 0) (by kernel_rfl) () trivial ?_ trivial rfl ?_
        · simp (disch := (first | omega | (simp only [push_cast]; done) | (simp only [push_cast]; omega) | ((try simp only [push_cast]); (with_reducible first | apply sel_lt | apply sel_ge); (focus decide); (focus (simp only [push_cast]; omega))))) only [push_cast, ↓reduceIte, Nat.reduceEqDiff, Nat.reduceBEq, Nat.reduceAdd, Nat.reduceSub, Int.reduceToNat, List.length_append, *]
        intro j hj
        (repeat' (first | (with_reducible first | apply i_seq | apply i_block | apply i_skip | apply i_exit | apply i_ret | apply i_kS | apply i_kSx | apply i_kSr | apply i_kL | apply i_kLx | apply i_kLr | apply i_kB | apply i_kBr | apply i_kBs | apply i_nil) | ((with_reducible apply i_region); (focus (simp only [List.map_cons, List.map_nil] <;> exact rfl))) | ((with_reducible apply i_draw); (focus (simp only [List.map_cons, List.map_nil] <;> exact rfl)); (focus (decide +kernel))) | ((with_reducible apply i_kBo); (focus rfl)) | ((first | ((with_reducible apply i_V); (focus rfl); (focus rfl); (focus rfl)) | ((with_reducible apply i_E); (focus rfl); (focus (first | rfl | (simp only [push_cast, ↓reduceIte, effOk, touch, refsOf, List.flatMap_cons, List.flatMap_nil])))) | ((with_reducible apply i_S); (focus rfl); (focus (first | rfl | (simp only [push_cast, ↓reduceIte, effOk, touch, refsOf, List.flatMap_cons, List.flatMap_nil])))) | ((with_reducible apply i_Vq); (focus rfl); (focus rfl)) | ((with_reducible apply i_Vp); (focus rfl); (focus rfl); (focus rfl)) | (with_reducible first | apply i_Gb | apply i_cond)); (focus (simp (disch := (first | omega | (simp only [push_cast]; done) | (simp only [push_cast]; omega) | ((try simp only [push_cast]); (with_reducible first | apply sel_lt | apply sel_ge); (focus decide); (focus (simp only [push_cast]; omega))))) only [push_cast, ↓reduceIte, Nat.reduceEqDiff, Nat.reduceBEq, Nat.reduceAdd, Nat.reduceSub, Int.reduceToNat, *] <;> with_reducible exact rfl)); all_goals try (intro hX; first | (cases hX; done) | ((with_reducible first | have hX0 : true = true := hX | have hX0 : false = false := hX); clear hX0 hX) | ((try simp only [decide_eq_true_eq, decide_eq_false_iff_not, Bool.not_eq_true', Bool.not_eq_false'] at hX); (try have hXb := inB_iff.1 hX)))))); all_goals try (exfalso; omega)
        refine i_any0 (r := .val (.int .i64 k)) (by first | exact .inl rfl | exact .inr rfl) (by (simp (disch := (first | omega | (simp only [push_cast]; done) | (simp only [push_cast]; omega) | ((try simp only [push_cast]); (with_reducible first | apply sel_lt | apply sel_ge); (focus decide); (focus (simp only [push_cast]; omega))))) only [push_cast, ↓reduceIte, Nat.reduceEqDiff, Nat.reduceBEq, Nat.reduceAdd, Nat.reduceSub, Int.reduceToNat, *] <;> with_reducible exact rfl)) ⟨fun l1 k1 e1 e2 => by simp at e1, fun k1 e1 => ?_⟩
        obtain rfl : k = k1 := by simpa using e1
        exact ⟨rfl, rfl⟩)
  · refine ⟨Φ, h1, fun l k hl hk hk2 => ?_, fun k => ?_⟩
    · obtain ⟨r, cs', e, hr, _⟩ := h2 _ _ (.inl ⟨l, k, rfl, rfl, hl, hk, hk2⟩)
      obtain ⟨rfl, rfl⟩ := hr l k rfl rfl
      exact e
    · obtain ⟨r, cs', e, _, hr⟩ := h2 _ _ (.inr ⟨k, rfl, rfl⟩)
      obtain ⟨rfl, rfl⟩ := hr k rfl
      exact e
noncomputable def ΦmarkI : FunIO := Classical.choose markIntS_ex
theorem markI_io : SoundIO Tryd.prog 34 ΦmarkI := (Classical.choose_spec markIntS_ex).1
theorem markI_mk : Marks 3 (fun n : Int => .val (.int .i64 n)) marksI ΦmarkI := (Classical.choose_spec markIntS_ex).2
def okH (k : Int) : Prop := 0 < k ∧ k ≤ 1099511627776
instance (k : Int) : Decidable (okH k) := by unfold okH; infer_instance
def φHeldI : Fun := F2 dIs dI fun l k => if l = marksI k l.length ∧ l.length ≤ 1048576 ∧ okH k then some (iv (k + l.length)) else none
theorem φHeldI_ap {k : Int} {n : Nat} (hn : n ≤ 1048576) (hk : 0 < k) (hk2 : k ≤ 1099511627776) : φHeldI [.lst false 1 ((marksI k n).map fun n => .val (.int .i64 n)), .val (.int .i64 k)] = some (.val (.int .i64 (k + n))) := by
  refine (F2_ap (A := dIs) (B := dI) (marksI k n) k).trans ((if_pos ⟨by rw [marksI_length], by rw [marksI_length]; exact hn, hk, hk2⟩).trans ?_)
  rw [marksI_length]
set_option maxHeartbeats 4000000 in
theorem heldIntS_ok : Sound Tryd.prog 35 φHeldI := by
  refine sound_pq mixed GE_ok Tryd.func35 rfl 21 rfl [.tmp 4] rfl (by kernel_rfl) fun ps r hr => ?_
  obtain ⟨l, k, rfl, hq⟩ := F2_some hr
  clear hr
  split at hq
  case isFalse => cases hq
  case isTrue hpre =>
  cases hq
  refine ⟨by simp, ?_⟩
  simp only [dIs, dUs, dSs, dI_e, dU_e, dB_e, dS_e, dFn_e, dL_e, dA2_e, dA3_e, dA4_e, dA5_e]
  obtain ⟨hl, hlen, hk, hk2⟩ := hpre
  have hat : ∀ j : Nat, j < l.length → l[j]?.getD 0 = k + j := fun j hj => by
    rw [hl, marksI_at k hj]
  clear hl
  repeat' (first | (with_reducible first | apply i_seq | apply i_block | apply i_skip | apply i_exit | apply i_ret | apply i_kS | apply i_kSx | apply i_kSr | apply i_kL | apply i_kLx | apply i_kLr | apply i_kB | apply i_kBr | apply i_kBs | apply i_nil) | ((with_reducible apply i_region); (focus (simp only [List.map_cons, List.map_nil] <;> exact rfl))) | ((with_reducible apply i_draw); (focus (simp only [List.map_cons, List.map_nil] <;> exact rfl)); (focus (decide +kernel))) | ((with_reducible apply i_kBo); (focus rfl)) | ((first | ((with_reducible apply i_V); (focus rfl); (focus rfl); (focus rfl)) | ((with_reducible apply i_E); (focus rfl); (focus (first | rfl | (simp only [push_cast, ↓reduceIte, effOk, touch, refsOf, List.flatMap_cons, List.flatMap_nil])))) | ((with_reducible apply i_S); (focus rfl); (focus (first | rfl | (simp only [push_cast, ↓reduceIte, effOk, touch, refsOf, List.flatMap_cons, List.flatMap_nil])))) | ((with_reducible apply i_Vq); (focus rfl); (focus rfl)) | ((with_reducible apply i_Vp); (focus rfl); (focus rfl); (focus rfl)) | (with_reducible first | apply i_Gb | apply i_cond)); (focus (simp (disch := (first | omega | (simp only [push_cast]; done) | (simp only [push_cast]; omega) | ((try simp only [push_cast]); (with_reducible first | apply sel_lt | apply sel_ge); (focus decide); (focus (simp only [push_cast]; omega))))) only [push_cast, ↓reduceIte, Nat.reduceEqDiff, Nat.reduceBEq, Nat.reduceAdd, Nat.reduceSub, Int.reduceToNat, *] <;> with_reducible exact rfl)); all_goals try (intro hX; first | (cases hX; done) | ((with_reducible first | have hX0 : true = true := hX | have hX0 : false = false := hX); clear hX0 hX) | ((try simp only [decide_eq_true_eq, decide_eq_false_iff_not, Bool.not_eq_true', Bool.not_eq_false'] at hX); (try have hXb := inB_iff.1 hX)))))
  refine i_loop (α := Nat) mixed (fun j => [(0, .lst false 1 (l.map fun n => .val (.int .i64 n))), (1, iv (k + j)), (5, iv j)]) (fun j => []) (fun _ => 0)
    (fun j => j ≤ l.length) (fun j => l.length - j) (by kernel_rfl) 0 (Nat.zero_le _) ?_ trivial rfl ?_
  · simp (disch := (first | omega | (simp only [push_cast]; done) | (simp only [push_cast]; omega) | ((try simp only [push_cast]); (with_reducible first | apply sel_lt | apply sel_ge); (focus decide); (focus (simp only [push_cast]; omega))))) only [push_cast, ↓reduceIte, Nat.reduceEqDiff, Nat.reduceBEq, Nat.reduceAdd, Nat.reduceSub, Int.reduceToNat, Int.add_zero]
  intro j hj
  by_cases h : j < l.length
  · have hj2 := hat j h
    clear hat
    (repeat' (first | (with_reducible first | apply i_seq | apply i_block | apply i_skip | apply i_exit | apply i_ret | apply i_kS | apply i_kSx | apply i_kSr | apply i_kL | apply i_kLx | apply i_kLr | apply i_kB | apply i_kBr | apply i_kBs | apply i_nil) | ((with_reducible apply i_region); (focus (simp only [List.map_cons, List.map_nil] <;> exact rfl))) | ((with_reducible apply i_draw); (focus (simp only [List.map_cons, List.map_nil] <;> exact rfl)); (focus (decide +kernel))) | ((with_reducible apply i_kBo); (focus rfl)) | ((first | ((with_reducible apply i_V); (focus rfl); (focus rfl); (focus rfl)) | ((with_reducible apply i_E); (focus rfl); (focus (first | rfl | (simp only [push_cast, ↓reduceIte, effOk, touch, refsOf, List.flatMap_cons, List.flatMap_nil])))) | ((with_reducible apply i_S); (focus rfl); (focus (first | rfl | (simp only [push_cast, ↓reduceIte, effOk, touch, refsOf, List.flatMap_cons, List.flatMap_nil])))) | ((with_reducible apply i_Vq); (focus rfl); (focus rfl)) | ((with_reducible apply i_Vp); (focus rfl); (focus rfl); (focus rfl)) | (with_reducible first | apply i_Gb | apply i_cond)); (focus (simp (disch := (first | omega | (simp only [push_cast]; done) | (simp only [push_cast]; omega) | ((try simp only [push_cast]); (with_reducible first | apply sel_lt | apply sel_ge); (focus decide); (focus (simp only [push_cast]; omega))))) only [push_cast, ↓reduceIte, Nat.reduceEqDiff, Nat.reduceBEq, Nat.reduceAdd, Nat.reduceSub, Int.reduceToNat, *] <;> with_reducible exact rfl)); all_goals try (intro hX; first | (cases hX; done) | ((with_reducible first | have hX0 : true = true := hX | have hX0 : false = false := hX); clear hX0 hX) | ((try simp only [decide_eq_true_eq, decide_eq_false_iff_not, Bool.not_eq_true', Bool.not_eq_false'] at hX); (try have hXb := inB_iff.1 hX)))))); all_goals try (exfalso; omega)
    refine ⟨j + 1, by omega, by dsimp only; omega, ?_, trivial, rfl⟩
    simp (disch := (first | omega | (simp only [push_cast]; done) | (simp only [push_cast]; omega) | ((try simp only [push_cast]); (with_reducible first | apply sel_lt | apply sel_ge); (focus decide); (focus (simp only [push_cast]; omega))))) only [push_cast, ↓reduceIte, Nat.reduceEqDiff, Nat.reduceBEq, Nat.reduceAdd, Nat.reduceSub, Int.reduceToNat, *]
    simp only [Int.add_assoc, and_self]
  · clear hat
    (repeat' (first | (with_reducible first | apply i_seq | apply i_block | apply i_skip | apply i_exit | apply i_ret | apply i_kS | apply i_kSx | apply i_kSr | apply i_kL | apply i_kLx | apply i_kLr | apply i_kB | apply i_kBr | apply i_kBs | apply i_nil) | ((with_reducible apply i_region); (focus (simp only [List.map_cons, List.map_nil] <;> exact rfl))) | ((with_reducible apply i_draw); (focus (simp only [List.map_cons, List.map_nil] <;> exact rfl)); (focus (decide +kernel))) | ((with_reducible apply i_kBo); (focus rfl)) | ((first | ((with_reducible apply i_V); (focus rfl); (focus rfl); (focus rfl)) | ((with_reducible apply i_E); (focus rfl); (focus (first | rfl | (simp only [push_cast, ↓reduceIte, effOk, touch, refsOf, List.flatMap_cons, List.flatMap_nil])))) | ((with_reducible apply i_S); (focus rfl); (focus (first | rfl | (simp only [push_cast, ↓reduceIte, effOk, touch, refsOf, List.flatMap_cons, List.flatMap_nil])))) | ((with_reducible apply i_Vq); (focus rfl); (focus rfl)) | ((with_reducible apply i_Vp); (focus rfl); (focus rfl); (focus rfl)) | (with_reducible first | apply i_Gb | apply i_cond)); (focus (simp (disch := (first | omega | (simp only [push_cast]; done) | (simp only [push_cast]; omega) | ((try simp only [push_cast]); (with_reducible first | apply sel_lt | apply sel_ge); (focus decide); (focus (simp only [push_cast]; omega))))) only [push_cast, ↓reduceIte, Nat.reduceEqDiff, Nat.reduceBEq, Nat.reduceAdd, Nat.reduceSub, Int.reduceToNat, *] <;> with_reducible exact rfl)); all_goals try (intro hX; first | (cases hX; done) | ((with_reducible first | have hX0 : true = true := hX | have hX0 : false = false := hX); clear hX0 hX) | ((try simp only [decide_eq_true_eq, decide_eq_false_iff_not, Bool.not_eq_true', Bool.not_eq_false'] at hX); (try have hXb := inB_iff.1 hX)))))); all_goals try (exfalso; omega)
    rw [show l.length = j by omega]
    ((first | apply i_end | apply i_endN); simp (disch := (first | omega | (simp only [push_cast]; done) | (simp only [push_cast]; omega) | ((try simp only [push_cast]); (with_reducible first | apply sel_lt | apply sel_ge); (focus decide); (focus (simp only [push_cast]; omega))))) only [push_cast, ↓reduceIte, Nat.reduceEqDiff, Nat.reduceBEq, Nat.reduceAdd, Nat.reduceSub, Int.reduceToNat, *])
def φEqI : Fun := F2 dIs dIs fun a b => if a.length ≤ 1048576 ∧ b.length ≤ 1048576 then some (bv (decide (a = b))) else none
theorem φEqI_ap {a b : List Int} (h : a.length ≤ 1048576) (h2 : b.length ≤ 1048576) : φEqI [.lst false 1 (a.map fun n => .val (.int .i64 n)), .lst false 1 (b.map fun n => .val (.int .i64 n))] = some (.val (.bool (decide (a = b)))) :=
  (F2_ap (A := dIs) (B := dIs) a b).trans (if_pos ⟨h, h2⟩)
set_option maxHeartbeats 4000000 in
theorem eqIntS_ok : Sound Tryd.prog 28 φEqI := by
  refine sound_pq mixed GE_ok Tryd.func28 rfl 26 rfl [.tmp 4] rfl (by kernel_rfl) fun ps r hr => ?_
  obtain ⟨xs, ys, rfl, hq⟩ := F2_some hr
  clear hr
  split at hq
  case isFalse => cases hq
  case isTrue hpre =>
  cases hq
  refine ⟨by simp, ?_⟩
  simp only [dIs, dUs, dSs, dI_e, dU_e, dB_e, dS_e, dFn_e, dL_e, dA2_e, dA3_e, dA4_e, dA5_e]
  obtain ⟨hl1, hl2⟩ := hpre
  repeat' (first | (with_reducible first | apply i_seq | apply i_block | apply i_skip | apply i_exit | apply i_ret | apply i_kS | apply i_kSx | apply i_kSr | apply i_kL | apply i_kLx | apply i_kLr | apply i_kB | apply i_kBr | apply i_kBs | apply i_nil) | ((with_reducible apply i_region); (focus (simp only [List.map_cons, List.map_nil] <;> exact rfl))) | ((with_reducible apply i_draw); (focus (simp only [List.map_cons, List.map_nil] <;> exact rfl)); (focus (decide +kernel))) | ((with_reducible apply i_kBo); (focus rfl)) | ((first | ((with_reducible apply i_V); (focus rfl); (focus rfl); (focus rfl)) | ((with_reducible apply i_E); (focus rfl); (focus (first | rfl | (simp only [push_cast, ↓reduceIte, effOk, touch, refsOf, List.flatMap_cons, List.flatMap_nil])))) | ((with_reducible apply i_S); (focus rfl); (focus (first | rfl | (simp only [push_cast, ↓reduceIte, effOk, touch, refsOf, List.flatMap_cons, List.flatMap_nil])))) | ((with_reducible apply i_Vq); (focus rfl); (focus rfl)) | ((with_reducible apply i_Vp); (focus rfl); (focus rfl); (focus rfl)) | (with_reducible first | apply i_Gb | apply i_cond)); (focus (simp (disch := (first | omega | (simp only [push_cast]; done) | (simp only [push_cast]; omega) | ((try simp only [push_cast]); (with_reducible first | apply sel_lt | apply sel_ge); (focus decide); (focus (simp only [push_cast]; omega))))) only [push_cast, ↓reduceIte, Nat.reduceEqDiff, Nat.reduceBEq, Nat.reduceAdd, Nat.reduceSub, Int.reduceToNat, *] <;> with_reducible exact rfl)); all_goals try (intro hX; first | (cases hX; done) | ((with_reducible first | have hX0 : true = true := hX | have hX0 : false = false := hX); clear hX0 hX) | ((try simp only [decide_eq_true_eq, decide_eq_false_iff_not, Bool.not_eq_true', Bool.not_eq_false'] at hX); (try have hXb := inB_iff.1 hX)))))
  · ((first | apply i_end | apply i_endN); simp (disch := (first | omega | (simp only [push_cast]; done) | (simp only [push_cast]; omega) | ((try simp only [push_cast]); (with_reducible first | apply sel_lt | apply sel_ge); (focus decide); (focus (simp only [push_cast]; omega))))) only [push_cast, ↓reduceIte, Nat.reduceEqDiff, Nat.reduceBEq, Nat.reduceAdd, Nat.reduceSub, Int.reduceToNat, *])
    have : ¬ xs = ys := fun h => by subst h; simp_all
    simp [this]
  refine i_loop (α := Nat) mixed (fun k => [(0, .lst false 1 (xs.map fun n => .val (.int .i64 n))), (1, .lst false 1 (ys.map fun n => .val (.int .i64 n))), (5, iv k)]) (fun k => []) (fun _ => 0)
    (fun k => k ≤ xs.length ∧ ∀ j, j < k → xs[j]?.getD 0 = ys[j]?.getD 0) (fun k => xs.length - k) (by kernel_rfl) 0 ⟨Nat.zero_le _, fun j hj => by omega⟩ ?_ trivial rfl ?_
  · simp only [push_cast, ↓reduceIte, Nat.reduceEqDiff, Nat.reduceBEq, Nat.reduceAdd, Nat.reduceSub, Int.reduceToNat]
  · intro k ⟨hk, hok⟩
    repeat' (first | (with_reducible first | apply i_seq | apply i_block | apply i_skip | apply i_exit | apply i_ret | apply i_kS | apply i_kSx | apply i_kSr | apply i_kL | apply i_kLx | apply i_kLr | apply i_kB | apply i_kBr | apply i_kBs | apply i_nil) | ((with_reducible apply i_region); (focus (simp only [List.map_cons, List.map_nil] <;> exact rfl))) | ((with_reducible apply i_draw); (focus (simp only [List.map_cons, List.map_nil] <;> exact rfl)); (focus (decide +kernel))) | ((with_reducible apply i_kBo); (focus rfl)) | ((first | ((with_reducible apply i_V); (focus rfl); (focus rfl); (focus rfl)) | ((with_reducible apply i_E); (focus rfl); (focus (first | rfl | (simp only [push_cast, ↓reduceIte, effOk, touch, refsOf, List.flatMap_cons, List.flatMap_nil])))) | ((with_reducible apply i_S); (focus rfl); (focus (first | rfl | (simp only [push_cast, ↓reduceIte, effOk, touch, refsOf, List.flatMap_cons, List.flatMap_nil])))) | ((with_reducible apply i_Vq); (focus rfl); (focus rfl)) | ((with_reducible apply i_Vp); (focus rfl); (focus rfl); (focus rfl)) | (with_reducible first | apply i_Gb | apply i_cond)); (focus (simp (disch := (first | omega | (simp only [push_cast]; done) | (simp only [push_cast]; omega) | ((try simp only [push_cast]); (with_reducible first | apply sel_lt | apply sel_ge); (focus decide); (focus (simp only [push_cast]; omega))))) only [push_cast, ↓reduceIte, Nat.reduceEqDiff, Nat.reduceBEq, Nat.reduceAdd, Nat.reduceSub, Int.reduceToNat, *] <;> with_reducible exact rfl)); all_goals try (intro hX; first | (cases hX; done) | ((with_reducible first | have hX0 : true = true := hX | have hX0 : false = false := hX); clear hX0 hX) | ((try simp only [decide_eq_true_eq, decide_eq_false_iff_not, Bool.not_eq_true', Bool.not_eq_false'] at hX); (try have hXb := inB_iff.1 hX)))))
    all_goals try ((first | apply i_end | apply i_endN); simp (disch := (first | omega | (simp only [push_cast]; done) | (simp only [push_cast]; omega) | ((try simp only [push_cast]); (with_reducible first | apply sel_lt | apply sel_ge); (focus decide); (focus (simp only [push_cast]; omega))))) only [push_cast, ↓reduceIte, Nat.reduceEqDiff, Nat.reduceBEq, Nat.reduceAdd, Nat.reduceSub, Int.reduceToNat, *])
    · have : ¬ xs = ys := fun h => by subst h; simp_all
      simp [this]
    · refine ⟨k + 1, ⟨by omega, fun j hj => ?_⟩, by dsimp only; omega, by simp only [push_cast, ↓reduceIte, Nat.reduceEqDiff, Nat.reduceBEq, Nat.reduceAdd, Nat.reduceSub, Int.reduceToNat], trivial, rfl⟩
      by_cases h1 : j < k
      · exact hok j h1
      · have : j = k := by omega
        subst this
        assumption
    · have : xs = ys := eq_of_getDK (d := 0) (by omega) fun j hj => hok j (by omega)
      simp [this]
end Go.Proofs.YtpggpdbipajchaaDoor
namespace Go.Proofs.YtpggpdbipajchaaDoor
open Go.RowKit
set_option linter.all false
theorem map_app' {α β : Type} {f : α → β} {l l' : List α} : l.map f ++ l'.map f = (l ++ l').map f := List.map_append.symm
theorem min_l {a b : Nat} (h : a ≤ b) : min a b = a := Nat.min_eq_left h
attribute [push_cast]
  map_app' min_l List.take_length
theorem strI_take {s : ByteArray} : (strI s).take s.size = strI s := List.take_of_length_le (by rw [strI_length]; exact Nat.le_refl _)
attribute [push_cast]
  strI_take
theorem io_ag {Φ : FunIO} {ob : Objs} {nx : Nat} {u : Value} {k : Bool} {sz : Nat} {α : Type} {g : α → Value} {l : List α} : ioEv Φ ob nx [.agg [.val u, .lst k sz (l.map fun x => PV.val (g x))]] = ioR [] ob nx (Φ [.agg [.val u, .lst k sz (l.map fun x => PV.val (g x))]] []) :=
  ioNo_of rfl (by simp only [mapM_cons', mapM_nil', renS_fuel, renS_agg, renS_val, renS_vals]; rfl)
attribute [push_cast]
  io_ag
end Go.Proofs.YtpggpdbipajchaaDoor
namespace Go.Proofs.YtpggpdbipajchaaDoor
open Go.RowKit
set_option linter.all false
section
variable {Φ : FunIO} {ob : Objs} {nx o sz i n : Nat} {u u2 v v2 v3 : Value}
theorem io_gr2 : ioEv Φ ob nx [.agg [.val u, .row o sz i n], .val v] = ioOne Φ ob nx o [.agg [.val u, .row 0 sz i n], .val v] (ob o) := ioOne_of (by simp [refsOf, dedup]) (by simp only [mapM_cons', mapM_nil', renS_fuel, renS_agg, renS_row, renS_val, inn_self]; rfl)
theorem io_gr4 : ioEv Φ ob nx [.agg [.val u, .row o sz i n], .val v, .val v2, .val v3] = ioOne Φ ob nx o [.agg [.val u, .row 0 sz i n], .val v, .val v2, .val v3] (ob o) := ioOne_of (by simp [refsOf, dedup]) (by simp only [mapM_cons', mapM_nil', renS_fuel, renS_agg, renS_row, renS_val, inn_self]; rfl)
theorem io_gn2 : ioEv Φ ob nx [.agg [.val u, .val u2], .val v] = ioR [] ob nx (Φ [.agg [.val u, .val u2], .val v] []) := ioNo_of rfl rfl
end
attribute [push_cast]
  io_gr2 io_gr4 io_gn2
end Go.Proofs.YtpggpdbipajchaaDoor
namespace Go.Proofs.YtpggpdbipajchaaDoor
open Go.RowKit
set_option linter.all false
theorem pr_bind {α β : Type} {P : Program} {m : Sem α} {f : α → Sem β} {a : α} (h : pureRun P m = some a) : pureRun P (m >>= f) = pureRun P (f a) := by
  induction m with
  | pure x => simp only [pureRun, Option.some.injEq] at h; subst h; rfl
  | program k ih => exact ih P h
  | _ => simp [pureRun] at h
theorem pr_bound {P : Program} {v : Int} {m : Nat} {k : BoundsCode} (h : 0 ≤ v) (h2 : v ≤ m) : pureRun P (Instr.sliceBound (.int .i64 v) m k) = some v.toNat := by
  have e : Instr.sliceBound (.int .i64 v) m k = (if 0 ≤ v ∧ v ≤ m then pure v.toNat else boundsPanic .i64 v m k) := rfl
  rw [e, if_pos ⟨h, h2⟩]
  rfl
theorem pr_und {P : Program} {t : Nat} {d : TypeDesc} (hu : P.underlying t = some d) : pureRun P (underlying t) = some d := by
  unfold underlying
  rw [pr_bind (a := P) rfl]
  simp only [hu]
  rfl
theorem sps {P : Program} {t : Nat} {s : ByteArray} {lo hi : Option Int} (hu : P.underlying t = some .string) (h0 : 0 ≤ lo.getD 0) (h1 : lo.getD 0 ≤ hi.getD s.size) (h2 : hi.getD s.size ≤ s.size) :
    slcP P t (.val (.string s)) (some lo) (some hi) = some (.val (.string (s.extract (lo.getD 0).toNat (hi.getD s.size).toNat))) := by
  have hb : pureRun P (Instr.sliceBounds false s.size s.size (lo.map (Value.int .i64)) (hi.map (Value.int .i64)) none) = some ((lo.getD 0).toNat, (hi.getD s.size).toNat, s.size) := by
    unfold Instr.sliceBounds
    rw [pr_bind (a := s.size) rfl]
    cases hi with
    | none =>
      simp only [Option.map_none, Option.getD_none] at h1 ⊢
      rw [pr_bind (a := s.size) rfl]
      cases lo with
      | none => simp only [Option.map_none, Option.getD_none, Int.toNat_natCast]; rw [pr_bind (a := 0) rfl]; rfl
      | some l => simp only [Option.map_some, Option.getD_some, Int.toNat_natCast] at h0 h1 ⊢; rw [pr_bind (pr_bound h0 h1)]; rfl
    | some h =>
      simp only [Option.map_some, Option.getD_some] at h1 h2 ⊢
      have h3 : 0 ≤ h := by omega
      rw [pr_bind (pr_bound h3 h2)]
      cases lo with
      | none => simp only [Option.map_none, Option.getD_none]; rw [pr_bind (a := 0) rfl]; rfl
      | some l => simp only [Option.map_some, Option.getD_some] at h0 h1 ⊢; rw [pr_bind (pr_bound h0 (by omega))]; rfl
  have hs : pureRun P (Instr.sliceAt t (.string s) (lo.map (Value.int .i64)) (hi.map (Value.int .i64)) none) = some (.string (s.extract (lo.getD 0).toNat (hi.getD s.size).toNat)) := by
    unfold Instr.sliceAt
    rw [pr_bind (pr_und hu)]
    dsimp only
    unfold Instr.slice
    rw [pr_bind (pr_und hu)]
    dsimp only
    simp only [Option.isSome_none, Bool.false_eq_true, if_false]
    rw [pr_bind hb]
    rfl
  show (pureRun P _).map _ = _
  rw [hs]
  rfl
theorem sps_str {s : ByteArray} {lo hi : Option Int} (h0 : 0 ≤ lo.getD 0) (h1 : lo.getD 0 ≤ hi.getD s.size) (h2 : hi.getD s.size ≤ s.size) :
    slcP Tryd.prog 9 (.val (.string s)) (some lo) (some hi) = some (.val (.string (s.extract (lo.getD 0).toNat (hi.getD s.size).toNat))) := sps Tryd.underlying9 h0 h1 h2
attribute [push_cast]
  sps_str
end Go.Proofs.YtpggpdbipajchaaDoor
namespace Go.Proofs.YtpggpdbipajchaaDoor
open Go.RowKit
set_option linter.all false
def refsA : List PV → List Nat
  | [] => []
  | .own o _ _ _ :: l => o :: refsA l
  | .row o _ _ _ :: l => o :: refsA l
  | _ :: l => refsA l
def refsX : PV → List Nat
  | .own o _ _ _ => [o]
  | .row o _ _ _ => [o]
  | .agg cs => refsA cs
  | _ => []
def refsL : List PV → List Nat
  | [] => []
  | p :: ps => refsX p ++ refsL ps
theorem refsA_eq : ∀ cs : List PV, (cs.flatMap fun c => match c with | .own o _ _ _ => [o] | .row o _ _ _ => [o] | _ => []) = refsA cs
  | [] => rfl
  | c :: cs => by
    rw [List.flatMap_cons, refsA_eq cs]
    cases c <;> rfl
theorem refsL_eq : ∀ ps : List PV, ps.flatMap refsOf = refsL ps
  | [] => rfl
  | p :: ps => by
    rw [List.flatMap_cons, refsL_eq ps]
    show _ = refsX p ++ refsL ps
    congr 1
    cases p with
    | agg cs => exact refsA_eq cs
    | _ => rfl
section
variable {Φ : FunIO} {ob : Objs} {nx : Nat}
def ioTwo (Φ : FunIO) (ob : Objs) (nx a b : Nat) (qs : List PV) : Option CellIO → Option CellIO → Option (PV × Objs × Nat)
  | some c, some d => (c.2.2.mapM (renF (inn [a, b]) fuel)).bind fun es => (d.2.2.mapM (renF (inn [a, b]) fuel)).bind fun fs => ioR [a, b] ob nx (Φ qs [(c.1, c.2.1, es), (d.1, d.2.1, fs)])
  | _, _ => none
def ioX (Φ : FunIO) (ob : Objs) (nx : Nat) (ps : List PV) : List Nat → Option (PV × Objs × Nat)
  | [] => (ps.mapM (renF (inn []) fuel)).bind fun qs => ioR [] ob nx (Φ qs [])
  | [o] => (ps.mapM (renF (inn [o]) fuel)).bind fun qs => ioOne Φ ob nx o qs (ob o)
  | [a, b] => (ps.mapM (renF (inn [a, b]) fuel)).bind fun qs => ioTwo Φ ob nx a b qs (ob a) (ob b)
  | _ => ioEv Φ ob nx ps
theorem io_any (ps : List PV) : ioEv Φ ob nx ps = ioX Φ ob nx ps (dedup (refsL ps)) := by
  generalize hos : dedup (refsL ps) = os
  rw [← refsL_eq] at hos
  match os with
  | [] =>
    show _ = (ps.mapM (renF (inn []) fuel)).bind _
    cases h2 : ps.mapM (renF (inn []) fuel) with
    | some qs => rw [ioEv_eq ps [] hos, h2, mapM_nil']; rfl
    | none => rw [ioEv_eq ps [] hos, h2, mapM_nil']; rfl
  | [o] =>
    show _ = (ps.mapM (renF (inn [o]) fuel)).bind _
    cases h2 : ps.mapM (renF (inn [o]) fuel) with
    | some qs => rw [ioOne_of hos h2]; rfl
    | none =>
      rw [ioEv_eq ps [o] hos, h2]
      cases [o].mapM ob <;> rfl
  | [a, b] =>
    show _ = (ps.mapM (renF (inn [a, b]) fuel)).bind _
    rw [ioEv_eq ps [a, b] hos]
    simp only [mapM_cons', mapM_nil', renC]
    cases ps.mapM (renF (inn [a, b]) fuel) with
    | none => cases ob a <;> cases ob b <;> rfl
    | some qs =>
      simp only [Option.bind_some]
      cases ob a with
      | none => rfl
      | some c =>
        cases ob b with
        | none => rfl
        | some d =>
          obtain ⟨T, sz, es0⟩ := c
          obtain ⟨T2, sz2, fs0⟩ := d
          simp only [Option.bind_some, Option.map_some, ioTwo, mapM_cons', mapM_nil', renC]
          cases es0.mapM (renF (inn [a, b]) fuel) with
          | none => rfl
          | some es =>
            simp only [Option.bind_some, Option.map_some]
            cases fs0.mapM (renF (inn [a, b]) fuel) <;> rfl
  | _ :: _ :: _ :: _ => rfl
theorem ioX_nil {ps : List PV} : ioX Φ ob nx ps [] = (ps.mapM (renF (inn []) fuel)).bind fun qs => ioR [] ob nx (Φ qs []) := rfl
theorem ioX_one {ps : List PV} {o : Nat} : ioX Φ ob nx ps [o] = (ps.mapM (renF (inn [o]) fuel)).bind fun qs => ioOne Φ ob nx o qs (ob o) := rfl
theorem ioX_two {ps : List PV} {a b : Nat} : ioX Φ ob nx ps [a, b] = (ps.mapM (renF (inn [a, b]) fuel)).bind fun qs => ioTwo Φ ob nx a b qs (ob a) (ob b) := rfl
theorem ioTwo_some {a b T T2 sz sz2 : Nat} {es es2 qs : List PV} : ioTwo Φ ob nx a b qs (some (T, sz, es)) (some (T2, sz2, es2)) = (es.mapM (renF (inn [a, b]) fuel)).bind fun es => (es2.mapM (renF (inn [a, b]) fuel)).bind fun fs => ioR [a, b] ob nx (Φ qs [(T, sz, es), (T2, sz2, fs)]) := rfl
theorem dd_ab {a b : Nat} (h : ¬ a = b) : dedup [a, b] = [a, b] := by
  have h' : ¬ b = a := fun e => h e.symm
  simp [dedup, h']
theorem inn_a {a b : Nat} : inn [a, b] a = some 0 := by simp [inn]
theorem inn_b {a b : Nat} (h : ¬ a = b) : inn [a, b] b = some 1 := by
  have h2 : (a == b) = false := by simpa using h
  simp [inn, List.idxOf_cons, h2]
theorem outF_ab0 {a b nx : Nat} : outF [a, b] nx 0 = some a := rfl
theorem outF_ab1 {a b nx : Nat} : outF [a, b] nx 1 = some b := rfl
theorem outF_ab2 {a b nx : Nat} : outF [a, b] nx 2 = some nx := by simp [outF, outn]
theorem outF_a1 {a nx : Nat} : outF [a] nx 1 = some nx := by simp [outF, outn]
theorem ioR_ab2 {a b T T2 sz sz2 : Nat} {es es2 : List PV} {r : PV} : ioR [a, b] ob nx (some (r, [(T, sz, es), (T2, sz2, es2)])) = (renF (outF [a, b] nx) fuel r).bind fun r' => (es.mapM (renF (outF [a, b] nx) fuel)).bind fun es' => (es2.mapM (renF (outF [a, b] nx) fuel)).map fun es2' => (r', upd (upd ob a (some (T, sz, es'))) b (some (T2, sz2, es2')), nx) := by
  unfold ioR
  simp only [mapM_cons', mapM_nil', renC]
  cases renF (outF [a, b] nx) fuel r with
  | none => rfl
  | some r' =>
    cases es.mapM (renF (outF [a, b] nx) fuel) with
    | none => rfl
    | some es' =>
      cases es2.mapM (renF (outF [a, b] nx) fuel) <;> rfl
theorem ioR_ab3 {a b T T2 T3 sz sz2 sz3 : Nat} {es es2 es3 : List PV} {r : PV} : ioR [a, b] ob nx (some (r, [(T, sz, es), (T2, sz2, es2), (T3, sz3, es3)])) = (renF (outF [a, b] nx) fuel r).bind fun r' => (es.mapM (renF (outF [a, b] nx) fuel)).bind fun es' => (es2.mapM (renF (outF [a, b] nx) fuel)).bind fun es2' => (es3.mapM (renF (outF [a, b] nx) fuel)).map fun es3' => (r', upd (upd (upd ob a (some (T, sz, es'))) b (some (T2, sz2, es2'))) nx (some (T3, sz3, es3')), nx + 1) := by
  unfold ioR
  simp only [mapM_cons', mapM_nil', renC]
  cases renF (outF [a, b] nx) fuel r with
  | none => rfl
  | some r' =>
    cases es.mapM (renF (outF [a, b] nx) fuel) with
    | none => rfl
    | some es' =>
      cases es2.mapM (renF (outF [a, b] nx) fuel) with
      | none => rfl
      | some es2' =>
        cases es3.mapM (renF (outF [a, b] nx) fuel) with
        | none => rfl
        | some es3' =>
          simp only [Option.map_some, Option.bind_some, List.length_cons, List.length_nil, Nat.zero_add, Nat.reduceAdd, Nat.reduceSub, Option.some.injEq, Prod.mk.injEq, true_and, and_true]
          show putObs ob [(outn [a, b] nx 0, _), (outn [a, b] nx 1, _), (outn [a, b] nx 2, _)] = _
          simp [putObs, outn]
theorem dd_nil : dedup [] = [] := rfl
theorem dd_one {o : Nat} : dedup [o] = [o] := rfl
theorem dd_two {o : Nat} : dedup [o, o] = [o] := by simp [dedup]
theorem rl_nil : refsL [] = [] := rfl
theorem rl_cons {p : PV} {ps : List PV} : refsL (p :: ps) = refsX p ++ refsL ps := rfl
theorem rx_val {v : Value} : refsX (.val v) = [] := rfl
theorem rx_lst {k : Bool} {sz : Nat} {es : List PV} : refsX (.lst k sz es) = [] := rfl
theorem rx_ptr {k : Bool} {e : PV} {o : Nat} : refsX (.ptr k e o) = [] := rfl
theorem rx_own {o a b c : Nat} : refsX (.own o a b c) = [o] := rfl
theorem rx_row {o a b c : Nat} : refsX (.row o a b c) = [o] := rfl
theorem rx_agg {cs : List PV} : refsX (.agg cs) = refsA cs := rfl
theorem ra_nil : refsA [] = [] := rfl
theorem ra_val {v : Value} {l : List PV} : refsA (.val v :: l) = refsA l := rfl
theorem ra_lst {k : Bool} {sz : Nat} {es l : List PV} : refsA (.lst k sz es :: l) = refsA l := rfl
theorem ra_own {o a b c : Nat} {l : List PV} : refsA (.own o a b c :: l) = o :: refsA l := rfl
theorem ra_row {o a b c : Nat} {l : List PV} : refsA (.row o a b c :: l) = o :: refsA l := rfl
end
attribute [push_cast low]
  io_any
attribute [push_cast]
  ioX_nil ioX_one ioX_two ioTwo_some dd_ab inn_a inn_b outF_ab0 outF_ab1 outF_ab2 outF_a1 ioR_ab2 ioR_ab3 dd_nil dd_one dd_two rl_nil rl_cons rx_val rx_lst rx_ptr rx_own rx_row rx_agg ra_nil ra_val ra_lst ra_own ra_row
end Go.Proofs.YtpggpdbipajchaaDoor
namespace Go.Proofs.YtpggpdbipajchaaDoor
open Go.RowKit
set_option linter.all false
theorem byteNs_gl {l : List Int} : byteNs (l.map fun n => .val (.int .u8 n)) = some l := by
  induction l with
  | nil => rfl
  | cons x l ih => simp_all [byteNs]
attribute [push_cast]
  byteNs_gl
theorem gl_ext {a b : ByteArray} (h : a.data.toList = b.data.toList) : a = b := by
  obtain ⟨⟨a⟩⟩ := a
  obtain ⟨⟨b⟩⟩ := b
  simp only at h
  rw [h]
end Go.Proofs.YtpggpdbipajchaaDoor
namespace Go.Proofs.YtpggpdbipajchaaDoor
open Go.RowKit
set_option linter.all false
abbrev Rn := Int × Int
def runStep (R : List Rn) (n : Int) : List Rn := match R.getLast? with
  | some r => if r.2 + 1 = n then R.dropLast ++ [(r.1, n)] else R ++ [(n, n)]
  | none => [(n, n)]
def runsR (l : List Int) : List Rn := l.foldl runStep []
def runT (r : Rn) : ByteArray := if r.1 = r.2 then itoaS r.1 else (itoaS r.1 ++ ⟨#[45]⟩) ++ itoaS r.2
def csB : ByteArray := ⟨#[44, 32]⟩
def textR (l : List Int) : ByteArray := joinB ((runsR l).map runT) csB
def pagesT (l : List Int) : ByteArray := if pagesB l = true then textR l else ⟨#[]⟩
theorem runsR_snoc (l : List Int) (n : Int) : runsR (l ++ [n]) = runStep (runsR l) n := by simp [runsR, List.foldl_append]
theorem runStep_snoc (R : List Rn) (r : Rn) (n : Int) : runStep (R ++ [r]) n = if r.2 + 1 = n then R ++ [(r.1, n)] else R ++ [r] ++ [(n, n)] := by
  unfold runStep
  rw [List.getLast?_append]
  simp
theorem runs_last : ∀ (l : List Int) (n : Int), ∃ R a, runsR (l ++ [n]) = R ++ [(a, n)] := fun l n => by
  rw [runsR_snoc]
  rcases List.eq_nil_or_concat (runsR l) with h | ⟨R, r, h⟩
  · rw [h]; exact ⟨[], n, rfl⟩
  · rw [h, List.concat_eq_append, runStep_snoc]
    split
    · exact ⟨R, r.1, rfl⟩
    · exact ⟨R ++ [r], n, rfl⟩
theorem take_snoc {l : List Int} {k : Nat} (h : k < l.length) : l.take (k + 1) = l.take k ++ [l[k]?.getD 0] := by
  rw [List.take_succ_eq_append_getElem h, List.getElem?_eq_getElem h]
  rfl
theorem runs_run {l : List Int} {k : Nat} (hk : k < l.length) (hb : 0 < k → ¬ l[k - 1]?.getD 0 + 1 = l[k]?.getD 0) : ∀ e, k ≤ e → e < l.length → (∀ j, k ≤ j → j < e → l[j + 1]?.getD 0 = l[j]?.getD 0 + 1) →
    runsR (l.take (e + 1)) = runsR (l.take k) ++ [(l[k]?.getD 0, l[e]?.getD 0)] := by
  intro e
  induction e with
  | zero =>
    intro h1 _ _
    obtain rfl : k = 0 := by omega
    rw [take_snoc hk]
    rfl
  | succ e ih =>
    intro h1 h2 h3
    by_cases he : k = e + 1
    · subst he
      rw [take_snoc h2, runsR_snoc]
      have hb := hb (by omega)
      rw [show e + 1 - 1 = e by omega] at hb
      obtain ⟨R, a, hR⟩ := runs_last (l.take e) (l[e]?.getD 0)
      rw [take_snoc (show e < l.length by omega), hR, runStep_snoc, if_neg hb]
    · have hR := ih (by omega) (by omega) fun j h4 h5 => h3 j h4 (by omega)
      rw [take_snoc h2, runsR_snoc, hR, runStep_snoc, if_pos (by rw [h3 e (by omega) (by omega)])]
theorem joinG_snoc {l : LS} (h : 0 < l.length) (z sep : ByteArray) : joinB (l ++ [z]) sep = (joinB l sep ++ sep) ++ z := by
  cases l with
  | nil => simp at h
  | cons x r =>
    refine gl_ext ?_
    rw [ByteArray.data_append, Array.toList_append, ByteArray.data_append, Array.toList_append]
    show Lib.join ((x :: (r ++ [z])).map (·.data.toList)) sep.data.toList = Lib.join ((x :: r).map (·.data.toList)) sep.data.toList ++ sep.data.toList ++ z.data.toList
    rw [List.map_cons, List.map_cons, Lib.join_cons, Lib.join_cons]
    simp [Lib.joinTail]
theorem joinG_one (z sep : ByteArray) : joinB [z] sep = z := gl_ext (by
  show Lib.join [z.data.toList] sep.data.toList = z.data.toList
  rw [Lib.join_one])
theorem runT_pos {r : Rn} (h : 0 ≤ r.1) : 0 < (runT r).size := by
  have := (itoaS_head h).1
  unfold runT
  split
  · exact this
  · rw [ByteArray.size_append, ByteArray.size_append]; omega
theorem textR_run {l : List Int} {k e : Nat} (hk : k < l.length) (hb : 0 < k → ¬ l[k - 1]?.getD 0 + 1 = l[k]?.getD 0) (h1 : k ≤ e) (h2 : e < l.length) (h3 : ∀ j, k ≤ j → j < e → l[j + 1]?.getD 0 = l[j]?.getD 0 + 1) :
    textR (l.take (e + 1)) = (if k = 0 then ⟨#[]⟩ else textR (l.take k) ++ csB) ++ runT (l[k]?.getD 0, l[e]?.getD 0) := by
  unfold textR
  rw [runs_run hk hb e h1 h2 h3, List.map_append, List.map_singleton]
  split
  · rename_i h
    subst h
    show joinB [_] csB = _
    rw [joinG_one]
    exact gl_ext (by rw [ByteArray.data_append, Array.toList_append]; rfl)
  · rename_i h
    obtain ⟨R, a, hR⟩ := runs_last (l.take (k - 1)) (l[k - 1]?.getD 0)
    rw [← take_snoc (show k - 1 < l.length by omega), show k - 1 + 1 = k by omega] at hR
    rw [joinG_snoc (by rw [hR]; simp)]
theorem textR_pos {l : List Int} {k : Nat} (h0 : 0 < k) (hk : k ≤ l.length) (hp : ∀ j, j < l.length → 0 ≤ l[j]?.getD 0) : 0 < (textR (l.take k)).size := by
  obtain ⟨R, a, hR⟩ := runs_last (l.take (k - 1)) (l[k - 1]?.getD 0)
  rw [← take_snoc (show k - 1 < l.length by omega), show k - 1 + 1 = k by omega] at hR
  unfold textR
  rw [joinB_size, hR, List.map_append, List.map_singleton]
  have hz : 0 < (runT (a, l[k - 1]?.getD 0)).size := by
    have := (itoaS_head (hp (k - 1) (by omega))).1
    unfold runT
    split
    · rename_i h; simp only at h; rw [h]; exact this
    · rw [ByteArray.size_append]; dsimp only; omega
  have : (runT (a, l[k - 1]?.getD 0)).size ≤ sumS (R.map runT ++ [runT (a, l[k - 1]?.getD 0)]) := by
    unfold sumS
    rw [List.map_append, List.sum_append]
    simp
  omega
end Go.Proofs.YtpggpdbipajchaaDoor
namespace Go.Proofs.YtpggpdbipajchaaDoor
open Go.RowKit
set_option linter.all false
theorem idx_cs : ∀ (t r : List UInt8), (∀ b ∈ t, ¬ b = 44) → Lib.index (t ++ 44 :: 32 :: r) [44, 32] = t.length
  | [], r, _ => by simp [Lib.index, List.isPrefixOf]
  | b :: t, r, h => by
    have hb : ¬ (44 : UInt8) = b := fun e => h b (by simp) e.symm
    have ih := idx_cs t r fun x hx => h x (by simp [hx])
    rw [List.cons_append, Lib.index, show ([44, 32] : List UInt8).isPrefixOf (b :: (t ++ 44 :: 32 :: r)) = false by simp [List.isPrefixOf, hb]]
    rw [if_neg (by decide), ih, if_neg (by first | (simp; done) | (simp; omega))]
    simp
theorem idx_no : ∀ (t : List UInt8), (∀ b ∈ t, ¬ b = 44) → Lib.index t [44, 32] = -1
  | [], _ => by simp [Lib.index]
  | b :: t, h => by
    have hb : ¬ (44 : UInt8) = b := fun e => h b (by simp) e.symm
    have ih := idx_no t fun x hx => h x (by simp [hx])
    rw [Lib.index, show ([44, 32] : List UInt8).isPrefixOf (b :: t) = false by simp [List.isPrefixOf, hb]]
    rw [if_neg (by decide), ih]
    rfl
theorem split_cs : ∀ (ts : List (List UInt8)), ts ≠ [] → (∀ t ∈ ts, ∀ b ∈ t, ¬ b = 44) → Lib.splitK [44, 32] 0 (Lib.count (Lib.join ts [44, 32]) [44, 32]) (Lib.join ts [44, 32]) = ts
  | [], h, _ => absurd rfl h
  | [t], _, h => by
    have hi := idx_no t (h t (by simp))
    rw [Lib.join_one, Lib.count_miss hi]
    rfl
  | t :: u :: ts, _, h => by
    have ih := split_cs (u :: ts) (by simp) fun x hx => h x (by simp [hx])
    have e : Lib.join (t :: u :: ts) [44, 32] = t ++ 44 :: 32 :: Lib.join (u :: ts) [44, 32] := by
      rw [Lib.join_cons, Lib.join_cons]
      simp [Lib.joinTail]
    have hi := idx_cs t (Lib.join (u :: ts) [44, 32]) (h t (by simp))
    have e2 : (t ++ 44 :: 32 :: Lib.join (u :: ts) [44, 32]).drop (t.length + ([44, 32] : List UInt8).length) = Lib.join (u :: ts) [44, 32] := by
      rw [show t ++ 44 :: 32 :: Lib.join (u :: ts) [44, 32] = (t ++ [44, 32]) ++ Lib.join (u :: ts) [44, 32] by simp, List.drop_left' (by simp)]
    have e3 : (t ++ 44 :: 32 :: Lib.join (u :: ts) [44, 32]).take (t.length + 0) = t := List.take_left' (by simp)
    rw [e, Lib.count_hit (by simp) hi, e2, Nat.add_comm 1]
    unfold Lib.splitK
    rw [hi, if_neg (by first | (simp; done) | (simp; omega)), Int.toNat_natCast, e2, e3, ih]
def valL (l : List UInt8) : Nat := l.foldl (fun n b => 10 * n + (b.toNat - 48)) 0
theorem valL_snoc (l : List UInt8) (b : UInt8) : valL (l ++ [b]) = 10 * valL l + (b.toNat - 48) := by simp [valL, List.foldl_append]
theorem dig_nat {d : Nat} (h : d < 10) : (UInt8.ofNat (48 + d)).toNat = 48 + d := by
  show (48 + d) % 256 = 48 + d
  omega
theorem dec_val (u : Nat) : valL (Lib.decDigits u) = u ∧ ∀ b ∈ Lib.decDigits u, 48 ≤ b.toNat ∧ b.toNat ≤ 57 := by
  induction u using Nat.strongRecOn with
  | _ u ih =>
    by_cases h : u < 10
    · rw [Lib.decDigits, dif_pos h]
      refine ⟨?_, fun b hb => ?_⟩
      · show 10 * 0 + ((UInt8.ofNat (48 + u)).toNat - 48) = u
        rw [dig_nat h]; omega
      · simp only [List.mem_singleton] at hb
        rw [hb, dig_nat h]; omega
    · obtain ⟨h1, h2⟩ := ih (u / 10) (by omega)
      rw [Lib.decDigits, dif_neg h]
      refine ⟨?_, fun b hb => ?_⟩
      · rw [valL_snoc, h1, dig_nat (Nat.mod_lt _ (by omega))]; omega
      · rcases List.mem_append.1 hb with hb | hb
        · exact h2 b hb
        · simp only [List.mem_singleton] at hb
          rw [hb, dig_nat (Nat.mod_lt _ (by omega))]; omega
theorem itoa_val {n : Int} (h : 0 ≤ n) : (itoaS n).data.toList = Lib.decDigits n.toNat := by
  unfold itoaS Lib.itoa
  rw [if_neg (by omega)]
theorem runT_nocomma {r : Rn} (h1 : 0 ≤ r.1) (h2 : 0 ≤ r.2) : ∀ b ∈ (runT r).data.toList, ¬ b = 44 := by
  have hd : ∀ n : Int, 0 ≤ n → ∀ b ∈ (itoaS n).data.toList, ¬ b = 44 := fun n hn b hb e => by
    rw [itoa_val hn] at hb
    have := (dec_val n.toNat).2 b hb
    subst e
    simp at this
  intro b hb
  unfold runT at hb
  split at hb
  · exact hd _ h1 b hb
  · rw [ByteArray.data_append, Array.toList_append, ByteArray.data_append, Array.toList_append] at hb
    rcases List.mem_append.1 hb with hb | hb
    · rcases List.mem_append.1 hb with hb | hb
      · exact hd _ h1 b hb
      · intro e
        subst e
        revert hb
        decide
    · exact hd _ h2 b hb
theorem parse_digits : ∀ (l : List UInt8) (acc : Nat), (∀ b ∈ l, 48 ≤ b.toNat ∧ b.toNat ≤ 57) → l.foldl (fun n b => 10 * n + (b.toNat - 48)) acc < 1000000 → Lib.parseUint10 acc l = .ok (l.foldl (fun n b => 10 * n + (b.toNat - 48)) acc)
  | [], acc, _, _ => rfl
  | c :: r, acc, h, hl => by
    have hc := h c (by simp)
    have hge : ∀ (r : List UInt8) (a : Nat), a ≤ r.foldl (fun n b => 10 * n + (b.toNat - 48)) a := by
      intro r
      induction r with
      | nil => intro a; exact Nat.le_refl _
      | cons x r ih => intro a; exact Nat.le_trans (by omega) (ih (10 * a + (x.toNat - 48)))
    have h1 := hge r (10 * acc + (c.toNat - 48))
    rw [List.foldl_cons] at hl ⊢
    unfold Lib.parseUint10
    rw [if_pos hc, if_neg (by omega), if_neg (by omega), show acc * 10 + (c.toNat - 48) = 10 * acc + (c.toNat - 48) by omega]
    exact parse_digits r _ (fun b hb => h b (by simp [hb])) hl
theorem atoi_itoa {n : Int} (h : 0 ≤ n) (h2 : n < 1000000) : Lib.atoiAll (itoaS n).data.toList = .ok n := by
  obtain ⟨h3, h4⟩ := dec_val n.toNat
  rw [itoa_val h]
  obtain ⟨b, r, h5, h6⟩ := dec_head n.toNat
  have hp := parse_digits (Lib.decDigits n.toNat) 0 h4 (by have : valL (Lib.decDigits n.toNat) < 1000000 := by rw [h3]; omega
                                                           exact this)
  have hv : List.foldl (fun n b => 10 * n + (b.toNat - 48)) 0 (Lib.decDigits n.toNat) = n.toNat := h3
  rw [hv] at hp
  rw [h5] at hp h4 ⊢
  have hb := h4 b (by simp)
  unfold Lib.atoiAll
  have e1 : ¬ (b.toNat = 43 ∨ b.toNat = 45) := by omega
  have e2 : ¬ b.toNat = 45 := by omega
  have e3 : ¬ b.toNat = 43 := by omega
  simp only [e2, e3, or_self, if_false, Lib.parseMag, List.cons_ne_nil, hp, not_false_eq_true, true_and, false_and]
  rw [if_neg (by omega)]
  congr 1
  omega
end Go.Proofs.YtpggpdbipajchaaDoor
namespace Go.Proofs.YtpggpdbipajchaaDoor
open Go.RowKit
set_option linter.all false
def rn0 : Rn := (0, 0)
section
variable {β : Type} {i : Nat}
theorem get_rn {g : Rn → PV} {l : List Rn} (h : i < l.length) : ((l[i]?).map g).getD .dead = g ((l[i]?).getD rn0) := by simp [h]
theorem omg_rn {g : Rn → β} {l : List Rn} (h : i < l.length) : Option.map g l[i]? = some (g ((l[i]?).getD rn0)) := by simp [h]
theorem set_rn {l : List Rn} {a b : Int} : (l.map fun x => PV.agg [.val (.int .i64 x.1), .val (.int .i64 x.2)]).set i (.agg [.val (.int .i64 a), .val (.int .i64 b)]) = (l.set i (a, b)).map fun x => PV.agg [.val (.int .i64 x.1), .val (.int .i64 x.2)] := by rw [List.map_set]
end
attribute [push_cast]
  get_rn omg_rn set_rn
abbrev pvR (x : Rn) : PV := .agg [.val (.int .i64 x.1), .val (.int .i64 x.2)]
def RunI (l : List Int) (k : Nat) (R : List Rn) : Prop := R = runsR (l.take k)
theorem pages_at {l : List Int} (h : pagesB l = true) {i : Nat} (hi : i < l.length) : 1 ≤ l[i]?.getD 0 ∧ l[i]?.getD 0 ≤ 999 := ((pagesB_iff.1 h).1 i hi).1
theorem pages_len {l : List Int} (h : pagesB l = true) : l.length ≤ 30 := (pagesB_iff.1 h).2
theorem RunI.zero (l : List Int) : RunI l 0 [] := rfl
theorem RunI.last {l : List Int} {k : Nat} {R : List Rn} (h : RunI l k R) (h0 : 0 < k) (hk : k ≤ l.length) : 0 < R.length ∧ ∃ a, R[R.length - 1]?.getD rn0 = (a, l[k - 1]?.getD 0) := by
  obtain ⟨R0, a, hR⟩ := runs_last (l.take (k - 1)) (l[k - 1]?.getD 0)
  rw [← take_snoc (show k - 1 < l.length by omega), show k - 1 + 1 = k by omega] at hR
  unfold RunI at h
  rw [h, hR]
  simp
theorem RunI.start {l : List Int} {R : List Rn} (h : RunI l 0 R) (h0 : 0 < l.length) : RunI l 1 ([] ++ [(l[0]?.getD 0, l[0]?.getD 0)]) := by
  unfold RunI
  rw [take_snoc h0]
  rfl
theorem RunI.next {l : List Int} {k : Nat} {R : List Rn} (h : RunI l k R) (h0 : 0 < k) (hk : k < l.length) :
    RunI l (k + 1) (if l[k - 1]?.getD 0 + 1 = l[k]?.getD 0 then R.set (R.length - 1) ((R[R.length - 1]?.getD rn0).1, l[k]?.getD 0) else R ++ [(l[k]?.getD 0, l[k]?.getD 0)]) := by
  obtain ⟨R0, a, hR⟩ := runs_last (l.take (k - 1)) (l[k - 1]?.getD 0)
  rw [← take_snoc (show k - 1 < l.length by omega), show k - 1 + 1 = k by omega] at hR
  unfold RunI at h ⊢
  rw [take_snoc hk, runsR_snoc, hR, runStep_snoc, h, hR]
  dsimp only
  split
  · simp
  · rfl
theorem runs_le (l : List Int) : (runsR l).length ≤ l.length := by
  have key : ∀ n, ∀ l : List Int, l.length = n → (runsR l).length ≤ l.length := by
    intro n
    induction n with
    | zero => intro l h; rw [List.eq_nil_of_length_eq_zero h]; exact Nat.le_refl _
    | succ n ih =>
      intro l h
      rcases List.eq_nil_or_concat l with h1 | ⟨l0, x, h1⟩
      · subst h1; exact Nat.le_refl _
      · rw [List.concat_eq_append] at h1
        subst h1
        rw [List.length_append, List.length_singleton] at h ⊢
        have := ih l0 (by omega)
        rw [runsR_snoc]
        unfold runStep
        split
        · rename_i r hr
          split
          · rw [List.length_append, List.length_dropLast, List.length_singleton]; omega
          · rw [List.length_append, List.length_singleton]; omega
        · simp
  exact key _ l rfl
theorem runs_rng {l : List Int} (h : ∀ x ∈ l, 1 ≤ x ∧ x ≤ 999) : ∀ r ∈ runsR l, (1 ≤ r.1 ∧ r.1 ≤ 999) ∧ (1 ≤ r.2 ∧ r.2 ≤ 999) := by
  have key : ∀ n, ∀ l : List Int, l.length = n → (∀ x ∈ l, 1 ≤ x ∧ x ≤ 999) → ∀ r ∈ runsR l, (1 ≤ r.1 ∧ r.1 ≤ 999) ∧ (1 ≤ r.2 ∧ r.2 ≤ 999) := by
    intro n
    induction n with
    | zero => intro l h _ r hr; rw [List.eq_nil_of_length_eq_zero h] at hr; simp [runsR] at hr
    | succ n ih =>
      intro l h hx r hr
      rcases List.eq_nil_or_concat l with h1 | ⟨l0, x, h1⟩
      · subst h1; simp [runsR] at hr
      · rw [List.concat_eq_append] at h1
        subst h1
        rw [List.length_append, List.length_singleton] at h
        have ih := ih l0 (by omega) fun y hy => hx y (List.mem_append.2 (.inl hy))
        have hxx := hx x (by simp)
        rw [runsR_snoc] at hr
        rcases List.eq_nil_or_concat (runsR l0) with h2 | ⟨R, z, h2⟩
        · rw [h2] at hr
          simp only [runStep, List.getLast?_nil, List.mem_singleton] at hr
          subst hr
          exact ⟨hxx, hxx⟩
        · rw [List.concat_eq_append] at h2
          rw [h2] at hr ih
          rw [runStep_snoc] at hr
          have hz := ih z (by simp)
          split at hr
          · rcases List.mem_append.1 hr with hr | hr
            · exact ih r (List.mem_append.2 (.inl hr))
            · simp only [List.mem_singleton] at hr
              subst hr
              exact ⟨hz.1, hxx⟩
          · rcases List.mem_append.1 hr with hr | hr
            · exact ih r hr
            · simp only [List.mem_singleton] at hr
              subst hr
              exact ⟨hxx, hxx⟩
  exact key _ l rfl h
theorem itoaS_size4 {n : Int} (h : 0 ≤ n) (h2 : n ≤ 9999) : (itoaS n).size ≤ 4 := by
  have e : (itoaS n).size = Lib.nDigits n.toNat := by
    unfold itoaS Lib.itoa
    rw [if_neg (by omega), ← Lib.decDigits_length]
    rfl
  rw [e]
  by_cases h1 : n.toNat < 10
  · rw [Lib.nDigits_small h1]; omega
  · rw [Lib.nDigits_big h1]
    by_cases h3 : n.toNat / 10 < 10
    · rw [Lib.nDigits_small h3]; omega
    · rw [Lib.nDigits_big h3]
      by_cases h4 : n.toNat / 10 / 10 < 10
      · rw [Lib.nDigits_small h4]; omega
      · rw [Lib.nDigits_big h4, Lib.nDigits_small (by omega)]; omega
theorem runT_size {a b : Int} (h : (0 ≤ a ∧ a ≤ 9999) ∧ 0 ≤ b ∧ b ≤ 9999) : (runT (a, b)).size ≤ 9 := by
  have h1 := itoaS_size4 h.1.1 h.1.2
  have h2 := itoaS_size4 h.2.1 h.2.2
  unfold runT
  split
  · dsimp only; omega
  · rw [ByteArray.size_append, ByteArray.size_append]
    have : (⟨#[45]⟩ : ByteArray).size = 1 := rfl
    dsimp only
    omega
theorem runT_sizeR {r : Rn} (h : (0 ≤ r.1 ∧ r.1 ≤ 9999) ∧ 0 ≤ r.2 ∧ r.2 ≤ 9999) : (runT r).size ≤ 9 := runT_size h
def φRunT : Fun := F2 dI dI fun a b => if (0 ≤ a ∧ a ≤ 9999) ∧ 0 ≤ b ∧ b ≤ 9999 then some (.val (.string (runT (a, b)))) else none
theorem φRunT_ap {a b : Int} (h : (0 ≤ a ∧ a ≤ 9999) ∧ 0 ≤ b ∧ b ≤ 9999) : φRunT [.val (.int .i64 a), .val (.int .i64 b)] = some (.val (.string (runT (a, b)))) := (F2_ap (A := dI) (B := dI) a b).trans (if_pos h)
noncomputable def GRt : Ctx := ⟨fun f => if f = 55 then some φItoa else none, fun f => none⟩
theorem GRt_ok : SoundΓ Tryd.prog GRt := ⟨(fun f φ h => by
  unfold GRt at h
  dsimp only at h
  split at h
  · rename_i hf; cases h; subst hf; exact ⟨⟨_, Tryd.func55, rfl, rfl⟩, itoa_ok⟩
  cases h), (fun f φ h => by
  unfold GRt at h
  dsimp only at h
  cases h)⟩
theorem GRt_55 (ob : Objs) (ps : List PV) : evCall GRt ob 55 ps = (ps.mapM (reify false 0 ob fuel)).bind φItoa := by
  have h : GRt.fn 55 = some φItoa := by simp [GRt]
  unfold evCall
  rw [h]
  cases ps.mapM (reify false 0 ob fuel) <;> rfl
theorem runText_ok : Sound Tryd.prog 68 φRunT := by
  refine sound_pq mixed GRt_ok Tryd.func68 rfl 16 rfl [.tmp 4] rfl (by kernel_rfl) fun ps r hr => ?_
  obtain ⟨a, b, rfl, hq⟩ := F2_some hr
  clear hr
  split at hq
  case isFalse => cases hq
  case isTrue hpre =>
  cases hq
  refine ⟨by simp, ?_⟩
  simp only [dIs, dUs, dSs, dI_e, dU_e, dB_e, dS_e, dFn_e, dL_e, dA2_e, dA3_e, dA4_e, dA5_e]
  have ap1 := φItoa_ap (n := a) ⟨by omega, by omega⟩
  have ap2 := φItoa_ap (n := b) ⟨by omega, by omega⟩
  have h1 := itoaS_size4 hpre.1.1 hpre.1.2
  have h2 := itoaS_size4 hpre.2.1 hpre.2.2
  have hone : (⟨#[45]⟩ : ByteArray).size = 1 := rfl
  unfold runT
  by_cases hab : a = b
  · rw [if_pos hab]
    have grt_c55 := GRt_55
    (repeat' (first | (with_reducible first | apply i_seq | apply i_block | apply i_skip | apply i_exit | apply i_ret | apply i_kS | apply i_kSx | apply i_kSr | apply i_kL | apply i_kLx | apply i_kLr | apply i_kB | apply i_kBr | apply i_kBs | apply i_nil) | ((with_reducible apply i_region); (focus (simp only [List.map_cons, List.map_nil] <;> exact rfl))) | ((with_reducible apply i_draw); (focus (simp only [List.map_cons, List.map_nil] <;> exact rfl)); (focus (decide +kernel))) | ((with_reducible apply i_kBo); (focus rfl)) | ((first | ((with_reducible apply i_V); (focus rfl); (focus rfl); (focus rfl)) | ((with_reducible apply i_E); (focus rfl); (focus (first | rfl | (simp only [push_cast, ↓reduceIte, effOk, touch, refsOf, List.flatMap_cons, List.flatMap_nil])))) | ((with_reducible apply i_S); (focus rfl); (focus (first | rfl | (simp only [push_cast, ↓reduceIte, effOk, touch, refsOf, List.flatMap_cons, List.flatMap_nil])))) | ((with_reducible apply i_Vq); (focus rfl); (focus rfl)) | ((with_reducible apply i_Vp); (focus rfl); (focus rfl); (focus rfl)) | (with_reducible first | apply i_Gb | apply i_cond)); (focus (simp (disch := (first | omega | (simp only [push_cast]; done) | (simp only [push_cast]; omega) | ((try simp only [push_cast]); (with_reducible first | apply sel_lt | apply sel_ge); (focus decide); (focus (simp only [push_cast]; omega))))) only [push_cast, ↓reduceIte, Nat.reduceEqDiff, Nat.reduceBEq, Nat.reduceAdd, Nat.reduceSub, Int.reduceToNat, *] <;> with_reducible exact rfl)); all_goals try (intro hX; first | (cases hX; done) | ((with_reducible first | have hX0 : true = true := hX | have hX0 : false = false := hX); clear hX0 hX) | ((try simp only [decide_eq_true_eq, decide_eq_false_iff_not, Bool.not_eq_true', Bool.not_eq_false'] at hX); (try have hXb := inB_iff.1 hX)))))); all_goals try (exfalso; omega)
    all_goals ((first | apply i_end | apply i_endN); simp (disch := (first | omega | (simp only [push_cast]; done) | (simp only [push_cast]; omega) | ((try simp only [push_cast]); (with_reducible first | apply sel_lt | apply sel_ge); (focus decide); (focus (simp only [push_cast]; omega))))) only [push_cast, ↓reduceIte, Nat.reduceEqDiff, Nat.reduceBEq, Nat.reduceAdd, Nat.reduceSub, Int.reduceToNat, *])
  · rw [if_neg hab]
    have grt_c55 := GRt_55
    (repeat' (first | (with_reducible first | apply i_seq | apply i_block | apply i_skip | apply i_exit | apply i_ret | apply i_kS | apply i_kSx | apply i_kSr | apply i_kL | apply i_kLx | apply i_kLr | apply i_kB | apply i_kBr | apply i_kBs | apply i_nil) | ((with_reducible apply i_region); (focus (simp only [List.map_cons, List.map_nil] <;> exact rfl))) | ((with_reducible apply i_draw); (focus (simp only [List.map_cons, List.map_nil] <;> exact rfl)); (focus (decide +kernel))) | ((with_reducible apply i_kBo); (focus rfl)) | ((first | ((with_reducible apply i_V); (focus rfl); (focus rfl); (focus rfl)) | ((with_reducible apply i_E); (focus rfl); (focus (first | rfl | (simp only [push_cast, ↓reduceIte, effOk, touch, refsOf, List.flatMap_cons, List.flatMap_nil])))) | ((with_reducible apply i_S); (focus rfl); (focus (first | rfl | (simp only [push_cast, ↓reduceIte, effOk, touch, refsOf, List.flatMap_cons, List.flatMap_nil])))) | ((with_reducible apply i_Vq); (focus rfl); (focus rfl)) | ((with_reducible apply i_Vp); (focus rfl); (focus rfl); (focus rfl)) | (with_reducible first | apply i_Gb | apply i_cond)); (focus (simp (disch := (first | omega | (simp only [push_cast]; done) | (simp only [push_cast]; omega) | ((try simp only [push_cast]); (with_reducible first | apply sel_lt | apply sel_ge); (focus decide); (focus (simp only [push_cast]; omega))))) only [push_cast, ↓reduceIte, Nat.reduceEqDiff, Nat.reduceBEq, Nat.reduceAdd, Nat.reduceSub, Int.reduceToNat, *] <;> with_reducible exact rfl)); all_goals try (intro hX; first | (cases hX; done) | ((with_reducible first | have hX0 : true = true := hX | have hX0 : false = false := hX); clear hX0 hX) | ((try simp only [decide_eq_true_eq, decide_eq_false_iff_not, Bool.not_eq_true', Bool.not_eq_false'] at hX); (try have hXb := inB_iff.1 hX)))))); all_goals try (exfalso; omega)
    all_goals ((first | apply i_end | apply i_endN); simp (disch := (first | omega | (simp only [push_cast]; done) | (simp only [push_cast]; omega) | ((try simp only [push_cast]); (with_reducible first | apply sel_lt | apply sel_ge); (focus decide); (focus (simp only [push_cast]; omega))))) only [push_cast, ↓reduceIte, Nat.reduceEqDiff, Nat.reduceBEq, Nat.reduceAdd, Nat.reduceSub, Int.reduceToNat, *])
def φRuns : Fun := F1 dIs fun l => if pagesB l = true then some (.lst true 2 ((runsR l).map pvR)) else none
theorem φRuns_ap {l : List Int} (h : pagesB l = true) : φRuns [.lst false 1 (l.map fun n => .val (.int .i64 n))] = some (.lst true 2 ((runsR l).map pvR)) := (F1_ap (A := dIs) l).trans (if_pos h)
set_option maxHeartbeats 16000000 in
theorem runsOf_ok : Sound Tryd.prog 67 φRuns := by
  refine sound_pqW mixed GE_ok Tryd.func67 rfl 41 rfl [.tmp 2] rfl (by kernel_rfl) fun ps r hr => ?_
  obtain ⟨l, rfl, hq⟩ := F1_some hr
  clear hr
  split at hq
  case isFalse => cases hq
  case isTrue hpre =>
  cases hq
  refine ⟨by simp, ?_⟩
  simp only [dIs, dUs, dSs, dI_e, dU_e, dB_e, dS_e, dFn_e, dL_e, dA2_e, dA3_e, dA4_e, dA5_e]
  have hlen := pages_len hpre
  have hat := fun i hi => pages_at hpre (i := i) hi
  clear hpre
  (repeat' (first | (with_reducible first | apply i_seq | apply i_block | apply i_skip | apply i_exit | apply i_ret | apply i_kS | apply i_kSx | apply i_kSr | apply i_kL | apply i_kLx | apply i_kLr | apply i_kB | apply i_kBr | apply i_kBs | apply i_nil) | ((with_reducible apply i_region); (focus (simp only [List.map_cons, List.map_nil] <;> exact rfl))) | ((with_reducible apply i_draw); (focus (simp only [List.map_cons, List.map_nil] <;> exact rfl)); (focus (decide +kernel))) | ((with_reducible apply i_kBo); (focus rfl)) | ((first | ((with_reducible apply i_V); (focus rfl); (focus rfl); (focus rfl)) | ((with_reducible apply i_E); (focus rfl); (focus (first | rfl | (simp only [push_cast, ↓reduceIte, effOk, touch, refsOf, List.flatMap_cons, List.flatMap_nil])))) | ((with_reducible apply i_S); (focus rfl); (focus (first | rfl | (simp only [push_cast, ↓reduceIte, effOk, touch, refsOf, List.flatMap_cons, List.flatMap_nil])))) | ((with_reducible apply i_Vq); (focus rfl); (focus rfl)) | ((with_reducible apply i_Vp); (focus rfl); (focus rfl); (focus rfl)) | (with_reducible first | apply i_Gb | apply i_cond)); (focus (simp (disch := (first | omega | (simp only [push_cast]; done) | (simp only [push_cast]; omega) | ((try simp only [push_cast]); (with_reducible first | apply sel_lt | apply sel_ge); (focus decide); (focus (simp only [push_cast]; omega))))) only [push_cast, ↓reduceIte, Nat.reduceEqDiff, Nat.reduceBEq, Nat.reduceAdd, Nat.reduceSub, Int.reduceToNat, *] <;> with_reducible exact rfl)); all_goals try (intro hX; first | (cases hX; done) | ((with_reducible first | have hX0 : true = true := hX | have hX0 : false = false := hX); clear hX0 hX) | ((try simp only [decide_eq_true_eq, decide_eq_false_iff_not, Bool.not_eq_true', Bool.not_eq_false'] at hX); (try have hXb := inB_iff.1 hX)))))); all_goals try (exfalso; omega)
  refine i_loop (α := Nat × List Rn × Nat × Nat) mixed (fun s => [(3, nP 2 (s.2.1.map pvR) s.2.2.1), (7, .lst false 1 (l.map fun n => .val (.int .i64 n))), (8, iv l.length), (9, iv s.1)])
    (fun s => nO 80 2 (s.2.1.map pvR) s.2.2.1) (fun s => s.2.2.2)
    (fun s => s.1 ≤ l.length ∧ RunI l s.1 s.2.1 ∧ (0 < s.2.1.length → s.2.2.1 < s.2.2.2)) (fun s => l.length - s.1) (by kernel_rfl) (0, [], 0, 0) ⟨Nat.zero_le _, RunI.zero l, by simp⟩ ?_ ?_ rfl ?_
  · simp (disch := (first | omega | (simp only [push_cast]; done) | (simp only [push_cast]; omega) | ((try simp only [push_cast]); (with_reducible first | apply sel_lt | apply sel_ge); (focus decide); (focus (simp only [push_cast]; omega))))) only [push_cast, ↓reduceIte, Nat.reduceEqDiff, Nat.reduceBEq, Nat.reduceAdd, Nat.reduceSub, Int.reduceToNat, List.length_append, *]
  · simp (disch := (first | omega | (simp only [push_cast]; done) | (simp only [push_cast]; omega) | ((try simp only [push_cast]); (with_reducible first | apply sel_lt | apply sel_ge); (focus decide); (focus (simp only [push_cast]; omega))))) only [push_cast, ↓reduceIte, Nat.reduceEqDiff, Nat.reduceBEq, Nat.reduceAdd, Nat.reduceSub, Int.reduceToNat, List.length_append, *]
  rintro ⟨k, R, x, y⟩ ⟨hk, hI, hxy⟩
  dsimp only at hk hI hxy
  have hRl : R.length ≤ 30 := by
    have := runs_le (l.take k)
    rw [← show R = runsR (l.take k) from hI, List.length_take] at this
    omega
  by_cases h0 : k < l.length
  · have hak := hat k h0
    have hak1 := hat (k - 1)
    clear hat
    by_cases hk0 : k = 0
    · subst hk0
      have hst := Lib.hid (hI.start h0)
      have hR0 : R = [] := hI
      subst hR0
      clear hI hak1
      (repeat' (first | (with_reducible first | apply i_seq | apply i_block | apply i_skip | apply i_exit | apply i_ret | apply i_kS | apply i_kSx | apply i_kSr | apply i_kL | apply i_kLx | apply i_kLr | apply i_kB | apply i_kBr | apply i_kBs | apply i_nil) | ((with_reducible apply i_region); (focus (simp only [List.map_cons, List.map_nil] <;> exact rfl))) | ((with_reducible apply i_draw); (focus (simp only [List.map_cons, List.map_nil] <;> exact rfl)); (focus (decide +kernel))) | ((with_reducible apply i_kBo); (focus rfl)) | ((first | ((with_reducible apply i_V); (focus rfl); (focus rfl); (focus rfl)) | ((with_reducible apply i_E); (focus rfl); (focus (first | rfl | (simp only [push_cast, ↓reduceIte, effOk, touch, refsOf, List.flatMap_cons, List.flatMap_nil])))) | ((with_reducible apply i_S); (focus rfl); (focus (first | rfl | (simp only [push_cast, ↓reduceIte, effOk, touch, refsOf, List.flatMap_cons, List.flatMap_nil])))) | ((with_reducible apply i_Vq); (focus rfl); (focus rfl)) | ((with_reducible apply i_Vp); (focus rfl); (focus rfl); (focus rfl)) | (with_reducible first | apply i_Gb | apply i_cond)); (focus (simp (disch := (first | omega | (simp only [push_cast]; done) | (simp only [push_cast]; omega) | ((try simp only [push_cast]); (with_reducible first | apply sel_lt | apply sel_ge); (focus decide); (focus (simp only [push_cast]; omega))))) only [push_cast, ↓reduceIte, Nat.reduceEqDiff, Nat.reduceBEq, Nat.reduceAdd, Nat.reduceSub, Int.reduceToNat, *] <;> with_reducible exact rfl)); all_goals try (intro hX; first | (cases hX; done) | ((with_reducible first | have hX0 : true = true := hX | have hX0 : false = false := hX); clear hX0 hX) | ((try simp only [decide_eq_true_eq, decide_eq_false_iff_not, Bool.not_eq_true', Bool.not_eq_false'] at hX); (try have hXb := inB_iff.1 hX)))))); all_goals try (exfalso; omega)
      refine ⟨(1, [] ++ [(l[0]?.getD 0, l[0]?.getD 0)], y + 1, y + 2), ⟨by dsimp only; omega, hst.out, fun _ => by dsimp only; omega⟩, by dsimp only; omega, ?_, ?_, rfl⟩
      · simp (disch := (first | omega | (simp only [push_cast]; done) | (simp only [push_cast]; omega) | ((try simp only [push_cast]); (with_reducible first | apply sel_lt | apply sel_ge); (focus decide); (focus (simp only [push_cast]; omega))))) only [push_cast, ↓reduceIte, Nat.reduceEqDiff, Nat.reduceBEq, Nat.reduceAdd, Nat.reduceSub, Int.reduceToNat, List.length_append, *]
      · simp (disch := (first | omega | (simp only [push_cast]; done) | (simp only [push_cast]; omega) | ((try simp only [push_cast]); (with_reducible first | apply sel_lt | apply sel_ge); (focus decide); (focus (simp only [push_cast]; omega))))) only [push_cast, ↓reduceIte, Nat.reduceEqDiff, Nat.reduceBEq, Nat.reduceAdd, Nat.reduceSub, Int.reduceToNat, List.length_append, *]
    · have hnx := hI.next (by omega) h0
      obtain ⟨hp, a, hla⟩ := hI.last (by omega) hk
      rw [hla] at hnx
      have hxy := hxy hp
      have hak1 := hak1 (by omega)
      have hap : 0 < (R.map pvR).length := by rw [List.length_map]; exact hp
      have hap2 : 0 < ((R.set (R.length - 1) (a, l[k]?.getD 0)).map pvR).length := by rw [List.length_map, List.length_set]; exact hp
      have hap3 : 0 < ((R ++ [(l[k]?.getD 0, l[k]?.getD 0)]).map pvR).length := by simp
      replace hI := Lib.hid hI
      by_cases hc : l[k - 1]?.getD 0 + 1 = l[k]?.getD 0
      · rw [if_pos hc] at hnx
        replace hnx := Lib.hid hnx
        simp only [nP_pos hap, nO_pos hap, List.length_map]
        (repeat' (first | (with_reducible first | apply i_seq | apply i_block | apply i_skip | apply i_exit | apply i_ret | apply i_kS | apply i_kSx | apply i_kSr | apply i_kL | apply i_kLx | apply i_kLr | apply i_kB | apply i_kBr | apply i_kBs | apply i_nil) | ((with_reducible apply i_region); (focus (simp only [List.map_cons, List.map_nil] <;> exact rfl))) | ((with_reducible apply i_draw); (focus (simp only [List.map_cons, List.map_nil] <;> exact rfl)); (focus (decide +kernel))) | ((with_reducible apply i_kBo); (focus rfl)) | ((first | ((with_reducible apply i_V); (focus rfl); (focus rfl); (focus rfl)) | ((with_reducible apply i_E); (focus rfl); (focus (first | rfl | (simp only [push_cast, ↓reduceIte, effOk, touch, refsOf, List.flatMap_cons, List.flatMap_nil])))) | ((with_reducible apply i_S); (focus rfl); (focus (first | rfl | (simp only [push_cast, ↓reduceIte, effOk, touch, refsOf, List.flatMap_cons, List.flatMap_nil])))) | ((with_reducible apply i_Vq); (focus rfl); (focus rfl)) | ((with_reducible apply i_Vp); (focus rfl); (focus rfl); (focus rfl)) | (with_reducible first | apply i_Gb | apply i_cond)); (focus (simp (disch := (first | omega | (simp only [push_cast]; done) | (simp only [push_cast]; omega) | ((try simp only [push_cast]); (with_reducible first | apply sel_lt | apply sel_ge); (focus decide); (focus (simp only [push_cast]; omega))))) only [push_cast, ↓reduceIte, Nat.reduceEqDiff, Nat.reduceBEq, Nat.reduceAdd, Nat.reduceSub, Int.reduceToNat, *] <;> with_reducible exact rfl)); all_goals try (intro hX; first | (cases hX; done) | ((with_reducible first | have hX0 : true = true := hX | have hX0 : false = false := hX); clear hX0 hX) | ((try simp only [decide_eq_true_eq, decide_eq_false_iff_not, Bool.not_eq_true', Bool.not_eq_false'] at hX); (try have hXb := inB_iff.1 hX)))))); all_goals try (exfalso; omega)
        refine ⟨(k + 1, R.set (R.length - 1) (a, l[k]?.getD 0), x, y), ⟨by dsimp only; omega, hnx.out, fun _ => hxy⟩, by dsimp only; omega, ?_, ?_, rfl⟩
        · simp (disch := (first | omega | (simp only [push_cast]; done) | (simp only [push_cast]; omega) | ((try simp only [push_cast]); (with_reducible first | apply sel_lt | apply sel_ge); (focus decide); (focus (simp only [push_cast]; omega))))) only [push_cast, ↓reduceIte, Nat.reduceEqDiff, Nat.reduceBEq, Nat.reduceAdd, Nat.reduceSub, Int.reduceToNat, nP_pos hap2, List.length_set, List.length_map, *]
        · simp (disch := (first | omega | (simp only [push_cast]; done) | (simp only [push_cast]; omega) | ((try simp only [push_cast]); (with_reducible first | apply sel_lt | apply sel_ge); (focus decide); (focus (simp only [push_cast]; omega))))) only [push_cast, ↓reduceIte, Nat.reduceEqDiff, Nat.reduceBEq, Nat.reduceAdd, Nat.reduceSub, Int.reduceToNat, nO_pos hap2, *]
      · rw [if_neg hc] at hnx
        replace hnx := Lib.hid hnx
        simp only [nP_pos hap, nO_pos hap, List.length_map]
        (repeat' (first | (with_reducible first | apply i_seq | apply i_block | apply i_skip | apply i_exit | apply i_ret | apply i_kS | apply i_kSx | apply i_kSr | apply i_kL | apply i_kLx | apply i_kLr | apply i_kB | apply i_kBr | apply i_kBs | apply i_nil) | ((with_reducible apply i_region); (focus (simp only [List.map_cons, List.map_nil] <;> exact rfl))) | ((with_reducible apply i_draw); (focus (simp only [List.map_cons, List.map_nil] <;> exact rfl)); (focus (decide +kernel))) | ((with_reducible apply i_kBo); (focus rfl)) | ((first | ((with_reducible apply i_V); (focus rfl); (focus rfl); (focus rfl)) | ((with_reducible apply i_E); (focus rfl); (focus (first | rfl | (simp only [push_cast, ↓reduceIte, effOk, touch, refsOf, List.flatMap_cons, List.flatMap_nil])))) | ((with_reducible apply i_S); (focus rfl); (focus (first | rfl | (simp only [push_cast, ↓reduceIte, effOk, touch, refsOf, List.flatMap_cons, List.flatMap_nil])))) | ((with_reducible apply i_Vq); (focus rfl); (focus rfl)) | ((with_reducible apply i_Vp); (focus rfl); (focus rfl); (focus rfl)) | (with_reducible first | apply i_Gb | apply i_cond)); (focus (simp (disch := (first | omega | (simp only [push_cast]; done) | (simp only [push_cast]; omega) | ((try simp only [push_cast]); (with_reducible first | apply sel_lt | apply sel_ge); (focus decide); (focus (simp only [push_cast]; omega))))) only [push_cast, ↓reduceIte, Nat.reduceEqDiff, Nat.reduceBEq, Nat.reduceAdd, Nat.reduceSub, Int.reduceToNat, *] <;> with_reducible exact rfl)); all_goals try (intro hX; first | (cases hX; done) | ((with_reducible first | have hX0 : true = true := hX | have hX0 : false = false := hX); clear hX0 hX) | ((try simp only [decide_eq_true_eq, decide_eq_false_iff_not, Bool.not_eq_true', Bool.not_eq_false'] at hX); (try have hXb := inB_iff.1 hX)))))); all_goals try (exfalso; omega)
        refine ⟨(k + 1, R ++ [(l[k]?.getD 0, l[k]?.getD 0)], y + 1, y + 2), ⟨by dsimp only; omega, hnx.out, fun _ => by dsimp only; omega⟩, by dsimp only; omega, ?_, ?_, rfl⟩
        · simp (disch := (first | omega | (simp only [push_cast]; done) | (simp only [push_cast]; omega) | ((try simp only [push_cast]); (with_reducible first | apply sel_lt | apply sel_ge); (focus decide); (focus (simp only [push_cast]; omega))))) only [push_cast, ↓reduceIte, Nat.reduceEqDiff, Nat.reduceBEq, Nat.reduceAdd, Nat.reduceSub, Int.reduceToNat, nP_pos hap3, List.length_append, *]
        · simp (disch := (first | omega | (simp only [push_cast]; done) | (simp only [push_cast]; omega) | ((try simp only [push_cast]); (with_reducible first | apply sel_lt | apply sel_ge); (focus decide); (focus (simp only [push_cast]; omega))))) only [push_cast, ↓reduceIte, Nat.reduceEqDiff, Nat.reduceBEq, Nat.reduceAdd, Nat.reduceSub, Int.reduceToNat, nO_pos hap3, List.map_append, List.map_cons, List.map_nil, *]
  · obtain rfl : k = l.length := by omega
    have hR : runsR l = R := by
      unfold RunI at hI
      rw [hI, List.take_of_length_le (Nat.le_refl _)]
    rw [hR]
    clear hI hR hat
    by_cases hR0 : R.length = 0
    · obtain rfl : R = [] := List.eq_nil_of_length_eq_zero hR0
      (repeat' (first | (with_reducible first | apply i_seq | apply i_block | apply i_skip | apply i_exit | apply i_ret | apply i_kS | apply i_kSx | apply i_kSr | apply i_kL | apply i_kLx | apply i_kLr | apply i_kB | apply i_kBr | apply i_kBs | apply i_nil) | ((with_reducible apply i_region); (focus (simp only [List.map_cons, List.map_nil] <;> exact rfl))) | ((with_reducible apply i_draw); (focus (simp only [List.map_cons, List.map_nil] <;> exact rfl)); (focus (decide +kernel))) | ((with_reducible apply i_kBo); (focus rfl)) | ((first | ((with_reducible apply i_V); (focus rfl); (focus rfl); (focus rfl)) | ((with_reducible apply i_E); (focus rfl); (focus (first | rfl | (simp only [push_cast, ↓reduceIte, effOk, touch, refsOf, List.flatMap_cons, List.flatMap_nil])))) | ((with_reducible apply i_S); (focus rfl); (focus (first | rfl | (simp only [push_cast, ↓reduceIte, effOk, touch, refsOf, List.flatMap_cons, List.flatMap_nil])))) | ((with_reducible apply i_Vq); (focus rfl); (focus rfl)) | ((with_reducible apply i_Vp); (focus rfl); (focus rfl); (focus rfl)) | (with_reducible first | apply i_Gb | apply i_cond)); (focus (simp (disch := (first | omega | (simp only [push_cast]; done) | (simp only [push_cast]; omega) | ((try simp only [push_cast]); (with_reducible first | apply sel_lt | apply sel_ge); (focus decide); (focus (simp only [push_cast]; omega))))) only [push_cast, ↓reduceIte, Nat.reduceEqDiff, Nat.reduceBEq, Nat.reduceAdd, Nat.reduceSub, Int.reduceToNat, *] <;> with_reducible exact rfl)); all_goals try (intro hX; first | (cases hX; done) | ((with_reducible first | have hX0 : true = true := hX | have hX0 : false = false := hX); clear hX0 hX) | ((try simp only [decide_eq_true_eq, decide_eq_false_iff_not, Bool.not_eq_true', Bool.not_eq_false'] at hX); (try have hXb := inB_iff.1 hX)))))); all_goals try (exfalso; omega)
      all_goals ((with_reducible apply i_endW (by first | exact .inl rfl | exact .inr rfl)); (focus (simp (disch := (first | omega | (simp only [push_cast]; done) | (simp only [push_cast]; omega) | ((try simp only [push_cast]); (with_reducible first | apply sel_lt | apply sel_ge); (focus decide); (focus (simp only [push_cast]; omega))))) only [push_cast, ↓reduceIte, Nat.reduceEqDiff, Nat.reduceBEq, Nat.reduceAdd, Nat.reduceSub, Int.reduceToNat, *] <;> with_reducible exact rfl)))
      all_goals exact nil_le _ _
    · have hap : 0 < (R.map pvR).length := by rw [List.length_map]; omega
      have hxy := hxy (by omega)
      simp only [nP_pos hap, nO_pos hap, List.length_map]
      (repeat' (first | (with_reducible first | apply i_seq | apply i_block | apply i_skip | apply i_exit | apply i_ret | apply i_kS | apply i_kSx | apply i_kSr | apply i_kL | apply i_kLx | apply i_kLr | apply i_kB | apply i_kBr | apply i_kBs | apply i_nil) | ((with_reducible apply i_region); (focus (simp only [List.map_cons, List.map_nil] <;> exact rfl))) | ((with_reducible apply i_draw); (focus (simp only [List.map_cons, List.map_nil] <;> exact rfl)); (focus (decide +kernel))) | ((with_reducible apply i_kBo); (focus rfl)) | ((first | ((with_reducible apply i_V); (focus rfl); (focus rfl); (focus rfl)) | ((with_reducible apply i_E); (focus rfl); (focus (first | rfl | (simp only [push_cast, ↓reduceIte, effOk, touch, refsOf, List.flatMap_cons, List.flatMap_nil])))) | ((with_reducible apply i_S); (focus rfl); (focus (first | rfl | (simp only [push_cast, ↓reduceIte, effOk, touch, refsOf, List.flatMap_cons, List.flatMap_nil])))) | ((with_reducible apply i_Vq); (focus rfl); (focus rfl)) | ((with_reducible apply i_Vp); (focus rfl); (focus rfl); (focus rfl)) | (with_reducible first | apply i_Gb | apply i_cond)); (focus (simp (disch := (first | omega | (simp only [push_cast]; done) | (simp only [push_cast]; omega) | ((try simp only [push_cast]); (with_reducible first | apply sel_lt | apply sel_ge); (focus decide); (focus (simp only [push_cast]; omega))))) only [push_cast, ↓reduceIte, Nat.reduceEqDiff, Nat.reduceBEq, Nat.reduceAdd, Nat.reduceSub, Int.reduceToNat, *] <;> with_reducible exact rfl)); all_goals try (intro hX; first | (cases hX; done) | ((with_reducible first | have hX0 : true = true := hX | have hX0 : false = false := hX); clear hX0 hX) | ((try simp only [decide_eq_true_eq, decide_eq_false_iff_not, Bool.not_eq_true', Bool.not_eq_false'] at hX); (try have hXb := inB_iff.1 hX)))))); all_goals try (exfalso; omega)
      all_goals ((with_reducible apply i_endW (by first | exact .inl rfl | exact .inr rfl)); (focus (simp (disch := (first | omega | (simp only [push_cast]; done) | (simp only [push_cast]; omega) | ((try simp only [push_cast]); (with_reducible first | apply sel_lt | apply sel_ge); (focus decide); (focus (simp only [push_cast]; omega))))) only [push_cast, ↓reduceIte, Nat.reduceEqDiff, Nat.reduceBEq, Nat.reduceAdd, Nat.reduceSub, Int.reduceToNat, *] <;> with_reducible exact rfl)))
      all_goals exact PV.le_refl _
theorem textR_size {l : List Int} (h : ∀ x ∈ l, 1 ≤ x ∧ x ≤ 999) : (textR l).size ≤ 11 * l.length := by
  have h1 := runs_le l
  unfold textR
  rw [joinB_size, List.length_map]
  have h2 : sumS ((runsR l).map runT) ≤ 9 * ((runsR l).map runT).length := by
    have := sumS_le (l := (runsR l).map runT) (c := 9) fun i => by
      by_cases hi : i < ((runsR l).map runT).length
      · rw [List.getElem?_eq_getElem hi, Option.getD_some, List.getElem_map]
        have hr := runs_rng h _ (List.getElem_mem (l := runsR l) (n := i) (by simpa using hi))
        exact runT_sizeR ⟨⟨by omega, by omega⟩, by omega, by omega⟩
      · rw [List.getElem?_eq_none (by omega)]
        decide
    omega
  rw [List.length_map] at h2
  have h3 : csB.size = 2 := rfl
  rw [h3]
  omega
theorem pages_mem {l : List Int} (h : pagesB l = true) : ∀ x ∈ l, 1 ≤ x ∧ x ≤ 999 := fun x hx => by
  obtain ⟨i, hi, rfl⟩ := List.getElem_of_mem hx
  have := pages_at h hi
  rwa [List.getElem?_eq_getElem hi, Option.getD_some] at this
def φPt : Fun := F1 dIs fun l => if l.length ≤ 1099511627776 then some (.val (.string (pagesT l))) else none
theorem φPt_ap {l : List Int} (h : l.length ≤ 1099511627776) : φPt [.lst false 1 (l.map fun n => .val (.int .i64 n))] = some (.val (.string (pagesT l))) := (F1_ap (A := dIs) l).trans (if_pos h)
noncomputable def φJoinN : Fun := nilF 1 φJoin
theorem φJoinN_ap {l : List ByteArray} {sep : ByteArray} (h : l.length ≤ 1048576) (h2 : (joinB l sep).size ≤ 140737488355328) : φJoinN [.lst false 1 (l.map fun s => .val (.string s)), .val (.string sep)] = some (.val (.string (joinB l sep))) := φJoin_ap h h2
theorem φJoinN_nil : φJoinN [.val (.slice none 0 0), .val (.string csB)] = some (.val (.string ⟨#[]⟩)) := φJoin_ap (l := []) (by simp) (by rw [show joinB [] csB = ⟨#[]⟩ from rfl]; simp [ByteArray.size])
noncomputable def GPt : Ctx := ⟨fun f => if f = 37 then some φPagesV else if f = 67 then some φRuns else if f = 68 then some φRunT else if f = 69 then some φJoinN else none, fun f => none⟩
theorem GPt_ok : SoundΓ Tryd.prog GPt := ⟨(fun f φ h => by
  unfold GPt at h
  dsimp only at h
  split at h
  · rename_i hf; cases h; subst hf; exact ⟨⟨_, Tryd.func37, rfl, rfl⟩, implPagesV_ok⟩
  split at h
  · rename_i hf; cases h; subst hf; exact ⟨⟨_, Tryd.func67, rfl, rfl⟩, runsOf_ok⟩
  split at h
  · rename_i hf; cases h; subst hf; exact ⟨⟨_, Tryd.func68, rfl, rfl⟩, runText_ok⟩
  split at h
  · rename_i hf; cases h; subst hf; exact ⟨⟨_, Tryd.func69, rfl, rfl⟩, (join_ok.nil 1)⟩
  cases h), (fun f φ h => by
  unfold GPt at h
  dsimp only at h
  cases h)⟩
theorem GPt_37 (ob : Objs) (ps : List PV) : evCall GPt ob 37 ps = (ps.mapM (reify false 0 ob fuel)).bind φPagesV := by
  have h : GPt.fn 37 = some φPagesV := by simp [GPt]
  unfold evCall
  rw [h]
  cases ps.mapM (reify false 0 ob fuel) <;> rfl
theorem GPt_67 (ob : Objs) (ps : List PV) : evCall GPt ob 67 ps = (ps.mapM (reify false 0 ob fuel)).bind φRuns := by
  have h : GPt.fn 67 = some φRuns := by simp [GPt]
  unfold evCall
  rw [h]
  cases ps.mapM (reify false 0 ob fuel) <;> rfl
theorem GPt_68 (ob : Objs) (ps : List PV) : evCall GPt ob 68 ps = (ps.mapM (reify false 0 ob fuel)).bind φRunT := by
  have h : GPt.fn 68 = some φRunT := by simp [GPt]
  unfold evCall
  rw [h]
  cases ps.mapM (reify false 0 ob fuel) <;> rfl
theorem GPt_69 (ob : Objs) (ps : List PV) : evCall GPt ob 69 ps = (ps.mapM (reify false 0 ob fuel)).bind φJoinN := by
  have h : GPt.fn 69 = some φJoinN := by simp [GPt]
  unfold evCall
  rw [h]
  cases ps.mapM (reify false 0 ob fuel) <;> rfl
set_option maxHeartbeats 16000000 in
theorem implPt_ok : Sound Tryd.prog 27 φPt := by
  refine sound_pq mixed GPt_ok Tryd.func27 rfl 27 rfl [.tmp 2] rfl (by kernel_rfl) fun ps r hr => ?_
  obtain ⟨l, rfl, hq⟩ := F1_some hr
  clear hr
  split at hq
  case isFalse => cases hq
  case isTrue hpre =>
  cases hq
  refine ⟨by simp, ?_⟩
  simp only [dIs, dUs, dSs, dI_e, dU_e, dB_e, dS_e, dFn_e, dL_e, dA2_e, dA3_e, dA4_e, dA5_e]
  have ap1 := φPagesV_ap hpre
  unfold pagesT
  cases hB : pagesB l with
  | false =>
    rw [hB] at ap1
    rw [if_neg (by decide)]
    clear hB
    have gpt_c37 := GPt_37; have gpt_c67 := GPt_67; have gpt_c68 := GPt_68; have gpt_c69 := GPt_69
    (repeat' (first | (with_reducible first | apply i_seq | apply i_block | apply i_skip | apply i_exit | apply i_ret | apply i_kS | apply i_kSx | apply i_kSr | apply i_kL | apply i_kLx | apply i_kLr | apply i_kB | apply i_kBr | apply i_kBs | apply i_nil) | ((with_reducible apply i_region); (focus (simp only [List.map_cons, List.map_nil] <;> exact rfl))) | ((with_reducible apply i_draw); (focus (simp only [List.map_cons, List.map_nil] <;> exact rfl)); (focus (decide +kernel))) | ((with_reducible apply i_kBo); (focus rfl)) | ((first | ((with_reducible apply i_V); (focus rfl); (focus rfl); (focus rfl)) | ((with_reducible apply i_E); (focus rfl); (focus (first | rfl | (simp only [push_cast, ↓reduceIte, effOk, touch, refsOf, List.flatMap_cons, List.flatMap_nil])))) | ((with_reducible apply i_S); (focus rfl); (focus (first | rfl | (simp only [push_cast, ↓reduceIte, effOk, touch, refsOf, List.flatMap_cons, List.flatMap_nil])))) | ((with_reducible apply i_Vq); (focus rfl); (focus rfl)) | ((with_reducible apply i_Vp); (focus rfl); (focus rfl); (focus rfl)) | (with_reducible first | apply i_Gb | apply i_cond)); (focus (simp (disch := (first | omega | (simp only [push_cast]; done) | (simp only [push_cast]; omega) | ((try simp only [push_cast]); (with_reducible first | apply sel_lt | apply sel_ge); (focus decide); (focus (simp only [push_cast]; omega))))) only [push_cast, ↓reduceIte, Nat.reduceEqDiff, Nat.reduceBEq, Nat.reduceAdd, Nat.reduceSub, Int.reduceToNat, *] <;> with_reducible exact rfl)); all_goals try (intro hX; first | (cases hX; done) | ((with_reducible first | have hX0 : true = true := hX | have hX0 : false = false := hX); clear hX0 hX) | ((try simp only [decide_eq_true_eq, decide_eq_false_iff_not, Bool.not_eq_true', Bool.not_eq_false'] at hX); (try have hXb := inB_iff.1 hX)))))); all_goals try (exfalso; omega)
    all_goals ((first | apply i_end | apply i_endN); simp (disch := (first | omega | (simp only [push_cast]; done) | (simp only [push_cast]; omega) | ((try simp only [push_cast]); (with_reducible first | apply sel_lt | apply sel_ge); (focus decide); (focus (simp only [push_cast]; omega))))) only [push_cast, ↓reduceIte, Nat.reduceEqDiff, Nat.reduceBEq, Nat.reduceAdd, Nat.reduceSub, Int.reduceToNat, *])
  | true =>
    have ap2 := φRuns_ap hB
    have hlen := pages_len hB
    have hmem := pages_mem hB
    have hsz := textR_size hmem
    have hrl := runs_le l
    have hrn : ∀ i, i < (runsR l).length → (0 ≤ ((runsR l)[i]?.getD rn0).1 ∧ ((runsR l)[i]?.getD rn0).1 ≤ 9999) ∧ 0 ≤ ((runsR l)[i]?.getD rn0).2 ∧ ((runsR l)[i]?.getD rn0).2 ≤ 9999 := fun i hi => by
      rw [List.getElem?_eq_getElem hi, Option.getD_some]
      have := runs_rng hmem _ (List.getElem_mem hi)
      omega
    rw [hB] at ap1
    rw [if_pos rfl]
    unfold textR at hsz ⊢
    generalize runsR l = R at *
    have hcs : csB = ⟨#[44, 32]⟩ := rfl
    rw [hcs] at hsz ⊢
    have apn := φJoinN_nil
    rw [hcs] at apn
    have apj := φJoinN_ap (l := R.map runT) (sep := ⟨#[44, 32]⟩) (by rw [List.length_map]; omega) (by omega)
    have hJ0 : R.length = 0 → joinB (R.map runT) ⟨#[44, 32]⟩ = ⟨#[]⟩ := fun h => by rw [List.eq_nil_of_length_eq_zero h]; rfl
    replace hJ0 := Lib.hid hJ0
    generalize joinB (R.map runT) ⟨#[44, 32]⟩ = J at *
    clear hB hmem hcs
    have gpt_c37 := GPt_37; have gpt_c67 := GPt_67; have gpt_c68 := GPt_68; have gpt_c69 := GPt_69
    (repeat' (first | (with_reducible first | apply i_seq | apply i_block | apply i_skip | apply i_exit | apply i_ret | apply i_kS | apply i_kSx | apply i_kSr | apply i_kL | apply i_kLx | apply i_kLr | apply i_kB | apply i_kBr | apply i_kBs | apply i_nil) | ((with_reducible apply i_region); (focus (simp only [List.map_cons, List.map_nil] <;> exact rfl))) | ((with_reducible apply i_draw); (focus (simp only [List.map_cons, List.map_nil] <;> exact rfl)); (focus (decide +kernel))) | ((with_reducible apply i_kBo); (focus rfl)) | ((first | ((with_reducible apply i_V); (focus rfl); (focus rfl); (focus rfl)) | ((with_reducible apply i_E); (focus rfl); (focus (first | rfl | (simp only [push_cast, ↓reduceIte, effOk, touch, refsOf, List.flatMap_cons, List.flatMap_nil])))) | ((with_reducible apply i_S); (focus rfl); (focus (first | rfl | (simp only [push_cast, ↓reduceIte, effOk, touch, refsOf, List.flatMap_cons, List.flatMap_nil])))) | ((with_reducible apply i_Vq); (focus rfl); (focus rfl)) | ((with_reducible apply i_Vp); (focus rfl); (focus rfl); (focus rfl)) | (with_reducible first | apply i_Gb | apply i_cond)); (focus (simp (disch := (first | omega | (simp only [push_cast]; done) | (simp only [push_cast]; omega) | ((try simp only [push_cast]); (with_reducible first | apply sel_lt | apply sel_ge); (focus decide); (focus (simp only [push_cast]; omega))))) only [push_cast, ↓reduceIte, Nat.reduceEqDiff, Nat.reduceBEq, Nat.reduceAdd, Nat.reduceSub, Int.reduceToNat, *] <;> with_reducible exact rfl)); all_goals try (intro hX; first | (cases hX; done) | ((with_reducible first | have hX0 : true = true := hX | have hX0 : false = false := hX); clear hX0 hX) | ((try simp only [decide_eq_true_eq, decide_eq_false_iff_not, Bool.not_eq_true', Bool.not_eq_false'] at hX); (try have hXb := inB_iff.1 hX)))))); all_goals try (exfalso; omega)
    refine i_loop (α := Nat × Nat × Nat) mixed (fun s => [(3, nP 1 (((R.take s.1).map runT).map fun s => .val (.string s)) s.2.1), (10, .lst true 2 (R.map pvR)), (11, iv R.length), (12, iv s.1)])
      (fun s => nO 9 1 (((R.take s.1).map runT).map fun s => .val (.string s)) s.2.1) (fun s => s.2.2)
      (fun s => s.1 ≤ R.length ∧ (0 < s.1 → s.2.1 < s.2.2)) (fun s => R.length - s.1) (by kernel_rfl) (0, 0, 0) ⟨Nat.zero_le _, by simp⟩ ?_ ?_ rfl ?_
    · simp (disch := (first | omega | (simp only [push_cast]; done) | (simp only [push_cast]; omega) | ((try simp only [push_cast]); (with_reducible first | apply sel_lt | apply sel_ge); (focus decide); (focus (simp only [push_cast]; omega))))) only [push_cast, ↓reduceIte, Nat.reduceEqDiff, Nat.reduceBEq, Nat.reduceAdd, Nat.reduceSub, Int.reduceToNat, List.length_append, *]
    · simp (disch := (first | omega | (simp only [push_cast]; done) | (simp only [push_cast]; omega) | ((try simp only [push_cast]); (with_reducible first | apply sel_lt | apply sel_ge); (focus decide); (focus (simp only [push_cast]; omega))))) only [push_cast, ↓reduceIte, Nat.reduceEqDiff, Nat.reduceBEq, Nat.reduceAdd, Nat.reduceSub, Int.reduceToNat, List.length_append, *]
    rintro ⟨k, x, y⟩ ⟨hk, hxy⟩
    dsimp only at hk hxy
    by_cases hkl : k < R.length
    · have hr := hrn k hkl
      have ap3 := φRunT_ap hr
      have htk : (R.take (k + 1)).map runT = (R.take k).map runT ++ [runT (R[k]?.getD rn0)] := by
        rw [List.take_succ_eq_append_getElem hkl, List.map_append, List.getElem?_eq_getElem hkl]
        rfl
      have hts := runT_size hr
      have hp2 : 0 < (((R.take (k + 1)).map runT).map fun s => PV.val (.string s)).length := by rw [htk]; simp
      have hln : ((R.take k).map runT).length = k := by rw [List.length_map, List.length_take]; omega
      clear hrn
      generalize hre : (R[k]?.getD rn0) = r at *
      obtain ⟨a, b⟩ := r
      dsimp only at hr ap3
      replace htk := Lib.hid htk
      have hln2 : (((R.take (k + 1)).map runT).map fun s => PV.val (.string s)).length = k + 1 := by rw [List.length_map, List.length_map, List.length_take]; omega
      replace hln2 := Lib.hid hln2
      have hes := Lib.hid (show (((R.take (k + 1)).map runT).map fun s => PV.val (.string s)) = (((R.take k).map runT).map fun s => PV.val (.string s)) ++ [PV.val (.string (runT (a, b)))] from by rw [htk.out, List.map_append]; rfl)
      by_cases hk0 : k = 0
      · subst hk0
        simp only [List.take_zero, List.map_nil, nP_nil, nO_nil]
        (repeat' (first | (with_reducible first | apply i_seq | apply i_block | apply i_skip | apply i_exit | apply i_ret | apply i_kS | apply i_kSx | apply i_kSr | apply i_kL | apply i_kLx | apply i_kLr | apply i_kB | apply i_kBr | apply i_kBs | apply i_nil) | ((with_reducible apply i_region); (focus (simp only [List.map_cons, List.map_nil] <;> exact rfl))) | ((with_reducible apply i_draw); (focus (simp only [List.map_cons, List.map_nil] <;> exact rfl)); (focus (decide +kernel))) | ((with_reducible apply i_kBo); (focus rfl)) | ((first | ((with_reducible apply i_V); (focus rfl); (focus rfl); (focus rfl)) | ((with_reducible apply i_E); (focus rfl); (focus (first | rfl | (simp only [push_cast, ↓reduceIte, effOk, touch, refsOf, List.flatMap_cons, List.flatMap_nil])))) | ((with_reducible apply i_S); (focus rfl); (focus (first | rfl | (simp only [push_cast, ↓reduceIte, effOk, touch, refsOf, List.flatMap_cons, List.flatMap_nil])))) | ((with_reducible apply i_Vq); (focus rfl); (focus rfl)) | ((with_reducible apply i_Vp); (focus rfl); (focus rfl); (focus rfl)) | (with_reducible first | apply i_Gb | apply i_cond)); (focus (simp (disch := (first | omega | (simp only [push_cast]; done) | (simp only [push_cast]; omega) | ((try simp only [push_cast]); (with_reducible first | apply sel_lt | apply sel_ge); (focus decide); (focus (simp only [push_cast]; omega))))) only [push_cast, ↓reduceIte, Nat.reduceEqDiff, Nat.reduceBEq, Nat.reduceAdd, Nat.reduceSub, Int.reduceToNat, *] <;> with_reducible exact rfl)); all_goals try (intro hX; first | (cases hX; done) | ((with_reducible first | have hX0 : true = true := hX | have hX0 : false = false := hX); clear hX0 hX) | ((try simp only [decide_eq_true_eq, decide_eq_false_iff_not, Bool.not_eq_true', Bool.not_eq_false'] at hX); (try have hXb := inB_iff.1 hX)))))); all_goals try (exfalso; omega)
        refine ⟨(1, y + 2, y + 3), ⟨by dsimp only; omega, fun _ => by dsimp only; omega⟩, by dsimp only; omega, ?_, ?_, rfl⟩
        · simp (disch := (first | omega | (simp only [push_cast]; done) | (simp only [push_cast]; omega) | ((try simp only [push_cast]); (with_reducible first | apply sel_lt | apply sel_ge); (focus decide); (focus (simp only [push_cast]; omega))))) only [push_cast, ↓reduceIte, Nat.reduceEqDiff, Nat.reduceBEq, Nat.reduceAdd, Nat.reduceSub, Int.reduceToNat, nP_pos hp2, hln2.out, *]
        · simp (disch := (first | omega | (simp only [push_cast]; done) | (simp only [push_cast]; omega) | ((try simp only [push_cast]); (with_reducible first | apply sel_lt | apply sel_ge); (focus decide); (focus (simp only [push_cast]; omega))))) only [push_cast, ↓reduceIte, Nat.reduceEqDiff, Nat.reduceBEq, Nat.reduceAdd, Nat.reduceSub, Int.reduceToNat, nO_pos hp2, htk.out, List.take_zero, List.map_nil, List.map_cons, List.nil_append, *]
      · have hxy := hxy (by omega)
        have hap : 0 < (((R.take k).map runT).map fun s => PV.val (.string s)).length := by rw [List.length_map, hln]; omega
        have hln3 : (((R.take k).map runT).map fun s => PV.val (.string s)).length = k := by rw [List.length_map, hln]
        simp only [nP_pos hap, nO_pos hap, hln3]
        (repeat' (first | (with_reducible first | apply i_seq | apply i_block | apply i_skip | apply i_exit | apply i_ret | apply i_kS | apply i_kSx | apply i_kSr | apply i_kL | apply i_kLx | apply i_kLr | apply i_kB | apply i_kBr | apply i_kBs | apply i_nil) | ((with_reducible apply i_region); (focus (simp only [List.map_cons, List.map_nil] <;> exact rfl))) | ((with_reducible apply i_draw); (focus (simp only [List.map_cons, List.map_nil] <;> exact rfl)); (focus (decide +kernel))) | ((with_reducible apply i_kBo); (focus rfl)) | ((first | ((with_reducible apply i_V); (focus rfl); (focus rfl); (focus rfl)) | ((with_reducible apply i_E); (focus rfl); (focus (first | rfl | (simp only [push_cast, ↓reduceIte, effOk, touch, refsOf, List.flatMap_cons, List.flatMap_nil])))) | ((with_reducible apply i_S); (focus rfl); (focus (first | rfl | (simp only [push_cast, ↓reduceIte, effOk, touch, refsOf, List.flatMap_cons, List.flatMap_nil])))) | ((with_reducible apply i_Vq); (focus rfl); (focus rfl)) | ((with_reducible apply i_Vp); (focus rfl); (focus rfl); (focus rfl)) | (with_reducible first | apply i_Gb | apply i_cond)); (focus (simp (disch := (first | omega | (simp only [push_cast]; done) | (simp only [push_cast]; omega) | ((try simp only [push_cast]); (with_reducible first | apply sel_lt | apply sel_ge); (focus decide); (focus (simp only [push_cast]; omega))))) only [push_cast, ↓reduceIte, Nat.reduceEqDiff, Nat.reduceBEq, Nat.reduceAdd, Nat.reduceSub, Int.reduceToNat, *] <;> with_reducible exact rfl)); all_goals try (intro hX; first | (cases hX; done) | ((with_reducible first | have hX0 : true = true := hX | have hX0 : false = false := hX); clear hX0 hX) | ((try simp only [decide_eq_true_eq, decide_eq_false_iff_not, Bool.not_eq_true', Bool.not_eq_false'] at hX); (try have hXb := inB_iff.1 hX)))))); all_goals try (exfalso; omega)
        refine ⟨(k + 1, y + 2, y + 3), ⟨by dsimp only; omega, fun _ => by dsimp only; omega⟩, by dsimp only; omega, ?_, ?_, rfl⟩
        · simp (disch := (first | omega | (simp only [push_cast]; done) | (simp only [push_cast]; omega) | ((try simp only [push_cast]); (with_reducible first | apply sel_lt | apply sel_ge); (focus decide); (focus (simp only [push_cast]; omega))))) only [push_cast, ↓reduceIte, Nat.reduceEqDiff, Nat.reduceBEq, Nat.reduceAdd, Nat.reduceSub, Int.reduceToNat, nP_pos hp2, hln2.out, *]
        · clear hre hln hln3
          simp (disch := (first | omega | (simp only [push_cast]; done) | (simp only [push_cast]; omega) | ((try simp only [push_cast]); (with_reducible first | apply sel_lt | apply sel_ge); (focus decide); (focus (simp only [push_cast]; omega))))) only [push_cast, ↓reduceIte, Nat.reduceEqDiff, Nat.reduceBEq, Nat.reduceAdd, Nat.reduceSub, Int.reduceToNat, nO_pos hp2, hes.out, *]
    · obtain rfl : k = R.length := by omega
      rw [List.take_of_length_le (Nat.le_refl _)]
      by_cases hR0 : R.length = 0
      · have hJ := hJ0.out hR0
        subst hJ
        obtain rfl : R = [] := List.eq_nil_of_length_eq_zero hR0
        simp only [List.map_nil, nP_nil, nO_nil]
        (repeat' (first | (with_reducible first | apply i_seq | apply i_block | apply i_skip | apply i_exit | apply i_ret | apply i_kS | apply i_kSx | apply i_kSr | apply i_kL | apply i_kLx | apply i_kLr | apply i_kB | apply i_kBr | apply i_kBs | apply i_nil) | ((with_reducible apply i_region); (focus (simp only [List.map_cons, List.map_nil] <;> exact rfl))) | ((with_reducible apply i_draw); (focus (simp only [List.map_cons, List.map_nil] <;> exact rfl)); (focus (decide +kernel))) | ((with_reducible apply i_kBo); (focus rfl)) | ((first | ((with_reducible apply i_V); (focus rfl); (focus rfl); (focus rfl)) | ((with_reducible apply i_E); (focus rfl); (focus (first | rfl | (simp only [push_cast, ↓reduceIte, effOk, touch, refsOf, List.flatMap_cons, List.flatMap_nil])))) | ((with_reducible apply i_S); (focus rfl); (focus (first | rfl | (simp only [push_cast, ↓reduceIte, effOk, touch, refsOf, List.flatMap_cons, List.flatMap_nil])))) | ((with_reducible apply i_Vq); (focus rfl); (focus rfl)) | ((with_reducible apply i_Vp); (focus rfl); (focus rfl); (focus rfl)) | (with_reducible first | apply i_Gb | apply i_cond)); (focus (simp (disch := (first | omega | (simp only [push_cast]; done) | (simp only [push_cast]; omega) | ((try simp only [push_cast]); (with_reducible first | apply sel_lt | apply sel_ge); (focus decide); (focus (simp only [push_cast]; omega))))) only [push_cast, ↓reduceIte, Nat.reduceEqDiff, Nat.reduceBEq, Nat.reduceAdd, Nat.reduceSub, Int.reduceToNat, *] <;> with_reducible exact rfl)); all_goals try (intro hX; first | (cases hX; done) | ((with_reducible first | have hX0 : true = true := hX | have hX0 : false = false := hX); clear hX0 hX) | ((try simp only [decide_eq_true_eq, decide_eq_false_iff_not, Bool.not_eq_true', Bool.not_eq_false'] at hX); (try have hXb := inB_iff.1 hX)))))); all_goals try (exfalso; omega)
        all_goals ((first | apply i_end | apply i_endN); simp (disch := (first | omega | (simp only [push_cast]; done) | (simp only [push_cast]; omega) | ((try simp only [push_cast]); (with_reducible first | apply sel_lt | apply sel_ge); (focus decide); (focus (simp only [push_cast]; omega))))) only [push_cast, ↓reduceIte, Nat.reduceEqDiff, Nat.reduceBEq, Nat.reduceAdd, Nat.reduceSub, Int.reduceToNat, *])
      · have hxy := hxy (by omega)
        have hap : 0 < ((R.map runT).map fun s => PV.val (.string s)).length := by rw [List.length_map, List.length_map]; omega
        simp only [nP_pos hap, nO_pos hap]
        rw [List.length_map]
        (repeat' (first | (with_reducible first | apply i_seq | apply i_block | apply i_skip | apply i_exit | apply i_ret | apply i_kS | apply i_kSx | apply i_kSr | apply i_kL | apply i_kLx | apply i_kLr | apply i_kB | apply i_kBr | apply i_kBs | apply i_nil) | ((with_reducible apply i_region); (focus (simp only [List.map_cons, List.map_nil] <;> exact rfl))) | ((with_reducible apply i_draw); (focus (simp only [List.map_cons, List.map_nil] <;> exact rfl)); (focus (decide +kernel))) | ((with_reducible apply i_kBo); (focus rfl)) | ((first | ((with_reducible apply i_V); (focus rfl); (focus rfl); (focus rfl)) | ((with_reducible apply i_E); (focus rfl); (focus (first | rfl | (simp only [push_cast, ↓reduceIte, effOk, touch, refsOf, List.flatMap_cons, List.flatMap_nil])))) | ((with_reducible apply i_S); (focus rfl); (focus (first | rfl | (simp only [push_cast, ↓reduceIte, effOk, touch, refsOf, List.flatMap_cons, List.flatMap_nil])))) | ((with_reducible apply i_Vq); (focus rfl); (focus rfl)) | ((with_reducible apply i_Vp); (focus rfl); (focus rfl); (focus rfl)) | (with_reducible first | apply i_Gb | apply i_cond)); (focus (simp (disch := (first | omega | (simp only [push_cast]; done) | (simp only [push_cast]; omega) | ((try simp only [push_cast]); (with_reducible first | apply sel_lt | apply sel_ge); (focus decide); (focus (simp only [push_cast]; omega))))) only [push_cast, ↓reduceIte, Nat.reduceEqDiff, Nat.reduceBEq, Nat.reduceAdd, Nat.reduceSub, Int.reduceToNat, *] <;> with_reducible exact rfl)); all_goals try (intro hX; first | (cases hX; done) | ((with_reducible first | have hX0 : true = true := hX | have hX0 : false = false := hX); clear hX0 hX) | ((try simp only [decide_eq_true_eq, decide_eq_false_iff_not, Bool.not_eq_true', Bool.not_eq_false'] at hX); (try have hXb := inB_iff.1 hX)))))); all_goals try (exfalso; omega)
        all_goals ((first | apply i_end | apply i_endN); simp (disch := (first | omega | (simp only [push_cast]; done) | (simp only [push_cast]; omega) | ((try simp only [push_cast]); (with_reducible first | apply sel_lt | apply sel_ge); (focus decide); (focus (simp only [push_cast]; omega))))) only [push_cast, ↓reduceIte, Nat.reduceEqDiff, Nat.reduceBEq, Nat.reduceAdd, Nat.reduceSub, Int.reduceToNat, *])
end Go.Proofs.YtpggpdbipajchaaDoor
namespace Go.Proofs.YtpggpdbipajchaaDoor
open Go.RowKit
set_option linter.all false
theorem chain_up {l : List Int} {k : Nat} : ∀ e, k ≤ e → (∀ j, k ≤ j → j < e → l[j + 1]?.getD 0 = l[j]?.getD 0 + 1) → l[e]?.getD 0 = l[k]?.getD 0 + (e - k : Nat)
  | 0, h, _ => by
    obtain rfl : k = 0 := by omega
    simp
  | e + 1, h, hc => by
    by_cases hk : k = e + 1
    · subst hk; simp
    · rw [hc e (by omega) (by omega), chain_up e (by omega) fun j h1 h2 => hc j h1 (by omega)]
      omega
theorem runT_one (a : Int) : runT (a, a) = itoaS a := if_pos rfl
theorem runT_two {a b : Int} (h : ¬ a = b) : runT (a, b) = (itoaS a ++ ⟨#[45]⟩) ++ itoaS b := if_neg h
theorem ba_assoc (a b c : ByteArray) : a ++ (b ++ c) = (a ++ b) ++ c := gl_ext (by simp [ByteArray.data_append])
theorem textR_le {l : List Int} (h : ∀ x ∈ l, 1 ≤ x ∧ x ≤ 999) (k : Nat) : (textR (l.take k)).size ≤ 11 * l.length := by
  have := textR_size (l := l.take k) fun x hx => h x (List.mem_of_mem_take hx)
  rw [List.length_take] at this
  omega
noncomputable def GSPt : Ctx := ⟨fun f => if f = 30 then some φPagesV else if f = 50 then some φNum else none, fun f => none⟩
theorem GSPt_ok : SoundΓ Tryd.prog GSPt := ⟨(fun f φ h => by
  unfold GSPt at h
  dsimp only at h
  split at h
  · rename_i hf; cases h; subst hf; exact ⟨⟨_, Tryd.func30, rfl, rfl⟩, specPagesV_ok⟩
  split at h
  · rename_i hf; cases h; subst hf; exact ⟨⟨_, Tryd.func50, rfl, rfl⟩, num_ok⟩
  cases h), (fun f φ h => by
  unfold GSPt at h
  dsimp only at h
  cases h)⟩
theorem GSPt_30 (ob : Objs) (ps : List PV) : evCall GSPt ob 30 ps = (ps.mapM (reify false 0 ob fuel)).bind φPagesV := by
  have h : GSPt.fn 30 = some φPagesV := by simp [GSPt]
  unfold evCall
  rw [h]
  cases ps.mapM (reify false 0 ob fuel) <;> rfl
theorem GSPt_50 (ob : Objs) (ps : List PV) : evCall GSPt ob 50 ps = (ps.mapM (reify false 0 ob fuel)).bind φNum := by
  have h : GSPt.fn 50 = some φNum := by simp [GSPt]
  unfold evCall
  rw [h]
  cases ps.mapM (reify false 0 ob fuel) <;> rfl
set_option maxHeartbeats 16000000 in
theorem specPt_ok : Sound Tryd.prog 25 φPt := by
  refine sound_pq mixed GSPt_ok Tryd.func25 rfl 60 rfl [.tmp 2] rfl (by kernel_rfl) fun ps r hr => ?_
  obtain ⟨l, rfl, hq⟩ := F1_some hr
  clear hr
  split at hq
  case isFalse => cases hq
  case isTrue hpre =>
  cases hq
  refine ⟨by simp, ?_⟩
  simp only [dIs, dUs, dSs, dI_e, dU_e, dB_e, dS_e, dFn_e, dL_e, dA2_e, dA3_e, dA4_e, dA5_e]
  have ap1 := φPagesV_ap hpre
  unfold pagesT
  cases hB : pagesB l with
  | false =>
    rw [hB] at ap1
    rw [if_neg (by decide)]
    clear hB
    have gspt_c30 := GSPt_30; have gspt_c50 := GSPt_50
    (repeat' (first | (with_reducible first | apply i_seq | apply i_block | apply i_skip | apply i_exit | apply i_ret | apply i_kS | apply i_kSx | apply i_kSr | apply i_kL | apply i_kLx | apply i_kLr | apply i_kB | apply i_kBr | apply i_kBs | apply i_nil) | ((with_reducible apply i_region); (focus (simp only [List.map_cons, List.map_nil] <;> exact rfl))) | ((with_reducible apply i_draw); (focus (simp only [List.map_cons, List.map_nil] <;> exact rfl)); (focus (decide +kernel))) | ((with_reducible apply i_kBo); (focus rfl)) | ((first | ((with_reducible apply i_V); (focus rfl); (focus rfl); (focus rfl)) | ((with_reducible apply i_E); (focus rfl); (focus (first | rfl | (simp only [push_cast, ↓reduceIte, effOk, touch, refsOf, List.flatMap_cons, List.flatMap_nil])))) | ((with_reducible apply i_S); (focus rfl); (focus (first | rfl | (simp only [push_cast, ↓reduceIte, effOk, touch, refsOf, List.flatMap_cons, List.flatMap_nil])))) | ((with_reducible apply i_Vq); (focus rfl); (focus rfl)) | ((with_reducible apply i_Vp); (focus rfl); (focus rfl); (focus rfl)) | (with_reducible first | apply i_Gb | apply i_cond)); (focus (simp (disch := (first | omega | (simp only [push_cast]; done) | (simp only [push_cast]; omega) | ((try simp only [push_cast]); (with_reducible first | apply sel_lt | apply sel_ge); (focus decide); (focus (simp only [push_cast]; omega))))) only [push_cast, ↓reduceIte, Nat.reduceEqDiff, Nat.reduceBEq, Nat.reduceAdd, Nat.reduceSub, Int.reduceToNat, *] <;> with_reducible exact rfl)); all_goals try (intro hX; first | (cases hX; done) | ((with_reducible first | have hX0 : true = true := hX | have hX0 : false = false := hX); clear hX0 hX) | ((try simp only [decide_eq_true_eq, decide_eq_false_iff_not, Bool.not_eq_true', Bool.not_eq_false'] at hX); (try have hXb := inB_iff.1 hX)))))); all_goals try (exfalso; omega)
    refine i_loop (α := Unit) mixed (fun s => [(0, .lst false 1 (l.map fun n => .val (.int .i64 n))), (3, .val (.string ⟨#[]⟩)), (4, iv 0)]) (fun _ => []) (fun _ => 0)
      (fun _ => True) (fun _ => 0) (by kernel_rfl) () trivial ?_ trivial rfl ?_
    · simp (disch := (first | omega | (simp only [push_cast]; done) | (simp only [push_cast]; omega) | ((try simp only [push_cast]); (with_reducible first | apply sel_lt | apply sel_ge); (focus decide); (focus (simp only [push_cast]; omega))))) only [push_cast, ↓reduceIte, Nat.reduceEqDiff, Nat.reduceBEq, Nat.reduceAdd, Nat.reduceSub, Int.reduceToNat, List.length_append, *]
    rintro - -
    (repeat' (first | (with_reducible first | apply i_seq | apply i_block | apply i_skip | apply i_exit | apply i_ret | apply i_kS | apply i_kSx | apply i_kSr | apply i_kL | apply i_kLx | apply i_kLr | apply i_kB | apply i_kBr | apply i_kBs | apply i_nil) | ((with_reducible apply i_region); (focus (simp only [List.map_cons, List.map_nil] <;> exact rfl))) | ((with_reducible apply i_draw); (focus (simp only [List.map_cons, List.map_nil] <;> exact rfl)); (focus (decide +kernel))) | ((with_reducible apply i_kBo); (focus rfl)) | ((first | ((with_reducible apply i_V); (focus rfl); (focus rfl); (focus rfl)) | ((with_reducible apply i_E); (focus rfl); (focus (first | rfl | (simp only [push_cast, ↓reduceIte, effOk, touch, refsOf, List.flatMap_cons, List.flatMap_nil])))) | ((with_reducible apply i_S); (focus rfl); (focus (first | rfl | (simp only [push_cast, ↓reduceIte, effOk, touch, refsOf, List.flatMap_cons, List.flatMap_nil])))) | ((with_reducible apply i_Vq); (focus rfl); (focus rfl)) | ((with_reducible apply i_Vp); (focus rfl); (focus rfl); (focus rfl)) | (with_reducible first | apply i_Gb | apply i_cond)); (focus (simp (disch := (first | omega | (simp only [push_cast]; done) | (simp only [push_cast]; omega) | ((try simp only [push_cast]); (with_reducible first | apply sel_lt | apply sel_ge); (focus decide); (focus (simp only [push_cast]; omega))))) only [push_cast, ↓reduceIte, Nat.reduceEqDiff, Nat.reduceBEq, Nat.reduceAdd, Nat.reduceSub, Int.reduceToNat, *] <;> with_reducible exact rfl)); all_goals try (intro hX; first | (cases hX; done) | ((with_reducible first | have hX0 : true = true := hX | have hX0 : false = false := hX); clear hX0 hX) | ((try simp only [decide_eq_true_eq, decide_eq_false_iff_not, Bool.not_eq_true', Bool.not_eq_false'] at hX); (try have hXb := inB_iff.1 hX)))))); all_goals try (exfalso; omega)
    all_goals ((first | apply i_end | apply i_endN); simp (disch := (first | omega | (simp only [push_cast]; done) | (simp only [push_cast]; omega) | ((try simp only [push_cast]); (with_reducible first | apply sel_lt | apply sel_ge); (focus decide); (focus (simp only [push_cast]; omega))))) only [push_cast, ↓reduceIte, Nat.reduceEqDiff, Nat.reduceBEq, Nat.reduceAdd, Nat.reduceSub, Int.reduceToNat, *])
  | true =>
    have hlen := pages_len hB
    have hmem := pages_mem hB
    have hat := fun i hi => pages_at hB (i := i) hi
    have hszk := textR_le hmem
    rw [hB] at ap1
    rw [if_pos rfl]
    clear hB
    have hrun := fun (k e : Nat) => textR_run (l := l) (k := k) (e := e)
    have hpos := fun (k : Nat) (h1 : 0 < k) (h2 : k ≤ l.length) => textR_pos (l := l) (k := k) h1 h2 fun j hj => by have := hat j hj; omega
    have htr : textR l = textR (l.take l.length) := by rw [List.take_of_length_le (Nat.le_refl _)]
    have ht0 : textR [] = ⟨#[]⟩ := rfl
    rw [htr]
    replace hrun := Lib.hid hrun
    replace hpos := Lib.hid hpos
    clear htr hmem
    have gspt_c30 := GSPt_30; have gspt_c50 := GSPt_50
    (repeat' (first | (with_reducible first | apply i_seq | apply i_block | apply i_skip | apply i_exit | apply i_ret | apply i_kS | apply i_kSx | apply i_kSr | apply i_kL | apply i_kLx | apply i_kLr | apply i_kB | apply i_kBr | apply i_kBs | apply i_nil) | ((with_reducible apply i_region); (focus (simp only [List.map_cons, List.map_nil] <;> exact rfl))) | ((with_reducible apply i_draw); (focus (simp only [List.map_cons, List.map_nil] <;> exact rfl)); (focus (decide +kernel))) | ((with_reducible apply i_kBo); (focus rfl)) | ((first | ((with_reducible apply i_V); (focus rfl); (focus rfl); (focus rfl)) | ((with_reducible apply i_E); (focus rfl); (focus (first | rfl | (simp only [push_cast, ↓reduceIte, effOk, touch, refsOf, List.flatMap_cons, List.flatMap_nil])))) | ((with_reducible apply i_S); (focus rfl); (focus (first | rfl | (simp only [push_cast, ↓reduceIte, effOk, touch, refsOf, List.flatMap_cons, List.flatMap_nil])))) | ((with_reducible apply i_Vq); (focus rfl); (focus rfl)) | ((with_reducible apply i_Vp); (focus rfl); (focus rfl); (focus rfl)) | (with_reducible first | apply i_Gb | apply i_cond)); (focus (simp (disch := (first | omega | (simp only [push_cast]; done) | (simp only [push_cast]; omega) | ((try simp only [push_cast]); (with_reducible first | apply sel_lt | apply sel_ge); (focus decide); (focus (simp only [push_cast]; omega))))) only [push_cast, ↓reduceIte, Nat.reduceEqDiff, Nat.reduceBEq, Nat.reduceAdd, Nat.reduceSub, Int.reduceToNat, *] <;> with_reducible exact rfl)); all_goals try (intro hX; first | (cases hX; done) | ((with_reducible first | have hX0 : true = true := hX | have hX0 : false = false := hX); clear hX0 hX) | ((try simp only [decide_eq_true_eq, decide_eq_false_iff_not, Bool.not_eq_true', Bool.not_eq_false'] at hX); (try have hXb := inB_iff.1 hX)))))); all_goals try (exfalso; omega)
    refine i_loop (α := Nat) mixed (fun k => [(0, .lst false 1 (l.map fun n => .val (.int .i64 n))), (3, .val (.string (textR (l.take k)))), (4, iv k)]) (fun _ => []) (fun _ => 0)
      (fun k => k ≤ l.length ∧ (0 < k → k < l.length → ¬ l[k - 1]?.getD 0 + 1 = l[k]?.getD 0)) (fun k => l.length - k) (by kernel_rfl) 0 ⟨Nat.zero_le _, fun h => by omega⟩ ?_ trivial rfl ?_
    · simp (disch := (first | omega | (simp only [push_cast]; done) | (simp only [push_cast]; omega) | ((try simp only [push_cast]); (with_reducible first | apply sel_lt | apply sel_ge); (focus decide); (focus (simp only [push_cast]; omega))))) only [push_cast, ↓reduceIte, Nat.reduceEqDiff, Nat.reduceBEq, Nat.reduceAdd, Nat.reduceSub, Int.reduceToNat, ht0, *]
    clear ht0
    rintro k ⟨hk, hb⟩
    have hsk := hszk k
    replace hb := Lib.hid hb
    have hout0 : k = 0 → textR (l.take k) = ⟨#[]⟩ := fun h => by subst h; rfl
    have houtp : 0 < k → ¬ textR (l.take k) = ⟨#[]⟩ := fun h e => by
      have := hpos.out k h hk
      rw [e] at this
      simp [ByteArray.size] at this
    have hrk := hrun.out k
    replace hrk := Lib.hid hrk
    by_cases hkl : k < l.length
    · have hak := hat k hkl
      generalize textR (l.take k) = out at *
      replace hout0 := Lib.hid hout0
      replace houtp := Lib.hid houtp
      (repeat' (first | (with_reducible first | apply i_seq | apply i_block | apply i_skip | apply i_exit | apply i_ret | apply i_kS | apply i_kSx | apply i_kSr | apply i_kL | apply i_kLx | apply i_kLr | apply i_kB | apply i_kBr | apply i_kBs | apply i_nil) | ((with_reducible apply i_region); (focus (simp only [List.map_cons, List.map_nil] <;> exact rfl))) | ((with_reducible apply i_draw); (focus (simp only [List.map_cons, List.map_nil] <;> exact rfl)); (focus (decide +kernel))) | ((with_reducible apply i_kBo); (focus rfl)) | ((first | ((with_reducible apply i_V); (focus rfl); (focus rfl); (focus rfl)) | ((with_reducible apply i_E); (focus rfl); (focus (first | rfl | (simp only [push_cast, ↓reduceIte, effOk, touch, refsOf, List.flatMap_cons, List.flatMap_nil])))) | ((with_reducible apply i_S); (focus rfl); (focus (first | rfl | (simp only [push_cast, ↓reduceIte, effOk, touch, refsOf, List.flatMap_cons, List.flatMap_nil])))) | ((with_reducible apply i_Vq); (focus rfl); (focus rfl)) | ((with_reducible apply i_Vp); (focus rfl); (focus rfl); (focus rfl)) | (with_reducible first | apply i_Gb | apply i_cond)); (focus (simp (disch := (first | omega | (simp only [push_cast]; done) | (simp only [push_cast]; omega) | ((try simp only [push_cast]); (with_reducible first | apply sel_lt | apply sel_ge); (focus decide); (focus (simp only [push_cast]; omega))))) only [push_cast, ↓reduceIte, Nat.reduceEqDiff, Nat.reduceBEq, Nat.reduceAdd, Nat.reduceSub, Int.reduceToNat, *] <;> with_reducible exact rfl)); all_goals try (intro hX; first | (cases hX; done) | ((with_reducible first | have hX0 : true = true := hX | have hX0 : false = false := hX); clear hX0 hX) | ((try simp only [decide_eq_true_eq, decide_eq_false_iff_not, Bool.not_eq_true', Bool.not_eq_false'] at hX); (try have hXb := inB_iff.1 hX)))))); all_goals try (exfalso; omega)
      refine i_loop (α := Nat) mixed (fun e => [(0, .lst false 1 (l.map fun n => .val (.int .i64 n))), (3, .val (.string out)), (4, iv k), (5, iv e)]) (fun _ => []) (fun _ => 0)
        (fun e => k ≤ e ∧ e < l.length ∧ ∀ j, k ≤ j → j < e → l[j + 1]?.getD 0 = l[j]?.getD 0 + 1) (fun e => l.length - e) (by kernel_rfl) k ⟨Nat.le_refl _, hkl, fun j h1 h2 => by omega⟩ ?_ trivial rfl ?_
      · simp (disch := (first | omega | (simp only [push_cast]; done) | (simp only [push_cast]; omega) | ((try simp only [push_cast]); (with_reducible first | apply sel_lt | apply sel_ge); (focus decide); (focus (simp only [push_cast]; omega))))) only [push_cast, ↓reduceIte, Nat.reduceEqDiff, Nat.reduceBEq, Nat.reduceAdd, Nat.reduceSub, Int.reduceToNat, List.length_append, *]
      rintro e ⟨he1, he2, hc⟩
      have hae := hat e he2
      have hae1 := hat (e + 1)
      clear hat
      replace hc := Lib.hid hc
      by_cases hst : e + 1 < l.length ∧ l[e + 1]?.getD 0 = l[e]?.getD 0 + 1
      · obtain ⟨hst1, hst2⟩ := hst
        have hae1 := hae1 hst1
        have hc2 := Lib.hid (show ∀ j, k ≤ j → j < e + 1 → l[j + 1]?.getD 0 = l[j]?.getD 0 + 1 from fun j h1 h2 => by
          by_cases hj : j < e
          · exact hc.out j h1 hj
          · obtain rfl : j = e := by omega
            exact hst2)
        have hst3 : decide (l[e + 1]?.getD 0 = l[e]?.getD 0 + 1) = true := decide_eq_true hst2
        clear hst2
        (repeat' (first | (with_reducible first | apply i_seq | apply i_block | apply i_skip | apply i_exit | apply i_ret | apply i_kS | apply i_kSx | apply i_kSr | apply i_kL | apply i_kLx | apply i_kLr | apply i_kB | apply i_kBr | apply i_kBs | apply i_nil) | ((with_reducible apply i_region); (focus (simp only [List.map_cons, List.map_nil] <;> exact rfl))) | ((with_reducible apply i_draw); (focus (simp only [List.map_cons, List.map_nil] <;> exact rfl)); (focus (decide +kernel))) | ((with_reducible apply i_kBo); (focus rfl)) | ((first | ((with_reducible apply i_V); (focus rfl); (focus rfl); (focus rfl)) | ((with_reducible apply i_E); (focus rfl); (focus (first | rfl | (simp only [push_cast, ↓reduceIte, effOk, touch, refsOf, List.flatMap_cons, List.flatMap_nil])))) | ((with_reducible apply i_S); (focus rfl); (focus (first | rfl | (simp only [push_cast, ↓reduceIte, effOk, touch, refsOf, List.flatMap_cons, List.flatMap_nil])))) | ((with_reducible apply i_Vq); (focus rfl); (focus rfl)) | ((with_reducible apply i_Vp); (focus rfl); (focus rfl); (focus rfl)) | (with_reducible first | apply i_Gb | apply i_cond)); (focus (simp (disch := (first | omega | (simp only [push_cast]; done) | (simp only [push_cast]; omega) | ((try simp only [push_cast]); (with_reducible first | apply sel_lt | apply sel_ge); (focus decide); (focus (simp only [push_cast]; omega))))) only [push_cast, ↓reduceIte, Nat.reduceEqDiff, Nat.reduceBEq, Nat.reduceAdd, Nat.reduceSub, Int.reduceToNat, *] <;> with_reducible exact rfl)); all_goals try (intro hX; first | (cases hX; done) | ((with_reducible first | have hX0 : true = true := hX | have hX0 : false = false := hX); clear hX0 hX) | ((try simp only [decide_eq_true_eq, decide_eq_false_iff_not, Bool.not_eq_true', Bool.not_eq_false'] at hX); (try have hXb := inB_iff.1 hX)))))); all_goals try (exfalso; omega)
        refine ⟨e + 1, ⟨by omega, hst1, hc2.out⟩, by dsimp only; omega, ?_, trivial, rfl⟩
        simp (disch := (first | omega | (simp only [push_cast]; done) | (simp only [push_cast]; omega) | ((try simp only [push_cast]); (with_reducible first | apply sel_lt | apply sel_ge); (focus decide); (focus (simp only [push_cast]; omega))))) only [push_cast, ↓reduceIte, Nat.reduceEqDiff, Nat.reduceBEq, Nat.reduceAdd, Nat.reduceSub, Int.reduceToNat, List.length_append, *]
      · have hex := hrk.out e hkl (fun h => hb.out h hkl) he1 he2 hc.out
        have hsz2 := hszk (e + 1)
        have hup := chain_up e he1 hc.out
        have hbn := Lib.hid (show 0 < e + 1 → e + 1 < l.length → ¬ l[e + 1 - 1]?.getD 0 + 1 = l[e + 1]?.getD 0 from fun _ h1 h2 => hst ⟨h1, by rw [← h2]; rfl⟩)
        have ap2 := φNum_ap (n := l[k]?.getD 0) (by omega) (by omega)
        have ap3 := φNum_ap (n := l[e]?.getD 0) (by omega) (by omega)
        have hz1 := itoaS_size4 (n := l[k]?.getD 0) (by omega) (by omega)
        have hz2 := itoaS_size4 (n := l[e]?.getD 0) (by omega) (by omega)
        have hstop : e + 1 < l.length → ¬ l[e + 1]?.getD 0 = l[e]?.getD 0 + 1 := fun h1 h2 => hst ⟨h1, h2⟩
        have hae2 : e + 1 < l.length → (1 ≤ l[e + 1]?.getD 0 ∧ l[e + 1]?.getD 0 ≤ 999) := hae1
        clear hst hae1 hc hszk
        have hcs : csB = ⟨#[44, 32]⟩ := rfl
        have hcz : (⟨#[44, 32]⟩ : ByteArray).size = 2 := rfl
        have hone : (⟨#[45]⟩ : ByteArray).size = 1 := rfl
        rw [hcs] at hex
        clear hcs
        by_cases hke : e = k
        · subst hke
          rw [runT_one] at hex
          clear hup
          by_cases hk0 : e = 0
          · have h0 := hout0.out hk0
            subst h0
            rw [if_pos hk0] at hex
            clear hk0
            replace hex := Lib.hid hex
            by_cases hle : e + 1 < l.length
            · have hs := hstop hle
              have ha2 := hae2 hle
              clear hstop hae2
              (repeat' (first | (with_reducible first | apply i_seq | apply i_block | apply i_skip | apply i_exit | apply i_ret | apply i_kS | apply i_kSx | apply i_kSr | apply i_kL | apply i_kLx | apply i_kLr | apply i_kB | apply i_kBr | apply i_kBs | apply i_nil) | ((with_reducible apply i_region); (focus (simp only [List.map_cons, List.map_nil] <;> exact rfl))) | ((with_reducible apply i_draw); (focus (simp only [List.map_cons, List.map_nil] <;> exact rfl)); (focus (decide +kernel))) | ((with_reducible apply i_kBo); (focus rfl)) | ((first | ((with_reducible apply i_V); (focus rfl); (focus rfl); (focus rfl)) | ((with_reducible apply i_E); (focus rfl); (focus (first | rfl | (simp only [push_cast, ↓reduceIte, effOk, touch, refsOf, List.flatMap_cons, List.flatMap_nil])))) | ((with_reducible apply i_S); (focus rfl); (focus (first | rfl | (simp only [push_cast, ↓reduceIte, effOk, touch, refsOf, List.flatMap_cons, List.flatMap_nil])))) | ((with_reducible apply i_Vq); (focus rfl); (focus rfl)) | ((with_reducible apply i_Vp); (focus rfl); (focus rfl); (focus rfl)) | (with_reducible first | apply i_Gb | apply i_cond)); (focus (simp (disch := (first | omega | (simp only [push_cast]; done) | (simp only [push_cast]; omega) | ((try simp only [push_cast]); (with_reducible first | apply sel_lt | apply sel_ge); (focus decide); (focus (simp only [push_cast]; omega))))) only [push_cast, ↓reduceIte, Nat.reduceEqDiff, Nat.reduceBEq, Nat.reduceAdd, Nat.reduceSub, Int.reduceToNat, *] <;> with_reducible exact rfl)); all_goals try (intro hX; first | (cases hX; done) | ((with_reducible first | have hX0 : true = true := hX | have hX0 : false = false := hX); clear hX0 hX) | ((try simp only [decide_eq_true_eq, decide_eq_false_iff_not, Bool.not_eq_true', Bool.not_eq_false'] at hX); (try have hXb := inB_iff.1 hX)))))); all_goals try (exfalso; omega)
              refine ⟨e + 1, ⟨by omega, hbn.out⟩, by dsimp only; omega, ?_, trivial, rfl⟩
              simp (disch := (first | omega | (simp only [push_cast]; done) | (simp only [push_cast]; omega) | ((try simp only [push_cast]); (with_reducible first | apply sel_lt | apply sel_ge); (focus decide); (focus (simp only [push_cast]; omega))))) only [push_cast, ↓reduceIte, Nat.reduceEqDiff, Nat.reduceBEq, Nat.reduceAdd, Nat.reduceSub, Int.reduceToNat, hex.out, *]
            · clear hstop hae2
              (repeat' (first | (with_reducible first | apply i_seq | apply i_block | apply i_skip | apply i_exit | apply i_ret | apply i_kS | apply i_kSx | apply i_kSr | apply i_kL | apply i_kLx | apply i_kLr | apply i_kB | apply i_kBr | apply i_kBs | apply i_nil) | ((with_reducible apply i_region); (focus (simp only [List.map_cons, List.map_nil] <;> exact rfl))) | ((with_reducible apply i_draw); (focus (simp only [List.map_cons, List.map_nil] <;> exact rfl)); (focus (decide +kernel))) | ((with_reducible apply i_kBo); (focus rfl)) | ((first | ((with_reducible apply i_V); (focus rfl); (focus rfl); (focus rfl)) | ((with_reducible apply i_E); (focus rfl); (focus (first | rfl | (simp only [push_cast, ↓reduceIte, effOk, touch, refsOf, List.flatMap_cons, List.flatMap_nil])))) | ((with_reducible apply i_S); (focus rfl); (focus (first | rfl | (simp only [push_cast, ↓reduceIte, effOk, touch, refsOf, List.flatMap_cons, List.flatMap_nil])))) | ((with_reducible apply i_Vq); (focus rfl); (focus rfl)) | ((with_reducible apply i_Vp); (focus rfl); (focus rfl); (focus rfl)) | (with_reducible first | apply i_Gb | apply i_cond)); (focus (simp (disch := (first | omega | (simp only [push_cast]; done) | (simp only [push_cast]; omega) | ((try simp only [push_cast]); (with_reducible first | apply sel_lt | apply sel_ge); (focus decide); (focus (simp only [push_cast]; omega))))) only [push_cast, ↓reduceIte, Nat.reduceEqDiff, Nat.reduceBEq, Nat.reduceAdd, Nat.reduceSub, Int.reduceToNat, *] <;> with_reducible exact rfl)); all_goals try (intro hX; first | (cases hX; done) | ((with_reducible first | have hX0 : true = true := hX | have hX0 : false = false := hX); clear hX0 hX) | ((try simp only [decide_eq_true_eq, decide_eq_false_iff_not, Bool.not_eq_true', Bool.not_eq_false'] at hX); (try have hXb := inB_iff.1 hX)))))); all_goals try (exfalso; omega)
              refine ⟨e + 1, ⟨by omega, hbn.out⟩, by dsimp only; omega, ?_, trivial, rfl⟩
              simp (disch := (first | omega | (simp only [push_cast]; done) | (simp only [push_cast]; omega) | ((try simp only [push_cast]); (with_reducible first | apply sel_lt | apply sel_ge); (focus decide); (focus (simp only [push_cast]; omega))))) only [push_cast, ↓reduceIte, Nat.reduceEqDiff, Nat.reduceBEq, Nat.reduceAdd, Nat.reduceSub, Int.reduceToNat, hex.out, *]
          · have h0 := houtp.out (by omega)
            rw [if_neg hk0] at hex
            replace hex := Lib.hid hex
            by_cases hle : e + 1 < l.length
            · have hs := hstop hle
              have ha2 := hae2 hle
              clear hstop hae2
              (repeat' (first | (with_reducible first | apply i_seq | apply i_block | apply i_skip | apply i_exit | apply i_ret | apply i_kS | apply i_kSx | apply i_kSr | apply i_kL | apply i_kLx | apply i_kLr | apply i_kB | apply i_kBr | apply i_kBs | apply i_nil) | ((with_reducible apply i_region); (focus (simp only [List.map_cons, List.map_nil] <;> exact rfl))) | ((with_reducible apply i_draw); (focus (simp only [List.map_cons, List.map_nil] <;> exact rfl)); (focus (decide +kernel))) | ((with_reducible apply i_kBo); (focus rfl)) | ((first | ((with_reducible apply i_V); (focus rfl); (focus rfl); (focus rfl)) | ((with_reducible apply i_E); (focus rfl); (focus (first | rfl | (simp only [push_cast, ↓reduceIte, effOk, touch, refsOf, List.flatMap_cons, List.flatMap_nil])))) | ((with_reducible apply i_S); (focus rfl); (focus (first | rfl | (simp only [push_cast, ↓reduceIte, effOk, touch, refsOf, List.flatMap_cons, List.flatMap_nil])))) | ((with_reducible apply i_Vq); (focus rfl); (focus rfl)) | ((with_reducible apply i_Vp); (focus rfl); (focus rfl); (focus rfl)) | (with_reducible first | apply i_Gb | apply i_cond)); (focus (simp (disch := (first | omega | (simp only [push_cast]; done) | (simp only [push_cast]; omega) | ((try simp only [push_cast]); (with_reducible first | apply sel_lt | apply sel_ge); (focus decide); (focus (simp only [push_cast]; omega))))) only [push_cast, ↓reduceIte, Nat.reduceEqDiff, Nat.reduceBEq, Nat.reduceAdd, Nat.reduceSub, Int.reduceToNat, *] <;> with_reducible exact rfl)); all_goals try (intro hX; first | (cases hX; done) | ((with_reducible first | have hX0 : true = true := hX | have hX0 : false = false := hX); clear hX0 hX) | ((try simp only [decide_eq_true_eq, decide_eq_false_iff_not, Bool.not_eq_true', Bool.not_eq_false'] at hX); (try have hXb := inB_iff.1 hX)))))); all_goals try (exfalso; omega)
              refine ⟨e + 1, ⟨by omega, hbn.out⟩, by dsimp only; omega, ?_, trivial, rfl⟩
              simp (disch := (first | omega | (simp only [push_cast]; done) | (simp only [push_cast]; omega) | ((try simp only [push_cast]); (with_reducible first | apply sel_lt | apply sel_ge); (focus decide); (focus (simp only [push_cast]; omega))))) only [push_cast, ↓reduceIte, Nat.reduceEqDiff, Nat.reduceBEq, Nat.reduceAdd, Nat.reduceSub, Int.reduceToNat, hex.out, *]
            · clear hstop hae2
              (repeat' (first | (with_reducible first | apply i_seq | apply i_block | apply i_skip | apply i_exit | apply i_ret | apply i_kS | apply i_kSx | apply i_kSr | apply i_kL | apply i_kLx | apply i_kLr | apply i_kB | apply i_kBr | apply i_kBs | apply i_nil) | ((with_reducible apply i_region); (focus (simp only [List.map_cons, List.map_nil] <;> exact rfl))) | ((with_reducible apply i_draw); (focus (simp only [List.map_cons, List.map_nil] <;> exact rfl)); (focus (decide +kernel))) | ((with_reducible apply i_kBo); (focus rfl)) | ((first | ((with_reducible apply i_V); (focus rfl); (focus rfl); (focus rfl)) | ((with_reducible apply i_E); (focus rfl); (focus (first | rfl | (simp only [push_cast, ↓reduceIte, effOk, touch, refsOf, List.flatMap_cons, List.flatMap_nil])))) | ((with_reducible apply i_S); (focus rfl); (focus (first | rfl | (simp only [push_cast, ↓reduceIte, effOk, touch, refsOf, List.flatMap_cons, List.flatMap_nil])))) | ((with_reducible apply i_Vq); (focus rfl); (focus rfl)) | ((with_reducible apply i_Vp); (focus rfl); (focus rfl); (focus rfl)) | (with_reducible first | apply i_Gb | apply i_cond)); (focus (simp (disch := (first | omega | (simp only [push_cast]; done) | (simp only [push_cast]; omega) | ((try simp only [push_cast]); (with_reducible first | apply sel_lt | apply sel_ge); (focus decide); (focus (simp only [push_cast]; omega))))) only [push_cast, ↓reduceIte, Nat.reduceEqDiff, Nat.reduceBEq, Nat.reduceAdd, Nat.reduceSub, Int.reduceToNat, *] <;> with_reducible exact rfl)); all_goals try (intro hX; first | (cases hX; done) | ((with_reducible first | have hX0 : true = true := hX | have hX0 : false = false := hX); clear hX0 hX) | ((try simp only [decide_eq_true_eq, decide_eq_false_iff_not, Bool.not_eq_true', Bool.not_eq_false'] at hX); (try have hXb := inB_iff.1 hX)))))); all_goals try (exfalso; omega)
              refine ⟨e + 1, ⟨by omega, hbn.out⟩, by dsimp only; omega, ?_, trivial, rfl⟩
              simp (disch := (first | omega | (simp only [push_cast]; done) | (simp only [push_cast]; omega) | ((try simp only [push_cast]); (with_reducible first | apply sel_lt | apply sel_ge); (focus decide); (focus (simp only [push_cast]; omega))))) only [push_cast, ↓reduceIte, Nat.reduceEqDiff, Nat.reduceBEq, Nat.reduceAdd, Nat.reduceSub, Int.reduceToNat, hex.out, *]
        · rw [runT_two (by omega), ba_assoc, ba_assoc] at hex
          have hkz : k < e := by omega
          replace hup := Lib.hid hup
          by_cases hk0 : k = 0
          · have h0 := hout0.out hk0
            subst h0
            rw [if_pos hk0] at hex
            clear hk0
            replace hex := Lib.hid hex
            by_cases hle : e + 1 < l.length
            · have hs := hstop hle
              have ha2 := hae2 hle
              clear hstop hae2
              (repeat' (first | (with_reducible first | apply i_seq | apply i_block | apply i_skip | apply i_exit | apply i_ret | apply i_kS | apply i_kSx | apply i_kSr | apply i_kL | apply i_kLx | apply i_kLr | apply i_kB | apply i_kBr | apply i_kBs | apply i_nil) | ((with_reducible apply i_region); (focus (simp only [List.map_cons, List.map_nil] <;> exact rfl))) | ((with_reducible apply i_draw); (focus (simp only [List.map_cons, List.map_nil] <;> exact rfl)); (focus (decide +kernel))) | ((with_reducible apply i_kBo); (focus rfl)) | ((first | ((with_reducible apply i_V); (focus rfl); (focus rfl); (focus rfl)) | ((with_reducible apply i_E); (focus rfl); (focus (first | rfl | (simp only [push_cast, ↓reduceIte, effOk, touch, refsOf, List.flatMap_cons, List.flatMap_nil])))) | ((with_reducible apply i_S); (focus rfl); (focus (first | rfl | (simp only [push_cast, ↓reduceIte, effOk, touch, refsOf, List.flatMap_cons, List.flatMap_nil])))) | ((with_reducible apply i_Vq); (focus rfl); (focus rfl)) | ((with_reducible apply i_Vp); (focus rfl); (focus rfl); (focus rfl)) | (with_reducible first | apply i_Gb | apply i_cond)); (focus (simp (disch := (first | omega | (simp only [push_cast]; done) | (simp only [push_cast]; omega) | ((try simp only [push_cast]); (with_reducible first | apply sel_lt | apply sel_ge); (focus decide); (focus (simp only [push_cast]; omega))))) only [push_cast, ↓reduceIte, Nat.reduceEqDiff, Nat.reduceBEq, Nat.reduceAdd, Nat.reduceSub, Int.reduceToNat, *] <;> with_reducible exact rfl)); all_goals try (intro hX; first | (cases hX; done) | ((with_reducible first | have hX0 : true = true := hX | have hX0 : false = false := hX); clear hX0 hX) | ((try simp only [decide_eq_true_eq, decide_eq_false_iff_not, Bool.not_eq_true', Bool.not_eq_false'] at hX); (try have hXb := inB_iff.1 hX)))))); all_goals try (exfalso; omega)
              refine ⟨e + 1, ⟨by omega, hbn.out⟩, by dsimp only; omega, ?_, trivial, rfl⟩
              simp (disch := (first | omega | (simp only [push_cast]; done) | (simp only [push_cast]; omega) | ((try simp only [push_cast]); (with_reducible first | apply sel_lt | apply sel_ge); (focus decide); (focus (simp only [push_cast]; omega))))) only [push_cast, ↓reduceIte, Nat.reduceEqDiff, Nat.reduceBEq, Nat.reduceAdd, Nat.reduceSub, Int.reduceToNat, hex.out, *]
            · clear hstop hae2
              (repeat' (first | (with_reducible first | apply i_seq | apply i_block | apply i_skip | apply i_exit | apply i_ret | apply i_kS | apply i_kSx | apply i_kSr | apply i_kL | apply i_kLx | apply i_kLr | apply i_kB | apply i_kBr | apply i_kBs | apply i_nil) | ((with_reducible apply i_region); (focus (simp only [List.map_cons, List.map_nil] <;> exact rfl))) | ((with_reducible apply i_draw); (focus (simp only [List.map_cons, List.map_nil] <;> exact rfl)); (focus (decide +kernel))) | ((with_reducible apply i_kBo); (focus rfl)) | ((first | ((with_reducible apply i_V); (focus rfl); (focus rfl); (focus rfl)) | ((with_reducible apply i_E); (focus rfl); (focus (first | rfl | (simp only [push_cast, ↓reduceIte, effOk, touch, refsOf, List.flatMap_cons, List.flatMap_nil])))) | ((with_reducible apply i_S); (focus rfl); (focus (first | rfl | (simp only [push_cast, ↓reduceIte, effOk, touch, refsOf, List.flatMap_cons, List.flatMap_nil])))) | ((with_reducible apply i_Vq); (focus rfl); (focus rfl)) | ((with_reducible apply i_Vp); (focus rfl); (focus rfl); (focus rfl)) | (with_reducible first | apply i_Gb | apply i_cond)); (focus (simp (disch := (first | omega | (simp only [push_cast]; done) | (simp only [push_cast]; omega) | ((try simp only [push_cast]); (with_reducible first | apply sel_lt | apply sel_ge); (focus decide); (focus (simp only [push_cast]; omega))))) only [push_cast, ↓reduceIte, Nat.reduceEqDiff, Nat.reduceBEq, Nat.reduceAdd, Nat.reduceSub, Int.reduceToNat, *] <;> with_reducible exact rfl)); all_goals try (intro hX; first | (cases hX; done) | ((with_reducible first | have hX0 : true = true := hX | have hX0 : false = false := hX); clear hX0 hX) | ((try simp only [decide_eq_true_eq, decide_eq_false_iff_not, Bool.not_eq_true', Bool.not_eq_false'] at hX); (try have hXb := inB_iff.1 hX)))))); all_goals try (exfalso; omega)
              refine ⟨e + 1, ⟨by omega, hbn.out⟩, by dsimp only; omega, ?_, trivial, rfl⟩
              simp (disch := (first | omega | (simp only [push_cast]; done) | (simp only [push_cast]; omega) | ((try simp only [push_cast]); (with_reducible first | apply sel_lt | apply sel_ge); (focus decide); (focus (simp only [push_cast]; omega))))) only [push_cast, ↓reduceIte, Nat.reduceEqDiff, Nat.reduceBEq, Nat.reduceAdd, Nat.reduceSub, Int.reduceToNat, hex.out, *]
          · have h0 := houtp.out (by omega)
            rw [if_neg hk0] at hex
            replace hex := Lib.hid hex
            by_cases hle : e + 1 < l.length
            · have hs := hstop hle
              have ha2 := hae2 hle
              clear hstop hae2
              (repeat' (first | (with_reducible first | apply i_seq | apply i_block | apply i_skip | apply i_exit | apply i_ret | apply i_kS | apply i_kSx | apply i_kSr | apply i_kL | apply i_kLx | apply i_kLr | apply i_kB | apply i_kBr | apply i_kBs | apply i_nil) | ((with_reducible apply i_region); (focus (simp only [List.map_cons, List.map_nil] <;> exact rfl))) | ((with_reducible apply i_draw); (focus (simp only [List.map_cons, List.map_nil] <;> exact rfl)); (focus (decide +kernel))) | ((with_reducible apply i_kBo); (focus rfl)) | ((first | ((with_reducible apply i_V); (focus rfl); (focus rfl); (focus rfl)) | ((with_reducible apply i_E); (focus rfl); (focus (first | rfl | (simp only [push_cast, ↓reduceIte, effOk, touch, refsOf, List.flatMap_cons, List.flatMap_nil])))) | ((with_reducible apply i_S); (focus rfl); (focus (first | rfl | (simp only [push_cast, ↓reduceIte, effOk, touch, refsOf, List.flatMap_cons, List.flatMap_nil])))) | ((with_reducible apply i_Vq); (focus rfl); (focus rfl)) | ((with_reducible apply i_Vp); (focus rfl); (focus rfl); (focus rfl)) | (with_reducible first | apply i_Gb | apply i_cond)); (focus (simp (disch := (first | omega | (simp only [push_cast]; done) | (simp only [push_cast]; omega) | ((try simp only [push_cast]); (with_reducible first | apply sel_lt | apply sel_ge); (focus decide); (focus (simp only [push_cast]; omega))))) only [push_cast, ↓reduceIte, Nat.reduceEqDiff, Nat.reduceBEq, Nat.reduceAdd, Nat.reduceSub, Int.reduceToNat, *] <;> with_reducible exact rfl)); all_goals try (intro hX; first | (cases hX; done) | ((with_reducible first | have hX0 : true = true := hX | have hX0 : false = false := hX); clear hX0 hX) | ((try simp only [decide_eq_true_eq, decide_eq_false_iff_not, Bool.not_eq_true', Bool.not_eq_false'] at hX); (try have hXb := inB_iff.1 hX)))))); all_goals try (exfalso; omega)
              refine ⟨e + 1, ⟨by omega, hbn.out⟩, by dsimp only; omega, ?_, trivial, rfl⟩
              simp (disch := (first | omega | (simp only [push_cast]; done) | (simp only [push_cast]; omega) | ((try simp only [push_cast]); (with_reducible first | apply sel_lt | apply sel_ge); (focus decide); (focus (simp only [push_cast]; omega))))) only [push_cast, ↓reduceIte, Nat.reduceEqDiff, Nat.reduceBEq, Nat.reduceAdd, Nat.reduceSub, Int.reduceToNat, hex.out, *]
            · clear hstop hae2
              (repeat' (first | (with_reducible first | apply i_seq | apply i_block | apply i_skip | apply i_exit | apply i_ret | apply i_kS | apply i_kSx | apply i_kSr | apply i_kL | apply i_kLx | apply i_kLr | apply i_kB | apply i_kBr | apply i_kBs | apply i_nil) | ((with_reducible apply i_region); (focus (simp only [List.map_cons, List.map_nil] <;> exact rfl))) | ((with_reducible apply i_draw); (focus (simp only [List.map_cons, List.map_nil] <;> exact rfl)); (focus (decide +kernel))) | ((with_reducible apply i_kBo); (focus rfl)) | ((first | ((with_reducible apply i_V); (focus rfl); (focus rfl); (focus rfl)) | ((with_reducible apply i_E); (focus rfl); (focus (first | rfl | (simp only [push_cast, ↓reduceIte, effOk, touch, refsOf, List.flatMap_cons, List.flatMap_nil])))) | ((with_reducible apply i_S); (focus rfl); (focus (first | rfl | (simp only [push_cast, ↓reduceIte, effOk, touch, refsOf, List.flatMap_cons, List.flatMap_nil])))) | ((with_reducible apply i_Vq); (focus rfl); (focus rfl)) | ((with_reducible apply i_Vp); (focus rfl); (focus rfl); (focus rfl)) | (with_reducible first | apply i_Gb | apply i_cond)); (focus (simp (disch := (first | omega | (simp only [push_cast]; done) | (simp only [push_cast]; omega) | ((try simp only [push_cast]); (with_reducible first | apply sel_lt | apply sel_ge); (focus decide); (focus (simp only [push_cast]; omega))))) only [push_cast, ↓reduceIte, Nat.reduceEqDiff, Nat.reduceBEq, Nat.reduceAdd, Nat.reduceSub, Int.reduceToNat, *] <;> with_reducible exact rfl)); all_goals try (intro hX; first | (cases hX; done) | ((with_reducible first | have hX0 : true = true := hX | have hX0 : false = false := hX); clear hX0 hX) | ((try simp only [decide_eq_true_eq, decide_eq_false_iff_not, Bool.not_eq_true', Bool.not_eq_false'] at hX); (try have hXb := inB_iff.1 hX)))))); all_goals try (exfalso; omega)
              refine ⟨e + 1, ⟨by omega, hbn.out⟩, by dsimp only; omega, ?_, trivial, rfl⟩
              simp (disch := (first | omega | (simp only [push_cast]; done) | (simp only [push_cast]; omega) | ((try simp only [push_cast]); (with_reducible first | apply sel_lt | apply sel_ge); (focus decide); (focus (simp only [push_cast]; omega))))) only [push_cast, ↓reduceIte, Nat.reduceEqDiff, Nat.reduceBEq, Nat.reduceAdd, Nat.reduceSub, Int.reduceToNat, hex.out, *]
    · obtain rfl : k = l.length := by omega
      (repeat' (first | (with_reducible first | apply i_seq | apply i_block | apply i_skip | apply i_exit | apply i_ret | apply i_kS | apply i_kSx | apply i_kSr | apply i_kL | apply i_kLx | apply i_kLr | apply i_kB | apply i_kBr | apply i_kBs | apply i_nil) | ((with_reducible apply i_region); (focus (simp only [List.map_cons, List.map_nil] <;> exact rfl))) | ((with_reducible apply i_draw); (focus (simp only [List.map_cons, List.map_nil] <;> exact rfl)); (focus (decide +kernel))) | ((with_reducible apply i_kBo); (focus rfl)) | ((first | ((with_reducible apply i_V); (focus rfl); (focus rfl); (focus rfl)) | ((with_reducible apply i_E); (focus rfl); (focus (first | rfl | (simp only [push_cast, ↓reduceIte, effOk, touch, refsOf, List.flatMap_cons, List.flatMap_nil])))) | ((with_reducible apply i_S); (focus rfl); (focus (first | rfl | (simp only [push_cast, ↓reduceIte, effOk, touch, refsOf, List.flatMap_cons, List.flatMap_nil])))) | ((with_reducible apply i_Vq); (focus rfl); (focus rfl)) | ((with_reducible apply i_Vp); (focus rfl); (focus rfl); (focus rfl)) | (with_reducible first | apply i_Gb | apply i_cond)); (focus (simp (disch := (first | omega | (simp only [push_cast]; done) | (simp only [push_cast]; omega) | ((try simp only [push_cast]); (with_reducible first | apply sel_lt | apply sel_ge); (focus decide); (focus (simp only [push_cast]; omega))))) only [push_cast, ↓reduceIte, Nat.reduceEqDiff, Nat.reduceBEq, Nat.reduceAdd, Nat.reduceSub, Int.reduceToNat, *] <;> with_reducible exact rfl)); all_goals try (intro hX; first | (cases hX; done) | ((with_reducible first | have hX0 : true = true := hX | have hX0 : false = false := hX); clear hX0 hX) | ((try simp only [decide_eq_true_eq, decide_eq_false_iff_not, Bool.not_eq_true', Bool.not_eq_false'] at hX); (try have hXb := inB_iff.1 hX)))))); all_goals try (exfalso; omega)
      all_goals ((first | apply i_end | apply i_endN); simp (disch := (first | omega | (simp only [push_cast]; done) | (simp only [push_cast]; omega) | ((try simp only [push_cast]); (with_reducible first | apply sel_lt | apply sel_ge); (focus decide); (focus (simp only [push_cast]; omega))))) only [push_cast, ↓reduceIte, Nat.reduceEqDiff, Nat.reduceBEq, Nat.reduceAdd, Nat.reduceSub, Int.reduceToNat, *])
end Go.Proofs.YtpggpdbipajchaaDoor
namespace Go.Proofs.YtpggpdbipajchaaDoor
open Go.RowKit
set_option linter.all false
theorem Sound.calls {P : Program} {f : Nat} {φ : Fun} {vs : List Value} {v : Value} {args : Array Value} {w : World} {io : Nat → Prop} (h : Sound P f φ) (hφ : φ (vs.map PV.val) = some (.val v)) (ha : args.toList = vs) (hT : TabF w io) : Calls P f args w fun e w' => e = .returned v ∧ Below w.heap.size w w' := by
  refine (h w (fun _ => False) (vs.map PV.val) args _ hφ (fun _ q => q.elim) hT.none (by rw [ha]; exact RepL.vals vs)).mono ?_
  rintro e w' ⟨u, rfl, hb, hv⟩
  have := hv { I := fun _ _ => True, β := fun _ => 0, κ := fun _ => 0, nx := 0 } fun _ _ _ => trivial
  simp only [Rep] at this
  subst this
  exact ⟨rfl, hb⟩
theorem TabF.below {w w' : World} {io : Nat → Prop} (h : TabF w io) (hb : Below w.heap.size w w') : TabF w' io :=
  h.keep ⟨hb.os, hb.tape, hb.output, hb.size, fun b hlt _ => hb.block b hlt⟩ h.apart
theorem atoi_any {w : World} {io : Nat → Prop} (hT : TabF w io) (s : ByteArray) (hs : s.size ≤ 1048576) : Calls Tryd.prog 100 #[.string s] w fun e w' => ∃ v ev, e = .returned (.tuple #[.int .i64 v, ev]) ∧ Below w.heap.size w w' ∧ okI v ∧
    ((Lib.atoiAll s.data.toList = .ok v ∧ ev = .nilIface) ∨ ((∀ u, Lib.atoiAll s.data.toList ≠ .ok u) ∧ ∃ t x, ev = .iface t x)) := by
  cases h : Lib.atoiAll s.data.toList
  case ok v =>
    refine (YtpggpdbipajchaaDoor.strconv_Atoi_ok s (by omega) v h w).mono ?_
    rintro e w' ⟨rfl, hw⟩
    have hb := Lib.atoiAll_bounds h
    refine ⟨v, .nilIface, rfl, ?_, ⟨by omega, by omega⟩, .inl ⟨rfl, rfl⟩⟩
    rcases hw with rfl | ⟨t, rfl⟩
    · exact Below.refl _ _
    · exact Lib.bytesWorld_below _ _ _
  case range =>
    obtain ⟨ev, h1, _, h2⟩ := hT.vars _ (show (_, false) ∈ gls from List.mem_cons_of_mem _ (List.mem_cons_of_mem _ (List.mem_cons_self ..)))
    obtain ⟨t, u, rfl⟩ := h2 rfl
    refine (YtpggpdbipajchaaDoor.strconv_Atoi_range s (by omega) h _ w h1 (.inr ⟨t, u, rfl⟩)).mono ?_
    rintro e w' ⟨N, rfl, _, _, hb⟩
    have hb2 := Lib.atoiSat_bounds s.data.toList
    exact ⟨_, _, rfl, hb, ⟨by omega, by omega⟩, .inr ⟨fun u q => (by cases q), _, _, rfl⟩⟩
  · obtain ⟨ev, h1, _, h2⟩ := hT.vars _ (show (_, false) ∈ gls from List.mem_cons_of_mem _ (List.mem_cons_self ..))
    obtain ⟨t, u, rfl⟩ := h2 rfl
    refine (YtpggpdbipajchaaDoor.strconv_Atoi_syntax s (by omega) h _ w h1 (.inr ⟨t, u, rfl⟩)).mono ?_
    rintro e w' ⟨N, rfl, _, _, hb⟩
    exact ⟨0, _, rfl, hb, ⟨by omega, by omega⟩, .inr ⟨fun u q => (by cases q), _, _, rfl⟩⟩
theorem atoi_yes {w : World} {io : Nat → Prop} (hT : TabF w io) (s : ByteArray) (hs : s.size ≤ 1048576) {v : Int} (h : Lib.atoiAll s.data.toList = .ok v) : Calls Tryd.prog 100 #[.string s] w fun e w' => e = .returned (.tuple #[.int .i64 v, .nilIface]) ∧ Below w.heap.size w w' := by
  refine (atoi_any hT s hs).mono ?_
  rintro e w' ⟨u, ev, rfl, hb, _, ⟨h1, rfl⟩ | ⟨h1, _⟩⟩
  · rw [h] at h1
    cases h1
    exact ⟨rfl, hb⟩
  · exact absurd h (h1 v)
theorem atoi_no {w : World} {io : Nat → Prop} (hT : TabF w io) (s : ByteArray) (hs : s.size ≤ 1048576) (h : ∀ u, Lib.atoiAll s.data.toList ≠ .ok u) : Calls Tryd.prog 100 #[.string s] w fun e w' => ∃ v t x, e = .returned (.tuple #[.int .i64 v, .iface t x]) ∧ Below w.heap.size w w' := by
  refine (atoi_any hT s hs).mono ?_
  rintro e w' ⟨u, ev, rfl, hb, _, ⟨h1, rfl⟩ | ⟨h1, t, x, rfl⟩⟩
  · exact absurd h1 (h u)
  · exact ⟨u, t, x, rfl, hb⟩
theorem ok_or_not (x : Lib.NumEnd Int) : (∃ v, x = .ok v) ∨ ∀ u, x ≠ .ok u := by
  cases x
  case ok v => exact .inl ⟨v, rfl⟩
  all_goals exact .inr fun u h => by cases h
theorem str_beq {a b : ByteArray} (h : (a.toList == b.toList) = true) : a = b := by
  rw [Lib.toList_data, Lib.toList_data] at h
  exact gl_ext (eq_of_beq h)
theorem str_nbeq {a b : ByteArray} (h : (a.toList == b.toList) = false) (e : a = b) : False := by
  rw [e] at h
  simp at h
def RunOk (s : ByteArray) (a b : Int) : Prop := ((1 ≤ a ∧ a ≤ 999) ∧ (1 ≤ b ∧ b ≤ 999)) ∧ runT (a, b) = s
theorem itoa_nohy {n : Int} (h : 0 ≤ n) : ∀ b ∈ (itoaS n).data.toList, ¬ b = 45 := fun b hb e => by
  rw [itoa_val h] at hb
  have := (dec_val n.toNat).2 b hb
  subst e
  simp at this
theorem idx1_at : ∀ (t r : List UInt8), (∀ b ∈ t, ¬ b = 45) → Lib.index (t ++ 45 :: r) [45] = t.length
  | [], r, _ => by simp [Lib.index, List.isPrefixOf]
  | b :: t, r, h => by
    have hb : ¬ (45 : UInt8) = b := fun e => h b (by simp) e.symm
    have ih := idx1_at t r fun x hx => h x (by simp [hx])
    rw [List.cons_append, Lib.index, show ([45] : List UInt8).isPrefixOf (b :: (t ++ 45 :: r)) = false by simp [List.isPrefixOf, hb]]
    rw [if_neg (by decide), ih, if_neg (by first | (simp; done) | (simp; omega))]
    simp
theorem idx1_no : ∀ (t : List UInt8), (∀ b ∈ t, ¬ b = 45) → Lib.index t [45] = -1
  | [], _ => by simp [Lib.index]
  | b :: t, h => by
    have hb : ¬ (45 : UInt8) = b := fun e => h b (by simp) e.symm
    have ih := idx1_no t fun x hx => h x (by simp [hx])
    rw [Lib.index, show ([45] : List UInt8).isPrefixOf (b :: t) = false by simp [List.isPrefixOf, hb]]
    rw [if_neg (by decide), ih]
    rfl
theorem run_cut {s : ByteArray} {a b : Int} (h : RunOk s a b) : (Lib.cut s.data.toList [45]).1 = (itoaS a).data.toList ∧ (if (Lib.cut s.data.toList [45]).2.2 = true then (Lib.cut s.data.toList [45]).2.1 else (Lib.cut s.data.toList [45]).1) = (itoaS b).data.toList := by
  obtain ⟨⟨h1, h2⟩, rfl⟩ := h
  have ha := itoa_nohy (n := a) (by omega)
  by_cases hab : a = b
  · subst hab
    rw [runT_one]
    have hi := idx1_no _ ha
    unfold Lib.cut
    rw [hi, if_neg (by decide)]
    exact ⟨rfl, rfl⟩
  · rw [runT_two hab]
    have e : ((itoaS a ++ ⟨#[45]⟩) ++ itoaS b).data.toList = (itoaS a).data.toList ++ 45 :: (itoaS b).data.toList := by
      rw [ByteArray.data_append, Array.toList_append, ByteArray.data_append, Array.toList_append]
      simp
    have hi := idx1_at _ (itoaS b).data.toList ha
    rw [e]
    unfold Lib.cut
    rw [hi, if_pos (by omega), Int.toNat_natCast]
    refine ⟨by simp, ?_⟩
    rw [if_pos rfl]
    rw [show (itoaS a).data.toList ++ 45 :: (itoaS b).data.toList = ((itoaS a).data.toList ++ [45]) ++ (itoaS b).data.toList by simp]
    exact List.drop_left' (by simp)
set_option maxHeartbeats 4000000 in
set_option maxRecDepth 100000 in
theorem readRun_any {w : World} {io : Nat → Prop} (hT : TabF w io) (s : ByteArray) (hs : s.size ≤ 1048576) : Calls Tryd.prog 72 #[.string s] w fun e w' => ∃ a b ok, e = .returned (.tuple #[.int .i64 a, .int .i64 b, .bool ok]) ∧ Below w.heap.size w w' ∧ (ok = true → RunOk s a b) ∧ (ok = false → ∀ a b, ¬ RunOk s a b) := by
  obtain ⟨mv, hm, hmi, _⟩ := hT.vars _ (show (_, true) ∈ gls from List.mem_cons_self ..)
  obtain ⟨m, rfl⟩ := hmi rfl
  have hcut : Calls Tryd.prog 99 #[.string s, .string ⟨#[45]⟩] w fun e w' => e = .returned (.tuple #[.string ⟨(Lib.cut s.data.toList (⟨#[45]⟩ : ByteArray).data.toList).1.toArray⟩, .string ⟨(Lib.cut s.data.toList (⟨#[45]⟩ : ByteArray).data.toList).2.1.toArray⟩, .bool (Lib.cut s.data.toList (⟨#[45]⟩ : ByteArray).data.toList).2.2]) ∧ Below w.heap.size w w' :=
    (YtpggpdbipajchaaDoor.strings_Cut s ⟨#[45]⟩ m w (by omega) hm).mono (by rintro e w' ⟨rfl, n, rfl⟩; exact ⟨rfl, rfl, rfl, rfl, by simp [World.drewN], fun b hb => by simp [World.drewN]⟩)
  rw [show (⟨#[45]⟩ : ByteArray).data.toList = [45] from rfl] at hcut
  have hrc := fun a b => run_cut (s := s) (a := a) (b := b)
  have hz1 : (⟨(Lib.cut s.data.toList [45]).1.toArray⟩ : ByteArray).size ≤ 1048576 ∧ (⟨(Lib.cut s.data.toList [45]).2.1.toArray⟩ : ByteArray).size ≤ 1048576 := by
    have hl : s.data.toList.length = s.size := Array.length_toList
    have e1 : ∀ l : List UInt8, (⟨l.toArray⟩ : ByteArray).size = l.length := fun l => rfl
    rw [e1, e1]
    unfold Lib.cut
    split
    · refine ⟨by rw [List.length_take]; omega, by rw [List.length_drop]; omega⟩
    · exact ⟨by dsimp only; omega, by simp⟩
  generalize hc1 : (Lib.cut s.data.toList [45]).1 = c1 at *
  generalize hc2 : (Lib.cut s.data.toList [45]).2.1 = c2 at *
  generalize hc3 : (Lib.cut s.data.toList [45]).2.2 = c3 at *
  obtain ⟨hz1, hz2⟩ := hz1
  have HRC := Lib.hid hrc
  have HT := Lib.hid hT
  clear hrc hc1 hc2 hc3 hm hmi hT
  have hI : ∀ (W : World) (n : Int), TabF W io → Calls Tryd.prog 52 #[.int .i64 n] W fun e w' => e = .returned (.bool (inB n 1 999)) ∧ Below W.heap.size W w' := fun W n hW => Sound.calls (vs := [.int .i64 n]) isPage_ok (φPage_ap n) rfl hW
  obtain ⟨ms, hem⟩ : ∃ ms, Tryd.prog.underlying 116 = some (.interface ms) := ⟨Tryd.prog.methodsAt 116, by kernel_rfl⟩
  cases c3 with
  | true =>
    have HAB : Hid (∀ a b, RunOk s a b → Lib.atoiAll c1 = .ok a ∧ Lib.atoiAll c2 = .ok b) := fun a b h => by
      obtain ⟨q1, q2⟩ := HRC.out a b h
      obtain ⟨⟨r1, r2⟩, _⟩ := h
      have q3 : c2 = (itoaS b).data.toList := q2
      skip
      exact ⟨by rw [q1]; exact atoi_itoa (by omega) (by omega), by rw [q3]; exact atoi_itoa (by omega) (by omega)⟩
    clear HRC
    rcases ok_or_not (Lib.atoiAll c1) with ⟨v1, h1⟩ | h1
    · rcases ok_or_not (Lib.atoiAll c2) with ⟨v2, h2⟩ | h2
      · have hv1 := Lib.atoiAll_bounds h1
        have hv2 := Lib.atoiAll_bounds h2
        have hRT : ∀ W, TabF W io → inB v1 1 999 = true → inB v2 1 999 = true → Calls Tryd.prog 68 #[.int .i64 v1, .int .i64 v2] W fun e w' => e = .returned (.string (runT (v1, v2))) ∧ Below W.heap.size W w' := fun W hW h1 h2 => Sound.calls (vs := [.int .i64 v1, .int .i64 v2]) runText_ok (φRunT_ap (by have := inB_iff.1 h1; have := inB_iff.1 h2; omega)) rfl hW
        go_enter Tryd.func72, Tryd.ntmps72
        go_wp2_with (first
          | (go_at_call 99; refine hcut.mono ?_; rintro e w1 ⟨rfl, hb1⟩; have HB1 := Lib.hid hb1; have HT1 := Lib.hid (HT.out.below hb1); clear hb1)
          | (go_at_call 100; refine (atoi_yes HT1.out ⟨c1.toArray⟩ hz1 h1).mono ?_; rintro e w2 ⟨rfl, hb2⟩; have HB2 := Lib.hid (below_trans HB1.out hb2); have HT2 := Lib.hid (HT1.out.below hb2); clear hb2 HT1 HB1)
          | (go_at_call 100; refine (atoi_yes HT2.out ⟨c2.toArray⟩ hz2 h2).mono ?_; rintro e w3 ⟨rfl, hb3⟩; have HB3 := Lib.hid (below_trans HB2.out hb3); have HT3 := Lib.hid (HT2.out.below hb3); clear hb3 HT2 HB2)
          | (go_at_call 52; refine (hI _ v1 HT3.out).mono ?_; rintro e w4 ⟨rfl, hb4⟩; have HB4 := Lib.hid (below_trans HB3.out hb4); have HT4 := Lib.hid (HT3.out.below hb4); clear hb4 HT3 HB3)
          | (go_at_call 52; refine (hI _ v2 HT4.out).mono ?_; rintro e w5 ⟨rfl, hb5⟩; have HB5 := Lib.hid (below_trans HB4.out hb5); have HT5 := Lib.hid (HT4.out.below hb5); clear hb5 HT4 HB4)
          | (go_at_call 68; refine (hRT _ HT5.out (by assumption) (by assumption)).mono ?_; rintro e w6 ⟨rfl, hb6⟩; have HB6 := Lib.hid (below_trans HB5.out hb6); clear hb6 HT5 HB5))
        all_goals go_ret3
        · exact ⟨v1, v2, _, rfl, HB6.out, fun q => ⟨⟨inB_iff.1 (by assumption), inB_iff.1 (by assumption)⟩, str_beq q⟩, fun q a b h => by
            obtain ⟨g1, g2⟩ := HAB.out a b h
            rw [h1] at g1
            rw [h2] at g2
            cases g1
            cases g2
            exact str_nbeq q h.2⟩
        · exact ⟨v1, v2, _, rfl, HB5.out, fun q => (by cases q), fun q a b h => by
            obtain ⟨g1, g2⟩ := HAB.out a b h
            rw [h2] at g2
            cases g2
            have := inB_iff.2 h.1.2
            simp_all⟩
        · exact ⟨v1, v2, _, rfl, HB4.out, fun q => (by cases q), fun q a b h => by
            obtain ⟨g1, g2⟩ := HAB.out a b h
            rw [h1] at g1
            cases g1
            have := inB_iff.2 h.1.1
            simp_all⟩
      · have hv1 := Lib.atoiAll_bounds h1
        go_enter Tryd.func72, Tryd.ntmps72
        go_wp2_with (first
          | (go_at_call 99; refine hcut.mono ?_; rintro e w1 ⟨rfl, hb1⟩; have HB1 := Lib.hid hb1; have HT1 := Lib.hid (HT.out.below hb1); clear hb1)
          | (go_at_call 100; refine (atoi_yes HT1.out ⟨c1.toArray⟩ hz1 h1).mono ?_; rintro e w2 ⟨rfl, hb2⟩; have HB2 := Lib.hid (below_trans HB1.out hb2); have HT2 := Lib.hid (HT1.out.below hb2); clear hb2 HT1 HB1)
          | (go_at_call 100; refine (atoi_no HT2.out ⟨c2.toArray⟩ hz2 h2).mono ?_; rintro e w3 ⟨v2, t2, x2, rfl, hb3⟩; have HB3 := Lib.hid (below_trans HB2.out hb3); have HT3 := Lib.hid (HT2.out.below hb3); clear hb3 HT2 HB2))
        all_goals go_ret3
        all_goals exact ⟨_, _, false, rfl, HB3.out, fun q => (by cases q), fun _ a b h => h2 b (HAB.out a b h).2⟩
    · rcases ok_or_not (Lib.atoiAll c2) with ⟨v2, h2⟩ | h2
      · have hv2 := Lib.atoiAll_bounds h2
        go_enter Tryd.func72, Tryd.ntmps72
        go_wp2_with (first
          | (go_at_call 99; refine hcut.mono ?_; rintro e w1 ⟨rfl, hb1⟩; have HB1 := Lib.hid hb1; have HT1 := Lib.hid (HT.out.below hb1); clear hb1)
          | (go_at_call 100; refine (atoi_no HT1.out ⟨c1.toArray⟩ hz1 h1).mono ?_; rintro e w2 ⟨v1, t1, x1, rfl, hb2⟩; have HB2 := Lib.hid (below_trans HB1.out hb2); have HT2 := Lib.hid (HT1.out.below hb2); clear hb2 HT1 HB1)
          | (go_at_call 100; refine (atoi_yes HT2.out ⟨c2.toArray⟩ hz2 h2).mono ?_; rintro e w3 ⟨rfl, hb3⟩; have HB3 := Lib.hid (below_trans HB2.out hb3); have HT3 := Lib.hid (HT2.out.below hb3); clear hb3 HT2 HB2))
        all_goals go_ret3
        all_goals exact ⟨_, _, false, rfl, HB3.out, fun q => (by cases q), fun _ a b h => h1 a (HAB.out a b h).1⟩
      · skip
        go_enter Tryd.func72, Tryd.ntmps72
        go_wp2_with (first
          | (go_at_call 99; refine hcut.mono ?_; rintro e w1 ⟨rfl, hb1⟩; have HB1 := Lib.hid hb1; have HT1 := Lib.hid (HT.out.below hb1); clear hb1)
          | (go_at_call 100; refine (atoi_no HT1.out ⟨c1.toArray⟩ hz1 h1).mono ?_; rintro e w2 ⟨v1, t1, x1, rfl, hb2⟩; have HB2 := Lib.hid (below_trans HB1.out hb2); have HT2 := Lib.hid (HT1.out.below hb2); clear hb2 HT1 HB1)
          | (go_at_call 100; refine (atoi_no HT2.out ⟨c2.toArray⟩ hz2 h2).mono ?_; rintro e w3 ⟨v2, t2, x2, rfl, hb3⟩; have HB3 := Lib.hid (below_trans HB2.out hb3); have HT3 := Lib.hid (HT2.out.below hb3); clear hb3 HT2 HB2))
        all_goals go_ret3
        all_goals exact ⟨_, _, false, rfl, HB3.out, fun q => (by cases q), fun _ a b h => h1 a (HAB.out a b h).1⟩
  | false =>
    have HAB : Hid (∀ a b, RunOk s a b → Lib.atoiAll c1 = .ok a ∧ Lib.atoiAll c1 = .ok b) := fun a b h => by
      obtain ⟨q1, q2⟩ := HRC.out a b h
      obtain ⟨⟨r1, r2⟩, _⟩ := h
      have q3 : c1 = (itoaS b).data.toList := q2
      skip
      exact ⟨by rw [q1]; exact atoi_itoa (by omega) (by omega), by rw [q3]; exact atoi_itoa (by omega) (by omega)⟩
    clear HRC
    rcases ok_or_not (Lib.atoiAll c1) with ⟨v1, h1⟩ | h1
    · rcases ok_or_not (Lib.atoiAll c1) with ⟨v2, h2⟩ | h2
      · have hv1 := Lib.atoiAll_bounds h1
        have hv2 := Lib.atoiAll_bounds h2
        have hRT : ∀ W, TabF W io → inB v1 1 999 = true → inB v2 1 999 = true → Calls Tryd.prog 68 #[.int .i64 v1, .int .i64 v2] W fun e w' => e = .returned (.string (runT (v1, v2))) ∧ Below W.heap.size W w' := fun W hW h1 h2 => Sound.calls (vs := [.int .i64 v1, .int .i64 v2]) runText_ok (φRunT_ap (by have := inB_iff.1 h1; have := inB_iff.1 h2; omega)) rfl hW
        go_enter Tryd.func72, Tryd.ntmps72
        go_wp2_with (first
          | (go_at_call 99; refine hcut.mono ?_; rintro e w1 ⟨rfl, hb1⟩; have HB1 := Lib.hid hb1; have HT1 := Lib.hid (HT.out.below hb1); clear hb1)
          | (go_at_call 100; refine (atoi_yes HT1.out ⟨c1.toArray⟩ hz1 h1).mono ?_; rintro e w2 ⟨rfl, hb2⟩; have HB2 := Lib.hid (below_trans HB1.out hb2); have HT2 := Lib.hid (HT1.out.below hb2); clear hb2 HT1 HB1)
          | (go_at_call 100; refine (atoi_yes HT2.out ⟨c1.toArray⟩ hz1 h2).mono ?_; rintro e w3 ⟨rfl, hb3⟩; have HB3 := Lib.hid (below_trans HB2.out hb3); have HT3 := Lib.hid (HT2.out.below hb3); clear hb3 HT2 HB2)
          | (go_at_call 52; refine (hI _ v1 HT3.out).mono ?_; rintro e w4 ⟨rfl, hb4⟩; have HB4 := Lib.hid (below_trans HB3.out hb4); have HT4 := Lib.hid (HT3.out.below hb4); clear hb4 HT3 HB3)
          | (go_at_call 52; refine (hI _ v2 HT4.out).mono ?_; rintro e w5 ⟨rfl, hb5⟩; have HB5 := Lib.hid (below_trans HB4.out hb5); have HT5 := Lib.hid (HT4.out.below hb5); clear hb5 HT4 HB4)
          | (go_at_call 68; refine (hRT _ HT5.out (by assumption) (by assumption)).mono ?_; rintro e w6 ⟨rfl, hb6⟩; have HB6 := Lib.hid (below_trans HB5.out hb6); clear hb6 HT5 HB5))
        all_goals go_ret3
        · exact ⟨v1, v2, _, rfl, HB6.out, fun q => ⟨⟨inB_iff.1 (by assumption), inB_iff.1 (by assumption)⟩, str_beq q⟩, fun q a b h => by
            obtain ⟨g1, g2⟩ := HAB.out a b h
            rw [h1] at g1
            rw [h2] at g2
            cases g1
            cases g2
            exact str_nbeq q h.2⟩
        · exact ⟨v1, v2, _, rfl, HB5.out, fun q => (by cases q), fun q a b h => by
            obtain ⟨g1, g2⟩ := HAB.out a b h
            rw [h2] at g2
            cases g2
            have := inB_iff.2 h.1.2
            simp_all⟩
        · exact ⟨v1, v2, _, rfl, HB4.out, fun q => (by cases q), fun q a b h => by
            obtain ⟨g1, g2⟩ := HAB.out a b h
            rw [h1] at g1
            cases g1
            have := inB_iff.2 h.1.1
            simp_all⟩
      · have hv1 := Lib.atoiAll_bounds h1
        go_enter Tryd.func72, Tryd.ntmps72
        go_wp2_with (first
          | (go_at_call 99; refine hcut.mono ?_; rintro e w1 ⟨rfl, hb1⟩; have HB1 := Lib.hid hb1; have HT1 := Lib.hid (HT.out.below hb1); clear hb1)
          | (go_at_call 100; refine (atoi_yes HT1.out ⟨c1.toArray⟩ hz1 h1).mono ?_; rintro e w2 ⟨rfl, hb2⟩; have HB2 := Lib.hid (below_trans HB1.out hb2); have HT2 := Lib.hid (HT1.out.below hb2); clear hb2 HT1 HB1)
          | (go_at_call 100; refine (atoi_no HT2.out ⟨c1.toArray⟩ hz1 h2).mono ?_; rintro e w3 ⟨v2, t2, x2, rfl, hb3⟩; have HB3 := Lib.hid (below_trans HB2.out hb3); have HT3 := Lib.hid (HT2.out.below hb3); clear hb3 HT2 HB2))
        all_goals go_ret3
        all_goals exact ⟨_, _, false, rfl, HB3.out, fun q => (by cases q), fun _ a b h => h2 b (HAB.out a b h).2⟩
    · rcases ok_or_not (Lib.atoiAll c1) with ⟨v2, h2⟩ | h2
      · have hv2 := Lib.atoiAll_bounds h2
        go_enter Tryd.func72, Tryd.ntmps72
        go_wp2_with (first
          | (go_at_call 99; refine hcut.mono ?_; rintro e w1 ⟨rfl, hb1⟩; have HB1 := Lib.hid hb1; have HT1 := Lib.hid (HT.out.below hb1); clear hb1)
          | (go_at_call 100; refine (atoi_no HT1.out ⟨c1.toArray⟩ hz1 h1).mono ?_; rintro e w2 ⟨v1, t1, x1, rfl, hb2⟩; have HB2 := Lib.hid (below_trans HB1.out hb2); have HT2 := Lib.hid (HT1.out.below hb2); clear hb2 HT1 HB1)
          | (go_at_call 100; refine (atoi_yes HT2.out ⟨c1.toArray⟩ hz1 h2).mono ?_; rintro e w3 ⟨rfl, hb3⟩; have HB3 := Lib.hid (below_trans HB2.out hb3); have HT3 := Lib.hid (HT2.out.below hb3); clear hb3 HT2 HB2))
        all_goals go_ret3
        all_goals exact ⟨_, _, false, rfl, HB3.out, fun q => (by cases q), fun _ a b h => h1 a (HAB.out a b h).1⟩
      · skip
        go_enter Tryd.func72, Tryd.ntmps72
        go_wp2_with (first
          | (go_at_call 99; refine hcut.mono ?_; rintro e w1 ⟨rfl, hb1⟩; have HB1 := Lib.hid hb1; have HT1 := Lib.hid (HT.out.below hb1); clear hb1)
          | (go_at_call 100; refine (atoi_no HT1.out ⟨c1.toArray⟩ hz1 h1).mono ?_; rintro e w2 ⟨v1, t1, x1, rfl, hb2⟩; have HB2 := Lib.hid (below_trans HB1.out hb2); have HT2 := Lib.hid (HT1.out.below hb2); clear hb2 HT1 HB1)
          | (go_at_call 100; refine (atoi_no HT2.out ⟨c1.toArray⟩ hz1 h2).mono ?_; rintro e w3 ⟨v2, t2, x2, rfl, hb3⟩; have HB3 := Lib.hid (below_trans HB2.out hb3); have HT3 := Lib.hid (HT2.out.below hb3); clear hb3 HT2 HB2))
        all_goals go_ret3
        all_goals exact ⟨_, _, false, rfl, HB3.out, fun q => (by cases q), fun _ a b h => h1 a (HAB.out a b h).1⟩
end Go.Proofs.YtpggpdbipajchaaDoor
namespace Go.Proofs.YtpggpdbipajchaaDoor
open Go.RowKit
set_option linter.all false
theorem RunOk.unique {s : ByteArray} {a b a' b' : Int} (h : RunOk s a b) (h' : RunOk s a' b') : a = a' ∧ b = b' := by
  obtain ⟨c1, c2⟩ := run_cut h
  obtain ⟨d1, d2⟩ := run_cut h'
  have e1 := atoi_itoa (n := a) (by have := h.1; omega) (by have := h.1; omega)
  have e2 := atoi_itoa (n := a') (by have := h'.1; omega) (by have := h'.1; omega)
  have e3 := atoi_itoa (n := b) (by have := h.1; omega) (by have := h.1; omega)
  have e4 := atoi_itoa (n := b') (by have := h'.1; omega) (by have := h'.1; omega)
  rw [← c1, d1, e2] at e1
  rw [← c2, d2, e4] at e3
  cases e1
  cases e3
  exact ⟨rfl, rfl⟩
open Classical in
noncomputable def runOf (s : ByteArray) : Option Rn := if h : ∃ r : Rn, RunOk s r.1 r.2 then some (Classical.choose h) else none
theorem runOf_yes {s : ByteArray} {a b : Int} (h : RunOk s a b) : runOf s = some (a, b) := by
  have h1 : ∃ r : Rn, RunOk s r.1 r.2 := ⟨(a, b), h⟩
  unfold runOf
  rw [dif_pos h1]
  obtain ⟨e1, e2⟩ := RunOk.unique (Classical.choose_spec h1) h
  exact congrArg some (Prod.ext e1 e2)
theorem runOf_no {s : ByteArray} (h : ∀ a b, ¬ RunOk s a b) : runOf s = none := by
  unfold runOf
  rw [dif_neg fun ⟨r, hr⟩ => h _ _ hr]
theorem runOf_some {s : ByteArray} {r : Rn} (h : runOf s = some r) : RunOk s r.1 r.2 := by
  unfold runOf at h
  split at h
  · rename_i h1
    cases h
    exact Classical.choose_spec h1
  · cases h
def rangeL (a b : Int) : List Int := (List.range (b + 1 - a).toNat).map fun k : Nat => a + k
theorem rangeL_nil {a b : Int} (h : b < a) : rangeL a b = [] := by
  unfold rangeL
  rw [show (b + 1 - a).toNat = 0 by omega]
  rfl
theorem rangeL_snoc {a b : Int} (h : a ≤ b + 1) : rangeL a (b + 1) = rangeL a b ++ [b + 1] := by
  unfold rangeL
  rw [show (b + 1 + 1 - a).toNat = (b + 1 - a).toNat + 1 by omega, List.range_succ, List.map_append]
  simp
  omega
theorem rangeL_len (a b : Int) : (rangeL a b).length = (b + 1 - a).toNat := by simp [rangeL]
theorem expand_runs : ∀ (n : Nat) (l : List Int), l.length = n → (runsR l).flatMap (fun r => rangeL r.1 r.2) = l ∧ ∀ r ∈ runsR l, r.1 ≤ r.2 := by
  intro n
  induction n with
  | zero => intro l h; rw [List.eq_nil_of_length_eq_zero h]; simp [runsR]
  | succ n ih =>
    intro l h
    rcases List.eq_nil_or_concat l with h1 | ⟨l0, x, h1⟩
    · subst h1; simp at h
    · rw [List.concat_eq_append] at h1
      subst h1
      rw [List.length_append, List.length_singleton] at h
      obtain ⟨e1, e2⟩ := ih l0 (by omega)
      have hone : rangeL x x = [x] := by
        unfold rangeL
        rw [show (x + 1 - x).toNat = 1 by omega]
        simp
      rw [runsR_snoc]
      rcases List.eq_nil_or_concat (runsR l0) with h2 | ⟨R, z, h2⟩
      · rw [h2] at e1 ⊢
        have : l0 = [] := by simpa using e1.symm
        subst this
        simp [runStep, hone]
      · rw [List.concat_eq_append] at h2
        rw [h2] at e1 e2 ⊢
        rw [runStep_snoc]
        have hz := e2 z (by simp)
        split
        · rename_i hs
          subst hs
          refine ⟨?_, fun r hr => ?_⟩
          · rw [List.flatMap_append] at e1 ⊢
            simp only [List.flatMap_cons, List.flatMap_nil, List.append_nil] at e1 ⊢
            rw [rangeL_snoc (by omega), ← List.append_assoc, e1]
          · rcases List.mem_append.1 hr with hr | hr
            · exact e2 r (List.mem_append.2 (.inl hr))
            · simp only [List.mem_singleton] at hr
              subst hr
              dsimp only
              omega
        · refine ⟨?_, fun r hr => ?_⟩
          · rw [List.flatMap_append, e1]
            simp [hone]
          · rcases List.mem_append.1 hr with hr | hr
            · exact e2 r hr
            · simp only [List.mem_singleton] at hr
              subst hr
              exact Int.le_refl _
theorem toL_injc {a b : LS} (h : a.map (·.data.toList) = b.map (·.data.toList)) : a = b := by
  induction a generalizing b with
  | nil => cases b with
    | nil => rfl
    | cons y b => simp at h
  | cons x a ih => cases b with
    | nil => simp at h
    | cons y b =>
      simp only [List.map_cons, List.cons.injEq] at h
      rw [gl_ext h.1, ih h.2]
noncomputable def rdI : LS → List Int → Option (List Int)
  | [], out => some out
  | p :: ps, out => match runOf p with
    | none => none
    | some r => if 30 < out.length then none else rdI ps (out ++ rangeL r.1 r.2)
def piecesC (s : ByteArray) : LS := Lib.splitB csB 0 (Lib.countB s csB) s
open Classical in
noncomputable def readR (s : ByteArray) : Option (List Int) := if h : ∃ P, pagesB P = true ∧ pagesT P = s then some (Classical.choose h) else none
theorem rdI_runs : ∀ (R : List Rn) (out : List Int), (∀ r ∈ R, ((1 ≤ r.1 ∧ r.1 ≤ 999) ∧ (1 ≤ r.2 ∧ r.2 ≤ 999)) ∧ r.1 ≤ r.2) → (out ++ R.flatMap fun r => rangeL r.1 r.2).length ≤ 30 → rdI (R.map runT) out = some (out ++ R.flatMap fun r => rangeL r.1 r.2)
  | [], out, _, _ => by simp [rdI]
  | r :: R, out, h, hl => by
    have hr := h r (by simp)
    have ho : runOf (runT r) = some r := runOf_yes (a := r.1) (b := r.2) ⟨hr.1, rfl⟩
    rw [List.length_append] at hl
    rw [List.map_cons]
    unfold rdI
    rw [ho]
    dsimp only
    rw [if_neg (by omega), rdI_runs R _ (fun x hx => h x (by simp [hx])) (by simp only [List.flatMap_cons, List.length_append] at hl ⊢; omega)]
    simp [List.flatMap_cons]
theorem pieces_text {P : List Int} (h : pagesB P = true) (h0 : P ≠ []) : piecesC (pagesT P) = (runsR P).map runT := by
  have hr := runs_rng (pages_mem h)
  have hne : (runsR P).map (fun r => (runT r).data.toList) ≠ [] := by
    rcases List.eq_nil_or_concat P with h1 | ⟨l0, x, h1⟩
    · exact absurd h1 h0
    · rw [List.concat_eq_append] at h1
      subst h1
      obtain ⟨R, a, hR⟩ := runs_last l0 x
      rw [hR]
      simp
  have hs := split_cs ((runsR P).map fun r => (runT r).data.toList) hne fun t ht b hb => by
    obtain ⟨r, hr1, rfl⟩ := List.mem_map.1 ht
    have := hr r hr1
    exact runT_nocomma (by omega) (by omega) b hb
  have e : (pagesT P).data.toList = Lib.join ((runsR P).map fun r => (runT r).data.toList) [44, 32] := by
    unfold pagesT textR
    rw [if_pos h]
    show Lib.join (((runsR P).map runT).map (·.data.toList)) csB.data.toList = _
    rw [List.map_map]
    rfl
  refine toL_injc ?_
  have h3 : (piecesC (pagesT P)).map (·.data.toList) = Lib.splitK csB.data.toList 0 (Lib.countB (pagesT P) csB) (pagesT P).data.toList := Lib.splitB_data _ _ _ _
  have h4 : Lib.countB (pagesT P) csB = Lib.count (pagesT P).data.toList [44, 32] := rfl
  rw [h3, h4, e, List.map_map]
  exact hs
theorem rdI_text {P : List Int} (h : pagesB P = true) (h0 : P ≠ []) : rdI (piecesC (pagesT P)) [] = some P := by
  obtain ⟨e1, e2⟩ := expand_runs _ P rfl
  have hr := runs_rng (pages_mem h)
  rw [pieces_text h h0, rdI_runs _ _ (fun r hr1 => ⟨hr r hr1, e2 r hr1⟩) (by rw [List.nil_append, e1]; exact pages_len h), List.nil_append, e1]
end Go.Proofs.YtpggpdbipajchaaDoor
namespace Go.Proofs.YtpggpdbipajchaaDoor
open Go.RowKit
set_option linter.all false
theorem pagesT_pos {P : List Int} (h : pagesB P = true) (h0 : P ≠ []) : 0 < (pagesT P).size := by
  have hp := textR_pos (l := P) (k := P.length) (List.length_pos_iff.2 h0) (Nat.le_refl _) fun j hj => by have := pages_at h hj; omega
  unfold pagesT
  rw [if_pos h]
  rwa [List.take_of_length_le (Nat.le_refl _)] at hp
theorem pagesT_nil : pagesT [] = ⟨#[]⟩ := by
  unfold pagesT
  split <;> rfl
theorem pages_inj {P Q : List Int} (hP : pagesB P = true) (hQ : pagesB Q = true) (h : pagesT P = pagesT Q) : P = Q := by
  by_cases h1 : P = []
  · by_cases h2 : Q = []
    · rw [h1, h2]
    · have := pagesT_pos hQ h2
      rw [← h, h1, pagesT_nil] at this
      simp [ByteArray.size] at this
  · by_cases h2 : Q = []
    · have := pagesT_pos hP h1
      rw [h, h2, pagesT_nil] at this
      simp [ByteArray.size] at this
    · have e1 := rdI_text hP h1
      have e2 := rdI_text hQ h2
      rw [h, e2] at e1
      exact (Option.some.inj e1).symm
theorem readR_yes {P : List Int} {s : ByteArray} (h : pagesB P = true) (ht : pagesT P = s) : readR s = some P := by
  have h1 : ∃ P, pagesB P = true ∧ pagesT P = s := ⟨P, h, ht⟩
  unfold readR
  rw [dif_pos h1]
  obtain ⟨c1, c2⟩ := Classical.choose_spec h1
  exact congrArg some (pages_inj c1 h (c2.trans ht.symm))
theorem readR_some {P : List Int} {s : ByteArray} (h : readR s = some P) : pagesB P = true ∧ pagesT P = s := by
  unfold readR at h
  split at h
  · rename_i h1
    cases h
    exact Classical.choose_spec h1
  · cases h
theorem readR_nil : readR ⟨#[]⟩ = some [] := readR_yes rfl pagesT_nil
theorem readR_out {s : ByteArray} {out : List Int} (hs : ¬ s = ⟨#[]⟩) (h : rdI (piecesC s) [] = some out) : readR s = if pagesB out = true ∧ pagesT out = s then some out else none := by
  split
  · rename_i hc
    exact readR_yes hc.1 hc.2
  · rename_i hc
    cases hR : readR s with
    | none => rfl
    | some P =>
      obtain ⟨p1, p2⟩ := readR_some hR
      have h0 : P ≠ [] := fun e => by subst e; rw [pagesT_nil] at p2; exact hs p2.symm
      have := rdI_text p1 h0
      rw [p2, h] at this
      cases this
      exact absurd ⟨p1, p2⟩ hc
theorem readR_none {s : ByteArray} (hs : ¬ s = ⟨#[]⟩) (h : rdI (piecesC s) [] = none) : readR s = none := by
  cases hR : readR s with
  | none => rfl
  | some P =>
    obtain ⟨p1, p2⟩ := readR_some hR
    have h0 : P ≠ [] := fun e => by subst e; rw [pagesT_nil] at p2; exact hs p2.symm
    have := rdI_text p1 h0
    rw [p2, h] at this
    cases this
theorem piecesC_facts (s : ByteArray) : (piecesC s).length = Lib.countB s csB + 1 ∧ (piecesC s).length ≤ s.size + 1 := by
  have h1 : (1 : Nat) ≤ csB.size := by decide
  have e := Lib.splitB_all csB h1 0 _ s rfl
  have := Lib.countB_le csB h1 s.size s (Nat.le_refl _)
  exact ⟨e, by unfold piecesC; omega⟩
theorem pieces_sz (sep : ByteArray) : ∀ (k : Nat) (s : ByteArray), ∀ p ∈ Lib.splitB sep 0 k s, p.size ≤ s.size
  | 0, s, p, hp => by
    rw [Lib.splitB_zero] at hp
    rw [List.mem_singleton.1 hp]
    exact Nat.le_refl _
  | k + 1, s, p, hp => by
    unfold Lib.splitB at hp
    split at hp
    · rw [List.mem_singleton.1 hp]
      exact Nat.le_refl _
    · rcases List.mem_cons.1 hp with rfl | hp
      · rw [ByteArray.size_extract]; omega
      · have := pieces_sz sep k _ p hp
        rw [ByteArray.size_extract] at this
        omega
noncomputable def φRR : Fun := F1 dS fun s => if s.size ≤ 1048576 then some (match runOf s with | some r => .tup [.val (.int .i64 r.1), .val (.int .i64 r.2), .val (.bool true)] | none => .tup [.dead, .dead, .val (.bool false)]) else none
theorem φRR_ap {s : ByteArray} (h : s.size ≤ 1048576) : φRR [.val (.string s)] = some (match runOf s with | some r => .tup [.val (.int .i64 r.1), .val (.int .i64 r.2), .val (.bool true)] | none => .tup [.dead, .dead, .val (.bool false)]) := (F1_ap (A := dS) s).trans (if_pos h)
theorem readRun_ok : Sound Tryd.prog 72 φRR := by
  intro w J ps args r hr hJ hT hargs
  obtain ⟨s, rfl, hq⟩ := F1_some hr
  split at hq
  case isFalse => cases hq
  case isTrue hs =>
  cases hq
  simp only [RepL] at hargs
  obtain ⟨v1, vs1, e1, h1, rfl⟩ := hargs
  obtain rfl : args = #[v1] := by
    obtain ⟨a⟩ := args
    simp only at e1
    rw [e1]
  simp only [dS, Rep] at h1
  subst h1
  refine (readRun_any hT s hs).mono ?_
  rintro e w' ⟨a, b, ok, rfl, hb, h2, h3⟩
  refine ⟨_, rfl, hb, fun g' _ => ?_⟩
  cases ok with
  | true =>
    rw [runOf_yes (h2 rfl)]
    simp only [Rep, RepL]
    exact ⟨_, rfl, _, _, rfl, rfl, _, _, rfl, rfl, _, _, rfl, rfl, rfl⟩
  | false =>
    rw [runOf_no (h3 rfl)]
    simp only [Rep, RepL]
    exact ⟨_, rfl, _, _, rfl, trivial, _, _, rfl, trivial, _, _, rfl, rfl, rfl⟩
noncomputable def φSplC : Fun := F2 dS dS fun s sep => if sep = csB ∧ s.size ≤ 1048576 then some (.lst true 1 ((piecesC s).map fun s => .val (.string s))) else none
theorem φSplC_ap {s : ByteArray} (h : s.size ≤ 1048576) : φSplC [.val (.string s), .val (.string csB)] = some (.lst true 1 ((piecesC s).map fun s => .val (.string s))) := (F2_ap (A := dS) (B := dS) s csB).trans (if_pos ⟨rfl, h⟩)
theorem splitC_ok : Sound Tryd.prog 71 φSplC := by
  intro w J ps args r hr hJ hT hargs
  obtain ⟨s, sep, rfl, hq⟩ := F2_some hr
  split at hq
  case isFalse => cases hq
  case isTrue hs =>
  cases hq
  obtain ⟨rfl, hs⟩ := hs
  simp only [RepL] at hargs
  obtain ⟨v1, vs1, e1, h1, v2, vs2, rfl, h2, rfl⟩ := hargs
  obtain rfl : args = #[v1, v2] := by
    obtain ⟨a⟩ := args
    simp only at e1
    rw [e1]
  simp only [dS, Rep] at h1 h2
  subst h1
  subst h2
  obtain ⟨mv, hm, hmi, _⟩ := hT.vars _ (show (_, true) ∈ gls from List.mem_cons_self ..)
  obtain ⟨m, rfl⟩ := hmi rfl
  obtain ⟨f1, f2⟩ := piecesC_facts s
  refine (YtpggpdbipajchaaDoor.strings_Split s csB m w (by omega) hm (by decide)).mono ?_
  rintro e w' ⟨rfl, rfl⟩
  have hc : Lib.splitB csB 0 (Lib.countB s csB) s = piecesC s := rfl
  rw [hc, ← f1]
  generalize piecesC s = P at *
  refine ⟨_, rfl, below_alloc (Below.refl _ _), fun g' hg => ?_⟩
  simp only [Rep, List.length_map]
  refine ⟨_, _, rfl, Nat.le_refl _, by omega, .inr ⟨w.heap.size, 0, rfl, hg _ (Nat.le_refl _) (by simp), RepEs.of fun i e he => ?_⟩⟩
  rw [List.getElem?_map, Option.map_eq_some_iff] at he
  obtain ⟨x, hx, rfl⟩ := he
  refine ⟨.string x, by simp [Rep], ⟨by simp [Value.cells, Value.oneCell'], fun j hj => ?_⟩, rfl⟩
  have hj0 : j = 0 := by simp [Value.cells] at hj; exact hj
  subst hj0
  simp only [World.cell?, heap_alloc_new, Nat.zero_add, Nat.mul_one, Nat.add_zero]
  simp [Value.cells, hx]
end Go.Proofs.YtpggpdbipajchaaDoor
