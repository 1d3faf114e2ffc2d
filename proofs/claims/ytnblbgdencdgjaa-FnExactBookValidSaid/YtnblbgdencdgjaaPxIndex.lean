/- Lists of words (IndexValid) by the engine. -/
import Derived.Test.YtnblbgdencdgjaaPxTy
import Derived.Test.YtnblbgdencdgjaaPlain
import Derived.Test.YtnblbgdencdgjaaPxGrid
namespace Go.Proofs.Ytnblbgdencdgjaa
open Go.RowKit
set_option linter.all false
/-- What WordValid answers. -/
def wordB (s : ByteArray) : Bool := (List.range s.size).all (fun k => inB (at8 s k) 97 122) && inB s.size 1 20
theorem wordB_no {s : ByteArray} {k : Nat} (h : k < s.size) (hb : ¬ (97 ≤ at8 s k ∧ at8 s k ≤ 122)) : wordB s = false := by
  unfold wordB
  have : (List.range s.size).all (fun k => inB (at8 s k) 97 122) = false := by
    rw [List.all_eq_false]
    exact ⟨k, List.mem_range.2 h, by rw [inB_iff]; exact hb⟩
  rw [this]
  rfl
theorem wordB_yes {s : ByteArray} (h : ∀ j, j < s.size → 97 ≤ at8 s j ∧ at8 s j ≤ 122) : wordB s = inB s.size 1 20 := by
  unfold wordB
  have : (List.range s.size).all (fun k => inB (at8 s k) 97 122) = true := by
    rw [List.all_eq_true]
    intro k hk
    exact inB_iff.2 (h k (List.mem_range.1 hk))
  rw [this]
  rfl
def φWord : Fun := F1 dS fun s => if s.size ≤ 1099511627776 then some (bv (wordB s)) else none
theorem φWord_ap {s : ByteArray} (h : s.size ≤ 1099511627776) : φWord [.val (.string s)] = some (.val (.bool (wordB s))) :=
  (F1_ap (A := dS) s).trans (if_pos h)
def φSmall : Fun := F1 dU fun n => some (bv (inB n 97 122))
theorem φSmall_ap (n : Int) : φSmall [.val (.int .u8 n)] = some (.val (.bool (inB n 97 122))) := rfl
theorem isSmall_ok : Sound Try.prog 72 φSmall := by
  refine sound_pq mixed GE_ok Try.func72 rfl 9 rfl [.tmp 2] rfl (by kernel_rfl) fun ps r hr => ?_
  obtain ⟨n, rfl, hr⟩ := F1_some hr
  cases hr
  refine ⟨by simp, ?_⟩
  simp only [dIs, dUs, dSs, dI_e, dU_e, dB_e, dS_e, dFn_e, dL_e, dA2_e, dA3_e, dA4_e, dA5_e]
  repeat' (first | with_reducible apply i_seq | with_reducible apply i_block | ((with_reducible apply i_region); (focus (simp only [List.map_cons, List.map_nil] <;> exact rfl))) | with_reducible apply i_skip | with_reducible apply i_exit | with_reducible apply i_ret | with_reducible apply i_kS | with_reducible apply i_kSx | with_reducible apply i_kSr | with_reducible apply i_kL | with_reducible apply i_kLx | with_reducible apply i_kLr | with_reducible apply i_kB | with_reducible apply i_kBr | with_reducible apply i_kBs | ((with_reducible apply i_kBo); (focus rfl)) | with_reducible apply i_nil | ((with_reducible apply i_V); (focus rfl); (focus (simp (disch := ((try simp only [List.length_map, Int.toNat_natCast, List.length_append, List.length_take, List.length_drop, List.length_replicate, List.length_set, List.length_cons, List.length_nil, fillL_length]); omega)) only [push_cast, ↓reduceIte, Nat.reduceEqDiff, Nat.reduceBEq, Nat.reduceAdd, *] <;> exact rfl))) | ((with_reducible apply i_E); (focus rfl); (focus (simp (disch := ((try simp only [List.length_map, Int.toNat_natCast, List.length_append, List.length_take, List.length_drop, List.length_replicate, List.length_set, List.length_cons, List.length_nil, fillL_length]); omega)) only [push_cast, ↓reduceIte, Nat.reduceEqDiff, Nat.reduceBEq, Nat.reduceAdd, *] <;> exact rfl))) | ((with_reducible apply i_S); (focus rfl); (focus (simp (disch := ((try simp only [List.length_map, Int.toNat_natCast, List.length_append, List.length_take, List.length_drop, List.length_replicate, List.length_set, List.length_cons, List.length_nil, fillL_length]); omega)) only [push_cast, ↓reduceIte, Nat.reduceEqDiff, Nat.reduceBEq, Nat.reduceAdd, *] <;> exact rfl))) | ((with_reducible apply i_Gt); (focus (simp (disch := ((try simp only [List.length_map, Int.toNat_natCast, List.length_append, List.length_take, List.length_drop, List.length_replicate, List.length_set, List.length_cons, List.length_nil, fillL_length]); omega)) only [push_cast, ↓reduceIte, Nat.reduceEqDiff, Nat.reduceBEq, Nat.reduceAdd, *] <;> exact rfl))) | ((with_reducible apply i_Gf); (focus (simp (disch := ((try simp only [List.length_map, Int.toNat_natCast, List.length_append, List.length_take, List.length_drop, List.length_replicate, List.length_set, List.length_cons, List.length_nil, fillL_length]); omega)) only [push_cast, ↓reduceIte, Nat.reduceEqDiff, Nat.reduceBEq, Nat.reduceAdd, *] <;> exact rfl))) | ((with_reducible apply i_condT); (focus (simp (disch := ((try simp only [List.length_map, Int.toNat_natCast, List.length_append, List.length_take, List.length_drop, List.length_replicate, List.length_set, List.length_cons, List.length_nil, fillL_length]); omega)) only [push_cast, ↓reduceIte, Nat.reduceEqDiff, Nat.reduceBEq, Nat.reduceAdd, *] <;> exact rfl))) | ((with_reducible apply i_condF); (focus (simp (disch := ((try simp only [List.length_map, Int.toNat_natCast, List.length_append, List.length_take, List.length_drop, List.length_replicate, List.length_set, List.length_cons, List.length_nil, fillL_length]); omega)) only [push_cast, ↓reduceIte, Nat.reduceEqDiff, Nat.reduceBEq, Nat.reduceAdd, *] <;> exact rfl))) | ((with_reducible apply i_Gb); (focus (simp (disch := ((try simp only [List.length_map, Int.toNat_natCast, List.length_append, List.length_take, List.length_drop, List.length_replicate, List.length_set, List.length_cons, List.length_nil, fillL_length]); omega)) only [push_cast, ↓reduceIte, Nat.reduceEqDiff, Nat.reduceBEq, Nat.reduceAdd, *] <;> exact rfl)); all_goals (intro hX; (try simp only [decide_eq_true_eq, decide_eq_false_iff_not, Bool.not_eq_true', Bool.not_eq_false'] at hX); (try have hXb := inB_iff.1 hX))) | ((with_reducible apply i_cond); (focus (simp (disch := ((try simp only [List.length_map, Int.toNat_natCast, List.length_append, List.length_take, List.length_drop, List.length_replicate, List.length_set, List.length_cons, List.length_nil, fillL_length]); omega)) only [push_cast, ↓reduceIte, Nat.reduceEqDiff, Nat.reduceBEq, Nat.reduceAdd, *] <;> exact rfl)); all_goals (intro hX; (try simp only [decide_eq_true_eq, decide_eq_false_iff_not, Bool.not_eq_true', Bool.not_eq_false'] at hX); (try have hXb := inB_iff.1 hX))))
  all_goals ((first | apply i_end | apply i_endN); simp (disch := ((try simp only [List.length_map, Int.toNat_natCast, List.length_append, List.length_take, List.length_drop, List.length_replicate, List.length_set, List.length_cons, List.length_nil, fillL_length]); omega)) only [push_cast, ↓reduceIte, Nat.reduceEqDiff, Nat.reduceBEq, Nat.reduceAdd, *])
  all_goals (first | (simp_all [inB]; done) | (simp_all [inB]; omega))
noncomputable def GWv : Nat -> Option Fun := fun f => if f = 72 then some φSmall else if f = 43 then some φIn else none
theorem GWv_ok : SoundΓ Try.prog GWv := fun f φ h => by
  unfold GWv at h
  split at h
  · rename_i hf; cases h; subst hf; exact ⟨⟨_, Try.func72, rfl, rfl⟩, isSmall_ok⟩
  split at h
  · rename_i hf; cases h; subst hf; exact ⟨⟨_, Try.func43, rfl, rfl⟩, in_ok⟩
  cases h
theorem GWv_72 (ob : Objs) (ps : List PV) : evCall GWv ob 72 ps = (ps.mapM (reify false 0 ob fuel)).bind φSmall := by
  have h : GWv 72 = some φSmall := by simp [GWv]
  unfold evCall
  rw [h]
  cases ps.mapM (reify false 0 ob fuel) <;> rfl
theorem GWv_43 (ob : Objs) (ps : List PV) : evCall GWv ob 43 ps = (ps.mapM (reify false 0 ob fuel)).bind φIn := by
  have h : GWv 43 = some φIn := by simp [GWv]
  unfold evCall
  rw [h]
  cases ps.mapM (reify false 0 ob fuel) <;> rfl
set_option maxHeartbeats 4000000 in
theorem implWordValid_ok : Sound Try.prog 66 φWord := by
  refine sound_pq mixed GWv_ok Try.func66 rfl 18 rfl [.tmp 2] rfl (by kernel_rfl) fun ps r hr => ?_
  obtain ⟨s, rfl, hq⟩ := F1_some hr
  clear hr
  split at hq
  case isFalse => cases hq
  case isTrue hlen =>
  cases hq
  refine ⟨by simp, ?_⟩
  simp only [dIs, dUs, dSs, dI_e, dU_e, dB_e, dS_e, dFn_e, dL_e, dA2_e, dA3_e, dA4_e, dA5_e]
  have gwv_c72 := GWv_72; have gwv_c43 := GWv_43; have ap := φSmall_ap; have ap2 := φIn_ap
  repeat' (first | with_reducible apply i_seq | with_reducible apply i_block | ((with_reducible apply i_region); (focus (simp only [List.map_cons, List.map_nil] <;> exact rfl))) | with_reducible apply i_skip | with_reducible apply i_exit | with_reducible apply i_ret | with_reducible apply i_kS | with_reducible apply i_kSx | with_reducible apply i_kSr | with_reducible apply i_kL | with_reducible apply i_kLx | with_reducible apply i_kLr | with_reducible apply i_kB | with_reducible apply i_kBr | with_reducible apply i_kBs | ((with_reducible apply i_kBo); (focus rfl)) | with_reducible apply i_nil | ((with_reducible apply i_V); (focus rfl); (focus (simp (disch := ((try simp only [List.length_map, Int.toNat_natCast, List.length_append, List.length_take, List.length_drop, List.length_replicate, List.length_set, List.length_cons, List.length_nil, fillL_length]); omega)) only [push_cast, ↓reduceIte, Nat.reduceEqDiff, Nat.reduceBEq, Nat.reduceAdd, *] <;> exact rfl))) | ((with_reducible apply i_E); (focus rfl); (focus (simp (disch := ((try simp only [List.length_map, Int.toNat_natCast, List.length_append, List.length_take, List.length_drop, List.length_replicate, List.length_set, List.length_cons, List.length_nil, fillL_length]); omega)) only [push_cast, ↓reduceIte, Nat.reduceEqDiff, Nat.reduceBEq, Nat.reduceAdd, *] <;> exact rfl))) | ((with_reducible apply i_S); (focus rfl); (focus (simp (disch := ((try simp only [List.length_map, Int.toNat_natCast, List.length_append, List.length_take, List.length_drop, List.length_replicate, List.length_set, List.length_cons, List.length_nil, fillL_length]); omega)) only [push_cast, ↓reduceIte, Nat.reduceEqDiff, Nat.reduceBEq, Nat.reduceAdd, *] <;> exact rfl))) | ((with_reducible apply i_Gt); (focus (simp (disch := ((try simp only [List.length_map, Int.toNat_natCast, List.length_append, List.length_take, List.length_drop, List.length_replicate, List.length_set, List.length_cons, List.length_nil, fillL_length]); omega)) only [push_cast, ↓reduceIte, Nat.reduceEqDiff, Nat.reduceBEq, Nat.reduceAdd, *] <;> exact rfl))) | ((with_reducible apply i_Gf); (focus (simp (disch := ((try simp only [List.length_map, Int.toNat_natCast, List.length_append, List.length_take, List.length_drop, List.length_replicate, List.length_set, List.length_cons, List.length_nil, fillL_length]); omega)) only [push_cast, ↓reduceIte, Nat.reduceEqDiff, Nat.reduceBEq, Nat.reduceAdd, *] <;> exact rfl))) | ((with_reducible apply i_condT); (focus (simp (disch := ((try simp only [List.length_map, Int.toNat_natCast, List.length_append, List.length_take, List.length_drop, List.length_replicate, List.length_set, List.length_cons, List.length_nil, fillL_length]); omega)) only [push_cast, ↓reduceIte, Nat.reduceEqDiff, Nat.reduceBEq, Nat.reduceAdd, *] <;> exact rfl))) | ((with_reducible apply i_condF); (focus (simp (disch := ((try simp only [List.length_map, Int.toNat_natCast, List.length_append, List.length_take, List.length_drop, List.length_replicate, List.length_set, List.length_cons, List.length_nil, fillL_length]); omega)) only [push_cast, ↓reduceIte, Nat.reduceEqDiff, Nat.reduceBEq, Nat.reduceAdd, *] <;> exact rfl))) | ((with_reducible apply i_Gb); (focus (simp (disch := ((try simp only [List.length_map, Int.toNat_natCast, List.length_append, List.length_take, List.length_drop, List.length_replicate, List.length_set, List.length_cons, List.length_nil, fillL_length]); omega)) only [push_cast, ↓reduceIte, Nat.reduceEqDiff, Nat.reduceBEq, Nat.reduceAdd, *] <;> exact rfl)); all_goals (intro hX; (try simp only [decide_eq_true_eq, decide_eq_false_iff_not, Bool.not_eq_true', Bool.not_eq_false'] at hX); (try have hXb := inB_iff.1 hX))) | ((with_reducible apply i_cond); (focus (simp (disch := ((try simp only [List.length_map, Int.toNat_natCast, List.length_append, List.length_take, List.length_drop, List.length_replicate, List.length_set, List.length_cons, List.length_nil, fillL_length]); omega)) only [push_cast, ↓reduceIte, Nat.reduceEqDiff, Nat.reduceBEq, Nat.reduceAdd, *] <;> exact rfl)); all_goals (intro hX; (try simp only [decide_eq_true_eq, decide_eq_false_iff_not, Bool.not_eq_true', Bool.not_eq_false'] at hX); (try have hXb := inB_iff.1 hX))))
  refine i_loop (α := Nat) mixed (fun k => [(0, sv s), (5, iv s.size), (6, iv k)]) (fun _ => []) (fun _ => 0)
    (fun k => k ≤ s.size ∧ ∀ j, j < k → 97 ≤ at8 s j ∧ at8 s j ≤ 122) (fun k => s.size - k) (by kernel_rfl) 0 ⟨Nat.zero_le _, fun j hj => by omega⟩ ?_ trivial rfl ?_
  · simp only [push_cast, ↓reduceIte, Nat.reduceEqDiff, Nat.reduceBEq, Nat.reduceAdd]
  · intro k ⟨hk, hok⟩
    have hrk := at8_rng s k
    repeat' (first | with_reducible apply i_seq | with_reducible apply i_block | ((with_reducible apply i_region); (focus (simp only [List.map_cons, List.map_nil] <;> exact rfl))) | with_reducible apply i_skip | with_reducible apply i_exit | with_reducible apply i_ret | with_reducible apply i_kS | with_reducible apply i_kSx | with_reducible apply i_kSr | with_reducible apply i_kL | with_reducible apply i_kLx | with_reducible apply i_kLr | with_reducible apply i_kB | with_reducible apply i_kBr | with_reducible apply i_kBs | ((with_reducible apply i_kBo); (focus rfl)) | with_reducible apply i_nil | ((with_reducible apply i_V); (focus rfl); (focus (simp (disch := ((try simp only [List.length_map, Int.toNat_natCast, List.length_append, List.length_take, List.length_drop, List.length_replicate, List.length_set, List.length_cons, List.length_nil, fillL_length]); omega)) only [push_cast, ↓reduceIte, Nat.reduceEqDiff, Nat.reduceBEq, Nat.reduceAdd, *] <;> exact rfl))) | ((with_reducible apply i_E); (focus rfl); (focus (simp (disch := ((try simp only [List.length_map, Int.toNat_natCast, List.length_append, List.length_take, List.length_drop, List.length_replicate, List.length_set, List.length_cons, List.length_nil, fillL_length]); omega)) only [push_cast, ↓reduceIte, Nat.reduceEqDiff, Nat.reduceBEq, Nat.reduceAdd, *] <;> exact rfl))) | ((with_reducible apply i_S); (focus rfl); (focus (simp (disch := ((try simp only [List.length_map, Int.toNat_natCast, List.length_append, List.length_take, List.length_drop, List.length_replicate, List.length_set, List.length_cons, List.length_nil, fillL_length]); omega)) only [push_cast, ↓reduceIte, Nat.reduceEqDiff, Nat.reduceBEq, Nat.reduceAdd, *] <;> exact rfl))) | ((with_reducible apply i_Gt); (focus (simp (disch := ((try simp only [List.length_map, Int.toNat_natCast, List.length_append, List.length_take, List.length_drop, List.length_replicate, List.length_set, List.length_cons, List.length_nil, fillL_length]); omega)) only [push_cast, ↓reduceIte, Nat.reduceEqDiff, Nat.reduceBEq, Nat.reduceAdd, *] <;> exact rfl))) | ((with_reducible apply i_Gf); (focus (simp (disch := ((try simp only [List.length_map, Int.toNat_natCast, List.length_append, List.length_take, List.length_drop, List.length_replicate, List.length_set, List.length_cons, List.length_nil, fillL_length]); omega)) only [push_cast, ↓reduceIte, Nat.reduceEqDiff, Nat.reduceBEq, Nat.reduceAdd, *] <;> exact rfl))) | ((with_reducible apply i_condT); (focus (simp (disch := ((try simp only [List.length_map, Int.toNat_natCast, List.length_append, List.length_take, List.length_drop, List.length_replicate, List.length_set, List.length_cons, List.length_nil, fillL_length]); omega)) only [push_cast, ↓reduceIte, Nat.reduceEqDiff, Nat.reduceBEq, Nat.reduceAdd, *] <;> exact rfl))) | ((with_reducible apply i_condF); (focus (simp (disch := ((try simp only [List.length_map, Int.toNat_natCast, List.length_append, List.length_take, List.length_drop, List.length_replicate, List.length_set, List.length_cons, List.length_nil, fillL_length]); omega)) only [push_cast, ↓reduceIte, Nat.reduceEqDiff, Nat.reduceBEq, Nat.reduceAdd, *] <;> exact rfl))) | ((with_reducible apply i_Gb); (focus (simp (disch := ((try simp only [List.length_map, Int.toNat_natCast, List.length_append, List.length_take, List.length_drop, List.length_replicate, List.length_set, List.length_cons, List.length_nil, fillL_length]); omega)) only [push_cast, ↓reduceIte, Nat.reduceEqDiff, Nat.reduceBEq, Nat.reduceAdd, *] <;> exact rfl)); all_goals (intro hX; (try simp only [decide_eq_true_eq, decide_eq_false_iff_not, Bool.not_eq_true', Bool.not_eq_false'] at hX); (try have hXb := inB_iff.1 hX))) | ((with_reducible apply i_cond); (focus (simp (disch := ((try simp only [List.length_map, Int.toNat_natCast, List.length_append, List.length_take, List.length_drop, List.length_replicate, List.length_set, List.length_cons, List.length_nil, fillL_length]); omega)) only [push_cast, ↓reduceIte, Nat.reduceEqDiff, Nat.reduceBEq, Nat.reduceAdd, *] <;> exact rfl)); all_goals (intro hX; (try simp only [decide_eq_true_eq, decide_eq_false_iff_not, Bool.not_eq_true', Bool.not_eq_false'] at hX); (try have hXb := inB_iff.1 hX))))
    all_goals try ((first | apply i_end | apply i_endN); simp (disch := ((try simp only [List.length_map, Int.toNat_natCast, List.length_append, List.length_take, List.length_drop, List.length_replicate, List.length_set, List.length_cons, List.length_nil, fillL_length]); omega)) only [push_cast, ↓reduceIte, Nat.reduceEqDiff, Nat.reduceBEq, Nat.reduceAdd, *])
    · rw [wordB_no (s := s) (k := k) (by omega) (by (simp_all [inB]; try omega))]
    · refine ⟨k + 1, ⟨by omega, fun j hj => ?_⟩, by dsimp only; omega, by simp only [push_cast, ↓reduceIte, Nat.reduceEqDiff, Nat.reduceBEq, Nat.reduceAdd], trivial, rfl⟩
      by_cases h1 : j < k
      · exact hok j h1
      · have : j = k := by omega
        subst this
        simp_all [inB]
    · rw [wordB_yes fun j hj => hok j (by omega)]
noncomputable def GWs : Nat -> Option Fun := fun f => if f = 41 then some φIn else none
theorem GWs_ok : SoundΓ Try.prog GWs := fun f φ h => by
  unfold GWs at h
  split at h
  · rename_i hf; cases h; subst hf; exact ⟨⟨_, Try.func41, rfl, rfl⟩, l1In_ok⟩
  cases h
theorem GWs_41 (ob : Objs) (ps : List PV) : evCall GWs ob 41 ps = (ps.mapM (reify false 0 ob fuel)).bind φIn := by
  have h : GWs 41 = some φIn := by simp [GWs]
  unfold evCall
  rw [h]
  cases ps.mapM (reify false 0 ob fuel) <;> rfl
set_option maxHeartbeats 4000000 in
theorem specWordValid_ok : Sound Try.prog 64 φWord := by
  refine sound_pq mixed GWs_ok Try.func64 rfl 23 rfl [.tmp 2] rfl (by kernel_rfl) fun ps r hr => ?_
  obtain ⟨s, rfl, hq⟩ := F1_some hr
  clear hr
  split at hq
  case isFalse => cases hq
  case isTrue hlen =>
  cases hq
  refine ⟨by simp, ?_⟩
  simp only [dIs, dUs, dSs, dI_e, dU_e, dB_e, dS_e, dFn_e, dL_e, dA2_e, dA3_e, dA4_e, dA5_e]
  have gws_c41 := GWs_41; have ap2 := φIn_ap
  repeat' (first | with_reducible apply i_seq | with_reducible apply i_block | ((with_reducible apply i_region); (focus (simp only [List.map_cons, List.map_nil] <;> exact rfl))) | with_reducible apply i_skip | with_reducible apply i_exit | with_reducible apply i_ret | with_reducible apply i_kS | with_reducible apply i_kSx | with_reducible apply i_kSr | with_reducible apply i_kL | with_reducible apply i_kLx | with_reducible apply i_kLr | with_reducible apply i_kB | with_reducible apply i_kBr | with_reducible apply i_kBs | ((with_reducible apply i_kBo); (focus rfl)) | with_reducible apply i_nil | ((with_reducible apply i_V); (focus rfl); (focus (simp (disch := ((try simp only [List.length_map, Int.toNat_natCast, List.length_append, List.length_take, List.length_drop, List.length_replicate, List.length_set, List.length_cons, List.length_nil, fillL_length]); omega)) only [push_cast, ↓reduceIte, Nat.reduceEqDiff, Nat.reduceBEq, Nat.reduceAdd, *] <;> exact rfl))) | ((with_reducible apply i_E); (focus rfl); (focus (simp (disch := ((try simp only [List.length_map, Int.toNat_natCast, List.length_append, List.length_take, List.length_drop, List.length_replicate, List.length_set, List.length_cons, List.length_nil, fillL_length]); omega)) only [push_cast, ↓reduceIte, Nat.reduceEqDiff, Nat.reduceBEq, Nat.reduceAdd, *] <;> exact rfl))) | ((with_reducible apply i_S); (focus rfl); (focus (simp (disch := ((try simp only [List.length_map, Int.toNat_natCast, List.length_append, List.length_take, List.length_drop, List.length_replicate, List.length_set, List.length_cons, List.length_nil, fillL_length]); omega)) only [push_cast, ↓reduceIte, Nat.reduceEqDiff, Nat.reduceBEq, Nat.reduceAdd, *] <;> exact rfl))) | ((with_reducible apply i_Gt); (focus (simp (disch := ((try simp only [List.length_map, Int.toNat_natCast, List.length_append, List.length_take, List.length_drop, List.length_replicate, List.length_set, List.length_cons, List.length_nil, fillL_length]); omega)) only [push_cast, ↓reduceIte, Nat.reduceEqDiff, Nat.reduceBEq, Nat.reduceAdd, *] <;> exact rfl))) | ((with_reducible apply i_Gf); (focus (simp (disch := ((try simp only [List.length_map, Int.toNat_natCast, List.length_append, List.length_take, List.length_drop, List.length_replicate, List.length_set, List.length_cons, List.length_nil, fillL_length]); omega)) only [push_cast, ↓reduceIte, Nat.reduceEqDiff, Nat.reduceBEq, Nat.reduceAdd, *] <;> exact rfl))) | ((with_reducible apply i_condT); (focus (simp (disch := ((try simp only [List.length_map, Int.toNat_natCast, List.length_append, List.length_take, List.length_drop, List.length_replicate, List.length_set, List.length_cons, List.length_nil, fillL_length]); omega)) only [push_cast, ↓reduceIte, Nat.reduceEqDiff, Nat.reduceBEq, Nat.reduceAdd, *] <;> exact rfl))) | ((with_reducible apply i_condF); (focus (simp (disch := ((try simp only [List.length_map, Int.toNat_natCast, List.length_append, List.length_take, List.length_drop, List.length_replicate, List.length_set, List.length_cons, List.length_nil, fillL_length]); omega)) only [push_cast, ↓reduceIte, Nat.reduceEqDiff, Nat.reduceBEq, Nat.reduceAdd, *] <;> exact rfl))) | ((with_reducible apply i_Gb); (focus (simp (disch := ((try simp only [List.length_map, Int.toNat_natCast, List.length_append, List.length_take, List.length_drop, List.length_replicate, List.length_set, List.length_cons, List.length_nil, fillL_length]); omega)) only [push_cast, ↓reduceIte, Nat.reduceEqDiff, Nat.reduceBEq, Nat.reduceAdd, *] <;> exact rfl)); all_goals (intro hX; (try simp only [decide_eq_true_eq, decide_eq_false_iff_not, Bool.not_eq_true', Bool.not_eq_false'] at hX); (try have hXb := inB_iff.1 hX))) | ((with_reducible apply i_cond); (focus (simp (disch := ((try simp only [List.length_map, Int.toNat_natCast, List.length_append, List.length_take, List.length_drop, List.length_replicate, List.length_set, List.length_cons, List.length_nil, fillL_length]); omega)) only [push_cast, ↓reduceIte, Nat.reduceEqDiff, Nat.reduceBEq, Nat.reduceAdd, *] <;> exact rfl)); all_goals (intro hX; (try simp only [decide_eq_true_eq, decide_eq_false_iff_not, Bool.not_eq_true', Bool.not_eq_false'] at hX); (try have hXb := inB_iff.1 hX))))
  refine i_loop (α := Nat) mixed (fun k => [(0, sv s), (3, iv k)]) (fun _ => []) (fun _ => 0)
    (fun k => k ≤ s.size ∧ ∀ j, j < k → 97 ≤ at8 s j ∧ at8 s j ≤ 122) (fun k => s.size - k) (by kernel_rfl) 0 ⟨Nat.zero_le _, fun j hj => by omega⟩ ?_ trivial rfl ?_
  · simp only [push_cast, ↓reduceIte, Nat.reduceEqDiff, Nat.reduceBEq, Nat.reduceAdd]
  · intro k ⟨hk, hok⟩
    have hrk := at8_rng s k
    repeat' (first | with_reducible apply i_seq | with_reducible apply i_block | ((with_reducible apply i_region); (focus (simp only [List.map_cons, List.map_nil] <;> exact rfl))) | with_reducible apply i_skip | with_reducible apply i_exit | with_reducible apply i_ret | with_reducible apply i_kS | with_reducible apply i_kSx | with_reducible apply i_kSr | with_reducible apply i_kL | with_reducible apply i_kLx | with_reducible apply i_kLr | with_reducible apply i_kB | with_reducible apply i_kBr | with_reducible apply i_kBs | ((with_reducible apply i_kBo); (focus rfl)) | with_reducible apply i_nil | ((with_reducible apply i_V); (focus rfl); (focus (simp (disch := ((try simp only [List.length_map, Int.toNat_natCast, List.length_append, List.length_take, List.length_drop, List.length_replicate, List.length_set, List.length_cons, List.length_nil, fillL_length]); omega)) only [push_cast, ↓reduceIte, Nat.reduceEqDiff, Nat.reduceBEq, Nat.reduceAdd, *] <;> exact rfl))) | ((with_reducible apply i_E); (focus rfl); (focus (simp (disch := ((try simp only [List.length_map, Int.toNat_natCast, List.length_append, List.length_take, List.length_drop, List.length_replicate, List.length_set, List.length_cons, List.length_nil, fillL_length]); omega)) only [push_cast, ↓reduceIte, Nat.reduceEqDiff, Nat.reduceBEq, Nat.reduceAdd, *] <;> exact rfl))) | ((with_reducible apply i_S); (focus rfl); (focus (simp (disch := ((try simp only [List.length_map, Int.toNat_natCast, List.length_append, List.length_take, List.length_drop, List.length_replicate, List.length_set, List.length_cons, List.length_nil, fillL_length]); omega)) only [push_cast, ↓reduceIte, Nat.reduceEqDiff, Nat.reduceBEq, Nat.reduceAdd, *] <;> exact rfl))) | ((with_reducible apply i_Gt); (focus (simp (disch := ((try simp only [List.length_map, Int.toNat_natCast, List.length_append, List.length_take, List.length_drop, List.length_replicate, List.length_set, List.length_cons, List.length_nil, fillL_length]); omega)) only [push_cast, ↓reduceIte, Nat.reduceEqDiff, Nat.reduceBEq, Nat.reduceAdd, *] <;> exact rfl))) | ((with_reducible apply i_Gf); (focus (simp (disch := ((try simp only [List.length_map, Int.toNat_natCast, List.length_append, List.length_take, List.length_drop, List.length_replicate, List.length_set, List.length_cons, List.length_nil, fillL_length]); omega)) only [push_cast, ↓reduceIte, Nat.reduceEqDiff, Nat.reduceBEq, Nat.reduceAdd, *] <;> exact rfl))) | ((with_reducible apply i_condT); (focus (simp (disch := ((try simp only [List.length_map, Int.toNat_natCast, List.length_append, List.length_take, List.length_drop, List.length_replicate, List.length_set, List.length_cons, List.length_nil, fillL_length]); omega)) only [push_cast, ↓reduceIte, Nat.reduceEqDiff, Nat.reduceBEq, Nat.reduceAdd, *] <;> exact rfl))) | ((with_reducible apply i_condF); (focus (simp (disch := ((try simp only [List.length_map, Int.toNat_natCast, List.length_append, List.length_take, List.length_drop, List.length_replicate, List.length_set, List.length_cons, List.length_nil, fillL_length]); omega)) only [push_cast, ↓reduceIte, Nat.reduceEqDiff, Nat.reduceBEq, Nat.reduceAdd, *] <;> exact rfl))) | ((with_reducible apply i_Gb); (focus (simp (disch := ((try simp only [List.length_map, Int.toNat_natCast, List.length_append, List.length_take, List.length_drop, List.length_replicate, List.length_set, List.length_cons, List.length_nil, fillL_length]); omega)) only [push_cast, ↓reduceIte, Nat.reduceEqDiff, Nat.reduceBEq, Nat.reduceAdd, *] <;> exact rfl)); all_goals (intro hX; (try simp only [decide_eq_true_eq, decide_eq_false_iff_not, Bool.not_eq_true', Bool.not_eq_false'] at hX); (try have hXb := inB_iff.1 hX))) | ((with_reducible apply i_cond); (focus (simp (disch := ((try simp only [List.length_map, Int.toNat_natCast, List.length_append, List.length_take, List.length_drop, List.length_replicate, List.length_set, List.length_cons, List.length_nil, fillL_length]); omega)) only [push_cast, ↓reduceIte, Nat.reduceEqDiff, Nat.reduceBEq, Nat.reduceAdd, *] <;> exact rfl)); all_goals (intro hX; (try simp only [decide_eq_true_eq, decide_eq_false_iff_not, Bool.not_eq_true', Bool.not_eq_false'] at hX); (try have hXb := inB_iff.1 hX))))
    all_goals try ((first | apply i_end | apply i_endN); simp (disch := ((try simp only [List.length_map, Int.toNat_natCast, List.length_append, List.length_take, List.length_drop, List.length_replicate, List.length_set, List.length_cons, List.length_nil, fillL_length]); omega)) only [push_cast, ↓reduceIte, Nat.reduceEqDiff, Nat.reduceBEq, Nat.reduceAdd, *])
    all_goals try (rw [wordB_no (s := s) (k := k) (by omega) (by omega)]; done)
    all_goals try (rw [wordB_yes fun j hj => hok j (by omega)]; done)
    all_goals
      refine ⟨k + 1, ⟨by omega, fun j hj => ?_⟩, by dsimp only; omega, by simp only [push_cast, ↓reduceIte, Nat.reduceEqDiff, Nat.reduceBEq, Nat.reduceAdd], trivial, rfl⟩
      by_cases h1 : j < k
      · exact hok j h1
      · have : j = k := by omega
        subst this
        simp_all
        try omega
def φPage : Fun := F1 dI fun n => some (bv (inB n 1 999))
theorem φPage_ap (n : Int) : φPage [.val (.int .i64 n)] = some (.val (.bool (inB n 1 999))) := rfl
/-- An entry of an index that is not valid. -/
def badW (x : W2) : Bool := !wordB x.1 || !inB x.2 1 999
def φBadW : Fun := F1 dW2 fun x => if x.1.size ≤ 1099511627776 then some (bv (badW x)) else none
theorem φBadW_ap {s : ByteArray} {n : Int} (h : s.size ≤ 1099511627776) : φBadW [.agg [.val (.string s), .val (.int .i64 n)]] = some (.val (.bool (badW (s, n)))) :=
  (F1_ap (A := dW2) (s, n)).trans (if_pos h)
/-- The first element at which p holds, or -1. -/
def firstAtG {α : Type} (p : α → Bool) (zs : List α) : Int := match zs.findIdx? p with | some i => i | none => -1
theorem firstAtG_found {α : Type} {d : α} {p : α → Bool} {zs : List α} {k : Nat} (h : ∀ j, j < k → p (zs[j]?.getD d) = false) (hk : k < zs.length) (hp : p (zs[k]?.getD d) = true) : firstAtG p zs = k := by
  have : zs.findIdx? p = some k := by
    rw [List.findIdx?_eq_some_iff_getElem]
    refine ⟨hk, by simpa [hk] using hp, fun j hj => ?_⟩
    have := h j hj
    simpa [show j < zs.length by omega] using this
  simp [firstAtG, this]
theorem firstAtG_none {α : Type} {d : α} {p : α → Bool} {zs : List α} (h : ∀ j, j < zs.length → p (zs[j]?.getD d) = false) : firstAtG p zs = -1 := by
  have : zs.findIdx? p = none := by
    rw [List.findIdx?_eq_none_iff]
    intro x hx
    obtain ⟨j, hj, rfl⟩ := List.getElem_of_mem hx
    simpa [hj] using h j hj
  simp [firstAtG, this]
theorem firstAtG_any {α : Type} (p : α → Bool) (zs : List α) : decide (0 ≤ firstAtG p zs) = zs.any p := by
  unfold firstAtG
  split
  · rename_i i h
    rw [List.findIdx?_eq_some_iff_getElem] at h
    obtain ⟨h1, h2, _⟩ := h
    have : zs.any p = true := List.any_eq_true.2 ⟨_, List.getElem_mem h1, h2⟩
    simp [this]
  · rename_i h
    rw [List.findIdx?_eq_none_iff] at h
    have : zs.any p = false := by
      rw [List.any_eq_false]
      intro x hx
      simp [h x hx]
    simp [this]
theorem any_splitG {α : Type} {d : α} {zs : List α} {p : α → Bool} {k : Nat} (hk : k < zs.length) (hp : p (zs[k]?.getD d) = true) : zs.any p = true :=
  List.any_eq_true.2 ⟨zs[k], List.getElem_mem hk, by simpa [hk] using hp⟩
theorem any_noneG {α : Type} {d : α} {zs : List α} {p : α → Bool} (h : ∀ j, j < zs.length → p (zs[j]?.getD d) = false) : zs.any p = false := by
  rw [List.any_eq_false]
  intro x hx
  obtain ⟨j, hj, rfl⟩ := List.getElem_of_mem hx
  simpa [hj] using h j hj
/-- Short enough a list of words of which each is short enough. -/
abbrev okW (l : List W2) : Prop := l.length ≤ 1099511627776 ∧ ∀ i : Nat, (l[i]?.getD w0).1.size ≤ 1099511627776
noncomputable instance (l : List W2) : Decidable (okW l) := Classical.propDecidable _
abbrev dWs : Dec (List W2) := dL 2 dW2
abbrev pvW (x : W2) : PV := .agg [.val (.string x.1), .val (.int .i64 x.2)]
/-- What is left when the sizes are taken off one after the other; -1: too much. -/
def takeOff : Int → List Nat → Int
  | left, [] => left
  | left, n :: l => if left - n < 0 then -1 else takeOff (left - n) l
theorem takeOff_pos : ∀ {l : List Nat} {left : Int}, 0 ≤ takeOff left l → 0 ≤ left → ∀ n ∈ l, (n : Int) ≤ left
  | [], left, h, h0, n, hn => by simp at hn
  | m :: l, left, h, h0, n, hn => by
    unfold takeOff at h
    split at h
    · omega
    · rename_i h1
      rcases List.mem_cons.1 hn with rfl | h2
      · omega
      · have := takeOff_pos h (by omega) n h2
        omega
def szWs (left : Int) (l : List W2) : Int := if left - l.length < 0 then -1 else takeOff (left - l.length) (l.map (·.1.size))
abbrev okWL (l : List W2) : Prop := l.length ≤ 9223372036854775807 ∧ ∀ i : Nat, (l[i]?.getD w0).1.size ≤ 9223372036854775807
noncomputable instance (l : List W2) : Decidable (okWL l) := Classical.propDecidable _
end Go.Proofs.Ytnblbgdencdgjaa
