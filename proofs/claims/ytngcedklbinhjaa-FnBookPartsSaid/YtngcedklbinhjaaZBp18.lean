/- What the proof rests on, part 18: contracts of functions. No condition beyond what each states. -/
import Derived.Test.YtngcedklbinhjaaZBp17
namespace Go.Proofs.Ytngcedklbinhjaa
open Go.RowKit
set_option linter.all false
def ΦOpen : FunIO := fun ps cs => match ps, cs with
  | [p], [] => (dUs.d p).map fun code => (.own 0 2 0 0, [rdC 81 (code.take 2000) 0])
  | _, _ => none
theorem ΦOpen_ap {code : List Int} : ΦOpen [.lst false 1 (code.map fun n => .val (.int .u8 n))] [] = some (.own 0 2 0 0, [rdC 81 (code.take 2000) 0]) := by
  have := dUs.h' code
  simp only [dUs, dL_e, dU_e] at this
  simp only [ΦOpen, dUs, this, Option.map_some]
theorem open_io : SoundIO Try.prog 33 ΦOpen := by
  refine sound_pq0 mixed GE_ok Try.func33 rfl 11 rfl [.tmp 2] rfl (by kernel_rfl) fun ps cs r cs' hr => ?_
  unfold ΦOpen at hr
  split at hr
  case h_2 => cases hr
  rename_i p
  rw [Option.map_eq_some_iff] at hr
  obtain ⟨code, h1, h2⟩ := hr
  obtain rfl := dUs.h _ _ h1
  clear h1
  cases h2
  refine ⟨rfl, by simp, ?_⟩
  simp only [dIs, dUs, dSs, dI_e, dU_e, dB_e, dS_e, dFn_e, dL_e, dA2_e, dA3_e, dA4_e, dA5_e]
  repeat' (first | (with_reducible first | apply i_seq | apply i_block | apply i_skip | apply i_exit | apply i_ret | apply i_kS | apply i_kSx | apply i_kSr | apply i_kL | apply i_kLx | apply i_kLr | apply i_kB | apply i_kBr | apply i_kBs | apply i_nil) | ((with_reducible apply i_region); (simp only [List.map_cons, List.map_nil] <;> exact rfl)) | ((with_reducible apply i_draw); (simp only [List.map_cons, List.map_nil] <;> exact rfl); decide +kernel) | ((with_reducible apply i_kBo); rfl) | ((first | ((with_reducible apply i_V); rfl; rfl; rfl) | ((first | ((with_reducible apply i_E); rfl) | ((with_reducible apply i_S); rfl)); first | rfl | (simp only [push_cast, ↓reduceIte])) | ((with_reducible apply i_Vq); rfl; rfl) | ((with_reducible apply i_Vp); rfl; rfl; rfl) | (with_reducible first | apply i_Gb | apply i_cond)); (simp (disch := (first | omega | (simp only [push_cast]; first | done | omega))) only [push_cast, ↓reduceIte, Nat.reduceEqDiff, Nat.reduceBEq, Nat.reduceAdd, Nat.reduceSub, Int.reduceToNat, *] <;> with_reducible exact rfl); all_goals try (first | (with_reducible first | refine hyT ?_ | refine hyF ?_ | exact hyA | exact hyB) | (intro hX; first | (cases hX; done) | ((try simp only [decide_eq_true_eq, decide_eq_false_iff_not, Bool.not_eq_true', Bool.not_eq_false'] at hX); (try have hXb := inB_iff.1 hX))))))
  · refine i_endN1 0 (by first | exact .inl rfl | exact .inr rfl) ?_ ?_
    · (focus (simp (disch := (first | omega | (simp only [push_cast]; first | done | omega))) only [push_cast, ↓reduceIte, Nat.reduceEqDiff, Nat.reduceBEq, Nat.reduceAdd, Nat.reduceSub, Int.reduceToNat, rep_iv, rep_sv, rep_w, rep_i3, rep_i4, *] <;> with_reducible exact rfl))
    · simp only [push_cast, ↓reduceIte, Nat.reduceEqDiff, Nat.reduceBEq, Nat.reduceAdd, Nat.reduceSub, Int.reduceToNat, rdC]
  · have h : code.take 2000 = code := List.take_of_length_le (by simp_all; omega)
    refine i_endN1 0 (by first | exact .inl rfl | exact .inr rfl) ?_ ?_
    · (focus (simp (disch := (first | omega | (simp only [push_cast]; first | done | omega))) only [push_cast, ↓reduceIte, Nat.reduceEqDiff, Nat.reduceBEq, Nat.reduceAdd, Nat.reduceSub, Int.reduceToNat, rep_iv, rep_sv, rep_w, rep_i3, rep_i4, *] <;> with_reducible exact rfl))
    · simp only [push_cast, ↓reduceIte, Nat.reduceEqDiff, Nat.reduceBEq, Nat.reduceAdd, Nat.reduceSub, Int.reduceToNat, rdC, h]
theorem pick_ex : ∃ Φ : FunIO, SoundIO Try.prog 54 Φ ∧ Drw2 81 Φ 1000000000 1 (fun v : Int => PV.val (.int .i64 v)) (fun _ => True) (fun n v => 0 ≤ v ∧ (1 ≤ n → v < n)) := by
  refine drw2_of mixed GE_ok Try.func54 rfl 99 rfl [.tmp 4] rfl (by kernel_rfl) (by simp) _ _ _ _ _ _ fun code p n hok hp _ => ?_
  obtain ⟨hlen, hbyte, hp0, hp1⟩ := id hok
  have hb0 := hbyte p.toNat
  have hb1 := hbyte (p % code.length).toNat
  have hb2 := hbyte ((p * 7 + 3) % code.length).toNat
  have hm : 0 < code.length → 0 ≤ p % (code.length : Int) ∧ p % (code.length : Int) < code.length ∧ 0 ≤ (p * 7 + 3) % (code.length : Int) ∧ (p * 7 + 3) % (code.length : Int) < code.length ∧ 0 ≤ p / (code.length : Int) ∧ p / (code.length : Int) ≤ p := fun h =>
    ⟨Int.emod_nonneg _ (by omega), Int.emod_lt_of_pos _ (by omega), Int.emod_nonneg _ (by omega), Int.emod_lt_of_pos _ (by omega), Int.ediv_nonneg hp0 (by omega), Int.ediv_le_self _ hp0⟩
  clear hbyte
  repeat' (first | (first | (with_reducible first | apply i_seq | apply i_block | apply i_skip | apply i_exit | apply i_ret | apply i_kS | apply i_kSx | apply i_kSr | apply i_kL | apply i_kLx | apply i_kLr | apply i_kB | apply i_kBr | apply i_kBs | apply i_nil) | ((with_reducible apply i_region); (simp only [List.map_cons, List.map_nil] <;> exact rfl)) | ((with_reducible apply i_draw); (simp only [List.map_cons, List.map_nil] <;> exact rfl); decide +kernel) | ((with_reducible apply i_kBo); rfl) | ((first | ((with_reducible apply i_V); rfl; rfl; rfl) | ((first | ((with_reducible apply i_E); rfl) | ((with_reducible apply i_S); rfl)); first | rfl | (simp only [push_cast, ↓reduceIte])) | ((with_reducible apply i_Vq); rfl; rfl) | ((with_reducible apply i_Vp); rfl; rfl; rfl) | (with_reducible first | apply i_Gb | apply i_cond)); (simp (disch := (first | omega | (simp only [push_cast]; first | done | omega))) only [push_cast, ↓reduceIte, Nat.reduceEqDiff, Nat.reduceBEq, Nat.reduceAdd, Nat.reduceSub, Int.reduceToNat, *] <;> with_reducible exact rfl); all_goals try (first | (with_reducible first | refine hyT ?_ | refine hyF ?_ | exact hyA | exact hyB) | (intro hX; first | (cases hX; done) | ((try simp only [decide_eq_true_eq, decide_eq_false_iff_not, Bool.not_eq_true', Bool.not_eq_false'] at hX); (try have hXb := inB_iff.1 hX)))))) | ((with_reducible apply i_xor); rfl; (simp (disch := (first | omega | (simp only [push_cast]; first | done | omega))) only [push_cast, ↓reduceIte, Nat.reduceEqDiff, Nat.reduceBEq, Nat.reduceAdd, Nat.reduceSub, Int.reduceToNat, *] <;> with_reducible exact rfl); (simp (disch := (first | omega | (simp only [push_cast]; first | done | omega))) only [push_cast, ↓reduceIte, Nat.reduceEqDiff, Nat.reduceBEq, Nat.reduceAdd, Nat.reduceSub, Int.reduceToNat, *] <;> with_reducible exact rfl); (first | omega | (simp only [push_cast]; first | done | omega)); (first | omega | (simp only [push_cast]; first | done | omega)); (first | omega | (simp only [push_cast]; first | done | omega)); (first | omega | (simp only [push_cast]; first | done | omega)); intro z hz1 hz2))
  all_goals ((with_reducible apply i_fin1 (by first | exact .inl rfl | exact .inr rfl)); (focus (simp (disch := (first | omega | (simp only [push_cast]; first | done | omega))) only [push_cast, ↓reduceIte, Nat.reduceEqDiff, Nat.reduceBEq, Nat.reduceAdd, Nat.reduceSub, Int.reduceToNat, rep_iv, rep_sv, rep_w, rep_i3, rep_i4, *] <;> with_reducible exact rfl)); (focus (simp (disch := (first | omega | (simp only [push_cast]; first | done | omega))) only [push_cast, ↓reduceIte, Nat.reduceEqDiff, Nat.reduceBEq, Nat.reduceAdd, Nat.reduceSub, Int.reduceToNat, rep_iv, rep_sv, rep_w, rep_i3, rep_i4, *] <;> with_reducible exact rfl)))
  all_goals (first | omega | exact hok.to (by omega) (by omega) | exact ⟨Int.emod_nonneg _ (by omega), fun _ => Int.emod_lt_of_pos _ (by omega)⟩)
noncomputable def Φpick : FunIO := Classical.choose pick_ex
theorem pick_io : SoundIO Try.prog 54 Φpick := (Classical.choose_spec pick_ex).1
theorem pick_drw : Drw2 81 Φpick 1000000000 1 (fun v : Int => PV.val (.int .i64 v)) (fun _ => True) (fun n v => 0 ≤ v ∧ (1 ≤ n → v < n)) := (Classical.choose_spec pick_ex).2
noncomputable def GOdd : Ctx := { fn := fun f => none, io := fun f => if f = 54 then some Φpick else none }
theorem GOdd_ok : SoundΓ Try.prog GOdd := ⟨(fun f φ h => by
  unfold GOdd at h
  dsimp only at h
  cases h), (fun f φ h => by
  unfold GOdd at h
  dsimp only at h
  split at h
  · rename_i hf; cases h; subst hf; exact ⟨⟨_, Try.func54, rfl, rfl⟩, pick_io⟩
  cases h), rfl⟩
theorem odd_ex : ∃ Φ : FunIO, SoundIO Try.prog 55 Φ ∧ Drw2 81 Φ 900000000 1 (fun v : Bool => PV.val (.bool v)) (fun n => 0 ≤ n ∧ n ≤ 1000000) (fun n v => n ≤ 0 → v = false) := by
  refine drw2_of mixed GOdd_ok Try.func55 rfl 15 rfl [.tmp 4] rfl (by kernel_rfl) (by simp) _ _ _ _ _ _ fun code p n hok hp hn => ?_
  have hp0 := hok.pos
  repeat' (first | (first | (with_reducible first | apply i_seq | apply i_block | apply i_skip | apply i_exit | apply i_ret | apply i_kS | apply i_kSx | apply i_kSr | apply i_kL | apply i_kLx | apply i_kLr | apply i_kB | apply i_kBr | apply i_kBs | apply i_nil) | ((with_reducible apply i_region); (simp only [List.map_cons, List.map_nil] <;> exact rfl)) | ((with_reducible apply i_draw); (simp only [List.map_cons, List.map_nil] <;> exact rfl); decide +kernel) | ((with_reducible apply i_kBo); rfl) | ((first | ((with_reducible apply i_V); rfl; rfl; rfl) | ((first | ((with_reducible apply i_E); rfl) | ((with_reducible apply i_S); rfl)); first | rfl | (simp only [push_cast, ↓reduceIte])) | ((with_reducible apply i_Vq); rfl; rfl) | ((with_reducible apply i_Vp); rfl; rfl; rfl) | (with_reducible first | apply i_Gb | apply i_cond)); (simp (disch := (first | omega | (simp only [push_cast]; first | done | omega))) only [push_cast, ↓reduceIte, Nat.reduceEqDiff, Nat.reduceBEq, Nat.reduceAdd, Nat.reduceSub, Int.reduceToNat, *] <;> with_reducible exact rfl); all_goals try (first | (with_reducible first | refine hyT ?_ | refine hyF ?_ | exact hyA | exact hyB) | (intro hX; first | (cases hX; done) | ((try simp only [decide_eq_true_eq, decide_eq_false_iff_not, Bool.not_eq_true', Bool.not_eq_false'] at hX); (try have hXb := inB_iff.1 hX)))))) | ((with_reducible apply i_drw2 pick_drw (fun _ _ => rfl)); rfl; (simp (disch := (first | omega | (simp only [push_cast]; first | done | omega))) only [push_cast, ↓reduceIte, Nat.reduceEqDiff, Nat.reduceBEq, Nat.reduceAdd, Nat.reduceSub, Int.reduceToNat, *] <;> with_reducible exact rfl); (simp (disch := (first | omega | (simp only [push_cast]; first | done | omega))) only [push_cast, ↓reduceIte, Nat.reduceEqDiff, Nat.reduceBEq, Nat.reduceAdd, Nat.reduceSub, Int.reduceToNat, *] <;> with_reducible exact rfl); (simp (disch := (first | omega | (simp only [push_cast]; first | done | omega))) only [push_cast, ↓reduceIte, Nat.reduceEqDiff, Nat.reduceBEq, Nat.reduceAdd, Nat.reduceSub, Int.reduceToNat, *] <;> with_reducible exact rfl); assumption; omega; (focus (first | trivial | omega)); (focus (first | rfl | (simp only [push_cast, ↓reduceIte]))); intro v pp hv hok hpp1 hpp2))
  all_goals ((with_reducible apply i_fin1 (by first | exact .inl rfl | exact .inr rfl)); (focus (simp (disch := (first | omega | (simp only [push_cast]; first | done | omega))) only [push_cast, ↓reduceIte, Nat.reduceEqDiff, Nat.reduceBEq, Nat.reduceAdd, Nat.reduceSub, Int.reduceToNat, rep_iv, rep_sv, rep_w, rep_i3, rep_i4, *] <;> with_reducible exact rfl)); (focus (simp (disch := (first | omega | (simp only [push_cast]; first | done | omega))) only [push_cast, ↓reduceIte, Nat.reduceEqDiff, Nat.reduceBEq, Nat.reduceAdd, Nat.reduceSub, Int.reduceToNat, rep_iv, rep_sv, rep_w, rep_i3, rep_i4, *] <;> with_reducible exact rfl)))
  all_goals (first | omega | assumption | (intro h; first | omega | rfl | (simp; omega)))
noncomputable def Φodd : FunIO := Classical.choose odd_ex
theorem odd_io : SoundIO Try.prog 55 Φodd := (Classical.choose_spec odd_ex).1
theorem odd_drw : Drw2 81 Φodd 900000000 1 (fun v : Bool => PV.val (.bool v)) (fun n => 0 ≤ n ∧ n ≤ 1000000) (fun n v => n ≤ 0 → v = false) := (Classical.choose_spec odd_ex).2
end Go.Proofs.Ytngcedklbinhjaa
namespace Go.Proofs.Ytngcedklbinhjaa
open Go.RowKit
set_option linter.all false
def glueB (g : I4) : Bool := inB g.1 0 1000 && inB g.2.1 0 1000 && inB g.2.2.1 0 g.1 && inB g.2.2.2 0 1
def φGlueV : Fun := F1 dI4 fun g => some (bv (glueB g))
theorem φGlueV_ap {a b c d : Int} : φGlueV [.agg [.val (.int .i64 a), .val (.int .i64 b), .val (.int .i64 c), .val (.int .i64 d)]] = some (.val (.bool (glueB (a, b, c, d)))) := F1_ap (A := dI4) (a, b, c, d)
noncomputable def GGl : Ctx := { fn := fun f => if f = 57 then some φIn else none, io := fun f => none }
theorem GGl_ok : SoundΓ Try.prog GGl := ⟨(fun f φ h => by
  unfold GGl at h
  dsimp only at h
  split at h
  · rename_i hf; cases h; subst hf; exact ⟨⟨_, Try.func57, rfl, rfl⟩, in_ok⟩
  cases h), (fun f φ h => by
  unfold GGl at h
  dsimp only at h
  cases h), rfl⟩
theorem GGl_57 (ob : Objs) (ps : List PV) : evCall GGl ob 57 ps = (ps.mapM (reify false 0 ob fuel)).bind φIn := by
  have h : GGl.fn 57 = some φIn := by simp [GGl]
  unfold evCall
  rw [h]
  cases ps.mapM (reify false 0 ob fuel) <;> rfl
set_option maxHeartbeats 4000000 in
theorem implGlueV_ok : Sound Try.prog 35 φGlueV := by
  refine sound_pq mixed GGl_ok Try.func35 rfl 23 rfl [.tmp 2] rfl (by kernel_rfl) fun ps r hr => ?_
  obtain ⟨⟨a, b, c, d⟩, rfl, hr⟩ := F1_some hr
  cases hr
  refine ⟨by simp, ?_⟩
  simp only [dIs, dUs, dSs, dI_e, dU_e, dB_e, dS_e, dFn_e, dL_e, dA2_e, dA3_e, dA4_e, dA5_e]
  have ggl_c57 := GGl_57; have ap := φIn_ap
  repeat' (first | (with_reducible first | apply i_seq | apply i_block | apply i_skip | apply i_exit | apply i_ret | apply i_kS | apply i_kSx | apply i_kSr | apply i_kL | apply i_kLx | apply i_kLr | apply i_kB | apply i_kBr | apply i_kBs | apply i_nil) | ((with_reducible apply i_region); (simp only [List.map_cons, List.map_nil] <;> exact rfl)) | ((with_reducible apply i_draw); (simp only [List.map_cons, List.map_nil] <;> exact rfl); decide +kernel) | ((with_reducible apply i_kBo); rfl) | ((first | ((with_reducible apply i_V); rfl; rfl; rfl) | ((first | ((with_reducible apply i_E); rfl) | ((with_reducible apply i_S); rfl)); first | rfl | (simp only [push_cast, ↓reduceIte])) | ((with_reducible apply i_Vq); rfl; rfl) | ((with_reducible apply i_Vp); rfl; rfl; rfl) | (with_reducible first | apply i_Gb | apply i_cond)); (simp (disch := (first | omega | (simp only [push_cast]; first | done | omega))) only [push_cast, ↓reduceIte, Nat.reduceEqDiff, Nat.reduceBEq, Nat.reduceAdd, Nat.reduceSub, Int.reduceToNat, *] <;> with_reducible exact rfl); all_goals try (first | (with_reducible first | refine hyT ?_ | refine hyF ?_ | exact hyA | exact hyB) | (intro hX; first | (cases hX; done) | ((try simp only [decide_eq_true_eq, decide_eq_false_iff_not, Bool.not_eq_true', Bool.not_eq_false'] at hX); (try have hXb := inB_iff.1 hX))))))
  all_goals ((first | apply i_end | apply i_endN); simp (disch := (first | omega | (simp only [push_cast]; first | done | omega))) only [push_cast, ↓reduceIte, Nat.reduceEqDiff, Nat.reduceBEq, Nat.reduceAdd, Nat.reduceSub, Int.reduceToNat, *])
  all_goals simp_all [glueB]
noncomputable def GAl : Ctx := { fn := fun f => if f = 35 then some φGlueV else none, io := fun f => none }
theorem GAl_ok : SoundΓ Try.prog GAl := ⟨(fun f φ h => by
  unfold GAl at h
  dsimp only at h
  split at h
  · rename_i hf; cases h; subst hf; exact ⟨⟨_, Try.func35, rfl, rfl⟩, implGlueV_ok⟩
  cases h), (fun f φ h => by
  unfold GAl at h
  dsimp only at h
  cases h), rfl⟩
theorem GAl_35 (ob : Objs) (ps : List PV) : evCall GAl ob 35 ps = (ps.mapM (reify false 0 ob fuel)).bind φGlueV := by
  have h : GAl.fn 35 = some φGlueV := by simp [GAl]
  unfold evCall
  rw [h]
  cases ps.mapM (reify false 0 ob fuel) <;> rfl
def φTrue : Fun := F0 (some (bv true))
theorem φTrue_ap : φTrue [] = some (.val (.bool true)) := rfl
theorem alive_ok : Sound Try.prog 11 φTrue := by
  refine sound_pq mixed GAl_ok Try.func11 rfl 3 rfl [.tmp 0] rfl (by kernel_rfl) fun ps r hr => ?_
  obtain ⟨rfl, hr⟩ := F0_some hr
  cases hr
  refine ⟨by simp, ?_⟩
  have gal_c35 := GAl_35; have ap := @φGlueV_ap
  have e : glueB (4, 0, 0, 0) = true := rfl
  (refine wlkX ?_; intros)
  all_goals (exact fnF)
noncomputable def GRd : Ctx := { fn := fun f => none, io := fun f => if f = 54 then some Φpick else if f = 55 then some Φodd else none }
theorem GRd_ok : SoundΓ Try.prog GRd := ⟨(fun f φ h => by
  unfold GRd at h
  dsimp only at h
  cases h), (fun f φ h => by
  unfold GRd at h
  dsimp only at h
  split at h
  · rename_i hf; cases h; subst hf; exact ⟨⟨_, Try.func54, rfl, rfl⟩, pick_io⟩
  split at h
  · rename_i hf; cases h; subst hf; exact ⟨⟨_, Try.func55, rfl, rfl⟩, odd_io⟩
  cases h), rfl⟩
end Go.Proofs.Ytngcedklbinhjaa
namespace Go.Proofs.Ytngcedklbinhjaa
open Go.RowKit
set_option linter.all false
abbrev EStr (s : ByteArray) : PV := .val (.string s)
set_option maxHeartbeats 8000000 in
theorem text_ex : ∃ Φ : FunIO, SoundIO Try.prog 78 Φ ∧ Drw2 81 Φ 700000000 15 EStr (fun n => 0 ≤ n ∧ n ≤ 1000) (fun _ s => s.size ≤ 21) := by
  refine drw2_of mixed GRd_ok Try.func78 rfl 39 rfl [.tmp 4] rfl (by kernel_rfl) (by simp) _ _ _ _ _ _ fun code p n hok hp hn => ?_
  have hp0 := hok.pos
  repeat' (first | (first | (with_reducible first | apply i_seq | apply i_block | apply i_skip | apply i_exit | apply i_ret | apply i_kS | apply i_kSx | apply i_kSr | apply i_kL | apply i_kLx | apply i_kLr | apply i_kB | apply i_kBr | apply i_kBs | apply i_nil) | ((with_reducible apply i_region); (simp only [List.map_cons, List.map_nil] <;> exact rfl)) | ((with_reducible apply i_draw); (simp only [List.map_cons, List.map_nil] <;> exact rfl); decide +kernel) | ((with_reducible apply i_kBo); rfl) | ((first | ((with_reducible apply i_V); rfl; rfl; rfl) | ((first | ((with_reducible apply i_E); rfl) | ((with_reducible apply i_S); rfl)); first | rfl | (simp only [push_cast, ↓reduceIte])) | ((with_reducible apply i_Vq); rfl; rfl) | ((with_reducible apply i_Vp); rfl; rfl; rfl) | (with_reducible first | apply i_Gb | apply i_cond)); (simp (disch := (first | omega | (simp only [push_cast]; first | done | omega))) only [push_cast, ↓reduceIte, Nat.reduceEqDiff, Nat.reduceBEq, Nat.reduceAdd, Nat.reduceSub, Int.reduceToNat, *] <;> with_reducible exact rfl); all_goals try (first | (with_reducible first | refine hyT ?_ | refine hyF ?_ | exact hyA | exact hyB) | (intro hX; first | (cases hX; done) | ((try simp only [decide_eq_true_eq, decide_eq_false_iff_not, Bool.not_eq_true', Bool.not_eq_false'] at hX); (try have hXb := inB_iff.1 hX)))))) | ((with_reducible apply i_drw2 pick_drw (fun _ _ => rfl)); rfl; (simp (disch := (first | omega | (simp only [push_cast]; first | done | omega))) only [push_cast, ↓reduceIte, Nat.reduceEqDiff, Nat.reduceBEq, Nat.reduceAdd, Nat.reduceSub, Int.reduceToNat, *] <;> with_reducible exact rfl); (simp (disch := (first | omega | (simp only [push_cast]; first | done | omega))) only [push_cast, ↓reduceIte, Nat.reduceEqDiff, Nat.reduceBEq, Nat.reduceAdd, Nat.reduceSub, Int.reduceToNat, *] <;> with_reducible exact rfl); (simp (disch := (first | omega | (simp only [push_cast]; first | done | omega))) only [push_cast, ↓reduceIte, Nat.reduceEqDiff, Nat.reduceBEq, Nat.reduceAdd, Nat.reduceSub, Int.reduceToNat, *] <;> with_reducible exact rfl); assumption; omega; (focus (first | trivial | omega)); (focus (first | rfl | (simp only [push_cast, ↓reduceIte]))); intro v pp hv hok hpp1 hpp2) | ((with_reducible apply i_drw2 odd_drw (fun _ _ => rfl)); rfl; (simp (disch := (first | omega | (simp only [push_cast]; first | done | omega))) only [push_cast, ↓reduceIte, Nat.reduceEqDiff, Nat.reduceBEq, Nat.reduceAdd, Nat.reduceSub, Int.reduceToNat, *] <;> with_reducible exact rfl); (simp (disch := (first | omega | (simp only [push_cast]; first | done | omega))) only [push_cast, ↓reduceIte, Nat.reduceEqDiff, Nat.reduceBEq, Nat.reduceAdd, Nat.reduceSub, Int.reduceToNat, *] <;> with_reducible exact rfl); (simp (disch := (first | omega | (simp only [push_cast]; first | done | omega))) only [push_cast, ↓reduceIte, Nat.reduceEqDiff, Nat.reduceBEq, Nat.reduceAdd, Nat.reduceSub, Int.reduceToNat, *] <;> with_reducible exact rfl); assumption; omega; (focus (first | trivial | omega)); (focus (first | rfl | (simp only [push_cast, ↓reduceIte]))); intro v pp hv hok hpp1 hpp2))
  all_goals try ((with_reducible apply i_fin1 (by first | exact .inl rfl | exact .inr rfl)); (focus (simp (disch := (first | omega | (simp only [push_cast]; first | done | omega))) only [push_cast, ↓reduceIte, Nat.reduceEqDiff, Nat.reduceBEq, Nat.reduceAdd, Nat.reduceSub, Int.reduceToNat, rep_iv, rep_sv, rep_w, rep_i3, rep_i4, *] <;> with_reducible exact rfl)); (focus (simp (disch := (first | omega | (simp only [push_cast]; first | done | omega))) only [push_cast, ↓reduceIte, Nat.reduceEqDiff, Nat.reduceBEq, Nat.reduceAdd, Nat.reduceSub, Int.reduceToNat, rep_iv, rep_sv, rep_w, rep_i3, rep_i4, *] <;> with_reducible exact rfl)))
  all_goals try (first | omega | assumption | exact sel_all (p := fun a : ByteArray => a.size ≤ 21) (by decide) (by simp only [List.length_cons, List.length_nil]; omega))
  refine i_loop (α := ByteArray × Int × Int × Nat) mixed (fun s => [(0, .own 0 2 0 0), (5, .val (.string s.1)), (6, iv s.2.1)])
    (fun s => [(0, rdC 81 code s.2.2.1)]) (fun s => s.2.2.2)
    (fun s => okRd code s.2.2.1 ∧ p ≤ s.2.2.1 ∧ s.2.2.1 + s.2.1 ≤ p + 14 ∧ s.1.size + s.2.1 ≤ 10 ∧ 0 ≤ s.2.1 ∧ 0 < s.2.2.2) (fun s => s.2.1.toNat) (by kernel_rfl) (⟨#[]⟩, 1 + v, pp, 1) ⟨hok, ?_⟩ ?_ ?_ rfl ?_
  · have h0 : ((⟨#[]⟩ : ByteArray)).size = 0 := rfl
    dsimp only; omega
  · exact agr
  · exact agr
  rintro ⟨s, k, q, y⟩ ⟨okq, i1, i2, i3, i4, i5⟩
  dsimp only at okq i1 i2 i3 i4 i5
  repeat' (first | (first | (with_reducible first | apply i_seq | apply i_block | apply i_skip | apply i_exit | apply i_ret | apply i_kS | apply i_kSx | apply i_kSr | apply i_kL | apply i_kLx | apply i_kLr | apply i_kB | apply i_kBr | apply i_kBs | apply i_nil) | ((with_reducible apply i_region); (simp only [List.map_cons, List.map_nil] <;> exact rfl)) | ((with_reducible apply i_draw); (simp only [List.map_cons, List.map_nil] <;> exact rfl); decide +kernel) | ((with_reducible apply i_kBo); rfl) | ((first | ((with_reducible apply i_V); rfl; rfl; rfl) | ((first | ((with_reducible apply i_E); rfl) | ((with_reducible apply i_S); rfl)); first | rfl | (simp only [push_cast, ↓reduceIte])) | ((with_reducible apply i_Vq); rfl; rfl) | ((with_reducible apply i_Vp); rfl; rfl; rfl) | (with_reducible first | apply i_Gb | apply i_cond)); (simp (disch := (first | omega | (simp only [push_cast]; first | done | omega))) only [push_cast, ↓reduceIte, Nat.reduceEqDiff, Nat.reduceBEq, Nat.reduceAdd, Nat.reduceSub, Int.reduceToNat, *] <;> with_reducible exact rfl); all_goals try (first | (with_reducible first | refine hyT ?_ | refine hyF ?_ | exact hyA | exact hyB) | (intro hX; first | (cases hX; done) | ((try simp only [decide_eq_true_eq, decide_eq_false_iff_not, Bool.not_eq_true', Bool.not_eq_false'] at hX); (try have hXb := inB_iff.1 hX)))))) | ((with_reducible apply i_drw2 pick_drw (fun _ _ => rfl)); rfl; (simp (disch := (first | omega | (simp only [push_cast]; first | done | omega))) only [push_cast, ↓reduceIte, Nat.reduceEqDiff, Nat.reduceBEq, Nat.reduceAdd, Nat.reduceSub, Int.reduceToNat, *] <;> with_reducible exact rfl); (simp (disch := (first | omega | (simp only [push_cast]; first | done | omega))) only [push_cast, ↓reduceIte, Nat.reduceEqDiff, Nat.reduceBEq, Nat.reduceAdd, Nat.reduceSub, Int.reduceToNat, *] <;> with_reducible exact rfl); (simp (disch := (first | omega | (simp only [push_cast]; first | done | omega))) only [push_cast, ↓reduceIte, Nat.reduceEqDiff, Nat.reduceBEq, Nat.reduceAdd, Nat.reduceSub, Int.reduceToNat, *] <;> with_reducible exact rfl); assumption; omega; (focus (first | trivial | omega)); (focus (first | rfl | (simp only [push_cast, ↓reduceIte]))); intro v pp hv hok hpp1 hpp2))
  all_goals try ((with_reducible apply i_fin1 (by first | exact .inl rfl | exact .inr rfl)); (focus (simp (disch := (first | omega | (simp only [push_cast]; first | done | omega))) only [push_cast, ↓reduceIte, Nat.reduceEqDiff, Nat.reduceBEq, Nat.reduceAdd, Nat.reduceSub, Int.reduceToNat, rep_iv, rep_sv, rep_w, rep_i3, rep_i4, *] <;> with_reducible exact rfl)); (focus (simp (disch := (first | omega | (simp only [push_cast]; first | done | omega))) only [push_cast, ↓reduceIte, Nat.reduceEqDiff, Nat.reduceBEq, Nat.reduceAdd, Nat.reduceSub, Int.reduceToNat, rep_iv, rep_sv, rep_w, rep_i3, rep_i4, *] <;> with_reducible exact rfl)))
  all_goals try (first | omega | assumption)
  refine ⟨(s ++ bytesOf [IntKind.u8.wrap (97 + v)], k - 1, pp, y + 1), ⟨hok, ?_⟩, ?_, ?_, ?_, rfl⟩
  · simp only [ByteArray.size_append, size_bytesOf, List.length_cons, List.length_nil]; omega
  · dsimp only; omega
  · exact agr
  · exact agr
noncomputable def Φtext : FunIO := Classical.choose text_ex
theorem text_io : SoundIO Try.prog 78 Φtext := (Classical.choose_spec text_ex).1
theorem text_drw : Drw2 81 Φtext 700000000 15 EStr (fun n => 0 ≤ n ∧ n ≤ 1000) (fun _ s => s.size ≤ 21) := (Classical.choose_spec text_ex).2
abbrev ESs (l : LS) : PV := .lst true 1 (l.map fun s => PV.val (.string s))
def okT (n : Nat) (l : LS) : Prop := l.length ≤ n ∧ ∀ s ∈ l, s.size ≤ 21
theorem okT_app {l : LS} {a : ByteArray} {m n : Nat} (h : l.length ≤ m) (hn : m < n) (h1 : ∀ s ∈ l, s.size ≤ 21) (h2 : a.size ≤ 21) : okT n (l ++ [a]) := by
  refine ⟨by simp; omega, fun x hx => ?_⟩
  rcases List.mem_append.1 hx with hx | hx
  · exact h1 x hx
  · simp only [List.mem_singleton] at hx
    subst hx
    exact h2
noncomputable def GRw : Ctx := { fn := fun f => none, io := fun f => if f = 54 then some Φpick else if f = 55 then some Φodd else if f = 78 then some Φtext else none }
theorem GRw_ok : SoundΓ Try.prog GRw := ⟨(fun f φ h => by
  unfold GRw at h
  dsimp only at h
  cases h), (fun f φ h => by
  unfold GRw at h
  dsimp only at h
  split at h
  · rename_i hf; cases h; subst hf; exact ⟨⟨_, Try.func54, rfl, rfl⟩, pick_io⟩
  split at h
  · rename_i hf; cases h; subst hf; exact ⟨⟨_, Try.func55, rfl, rfl⟩, odd_io⟩
  split at h
  · rename_i hf; cases h; subst hf; exact ⟨⟨_, Try.func78, rfl, rfl⟩, text_io⟩
  cases h), rfl⟩
set_option maxHeartbeats 8000000 in
theorem words_ex : ∃ Φ : FunIO, SoundIO Try.prog 43 Φ ∧ Drw2 81 Φ 600000000 200 ESs (fun n => 0 ≤ n ∧ n ≤ 1000) (fun _ l => okT 13 l) := by
  refine drw2_of mixed GRw_ok Try.func43 rfl 37 rfl [.tmp 4] rfl (by kernel_rfl) (by simp) _ _ _ _ _ _ fun code p n hok hp hn => ?_
  have hp0 := hok.pos
  repeat' (first | (first | (with_reducible first | apply i_seq | apply i_block | apply i_skip | apply i_exit | apply i_ret | apply i_kS | apply i_kSx | apply i_kSr | apply i_kL | apply i_kLx | apply i_kLr | apply i_kB | apply i_kBr | apply i_kBs | apply i_nil) | ((with_reducible apply i_region); (simp only [List.map_cons, List.map_nil] <;> exact rfl)) | ((with_reducible apply i_draw); (simp only [List.map_cons, List.map_nil] <;> exact rfl); decide +kernel) | ((with_reducible apply i_kBo); rfl) | ((first | ((with_reducible apply i_V); rfl; rfl; rfl) | ((first | ((with_reducible apply i_E); rfl) | ((with_reducible apply i_S); rfl)); first | rfl | (simp only [push_cast, ↓reduceIte])) | ((with_reducible apply i_Vq); rfl; rfl) | ((with_reducible apply i_Vp); rfl; rfl; rfl) | (with_reducible first | apply i_Gb | apply i_cond)); (simp (disch := (first | omega | (simp only [push_cast]; first | done | omega))) only [push_cast, ↓reduceIte, Nat.reduceEqDiff, Nat.reduceBEq, Nat.reduceAdd, Nat.reduceSub, Int.reduceToNat, *] <;> with_reducible exact rfl); all_goals try (first | (with_reducible first | refine hyT ?_ | refine hyF ?_ | exact hyA | exact hyB) | (intro hX; first | (cases hX; done) | ((try simp only [decide_eq_true_eq, decide_eq_false_iff_not, Bool.not_eq_true', Bool.not_eq_false'] at hX); (try have hXb := inB_iff.1 hX)))))) | ((with_reducible apply i_drw2 pick_drw (fun _ _ => rfl)); rfl; (simp (disch := (first | omega | (simp only [push_cast]; first | done | omega))) only [push_cast, ↓reduceIte, Nat.reduceEqDiff, Nat.reduceBEq, Nat.reduceAdd, Nat.reduceSub, Int.reduceToNat, *] <;> with_reducible exact rfl); (simp (disch := (first | omega | (simp only [push_cast]; first | done | omega))) only [push_cast, ↓reduceIte, Nat.reduceEqDiff, Nat.reduceBEq, Nat.reduceAdd, Nat.reduceSub, Int.reduceToNat, *] <;> with_reducible exact rfl); (simp (disch := (first | omega | (simp only [push_cast]; first | done | omega))) only [push_cast, ↓reduceIte, Nat.reduceEqDiff, Nat.reduceBEq, Nat.reduceAdd, Nat.reduceSub, Int.reduceToNat, *] <;> with_reducible exact rfl); assumption; omega; (focus (first | trivial | omega)); (focus (first | rfl | (simp only [push_cast, ↓reduceIte]))); intro v pp hv hok hpp1 hpp2) | ((with_reducible apply i_drw2 odd_drw (fun _ _ => rfl)); rfl; (simp (disch := (first | omega | (simp only [push_cast]; first | done | omega))) only [push_cast, ↓reduceIte, Nat.reduceEqDiff, Nat.reduceBEq, Nat.reduceAdd, Nat.reduceSub, Int.reduceToNat, *] <;> with_reducible exact rfl); (simp (disch := (first | omega | (simp only [push_cast]; first | done | omega))) only [push_cast, ↓reduceIte, Nat.reduceEqDiff, Nat.reduceBEq, Nat.reduceAdd, Nat.reduceSub, Int.reduceToNat, *] <;> with_reducible exact rfl); (simp (disch := (first | omega | (simp only [push_cast]; first | done | omega))) only [push_cast, ↓reduceIte, Nat.reduceEqDiff, Nat.reduceBEq, Nat.reduceAdd, Nat.reduceSub, Int.reduceToNat, *] <;> with_reducible exact rfl); assumption; omega; (focus (first | trivial | omega)); (focus (first | rfl | (simp only [push_cast, ↓reduceIte]))); intro v pp hv hok hpp1 hpp2) | ((with_reducible apply i_drw2 text_drw (fun _ _ => by simp only [push_cast, ↓reduceIte, Nat.reduceEqDiff, Nat.reduceBEq, Nat.reduceAdd, Nat.reduceSub, Int.reduceToNat])); (focus rfl); (focus (simp (disch := (first | omega | (simp only [push_cast]; first | done | omega))) only [push_cast, ↓reduceIte, Nat.reduceEqDiff, Nat.reduceBEq, Nat.reduceAdd, Nat.reduceSub, Int.reduceToNat, *] <;> with_reducible exact rfl)); (focus (simp (disch := (first | omega | (simp only [push_cast]; first | done | omega))) only [push_cast, ↓reduceIte, Nat.reduceEqDiff, Nat.reduceBEq, Nat.reduceAdd, Nat.reduceSub, Int.reduceToNat, *] <;> with_reducible exact rfl)); (focus (simp (disch := (first | omega | (simp only [push_cast]; first | done | omega))) only [push_cast, ↓reduceIte, Nat.reduceEqDiff, Nat.reduceBEq, Nat.reduceAdd, Nat.reduceSub, Int.reduceToNat, *] <;> with_reducible exact rfl)); (focus assumption); (focus omega); (focus (first | trivial | omega)); (focus (first | rfl | (simp only [push_cast, ↓reduceIte]))); intro v pp hv hok hpp1 hpp2))
  rename_i h0
  refine i_loop (α := LS × Int × Int × Nat × Nat) mixed (fun s => [(0, .own 0 2 0 0), (1, iv n), (5, .row s.2.2.2.1 1 0 s.1.length), (6, iv s.2.1)])
    (fun s => [(0, rdC 81 code s.2.2.1), (s.2.2.2.1, 9, 1, s.1.map fun s => PV.val (.string s))]) (fun s => s.2.2.2.2)
    (fun s => okRd code s.2.2.1 ∧ (∀ x ∈ s.1, x.size ≤ 21) ∧ p ≤ s.2.2.1 ∧ s.2.2.1 + 15 * s.2.1 ≤ p + 110 ∧ s.1.length + s.2.1 ≤ 8 ∧ 0 ≤ s.2.1 ∧ 0 < s.2.2.2.1 ∧ s.2.2.2.1 < s.2.2.2.2) (fun s => s.2.1.toNat) (by kernel_rfl) ([], v, pp, 1, 2) ⟨hok, by simp, ?_⟩ ?_ ?_ rfl ?_
  · dsimp only [List.length_nil]; omega
  · exact agr
  · exact agr
  rintro ⟨l, k, q, x, y⟩ ⟨okq, hl, i1, i2, i3, i4, i5, i6⟩
  dsimp only at okq hl i1 i2 i3 i4 i5 i6
  clear hok h0
  repeat' (first | (first | (with_reducible first | apply i_seq | apply i_block | apply i_skip | apply i_exit | apply i_ret | apply i_kS | apply i_kSx | apply i_kSr | apply i_kL | apply i_kLx | apply i_kLr | apply i_kB | apply i_kBr | apply i_kBs | apply i_nil) | ((with_reducible apply i_region); (simp only [List.map_cons, List.map_nil] <;> exact rfl)) | ((with_reducible apply i_draw); (simp only [List.map_cons, List.map_nil] <;> exact rfl); decide +kernel) | ((with_reducible apply i_kBo); rfl) | ((first | ((with_reducible apply i_V); rfl; rfl; rfl) | ((first | ((with_reducible apply i_E); rfl) | ((with_reducible apply i_S); rfl)); first | rfl | (simp only [push_cast, ↓reduceIte])) | ((with_reducible apply i_Vq); rfl; rfl) | ((with_reducible apply i_Vp); rfl; rfl; rfl) | (with_reducible first | apply i_Gb | apply i_cond)); (simp (disch := (first | omega | (simp only [push_cast]; first | done | omega))) only [push_cast, ↓reduceIte, Nat.reduceEqDiff, Nat.reduceBEq, Nat.reduceAdd, Nat.reduceSub, Int.reduceToNat, *] <;> with_reducible exact rfl); all_goals try (first | (with_reducible first | refine hyT ?_ | refine hyF ?_ | exact hyA | exact hyB) | (intro hX; first | (cases hX; done) | ((try simp only [decide_eq_true_eq, decide_eq_false_iff_not, Bool.not_eq_true', Bool.not_eq_false'] at hX); (try have hXb := inB_iff.1 hX)))))) | ((with_reducible apply i_drw2 pick_drw (fun _ _ => rfl)); rfl; (simp (disch := (first | omega | (simp only [push_cast]; first | done | omega))) only [push_cast, ↓reduceIte, Nat.reduceEqDiff, Nat.reduceBEq, Nat.reduceAdd, Nat.reduceSub, Int.reduceToNat, *] <;> with_reducible exact rfl); (simp (disch := (first | omega | (simp only [push_cast]; first | done | omega))) only [push_cast, ↓reduceIte, Nat.reduceEqDiff, Nat.reduceBEq, Nat.reduceAdd, Nat.reduceSub, Int.reduceToNat, *] <;> with_reducible exact rfl); (simp (disch := (first | omega | (simp only [push_cast]; first | done | omega))) only [push_cast, ↓reduceIte, Nat.reduceEqDiff, Nat.reduceBEq, Nat.reduceAdd, Nat.reduceSub, Int.reduceToNat, *] <;> with_reducible exact rfl); assumption; omega; (focus (first | trivial | omega)); (focus (first | rfl | (simp only [push_cast, ↓reduceIte]))); intro v pp hv hok hpp1 hpp2) | ((with_reducible apply i_drw2 odd_drw (fun _ _ => rfl)); rfl; (simp (disch := (first | omega | (simp only [push_cast]; first | done | omega))) only [push_cast, ↓reduceIte, Nat.reduceEqDiff, Nat.reduceBEq, Nat.reduceAdd, Nat.reduceSub, Int.reduceToNat, *] <;> with_reducible exact rfl); (simp (disch := (first | omega | (simp only [push_cast]; first | done | omega))) only [push_cast, ↓reduceIte, Nat.reduceEqDiff, Nat.reduceBEq, Nat.reduceAdd, Nat.reduceSub, Int.reduceToNat, *] <;> with_reducible exact rfl); (simp (disch := (first | omega | (simp only [push_cast]; first | done | omega))) only [push_cast, ↓reduceIte, Nat.reduceEqDiff, Nat.reduceBEq, Nat.reduceAdd, Nat.reduceSub, Int.reduceToNat, *] <;> with_reducible exact rfl); assumption; omega; (focus (first | trivial | omega)); (focus (first | rfl | (simp only [push_cast, ↓reduceIte]))); intro v pp hv hok hpp1 hpp2) | ((with_reducible apply i_drw2 text_drw (fun _ _ => by simp only [push_cast, ↓reduceIte, Nat.reduceEqDiff, Nat.reduceBEq, Nat.reduceAdd, Nat.reduceSub, Int.reduceToNat])); (focus rfl); (focus (simp (disch := (first | omega | (simp only [push_cast]; first | done | omega))) only [push_cast, ↓reduceIte, Nat.reduceEqDiff, Nat.reduceBEq, Nat.reduceAdd, Nat.reduceSub, Int.reduceToNat, *] <;> with_reducible exact rfl)); (focus (simp (disch := (first | omega | (simp only [push_cast]; first | done | omega))) only [push_cast, ↓reduceIte, Nat.reduceEqDiff, Nat.reduceBEq, Nat.reduceAdd, Nat.reduceSub, Int.reduceToNat, *] <;> with_reducible exact rfl)); (focus (simp (disch := (first | omega | (simp only [push_cast]; first | done | omega))) only [push_cast, ↓reduceIte, Nat.reduceEqDiff, Nat.reduceBEq, Nat.reduceAdd, Nat.reduceSub, Int.reduceToNat, *] <;> with_reducible exact rfl)); (focus assumption); (focus omega); (focus (first | trivial | omega)); (focus (first | rfl | (simp only [push_cast, ↓reduceIte]))); intro v pp hv hok hpp1 hpp2))
  all_goals try ((with_reducible apply i_fin1 (by first | exact .inl rfl | exact .inr rfl)); (focus (simp (disch := (first | omega | (simp only [push_cast]; first | done | omega))) only [push_cast, ↓reduceIte, Nat.reduceEqDiff, Nat.reduceBEq, Nat.reduceAdd, Nat.reduceSub, Int.reduceToNat, rep_iv, rep_sv, rep_w, rep_i3, rep_i4, *] <;> with_reducible exact rfl)); (focus (simp (disch := (first | omega | (simp only [push_cast]; first | done | omega))) only [push_cast, ↓reduceIte, Nat.reduceEqDiff, Nat.reduceBEq, Nat.reduceAdd, Nat.reduceSub, Int.reduceToNat, rep_iv, rep_sv, rep_w, rep_i3, rep_i4, *] <;> with_reducible exact rfl)))
  all_goals try (first | omega | assumption | exact ⟨by omega, by assumption⟩ | exact okT_app (m := 12) (by omega) (by omega) (by assumption) (by assumption))
  · refine ⟨(l ++ [v], k - 1, pp, y + 1, y + 2), ⟨hok, (okT_app (m := 8) (n := 9) (by omega) (by omega) hl (by assumption)).2, ?_⟩, ?_, ?_, ?_, rfl⟩
    · simp only [List.length_append, List.length_cons, List.length_nil]; omega
    · dsimp only; omega
    all_goals exact agr
  refine i_loop (α := LS × Nat × Nat) mixed (fun s => [(0, .own 0 2 0 0), (5, .row s.2.1 1 0 s.1.length)])
    (fun s => [(0, rdC 81 code pp), (s.2.1, 9, 1, s.1.map fun s => PV.val (.string s))]) (fun s => s.2.2)
    (fun s => (∀ x ∈ s.1, x.size ≤ 21) ∧ s.1.length ≤ 13 ∧ 0 < s.2.1 ∧ s.2.1 < s.2.2) (fun s => 13 - s.1.length) (by kernel_rfl) (l, x, y) ⟨hl, ?_⟩ ?_ ?_ rfl ?_
  · dsimp only; omega
  · exact agr
  · exact agr
  rintro ⟨l2, x2, y2⟩ ⟨hl2, j1, j2, j3⟩
  dsimp only at hl2 j1 j2 j3
  clear hl
  repeat' (first | (first | (with_reducible first | apply i_seq | apply i_block | apply i_skip | apply i_exit | apply i_ret | apply i_kS | apply i_kSx | apply i_kSr | apply i_kL | apply i_kLx | apply i_kLr | apply i_kB | apply i_kBr | apply i_kBs | apply i_nil) | ((with_reducible apply i_region); (simp only [List.map_cons, List.map_nil] <;> exact rfl)) | ((with_reducible apply i_draw); (simp only [List.map_cons, List.map_nil] <;> exact rfl); decide +kernel) | ((with_reducible apply i_kBo); rfl) | ((first | ((with_reducible apply i_V); rfl; rfl; rfl) | ((first | ((with_reducible apply i_E); rfl) | ((with_reducible apply i_S); rfl)); first | rfl | (simp only [push_cast, ↓reduceIte])) | ((with_reducible apply i_Vq); rfl; rfl) | ((with_reducible apply i_Vp); rfl; rfl; rfl) | (with_reducible first | apply i_Gb | apply i_cond)); (simp (disch := (first | omega | (simp only [push_cast]; first | done | omega))) only [push_cast, ↓reduceIte, Nat.reduceEqDiff, Nat.reduceBEq, Nat.reduceAdd, Nat.reduceSub, Int.reduceToNat, *] <;> with_reducible exact rfl); all_goals try (first | (with_reducible first | refine hyT ?_ | refine hyF ?_ | exact hyA | exact hyB) | (intro hX; first | (cases hX; done) | ((try simp only [decide_eq_true_eq, decide_eq_false_iff_not, Bool.not_eq_true', Bool.not_eq_false'] at hX); (try have hXb := inB_iff.1 hX)))))) | ((with_reducible apply i_drw2 pick_drw (fun _ _ => rfl)); rfl; (simp (disch := (first | omega | (simp only [push_cast]; first | done | omega))) only [push_cast, ↓reduceIte, Nat.reduceEqDiff, Nat.reduceBEq, Nat.reduceAdd, Nat.reduceSub, Int.reduceToNat, *] <;> with_reducible exact rfl); (simp (disch := (first | omega | (simp only [push_cast]; first | done | omega))) only [push_cast, ↓reduceIte, Nat.reduceEqDiff, Nat.reduceBEq, Nat.reduceAdd, Nat.reduceSub, Int.reduceToNat, *] <;> with_reducible exact rfl); (simp (disch := (first | omega | (simp only [push_cast]; first | done | omega))) only [push_cast, ↓reduceIte, Nat.reduceEqDiff, Nat.reduceBEq, Nat.reduceAdd, Nat.reduceSub, Int.reduceToNat, *] <;> with_reducible exact rfl); assumption; omega; (focus (first | trivial | omega)); (focus (first | rfl | (simp only [push_cast, ↓reduceIte]))); intro v pp hv hok hpp1 hpp2))
  all_goals try ((with_reducible apply i_fin1 (by first | exact .inl rfl | exact .inr rfl)); (focus (simp (disch := (first | omega | (simp only [push_cast]; first | done | omega))) only [push_cast, ↓reduceIte, Nat.reduceEqDiff, Nat.reduceBEq, Nat.reduceAdd, Nat.reduceSub, Int.reduceToNat, rep_iv, rep_sv, rep_w, rep_i3, rep_i4, *] <;> with_reducible exact rfl)); (focus (simp (disch := (first | omega | (simp only [push_cast]; first | done | omega))) only [push_cast, ↓reduceIte, Nat.reduceEqDiff, Nat.reduceBEq, Nat.reduceAdd, Nat.reduceSub, Int.reduceToNat, rep_iv, rep_sv, rep_w, rep_i3, rep_i4, *] <;> with_reducible exact rfl)))
  all_goals try (first | omega | assumption | exact ⟨by omega, by assumption⟩)
  refine ⟨(l2 ++ [⟨#[111, 102]⟩], y2 + 1, y2 + 2), ⟨(okT_app (m := 12) (n := 13) (by omega) (by omega) hl2 (by decide)).2, ?_⟩, ?_, ?_, ?_, rfl⟩
  · simp only [List.length_append, List.length_cons, List.length_nil]; omega
  · simp only [List.length_append, List.length_cons, List.length_nil]; omega
  all_goals exact agr
noncomputable def Φwords : FunIO := Classical.choose words_ex
theorem words_io : SoundIO Try.prog 43 Φwords := (Classical.choose_spec words_ex).1
theorem words_drw : Drw2 81 Φwords 600000000 200 ESs (fun n => 0 ≤ n ∧ n ≤ 1000) (fun _ l => okT 13 l) := (Classical.choose_spec words_ex).2
set_option maxHeartbeats 8000000 in
theorem pattern_ex : ∃ Φ : FunIO, SoundIO Try.prog 79 Φ ∧ Drw2 81 Φ 700000000 15 EStr (fun n => 0 ≤ n ∧ n ≤ 1000) (fun _ s => s.size ≤ 21) := by
  refine drw2_of mixed GRd_ok Try.func79 rfl 18 rfl [.tmp 4] rfl (by kernel_rfl) (by simp) _ _ _ _ _ _ fun code p n hok hp hn => ?_
  have hp0 := hok.pos
  repeat' (first | (first | (with_reducible first | apply i_seq | apply i_block | apply i_skip | apply i_exit | apply i_ret | apply i_kS | apply i_kSx | apply i_kSr | apply i_kL | apply i_kLx | apply i_kLr | apply i_kB | apply i_kBr | apply i_kBs | apply i_nil) | ((with_reducible apply i_region); (simp only [List.map_cons, List.map_nil] <;> exact rfl)) | ((with_reducible apply i_draw); (simp only [List.map_cons, List.map_nil] <;> exact rfl); decide +kernel) | ((with_reducible apply i_kBo); rfl) | ((first | ((with_reducible apply i_V); rfl; rfl; rfl) | ((first | ((with_reducible apply i_E); rfl) | ((with_reducible apply i_S); rfl)); first | rfl | (simp only [push_cast, ↓reduceIte])) | ((with_reducible apply i_Vq); rfl; rfl) | ((with_reducible apply i_Vp); rfl; rfl; rfl) | (with_reducible first | apply i_Gb | apply i_cond)); (simp (disch := (first | omega | (simp only [push_cast]; first | done | omega))) only [push_cast, ↓reduceIte, Nat.reduceEqDiff, Nat.reduceBEq, Nat.reduceAdd, Nat.reduceSub, Int.reduceToNat, *] <;> with_reducible exact rfl); all_goals try (first | (with_reducible first | refine hyT ?_ | refine hyF ?_ | exact hyA | exact hyB) | (intro hX; first | (cases hX; done) | ((try simp only [decide_eq_true_eq, decide_eq_false_iff_not, Bool.not_eq_true', Bool.not_eq_false'] at hX); (try have hXb := inB_iff.1 hX)))))) | ((with_reducible apply i_drw2 pick_drw (fun _ _ => rfl)); rfl; (simp (disch := (first | omega | (simp only [push_cast]; first | done | omega))) only [push_cast, ↓reduceIte, Nat.reduceEqDiff, Nat.reduceBEq, Nat.reduceAdd, Nat.reduceSub, Int.reduceToNat, *] <;> with_reducible exact rfl); (simp (disch := (first | omega | (simp only [push_cast]; first | done | omega))) only [push_cast, ↓reduceIte, Nat.reduceEqDiff, Nat.reduceBEq, Nat.reduceAdd, Nat.reduceSub, Int.reduceToNat, *] <;> with_reducible exact rfl); (simp (disch := (first | omega | (simp only [push_cast]; first | done | omega))) only [push_cast, ↓reduceIte, Nat.reduceEqDiff, Nat.reduceBEq, Nat.reduceAdd, Nat.reduceSub, Int.reduceToNat, *] <;> with_reducible exact rfl); assumption; omega; (focus (first | trivial | omega)); (focus (first | rfl | (simp only [push_cast, ↓reduceIte]))); intro v pp hv hok hpp1 hpp2) | ((with_reducible apply i_drw2 odd_drw (fun _ _ => rfl)); rfl; (simp (disch := (first | omega | (simp only [push_cast]; first | done | omega))) only [push_cast, ↓reduceIte, Nat.reduceEqDiff, Nat.reduceBEq, Nat.reduceAdd, Nat.reduceSub, Int.reduceToNat, *] <;> with_reducible exact rfl); (simp (disch := (first | omega | (simp only [push_cast]; first | done | omega))) only [push_cast, ↓reduceIte, Nat.reduceEqDiff, Nat.reduceBEq, Nat.reduceAdd, Nat.reduceSub, Int.reduceToNat, *] <;> with_reducible exact rfl); (simp (disch := (first | omega | (simp only [push_cast]; first | done | omega))) only [push_cast, ↓reduceIte, Nat.reduceEqDiff, Nat.reduceBEq, Nat.reduceAdd, Nat.reduceSub, Int.reduceToNat, *] <;> with_reducible exact rfl); assumption; omega; (focus (first | trivial | omega)); (focus (first | rfl | (simp only [push_cast, ↓reduceIte]))); intro v pp hv hok hpp1 hpp2))
  all_goals try ((with_reducible apply i_fin1 (by first | exact .inl rfl | exact .inr rfl)); (focus (simp (disch := (first | omega | (simp only [push_cast]; first | done | omega))) only [push_cast, ↓reduceIte, Nat.reduceEqDiff, Nat.reduceBEq, Nat.reduceAdd, Nat.reduceSub, Int.reduceToNat, rep_iv, rep_sv, rep_w, rep_i3, rep_i4, *] <;> with_reducible exact rfl)); (focus (simp (disch := (first | omega | (simp only [push_cast]; first | done | omega))) only [push_cast, ↓reduceIte, Nat.reduceEqDiff, Nat.reduceBEq, Nat.reduceAdd, Nat.reduceSub, Int.reduceToNat, rep_iv, rep_sv, rep_w, rep_i3, rep_i4, *] <;> with_reducible exact rfl)))
  all_goals try (first | omega | assumption | exact sel_all (p := fun a : ByteArray => a.size ≤ 21) (by decide) (by simp only [List.length_cons, List.length_nil]; omega))
noncomputable def Φpattern : FunIO := Classical.choose pattern_ex
theorem pattern_io : SoundIO Try.prog 79 Φpattern := (Classical.choose_spec pattern_ex).1
theorem pattern_drw : Drw2 81 Φpattern 700000000 15 EStr (fun n => 0 ≤ n ∧ n ≤ 1000) (fun _ s => s.size ≤ 21) := (Classical.choose_spec pattern_ex).2
abbrev EStrs (o : Nat) (l : LS) : PV := .row o 1 0 l.length
abbrev OStrs (l : LS) : CellIO := (9, 1, l.map fun s => .val (.string s))
attribute [push_cast]
  EStrs List.length_append
theorem patterns_hE : ∀ (o nx : Nat) (a : LS), renF (outF [o] nx) fuel (EStrs 1 a) = some (EStrs nx a) := fun o nx a => by
  simp only [renS_fuel, renS_row, outF_1n, Option.map_some]
theorem patterns_hO : ∀ (nm : Nat → Option Nat) (a : LS), (OStrs a).2.2.mapM (renF nm fuel) = some (OStrs a).2.2 := fun nm a => by
  show (a.map fun s => PV.val (.string s)).mapM (renF nm 8) = _
  rw [renM_vals]
noncomputable def GRp : Ctx := { fn := fun f => none, io := fun f => if f = 54 then some Φpick else if f = 55 then some Φodd else if f = 79 then some Φpattern else none }
theorem GRp_ok : SoundΓ Try.prog GRp := ⟨(fun f φ h => by
  unfold GRp at h
  dsimp only at h
  cases h), (fun f φ h => by
  unfold GRp at h
  dsimp only at h
  split at h
  · rename_i hf; cases h; subst hf; exact ⟨⟨_, Try.func54, rfl, rfl⟩, pick_io⟩
  split at h
  · rename_i hf; cases h; subst hf; exact ⟨⟨_, Try.func55, rfl, rfl⟩, odd_io⟩
  split at h
  · rename_i hf; cases h; subst hf; exact ⟨⟨_, Try.func79, rfl, rfl⟩, pattern_io⟩
  cases h), rfl⟩
set_option maxHeartbeats 8000000 in
theorem patterns_ex : ∃ Φ : FunIO, SoundIO Try.prog 44 Φ ∧ Drw2N 81 Φ 600000000 200 EStrs OStrs (fun n => 0 ≤ n ∧ n ≤ 1000) (fun _ l => okT 21 l) := by
  refine drw2N_of mixed GRp_ok Try.func44 rfl 37 rfl [.tmp 4] rfl (by kernel_rfl) (by simp) _ _ _ _ _ _ _ fun code p n hok hp hn => ?_
  have hp0 := hok.pos
  repeat' (first | (first | (with_reducible first | apply i_seq | apply i_block | apply i_skip | apply i_exit | apply i_ret | apply i_kS | apply i_kSx | apply i_kSr | apply i_kL | apply i_kLx | apply i_kLr | apply i_kB | apply i_kBr | apply i_kBs | apply i_nil) | ((with_reducible apply i_region); (simp only [List.map_cons, List.map_nil] <;> exact rfl)) | ((with_reducible apply i_draw); (simp only [List.map_cons, List.map_nil] <;> exact rfl); decide +kernel) | ((with_reducible apply i_kBo); rfl) | ((first | ((with_reducible apply i_V); rfl; rfl; rfl) | ((first | ((with_reducible apply i_E); rfl) | ((with_reducible apply i_S); rfl)); first | rfl | (simp only [push_cast, ↓reduceIte])) | ((with_reducible apply i_Vq); rfl; rfl) | ((with_reducible apply i_Vp); rfl; rfl; rfl) | (with_reducible first | apply i_Gb | apply i_cond)); (simp (disch := (first | omega | (simp only [push_cast]; first | done | omega))) only [push_cast, ↓reduceIte, Nat.reduceEqDiff, Nat.reduceBEq, Nat.reduceAdd, Nat.reduceSub, Int.reduceToNat, *] <;> with_reducible exact rfl); all_goals try (first | (with_reducible first | refine hyT ?_ | refine hyF ?_ | exact hyA | exact hyB) | (intro hX; first | (cases hX; done) | ((try simp only [decide_eq_true_eq, decide_eq_false_iff_not, Bool.not_eq_true', Bool.not_eq_false'] at hX); (try have hXb := inB_iff.1 hX)))))) | ((with_reducible apply i_drw2 pick_drw (fun _ _ => rfl)); rfl; (simp (disch := (first | omega | (simp only [push_cast]; first | done | omega))) only [push_cast, ↓reduceIte, Nat.reduceEqDiff, Nat.reduceBEq, Nat.reduceAdd, Nat.reduceSub, Int.reduceToNat, *] <;> with_reducible exact rfl); (simp (disch := (first | omega | (simp only [push_cast]; first | done | omega))) only [push_cast, ↓reduceIte, Nat.reduceEqDiff, Nat.reduceBEq, Nat.reduceAdd, Nat.reduceSub, Int.reduceToNat, *] <;> with_reducible exact rfl); (simp (disch := (first | omega | (simp only [push_cast]; first | done | omega))) only [push_cast, ↓reduceIte, Nat.reduceEqDiff, Nat.reduceBEq, Nat.reduceAdd, Nat.reduceSub, Int.reduceToNat, *] <;> with_reducible exact rfl); assumption; omega; (focus (first | trivial | omega)); (focus (first | rfl | (simp only [push_cast, ↓reduceIte]))); intro v pp hv hok hpp1 hpp2) | ((with_reducible apply i_drw2 odd_drw (fun _ _ => rfl)); rfl; (simp (disch := (first | omega | (simp only [push_cast]; first | done | omega))) only [push_cast, ↓reduceIte, Nat.reduceEqDiff, Nat.reduceBEq, Nat.reduceAdd, Nat.reduceSub, Int.reduceToNat, *] <;> with_reducible exact rfl); (simp (disch := (first | omega | (simp only [push_cast]; first | done | omega))) only [push_cast, ↓reduceIte, Nat.reduceEqDiff, Nat.reduceBEq, Nat.reduceAdd, Nat.reduceSub, Int.reduceToNat, *] <;> with_reducible exact rfl); (simp (disch := (first | omega | (simp only [push_cast]; first | done | omega))) only [push_cast, ↓reduceIte, Nat.reduceEqDiff, Nat.reduceBEq, Nat.reduceAdd, Nat.reduceSub, Int.reduceToNat, *] <;> with_reducible exact rfl); assumption; omega; (focus (first | trivial | omega)); (focus (first | rfl | (simp only [push_cast, ↓reduceIte]))); intro v pp hv hok hpp1 hpp2) | ((with_reducible apply i_drw2 pattern_drw (fun _ _ => by simp only [push_cast, ↓reduceIte, Nat.reduceEqDiff, Nat.reduceBEq, Nat.reduceAdd, Nat.reduceSub, Int.reduceToNat])); (focus rfl); (focus (simp (disch := (first | omega | (simp only [push_cast]; first | done | omega))) only [push_cast, ↓reduceIte, Nat.reduceEqDiff, Nat.reduceBEq, Nat.reduceAdd, Nat.reduceSub, Int.reduceToNat, *] <;> with_reducible exact rfl)); (focus (simp (disch := (first | omega | (simp only [push_cast]; first | done | omega))) only [push_cast, ↓reduceIte, Nat.reduceEqDiff, Nat.reduceBEq, Nat.reduceAdd, Nat.reduceSub, Int.reduceToNat, *] <;> with_reducible exact rfl)); (focus (simp (disch := (first | omega | (simp only [push_cast]; first | done | omega))) only [push_cast, ↓reduceIte, Nat.reduceEqDiff, Nat.reduceBEq, Nat.reduceAdd, Nat.reduceSub, Int.reduceToNat, *] <;> with_reducible exact rfl)); (focus assumption); (focus omega); (focus (first | trivial | omega)); (focus (first | rfl | (simp only [push_cast, ↓reduceIte]))); intro v pp hv hok hpp1 hpp2))
  rename_i h0
  refine i_loop (α := LS × Int × Int × Nat × Nat) mixed (fun s => [(0, .own 0 2 0 0), (1, iv n), (5, .row s.2.2.2.1 1 0 s.1.length), (6, iv s.2.1)])
    (fun s => [(0, rdC 81 code s.2.2.1), (s.2.2.2.1, 9, 1, s.1.map fun s => PV.val (.string s))]) (fun s => s.2.2.2.2)
    (fun s => okRd code s.2.2.1 ∧ (∀ x ∈ s.1, x.size ≤ 21) ∧ p ≤ s.2.2.1 ∧ s.2.2.1 + 15 * s.2.1 ≤ p + 110 ∧ s.1.length + s.2.1 ≤ 8 ∧ 0 ≤ s.2.1 ∧ 0 < s.2.2.2.1 ∧ s.2.2.2.1 < s.2.2.2.2) (fun s => s.2.1.toNat) (by kernel_rfl) ([], v, pp, 1, 2) ⟨hok, by simp, ?_⟩ ?_ ?_ rfl ?_
  · dsimp only [List.length_nil]; omega
  · exact agr
  · exact agr
  rintro ⟨l, k, q, x, y⟩ ⟨okq, hl, i1, i2, i3, i4, i5, i6⟩
  dsimp only at okq hl i1 i2 i3 i4 i5 i6
  clear hok h0
  repeat' (first | (first | (with_reducible first | apply i_seq | apply i_block | apply i_skip | apply i_exit | apply i_ret | apply i_kS | apply i_kSx | apply i_kSr | apply i_kL | apply i_kLx | apply i_kLr | apply i_kB | apply i_kBr | apply i_kBs | apply i_nil) | ((with_reducible apply i_region); (simp only [List.map_cons, List.map_nil] <;> exact rfl)) | ((with_reducible apply i_draw); (simp only [List.map_cons, List.map_nil] <;> exact rfl); decide +kernel) | ((with_reducible apply i_kBo); rfl) | ((first | ((with_reducible apply i_V); rfl; rfl; rfl) | ((first | ((with_reducible apply i_E); rfl) | ((with_reducible apply i_S); rfl)); first | rfl | (simp only [push_cast, ↓reduceIte])) | ((with_reducible apply i_Vq); rfl; rfl) | ((with_reducible apply i_Vp); rfl; rfl; rfl) | (with_reducible first | apply i_Gb | apply i_cond)); (simp (disch := (first | omega | (simp only [push_cast]; first | done | omega))) only [push_cast, ↓reduceIte, Nat.reduceEqDiff, Nat.reduceBEq, Nat.reduceAdd, Nat.reduceSub, Int.reduceToNat, *] <;> with_reducible exact rfl); all_goals try (first | (with_reducible first | refine hyT ?_ | refine hyF ?_ | exact hyA | exact hyB) | (intro hX; first | (cases hX; done) | ((try simp only [decide_eq_true_eq, decide_eq_false_iff_not, Bool.not_eq_true', Bool.not_eq_false'] at hX); (try have hXb := inB_iff.1 hX)))))) | ((with_reducible apply i_drw2 pick_drw (fun _ _ => rfl)); rfl; (simp (disch := (first | omega | (simp only [push_cast]; first | done | omega))) only [push_cast, ↓reduceIte, Nat.reduceEqDiff, Nat.reduceBEq, Nat.reduceAdd, Nat.reduceSub, Int.reduceToNat, *] <;> with_reducible exact rfl); (simp (disch := (first | omega | (simp only [push_cast]; first | done | omega))) only [push_cast, ↓reduceIte, Nat.reduceEqDiff, Nat.reduceBEq, Nat.reduceAdd, Nat.reduceSub, Int.reduceToNat, *] <;> with_reducible exact rfl); (simp (disch := (first | omega | (simp only [push_cast]; first | done | omega))) only [push_cast, ↓reduceIte, Nat.reduceEqDiff, Nat.reduceBEq, Nat.reduceAdd, Nat.reduceSub, Int.reduceToNat, *] <;> with_reducible exact rfl); assumption; omega; (focus (first | trivial | omega)); (focus (first | rfl | (simp only [push_cast, ↓reduceIte]))); intro v pp hv hok hpp1 hpp2) | ((with_reducible apply i_drw2 odd_drw (fun _ _ => rfl)); rfl; (simp (disch := (first | omega | (simp only [push_cast]; first | done | omega))) only [push_cast, ↓reduceIte, Nat.reduceEqDiff, Nat.reduceBEq, Nat.reduceAdd, Nat.reduceSub, Int.reduceToNat, *] <;> with_reducible exact rfl); (simp (disch := (first | omega | (simp only [push_cast]; first | done | omega))) only [push_cast, ↓reduceIte, Nat.reduceEqDiff, Nat.reduceBEq, Nat.reduceAdd, Nat.reduceSub, Int.reduceToNat, *] <;> with_reducible exact rfl); (simp (disch := (first | omega | (simp only [push_cast]; first | done | omega))) only [push_cast, ↓reduceIte, Nat.reduceEqDiff, Nat.reduceBEq, Nat.reduceAdd, Nat.reduceSub, Int.reduceToNat, *] <;> with_reducible exact rfl); assumption; omega; (focus (first | trivial | omega)); (focus (first | rfl | (simp only [push_cast, ↓reduceIte]))); intro v pp hv hok hpp1 hpp2) | ((with_reducible apply i_drw2 pattern_drw (fun _ _ => by simp only [push_cast, ↓reduceIte, Nat.reduceEqDiff, Nat.reduceBEq, Nat.reduceAdd, Nat.reduceSub, Int.reduceToNat])); (focus rfl); (focus (simp (disch := (first | omega | (simp only [push_cast]; first | done | omega))) only [push_cast, ↓reduceIte, Nat.reduceEqDiff, Nat.reduceBEq, Nat.reduceAdd, Nat.reduceSub, Int.reduceToNat, *] <;> with_reducible exact rfl)); (focus (simp (disch := (first | omega | (simp only [push_cast]; first | done | omega))) only [push_cast, ↓reduceIte, Nat.reduceEqDiff, Nat.reduceBEq, Nat.reduceAdd, Nat.reduceSub, Int.reduceToNat, *] <;> with_reducible exact rfl)); (focus (simp (disch := (first | omega | (simp only [push_cast]; first | done | omega))) only [push_cast, ↓reduceIte, Nat.reduceEqDiff, Nat.reduceBEq, Nat.reduceAdd, Nat.reduceSub, Int.reduceToNat, *] <;> with_reducible exact rfl)); (focus assumption); (focus omega); (focus (first | trivial | omega)); (focus (first | rfl | (simp only [push_cast, ↓reduceIte]))); intro v pp hv hok hpp1 hpp2))
  all_goals try (first | ((with_reducible apply i_fin1N (E := EStrs) (O := OStrs) (x) (by omega) (by first | exact .inl rfl | exact .inr rfl)); (focus (simp (disch := (first | omega | (simp only [push_cast]; first | done | omega))) only [push_cast, ↓reduceIte, Nat.reduceEqDiff, Nat.reduceBEq, Nat.reduceAdd, Nat.reduceSub, Int.reduceToNat, rep_iv, rep_sv, rep_w, rep_i3, rep_i4, *] <;> with_reducible exact rfl)); (focus (simp (disch := (first | omega | (simp only [push_cast]; first | done | omega))) only [push_cast, ↓reduceIte, Nat.reduceEqDiff, Nat.reduceBEq, Nat.reduceAdd, Nat.reduceSub, Int.reduceToNat, rep_iv, rep_sv, rep_w, rep_i3, rep_i4, *] <;> with_reducible exact rfl)); (focus (simp (disch := (first | omega | (simp only [push_cast]; first | done | omega))) only [push_cast, ↓reduceIte, Nat.reduceEqDiff, Nat.reduceBEq, Nat.reduceAdd, Nat.reduceSub, Int.reduceToNat, rep_iv, rep_sv, rep_w, rep_i3, rep_i4, *] <;> with_reducible exact rfl))) | ((with_reducible apply i_fin1N (E := EStrs) (O := OStrs) (y + 1) (by omega) (by first | exact .inl rfl | exact .inr rfl)); (focus (simp (disch := (first | omega | (simp only [push_cast]; first | done | omega))) only [push_cast, ↓reduceIte, Nat.reduceEqDiff, Nat.reduceBEq, Nat.reduceAdd, Nat.reduceSub, Int.reduceToNat, rep_iv, rep_sv, rep_w, rep_i3, rep_i4, *] <;> with_reducible exact rfl)); (focus (simp (disch := (first | omega | (simp only [push_cast]; first | done | omega))) only [push_cast, ↓reduceIte, Nat.reduceEqDiff, Nat.reduceBEq, Nat.reduceAdd, Nat.reduceSub, Int.reduceToNat, rep_iv, rep_sv, rep_w, rep_i3, rep_i4, *] <;> with_reducible exact rfl)); (focus (simp (disch := (first | omega | (simp only [push_cast]; first | done | omega))) only [push_cast, ↓reduceIte, Nat.reduceEqDiff, Nat.reduceBEq, Nat.reduceAdd, Nat.reduceSub, Int.reduceToNat, rep_iv, rep_sv, rep_w, rep_i3, rep_i4, *] <;> with_reducible exact rfl))))
  all_goals try (first | omega | assumption | exact ⟨by omega, by assumption⟩ | exact okT_app (m := 20) (by omega) (by omega) (by assumption) (by assumption))
  · refine ⟨(l ++ [v], k - 1, pp, y + 1, y + 2), ⟨hok, (okT_app (m := 8) (n := 9) (by omega) (by omega) hl (by assumption)).2, ?_⟩, ?_, ?_, ?_, rfl⟩
    · simp only [List.length_append, List.length_cons, List.length_nil]; omega
    · dsimp only; omega
    all_goals exact agr
  refine i_loop (α := LS × Nat × Nat) mixed (fun s => [(0, .own 0 2 0 0), (5, .row s.2.1 1 0 s.1.length)])
    (fun s => [(0, rdC 81 code pp), (s.2.1, 9, 1, s.1.map fun s => PV.val (.string s))]) (fun s => s.2.2)
    (fun s => (∀ x ∈ s.1, x.size ≤ 21) ∧ s.1.length ≤ 21 ∧ 0 < s.2.1 ∧ s.2.1 < s.2.2) (fun s => 21 - s.1.length) (by kernel_rfl) (l, x, y) ⟨hl, ?_⟩ ?_ ?_ rfl ?_
  · dsimp only; omega
  · exact agr
  · exact agr
  rintro ⟨l2, x2, y2⟩ ⟨hl2, j1, j2, j3⟩
  dsimp only at hl2 j1 j2 j3
  clear hl
  repeat' (first | (first | (with_reducible first | apply i_seq | apply i_block | apply i_skip | apply i_exit | apply i_ret | apply i_kS | apply i_kSx | apply i_kSr | apply i_kL | apply i_kLx | apply i_kLr | apply i_kB | apply i_kBr | apply i_kBs | apply i_nil) | ((with_reducible apply i_region); (simp only [List.map_cons, List.map_nil] <;> exact rfl)) | ((with_reducible apply i_draw); (simp only [List.map_cons, List.map_nil] <;> exact rfl); decide +kernel) | ((with_reducible apply i_kBo); rfl) | ((first | ((with_reducible apply i_V); rfl; rfl; rfl) | ((first | ((with_reducible apply i_E); rfl) | ((with_reducible apply i_S); rfl)); first | rfl | (simp only [push_cast, ↓reduceIte])) | ((with_reducible apply i_Vq); rfl; rfl) | ((with_reducible apply i_Vp); rfl; rfl; rfl) | (with_reducible first | apply i_Gb | apply i_cond)); (simp (disch := (first | omega | (simp only [push_cast]; first | done | omega))) only [push_cast, ↓reduceIte, Nat.reduceEqDiff, Nat.reduceBEq, Nat.reduceAdd, Nat.reduceSub, Int.reduceToNat, *] <;> with_reducible exact rfl); all_goals try (first | (with_reducible first | refine hyT ?_ | refine hyF ?_ | exact hyA | exact hyB) | (intro hX; first | (cases hX; done) | ((try simp only [decide_eq_true_eq, decide_eq_false_iff_not, Bool.not_eq_true', Bool.not_eq_false'] at hX); (try have hXb := inB_iff.1 hX)))))) | ((with_reducible apply i_drw2 pick_drw (fun _ _ => rfl)); rfl; (simp (disch := (first | omega | (simp only [push_cast]; first | done | omega))) only [push_cast, ↓reduceIte, Nat.reduceEqDiff, Nat.reduceBEq, Nat.reduceAdd, Nat.reduceSub, Int.reduceToNat, *] <;> with_reducible exact rfl); (simp (disch := (first | omega | (simp only [push_cast]; first | done | omega))) only [push_cast, ↓reduceIte, Nat.reduceEqDiff, Nat.reduceBEq, Nat.reduceAdd, Nat.reduceSub, Int.reduceToNat, *] <;> with_reducible exact rfl); (simp (disch := (first | omega | (simp only [push_cast]; first | done | omega))) only [push_cast, ↓reduceIte, Nat.reduceEqDiff, Nat.reduceBEq, Nat.reduceAdd, Nat.reduceSub, Int.reduceToNat, *] <;> with_reducible exact rfl); assumption; omega; (focus (first | trivial | omega)); (focus (first | rfl | (simp only [push_cast, ↓reduceIte]))); intro v pp hv hok hpp1 hpp2))
  all_goals try (first | ((with_reducible apply i_fin1N (E := EStrs) (O := OStrs) (x2) (by omega) (by first | exact .inl rfl | exact .inr rfl)); (focus (simp (disch := (first | omega | (simp only [push_cast]; first | done | omega))) only [push_cast, ↓reduceIte, Nat.reduceEqDiff, Nat.reduceBEq, Nat.reduceAdd, Nat.reduceSub, Int.reduceToNat, rep_iv, rep_sv, rep_w, rep_i3, rep_i4, *] <;> with_reducible exact rfl)); (focus (simp (disch := (first | omega | (simp only [push_cast]; first | done | omega))) only [push_cast, ↓reduceIte, Nat.reduceEqDiff, Nat.reduceBEq, Nat.reduceAdd, Nat.reduceSub, Int.reduceToNat, rep_iv, rep_sv, rep_w, rep_i3, rep_i4, *] <;> with_reducible exact rfl)); (focus (simp (disch := (first | omega | (simp only [push_cast]; first | done | omega))) only [push_cast, ↓reduceIte, Nat.reduceEqDiff, Nat.reduceBEq, Nat.reduceAdd, Nat.reduceSub, Int.reduceToNat, rep_iv, rep_sv, rep_w, rep_i3, rep_i4, *] <;> with_reducible exact rfl))))
  all_goals try (first | omega | assumption | exact ⟨by omega, by assumption⟩)
  refine ⟨(l2 ++ [⟨#[97, 49]⟩], y2 + 1, y2 + 2), ⟨(okT_app (m := 20) (n := 21) (by omega) (by omega) hl2 (by decide)).2, ?_⟩, ?_, ?_, ?_, rfl⟩
  · simp only [List.length_append, List.length_cons, List.length_nil]; omega
  · simp only [List.length_append, List.length_cons, List.length_nil]; omega
  all_goals exact agr
noncomputable def Φpatterns : FunIO := Classical.choose patterns_ex
theorem patterns_io : SoundIO Try.prog 44 Φpatterns := (Classical.choose_spec patterns_ex).1
theorem patterns_drw : Drw2N 81 Φpatterns 600000000 200 EStrs OStrs (fun n => 0 ≤ n ∧ n ≤ 1000) (fun _ l => okT 21 l) := (Classical.choose_spec patterns_ex).2
end Go.Proofs.Ytngcedklbinhjaa
namespace Go.Proofs.Ytngcedklbinhjaa
open Go.RowKit
set_option linter.all false
def refsA : List PV → List Nat
  | [] => []
  | .own o _ _ _ :: l => o :: refsA l
  | .row o _ _ _ :: l => o :: refsA l
  | _ :: l => refsA l
def refsX : PV → List Nat
  | .own o _ _ _ => [o]
  | .row o _ _ _ => [o]
  | .agg cs => refsA cs
  | _ => []
def refsL : List PV → List Nat
  | [] => []
  | p :: ps => refsX p ++ refsL ps
theorem refsA_eq : ∀ cs : List PV, (cs.flatMap fun c => match c with | .own o _ _ _ => [o] | .row o _ _ _ => [o] | _ => []) = refsA cs
  | [] => rfl
  | c :: cs => by
    rw [List.flatMap_cons, refsA_eq cs]
    cases c <;> rfl
theorem refsL_eq : ∀ ps : List PV, ps.flatMap refsOf = refsL ps
  | [] => rfl
  | p :: ps => by
    rw [List.flatMap_cons, refsL_eq ps]
    show _ = refsX p ++ refsL ps
    congr 1
    cases p with
    | agg cs => exact refsA_eq cs
    | _ => rfl
section
variable {Φ : FunIO} {ob : Objs} {nx : Nat}
def ioTwo (Φ : FunIO) (ob : Objs) (nx a b : Nat) (qs : List PV) : Option CellIO → Option CellIO → Option (PV × Objs × Nat)
  | some c, some d => (c.2.2.mapM (renF (inn [a, b]) fuel)).bind fun es => (d.2.2.mapM (renF (inn [a, b]) fuel)).bind fun fs => ioR [a, b] ob nx (Φ qs [(c.1, c.2.1, es), (d.1, d.2.1, fs)])
  | _, _ => none
def ioX (Φ : FunIO) (ob : Objs) (nx : Nat) (ps : List PV) : List Nat → Option (PV × Objs × Nat)
  | [] => (ps.mapM (renF (inn []) fuel)).bind fun qs => ioR [] ob nx (Φ qs [])
  | [o] => (ps.mapM (renF (inn [o]) fuel)).bind fun qs => ioOne Φ ob nx o qs (ob o)
  | [a, b] => (ps.mapM (renF (inn [a, b]) fuel)).bind fun qs => ioTwo Φ ob nx a b qs (ob a) (ob b)
  | _ => ioEv Φ ob nx ps
theorem io_any (ps : List PV) : ioEv Φ ob nx ps = ioX Φ ob nx ps (dedup (refsL ps)) := by
  generalize hos : dedup (refsL ps) = os
  rw [← refsL_eq] at hos
  match os with
  | [] =>
    show _ = (ps.mapM (renF (inn []) fuel)).bind _
    cases h2 : ps.mapM (renF (inn []) fuel) with
    | some qs => rw [ioEv_eq ps [] hos, h2, mapM_nil']; rfl
    | none => rw [ioEv_eq ps [] hos, h2, mapM_nil']; rfl
  | [o] =>
    show _ = (ps.mapM (renF (inn [o]) fuel)).bind _
    cases h2 : ps.mapM (renF (inn [o]) fuel) with
    | some qs => rw [ioOne_of hos h2]; rfl
    | none =>
      rw [ioEv_eq ps [o] hos, h2]
      cases [o].mapM ob <;> rfl
  | [a, b] =>
    show _ = (ps.mapM (renF (inn [a, b]) fuel)).bind _
    rw [ioEv_eq ps [a, b] hos]
    simp only [mapM_cons', mapM_nil', renC]
    cases ps.mapM (renF (inn [a, b]) fuel) with
    | none => cases ob a <;> cases ob b <;> rfl
    | some qs =>
      simp only [Option.bind_some]
      cases ob a with
      | none => rfl
      | some c =>
        cases ob b with
        | none => rfl
        | some d =>
          obtain ⟨T, sz, es0⟩ := c
          obtain ⟨T2, sz2, fs0⟩ := d
          simp only [Option.bind_some, Option.map_some, ioTwo, mapM_cons', mapM_nil', renC]
          cases es0.mapM (renF (inn [a, b]) fuel) with
          | none => rfl
          | some es =>
            simp only [Option.bind_some, Option.map_some]
            cases fs0.mapM (renF (inn [a, b]) fuel) <;> rfl
  | _ :: _ :: _ :: _ => rfl
theorem ioX_nil {ps : List PV} : ioX Φ ob nx ps [] = (ps.mapM (renF (inn []) fuel)).bind fun qs => ioR [] ob nx (Φ qs []) := rfl
theorem ioX_one {ps : List PV} {o : Nat} : ioX Φ ob nx ps [o] = (ps.mapM (renF (inn [o]) fuel)).bind fun qs => ioOne Φ ob nx o qs (ob o) := rfl
theorem ioX_two {ps : List PV} {a b : Nat} : ioX Φ ob nx ps [a, b] = (ps.mapM (renF (inn [a, b]) fuel)).bind fun qs => ioTwo Φ ob nx a b qs (ob a) (ob b) := rfl
theorem ioTwo_some {a b T T2 sz sz2 : Nat} {es es2 qs : List PV} : ioTwo Φ ob nx a b qs (some (T, sz, es)) (some (T2, sz2, es2)) = (es.mapM (renF (inn [a, b]) fuel)).bind fun es => (es2.mapM (renF (inn [a, b]) fuel)).bind fun fs => ioR [a, b] ob nx (Φ qs [(T, sz, es), (T2, sz2, fs)]) := rfl
theorem dd_ab {a b : Nat} (h : ¬ a = b) : dedup [a, b] = [a, b] := by
  have h' : ¬ b = a := fun e => h e.symm
  simp [dedup, h']
theorem inn_a {a b : Nat} : inn [a, b] a = some 0 := by simp [inn]
theorem inn_b {a b : Nat} (h : ¬ a = b) : inn [a, b] b = some 1 := by
  have h2 : (a == b) = false := by simpa using h
  simp [inn, List.idxOf_cons, h2]
theorem outF_ab0 {a b nx : Nat} : outF [a, b] nx 0 = some a := rfl
theorem outF_ab1 {a b nx : Nat} : outF [a, b] nx 1 = some b := rfl
theorem outF_ab2 {a b nx : Nat} : outF [a, b] nx 2 = some nx := by simp [outF, outn]
theorem outF_a1 {a nx : Nat} : outF [a] nx 1 = some nx := by simp [outF, outn]
theorem ioR_ab2 {a b T T2 sz sz2 : Nat} {es es2 : List PV} {r : PV} : ioR [a, b] ob nx (some (r, [(T, sz, es), (T2, sz2, es2)])) = (renF (outF [a, b] nx) fuel r).bind fun r' => (es.mapM (renF (outF [a, b] nx) fuel)).bind fun es' => (es2.mapM (renF (outF [a, b] nx) fuel)).map fun es2' => (r', upd (upd ob a (some (T, sz, es'))) b (some (T2, sz2, es2')), nx) := by
  unfold ioR
  simp only [mapM_cons', mapM_nil', renC]
  cases renF (outF [a, b] nx) fuel r with
  | none => rfl
  | some r' =>
    cases es.mapM (renF (outF [a, b] nx) fuel) with
    | none => rfl
    | some es' =>
      cases es2.mapM (renF (outF [a, b] nx) fuel) <;> rfl
theorem ioR_ab3 {a b T T2 T3 sz sz2 sz3 : Nat} {es es2 es3 : List PV} {r : PV} : ioR [a, b] ob nx (some (r, [(T, sz, es), (T2, sz2, es2), (T3, sz3, es3)])) = (renF (outF [a, b] nx) fuel r).bind fun r' => (es.mapM (renF (outF [a, b] nx) fuel)).bind fun es' => (es2.mapM (renF (outF [a, b] nx) fuel)).bind fun es2' => (es3.mapM (renF (outF [a, b] nx) fuel)).map fun es3' => (r', upd (upd (upd ob a (some (T, sz, es'))) b (some (T2, sz2, es2'))) nx (some (T3, sz3, es3')), nx + 1) := by
  unfold ioR
  simp only [mapM_cons', mapM_nil', renC]
  cases renF (outF [a, b] nx) fuel r with
  | none => rfl
  | some r' =>
    cases es.mapM (renF (outF [a, b] nx) fuel) with
    | none => rfl
    | some es' =>
      cases es2.mapM (renF (outF [a, b] nx) fuel) with
      | none => rfl
      | some es2' =>
        cases es3.mapM (renF (outF [a, b] nx) fuel) with
        | none => rfl
        | some es3' =>
          simp only [Option.map_some, Option.bind_some, List.length_cons, List.length_nil, Nat.zero_add, Nat.reduceAdd, Nat.reduceSub, Option.some.injEq, Prod.mk.injEq, true_and, and_true]
          show putObs ob [(outn [a, b] nx 0, _), (outn [a, b] nx 1, _), (outn [a, b] nx 2, _)] = _
          simp [putObs, outn]
theorem dd_nil : dedup [] = [] := rfl
theorem dd_one {o : Nat} : dedup [o] = [o] := rfl
theorem dd_two {o : Nat} : dedup [o, o] = [o] := by simp [dedup]
theorem rl_nil : refsL [] = [] := rfl
theorem rl_cons {p : PV} {ps : List PV} : refsL (p :: ps) = refsX p ++ refsL ps := rfl
theorem rx_val {v : Value} : refsX (.val v) = [] := rfl
theorem rx_lst {k : Bool} {sz : Nat} {es : List PV} : refsX (.lst k sz es) = [] := rfl
theorem rx_ptr {k : Bool} {e : PV} {o : Nat} : refsX (.ptr k e o) = [] := rfl
theorem rx_own {o a b c : Nat} : refsX (.own o a b c) = [o] := rfl
theorem rx_row {o a b c : Nat} : refsX (.row o a b c) = [o] := rfl
theorem rx_agg {cs : List PV} : refsX (.agg cs) = refsA cs := rfl
theorem ra_nil : refsA [] = [] := rfl
theorem ra_val {v : Value} {l : List PV} : refsA (.val v :: l) = refsA l := rfl
theorem ra_lst {k : Bool} {sz : Nat} {es l : List PV} : refsA (.lst k sz es :: l) = refsA l := rfl
theorem ra_own {o a b c : Nat} {l : List PV} : refsA (.own o a b c :: l) = o :: refsA l := rfl
theorem ra_row {o a b c : Nat} {l : List PV} : refsA (.row o a b c :: l) = o :: refsA l := rfl
end
attribute [push_cast low]
  io_any
attribute [push_cast]
  ioX_nil ioX_one ioX_two ioTwo_some dd_ab inn_a inn_b outF_ab0 outF_ab1 outF_ab2 outF_a1 ioR_ab2 ioR_ab3 dd_nil dd_one dd_two rl_nil rl_cons rx_val rx_lst rx_ptr rx_own rx_row rx_agg ra_nil ra_val ra_lst ra_own ra_row
end Go.Proofs.Ytngcedklbinhjaa
namespace Go.Proofs.Ytngcedklbinhjaa
open Go.RowKit
set_option linter.all false
theorem lnsK_size {l : List It} {tx : LS} {br : List Int} (h : ∀ k : Nat, (tx[k]?.getD ByteArray.empty).size ≤ 20) (hl : l.length ≤ 60) (hb : okBr l br) : ∀ k, k ≤ br.length → ∀ s ∈ lnsK l tx br k, s.size ≤ 2000
  | 0, _ => by simp [lnsK]
  | k + 1, hk => fun s hs => by
    rw [lnsK] at hs
    rcases List.mem_append.1 hs with hs | hs
    · exact lnsK_size h hl hb k (by omega) s hs
    · rw [List.mem_singleton.1 hs]
      obtain ⟨b1, b2, b3, -⟩ := hb.at_ (k := k) (by omega)
      have := lnT_size (l := l) (tx := tx) (a := frB br k) h ((br[k]?.getD 0).toNat - frB br k)
      unfold lnR
      split
      · rw [ByteArray.size_append, show (⟨#[45]⟩ : ByteArray).size = 1 from rfl]
        omega
      · omega
theorem pglV_ok (ws pats : LS) (wd most : Int) : (pglV ws pats wd most).length ≤ 60 ∧ ∀ s ∈ pglV ws pats wd most, s.size ≤ 2000 := by
  unfold pglV
  split
  · rename_i h
    unfold pglB at h
    rw [Bool.and_eq_true] at h
    obtain ⟨h1, h2⟩ := h
    have hV : piV ws pats = piR ws pats := if_pos h1
    rw [hV] at h2
    obtain ⟨hB, -, -, hm, -⟩ := brkOk_iff.1 h2
    have hb := brk_ok (wd := wd) hB hm.2
    have hl := items_len hB
    rw [lnsK_len]
    exact ⟨by have := hb.1; omega, lnsK_size tx_size hl hb _ (Nat.le_refl _)⟩
  · simp
end Go.Proofs.Ytngcedklbinhjaa
