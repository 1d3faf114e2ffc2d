/- What the proof rests on, part 19: contracts of functions. No condition beyond what each states. -/
import Derived.Test.YtngcedklbinhjaaZHf18
namespace Go.Proofs.Ytngcedklbinhjaa
open Go.RowKit
set_option linter.all false
noncomputable def GWd : Ctx := { fn := fun f => none, io := fun f => if f = 54 then some Φpick else none }
theorem GWd_ok : SoundΓ Try.prog GWd := ⟨(fun f φ h => by
  unfold GWd at h
  dsimp only at h
  cases h), (fun f φ h => by
  unfold GWd at h
  dsimp only at h
  split at h
  · rename_i hf; cases h; subst hf; exact ⟨⟨_, Try.func54, rfl, rfl⟩, pick_io⟩
  cases h), rfl⟩
theorem GWd_54 : GWd.io 54 = some Φpick := by simp [GWd]
set_option maxHeartbeats 8000000 in
theorem width_ex : ∃ Φ : FunIO, SoundIO Try.prog 45 Φ ∧ Drw1 81 Φ 500000000 100 (fun n => iv n) (fun n => -1 ≤ n ∧ n ≤ 1001) := by
  refine drw1_of mixed GWd_ok Try.func45 rfl 16 rfl [.tmp 2] rfl (by kernel_rfl) (by simp) _ _ _ _ _ fun code p hok hp => ?_
  have hp0 := hok.pos
  have gwd_c54 := GWd_54
  have hsel : ∀ i : Nat, (0 : Int) ≤ sel (0 : Int) [0, 0, 0, 0, 0, 1, 2, 3, 4, 5] i ∧ sel (0 : Int) [0, 0, 0, 0, 0, 1, 2, 3, 4, 5] i ≤ 5 := fun i => sel_rng (a := 0) (b := 5) (d := 0) (l := [0, 0, 0, 0, 0, 1, 2, 3, 4, 5]) (by decide) (by decide) (by decide)
  replace hsel := Lib.hid hsel
  repeat' (first | (first | (with_reducible first | apply i_seq | apply i_block | apply i_skip | apply i_exit | apply i_ret | apply i_kS | apply i_kSx | apply i_kSr | apply i_kL | apply i_kLx | apply i_kLr | apply i_kB | apply i_kBr | apply i_kBs | apply i_nil) | ((with_reducible apply i_region); (simp only [List.map_cons, List.map_nil] <;> exact rfl)) | ((with_reducible apply i_draw); (simp only [List.map_cons, List.map_nil] <;> exact rfl); decide +kernel) | ((with_reducible apply i_kBo); rfl) | ((first | ((with_reducible apply i_V); rfl; rfl; rfl) | ((first | ((with_reducible apply i_E); rfl) | ((with_reducible apply i_S); rfl)); first | rfl | (simp only [push_cast, ↓reduceIte])) | ((with_reducible apply i_Vq); rfl; rfl) | ((with_reducible apply i_Vp); rfl; rfl; rfl) | (with_reducible first | apply i_Gb | apply i_cond)); (simp (disch := (first | omega | (simp only [push_cast]; first | done | omega))) only [push_cast, ↓reduceIte, Nat.reduceEqDiff, Nat.reduceBEq, Nat.reduceAdd, Nat.reduceSub, Int.reduceToNat, *] <;> with_reducible exact rfl); all_goals try (first | (with_reducible first | refine hyT ?_ | refine hyF ?_ | exact hyA | exact hyB) | (intro hX; first | (cases hX; done) | ((try simp only [decide_eq_true_eq, decide_eq_false_iff_not, Bool.not_eq_true', Bool.not_eq_false'] at hX); (try have hXb := inB_iff.1 hX)))))) | ((with_reducible apply i_drw2 pick_drw (fun _ _ => rfl)); rfl; (simp (disch := (first | omega | (simp only [push_cast]; first | done | omega))) only [push_cast, ↓reduceIte, Nat.reduceEqDiff, Nat.reduceBEq, Nat.reduceAdd, Nat.reduceSub, Int.reduceToNat, *] <;> with_reducible exact rfl); (simp (disch := (first | omega | (simp only [push_cast]; first | done | omega))) only [push_cast, ↓reduceIte, Nat.reduceEqDiff, Nat.reduceBEq, Nat.reduceAdd, Nat.reduceSub, Int.reduceToNat, *] <;> with_reducible exact rfl); (simp (disch := (first | omega | (simp only [push_cast]; first | done | omega))) only [push_cast, ↓reduceIte, Nat.reduceEqDiff, Nat.reduceBEq, Nat.reduceAdd, Nat.reduceSub, Int.reduceToNat, *] <;> with_reducible exact rfl); assumption; omega; (focus (first | trivial | omega)); (focus (first | rfl | (simp only [push_cast, ↓reduceIte]))); intro v pp hv hok hpp1 hpp2))
  have hs := hsel.out v.toNat
  repeat' (first | (first | (with_reducible first | apply i_seq | apply i_block | apply i_skip | apply i_exit | apply i_ret | apply i_kS | apply i_kSx | apply i_kSr | apply i_kL | apply i_kLx | apply i_kLr | apply i_kB | apply i_kBr | apply i_kBs | apply i_nil) | ((with_reducible apply i_region); (simp only [List.map_cons, List.map_nil] <;> exact rfl)) | ((with_reducible apply i_draw); (simp only [List.map_cons, List.map_nil] <;> exact rfl); decide +kernel) | ((with_reducible apply i_kBo); rfl) | ((first | ((with_reducible apply i_V); rfl; rfl; rfl) | ((first | ((with_reducible apply i_E); rfl) | ((with_reducible apply i_S); rfl)); first | rfl | (simp only [push_cast, ↓reduceIte])) | ((with_reducible apply i_Vq); rfl; rfl) | ((with_reducible apply i_Vp); rfl; rfl; rfl) | (with_reducible first | apply i_Gb | apply i_cond)); (simp (disch := (first | omega | (simp only [push_cast]; first | done | omega))) only [push_cast, ↓reduceIte, Nat.reduceEqDiff, Nat.reduceBEq, Nat.reduceAdd, Nat.reduceSub, Int.reduceToNat, *] <;> with_reducible exact rfl); all_goals try (first | (with_reducible first | refine hyT ?_ | refine hyF ?_ | exact hyA | exact hyB) | (intro hX; first | (cases hX; done) | ((try simp only [decide_eq_true_eq, decide_eq_false_iff_not, Bool.not_eq_true', Bool.not_eq_false'] at hX); (try have hXb := inB_iff.1 hX)))))) | ((with_reducible apply i_drw2 pick_drw (fun _ _ => rfl)); rfl; (simp (disch := (first | omega | (simp only [push_cast]; first | done | omega))) only [push_cast, ↓reduceIte, Nat.reduceEqDiff, Nat.reduceBEq, Nat.reduceAdd, Nat.reduceSub, Int.reduceToNat, *] <;> with_reducible exact rfl); (simp (disch := (first | omega | (simp only [push_cast]; first | done | omega))) only [push_cast, ↓reduceIte, Nat.reduceEqDiff, Nat.reduceBEq, Nat.reduceAdd, Nat.reduceSub, Int.reduceToNat, *] <;> with_reducible exact rfl); (simp (disch := (first | omega | (simp only [push_cast]; first | done | omega))) only [push_cast, ↓reduceIte, Nat.reduceEqDiff, Nat.reduceBEq, Nat.reduceAdd, Nat.reduceSub, Int.reduceToNat, *] <;> with_reducible exact rfl); assumption; omega; (focus (first | trivial | omega)); (focus (first | rfl | (simp only [push_cast, ↓reduceIte]))); intro v pp hv hok hpp1 hpp2))
  all_goals ((with_reducible apply i_fin1 (by first | exact .inl rfl | exact .inr rfl)); (focus (simp (disch := (first | omega | (simp only [push_cast]; first | done | omega))) only [push_cast, ↓reduceIte, Nat.reduceEqDiff, Nat.reduceBEq, Nat.reduceAdd, Nat.reduceSub, Int.reduceToNat, rep_iv, rep_sv, rep_w, rep_i3, rep_i4, *] <;> with_reducible exact rfl)); (focus (simp (disch := (first | omega | (simp only [push_cast]; first | done | omega))) only [push_cast, ↓reduceIte, Nat.reduceEqDiff, Nat.reduceBEq, Nat.reduceAdd, Nat.reduceSub, Int.reduceToNat, rep_iv, rep_sv, rep_w, rep_i3, rep_i4, *] <;> with_reducible exact rfl)))
  all_goals try (first | omega | assumption)
  all_goals refine sel_rng ?_ (by omega) (by omega)
  all_goals intro x hx
  all_goals simp only [List.mem_cons, List.not_mem_nil, or_false] at hx
  all_goals omega
noncomputable def Φwidth : FunIO := Classical.choose width_ex
theorem width_io : SoundIO Try.prog 45 Φwidth := (Classical.choose_spec width_ex).1
theorem width_drw : Drw1 81 Φwidth 500000000 100 (fun n => iv n) (fun n => -1 ≤ n ∧ n ≤ 1001) := (Classical.choose_spec width_ex).2
noncomputable def GMo : Ctx := { fn := fun f => none, io := fun f => if f = 54 then some Φpick else none }
theorem GMo_ok : SoundΓ Try.prog GMo := ⟨(fun f φ h => by
  unfold GMo at h
  dsimp only at h
  cases h), (fun f φ h => by
  unfold GMo at h
  dsimp only at h
  split at h
  · rename_i hf; cases h; subst hf; exact ⟨⟨_, Try.func54, rfl, rfl⟩, pick_io⟩
  cases h), rfl⟩
theorem GMo_54 : GMo.io 54 = some Φpick := by simp [GMo]
set_option maxHeartbeats 8000000 in
theorem most_ex : ∃ Φ : FunIO, SoundIO Try.prog 46 Φ ∧ Drw1 81 Φ 500000000 100 (fun n => iv n) (fun n => -1 ≤ n ∧ n ≤ 10001) := by
  refine drw1_of mixed GMo_ok Try.func46 rfl 13 rfl [.tmp 2] rfl (by kernel_rfl) (by simp) _ _ _ _ _ fun code p hok hp => ?_
  have hp0 := hok.pos
  have gmo_c54 := GMo_54
  have hsel : ∀ i : Nat, (0 : Int) ≤ sel (0 : Int) [0, 0, 1, 2, 2, 3, 4, 5, 6] i ∧ sel (0 : Int) [0, 0, 1, 2, 2, 3, 4, 5, 6] i ≤ 6 := fun i => sel_rng (a := 0) (b := 6) (d := 0) (l := [0, 0, 1, 2, 2, 3, 4, 5, 6]) (by decide) (by decide) (by decide)
  replace hsel := Lib.hid hsel
  repeat' (first | (first | (with_reducible first | apply i_seq | apply i_block | apply i_skip | apply i_exit | apply i_ret | apply i_kS | apply i_kSx | apply i_kSr | apply i_kL | apply i_kLx | apply i_kLr | apply i_kB | apply i_kBr | apply i_kBs | apply i_nil) | ((with_reducible apply i_region); (simp only [List.map_cons, List.map_nil] <;> exact rfl)) | ((with_reducible apply i_draw); (simp only [List.map_cons, List.map_nil] <;> exact rfl); decide +kernel) | ((with_reducible apply i_kBo); rfl) | ((first | ((with_reducible apply i_V); rfl; rfl; rfl) | ((first | ((with_reducible apply i_E); rfl) | ((with_reducible apply i_S); rfl)); first | rfl | (simp only [push_cast, ↓reduceIte])) | ((with_reducible apply i_Vq); rfl; rfl) | ((with_reducible apply i_Vp); rfl; rfl; rfl) | (with_reducible first | apply i_Gb | apply i_cond)); (simp (disch := (first | omega | (simp only [push_cast]; first | done | omega))) only [push_cast, ↓reduceIte, Nat.reduceEqDiff, Nat.reduceBEq, Nat.reduceAdd, Nat.reduceSub, Int.reduceToNat, *] <;> with_reducible exact rfl); all_goals try (first | (with_reducible first | refine hyT ?_ | refine hyF ?_ | exact hyA | exact hyB) | (intro hX; first | (cases hX; done) | ((try simp only [decide_eq_true_eq, decide_eq_false_iff_not, Bool.not_eq_true', Bool.not_eq_false'] at hX); (try have hXb := inB_iff.1 hX)))))) | ((with_reducible apply i_drw2 pick_drw (fun _ _ => rfl)); rfl; (simp (disch := (first | omega | (simp only [push_cast]; first | done | omega))) only [push_cast, ↓reduceIte, Nat.reduceEqDiff, Nat.reduceBEq, Nat.reduceAdd, Nat.reduceSub, Int.reduceToNat, *] <;> with_reducible exact rfl); (simp (disch := (first | omega | (simp only [push_cast]; first | done | omega))) only [push_cast, ↓reduceIte, Nat.reduceEqDiff, Nat.reduceBEq, Nat.reduceAdd, Nat.reduceSub, Int.reduceToNat, *] <;> with_reducible exact rfl); (simp (disch := (first | omega | (simp only [push_cast]; first | done | omega))) only [push_cast, ↓reduceIte, Nat.reduceEqDiff, Nat.reduceBEq, Nat.reduceAdd, Nat.reduceSub, Int.reduceToNat, *] <;> with_reducible exact rfl); assumption; omega; (focus (first | trivial | omega)); (focus (first | rfl | (simp only [push_cast, ↓reduceIte]))); intro v pp hv hok hpp1 hpp2))
  have hs := hsel.out v.toNat
  repeat' (first | (first | (with_reducible first | apply i_seq | apply i_block | apply i_skip | apply i_exit | apply i_ret | apply i_kS | apply i_kSx | apply i_kSr | apply i_kL | apply i_kLx | apply i_kLr | apply i_kB | apply i_kBr | apply i_kBs | apply i_nil) | ((with_reducible apply i_region); (simp only [List.map_cons, List.map_nil] <;> exact rfl)) | ((with_reducible apply i_draw); (simp only [List.map_cons, List.map_nil] <;> exact rfl); decide +kernel) | ((with_reducible apply i_kBo); rfl) | ((first | ((with_reducible apply i_V); rfl; rfl; rfl) | ((first | ((with_reducible apply i_E); rfl) | ((with_reducible apply i_S); rfl)); first | rfl | (simp only [push_cast, ↓reduceIte])) | ((with_reducible apply i_Vq); rfl; rfl) | ((with_reducible apply i_Vp); rfl; rfl; rfl) | (with_reducible first | apply i_Gb | apply i_cond)); (simp (disch := (first | omega | (simp only [push_cast]; first | done | omega))) only [push_cast, ↓reduceIte, Nat.reduceEqDiff, Nat.reduceBEq, Nat.reduceAdd, Nat.reduceSub, Int.reduceToNat, *] <;> with_reducible exact rfl); all_goals try (first | (with_reducible first | refine hyT ?_ | refine hyF ?_ | exact hyA | exact hyB) | (intro hX; first | (cases hX; done) | ((try simp only [decide_eq_true_eq, decide_eq_false_iff_not, Bool.not_eq_true', Bool.not_eq_false'] at hX); (try have hXb := inB_iff.1 hX)))))) | ((with_reducible apply i_drw2 pick_drw (fun _ _ => rfl)); rfl; (simp (disch := (first | omega | (simp only [push_cast]; first | done | omega))) only [push_cast, ↓reduceIte, Nat.reduceEqDiff, Nat.reduceBEq, Nat.reduceAdd, Nat.reduceSub, Int.reduceToNat, *] <;> with_reducible exact rfl); (simp (disch := (first | omega | (simp only [push_cast]; first | done | omega))) only [push_cast, ↓reduceIte, Nat.reduceEqDiff, Nat.reduceBEq, Nat.reduceAdd, Nat.reduceSub, Int.reduceToNat, *] <;> with_reducible exact rfl); (simp (disch := (first | omega | (simp only [push_cast]; first | done | omega))) only [push_cast, ↓reduceIte, Nat.reduceEqDiff, Nat.reduceBEq, Nat.reduceAdd, Nat.reduceSub, Int.reduceToNat, *] <;> with_reducible exact rfl); assumption; omega; (focus (first | trivial | omega)); (focus (first | rfl | (simp only [push_cast, ↓reduceIte]))); intro v pp hv hok hpp1 hpp2))
  all_goals ((with_reducible apply i_fin1 (by first | exact .inl rfl | exact .inr rfl)); (focus (simp (disch := (first | omega | (simp only [push_cast]; first | done | omega))) only [push_cast, ↓reduceIte, Nat.reduceEqDiff, Nat.reduceBEq, Nat.reduceAdd, Nat.reduceSub, Int.reduceToNat, rep_iv, rep_sv, rep_w, rep_i3, rep_i4, *] <;> with_reducible exact rfl)); (focus (simp (disch := (first | omega | (simp only [push_cast]; first | done | omega))) only [push_cast, ↓reduceIte, Nat.reduceEqDiff, Nat.reduceBEq, Nat.reduceAdd, Nat.reduceSub, Int.reduceToNat, rep_iv, rep_sv, rep_w, rep_i3, rep_i4, *] <;> with_reducible exact rfl)))
  all_goals try (first | omega | assumption)
  all_goals refine sel_rng ?_ (by omega) (by omega)
  all_goals intro x hx
  all_goals simp only [List.mem_cons, List.not_mem_nil, or_false] at hx
  all_goals omega
noncomputable def Φmost : FunIO := Classical.choose most_ex
theorem most_io : SoundIO Try.prog 46 Φmost := (Classical.choose_spec most_ex).1
theorem most_drw : Drw1 81 Φmost 500000000 100 (fun n => iv n) (fun n => -1 ≤ n ∧ n ≤ 10001) := (Classical.choose_spec most_ex).2
abbrev EPg (p : LS × LS × Int × Int) : PV := .tup [.lst true 1 (p.1.map fun s => PV.val (.string s)), .lst true 1 (p.2.1.map fun s => PV.val (.string s)), iv p.2.2.1, iv p.2.2.2]
def okPg (p : LS × LS × Int × Int) : Prop := okT 13 p.1 ∧ okT 21 p.2.1 ∧ (-1 ≤ p.2.2.1 ∧ p.2.2.1 ≤ 1001) ∧ (-1 ≤ p.2.2.2 ∧ p.2.2.2 ≤ 10001)
noncomputable def GDpl : Ctx := { fn := fun f => none, io := fun f => if f = 33 then some ΦOpen else if f = 43 then some Φwords else if f = 44 then some Φpatterns else if f = 45 then some Φwidth else if f = 46 then some Φmost else none }
theorem GDpl_ok : SoundΓ Try.prog GDpl := ⟨(fun f φ h => by
  unfold GDpl at h
  dsimp only at h
  cases h), (fun f φ h => by
  unfold GDpl at h
  dsimp only at h
  split at h
  · rename_i hf; cases h; subst hf; exact ⟨⟨_, Try.func33, rfl, rfl⟩, open_io⟩
  split at h
  · rename_i hf; cases h; subst hf; exact ⟨⟨_, Try.func43, rfl, rfl⟩, words_io⟩
  split at h
  · rename_i hf; cases h; subst hf; exact ⟨⟨_, Try.func44, rfl, rfl⟩, patterns_io⟩
  split at h
  · rename_i hf; cases h; subst hf; exact ⟨⟨_, Try.func45, rfl, rfl⟩, width_io⟩
  split at h
  · rename_i hf; cases h; subst hf; exact ⟨⟨_, Try.func46, rfl, rfl⟩, most_io⟩
  cases h), rfl⟩
theorem GDpl_33 : GDpl.io 33 = some ΦOpen := by simp [GDpl]
theorem GDpl_43 : GDpl.io 43 = some Φwords := by simp [GDpl]
theorem GDpl_44 : GDpl.io 44 = some Φpatterns := by simp [GDpl]
theorem GDpl_45 : GDpl.io 45 = some Φwidth := by simp [GDpl]
theorem GDpl_46 : GDpl.io 46 = some Φmost := by simp [GDpl]
set_option maxHeartbeats 8000000 in
theorem drawPg_ex : ∃ φ : Fun, Sound Try.prog 19 φ ∧ Drw0 φ EPg okPg := by
  refine drw0_of mixed GDpl_ok Try.func19 rfl 21 rfl [.tmp 2, .tmp 3, .tmp 4, .tmp 5] rfl (by kernel_rfl) (by simp) _ _ fun code hbyte hlen => ?_
  have hok := okRd_take hbyte
  have apo := @ΦOpen_ap
  have gdpl_c33 := GDpl_33; have gdpl_c43 := GDpl_43; have gdpl_c44 := GDpl_44; have gdpl_c45 := GDpl_45; have gdpl_c46 := GDpl_46
  repeat' (first | (first | (with_reducible first | apply i_seq | apply i_block | apply i_skip | apply i_exit | apply i_ret | apply i_kS | apply i_kSx | apply i_kSr | apply i_kL | apply i_kLx | apply i_kLr | apply i_kB | apply i_kBr | apply i_kBs | apply i_nil) | ((with_reducible apply i_region); (simp only [List.map_cons, List.map_nil] <;> exact rfl)) | ((with_reducible apply i_draw); (simp only [List.map_cons, List.map_nil] <;> exact rfl); decide +kernel) | ((with_reducible apply i_kBo); rfl) | ((first | ((with_reducible apply i_V); rfl; rfl; rfl) | ((first | ((with_reducible apply i_E); rfl) | ((with_reducible apply i_S); rfl)); first | rfl | (simp only [push_cast, ↓reduceIte])) | ((with_reducible apply i_Vq); rfl; rfl) | ((with_reducible apply i_Vp); rfl; rfl; rfl) | (with_reducible first | apply i_Gb | apply i_cond)); (simp (disch := (first | omega | (simp only [push_cast]; first | done | omega))) only [push_cast, ↓reduceIte, Nat.reduceEqDiff, Nat.reduceBEq, Nat.reduceAdd, Nat.reduceSub, Int.reduceToNat, *] <;> with_reducible exact rfl); all_goals try (first | (with_reducible first | refine hyT ?_ | refine hyF ?_ | exact hyA | exact hyB) | (intro hX; first | (cases hX; done) | ((try simp only [decide_eq_true_eq, decide_eq_false_iff_not, Bool.not_eq_true', Bool.not_eq_false'] at hX); (try have hXb := inB_iff.1 hX)))))) | ((with_reducible apply i_drw2 words_drw (fun _ _ => by simp only [push_cast, ↓reduceIte, Nat.reduceEqDiff, Nat.reduceBEq, Nat.reduceAdd, Nat.reduceSub, Int.reduceToNat])); (focus rfl); (focus (simp (disch := (first | omega | (simp only [push_cast]; first | done | omega))) only [push_cast, ↓reduceIte, Nat.reduceEqDiff, Nat.reduceBEq, Nat.reduceAdd, Nat.reduceSub, Int.reduceToNat, *] <;> with_reducible exact rfl)); (focus (simp (disch := (first | omega | (simp only [push_cast]; first | done | omega))) only [push_cast, ↓reduceIte, Nat.reduceEqDiff, Nat.reduceBEq, Nat.reduceAdd, Nat.reduceSub, Int.reduceToNat, *] <;> with_reducible exact rfl)); (focus (simp (disch := (first | omega | (simp only [push_cast]; first | done | omega))) only [push_cast, ↓reduceIte, Nat.reduceEqDiff, Nat.reduceBEq, Nat.reduceAdd, Nat.reduceSub, Int.reduceToNat, *] <;> with_reducible exact rfl)); (focus assumption); (focus omega); (focus (first | trivial | omega)); (focus (first | rfl | (simp only [push_cast, ↓reduceIte]))); intro v pp hv hok hpp1 hpp2) | ((with_reducible apply i_drw2N patterns_drw patterns_hE patterns_hO); (focus rfl); (focus (simp (disch := (first | omega | (simp only [push_cast]; first | done | omega))) only [push_cast, ↓reduceIte, Nat.reduceEqDiff, Nat.reduceBEq, Nat.reduceAdd, Nat.reduceSub, Int.reduceToNat, *] <;> with_reducible exact rfl)); (focus (simp (disch := (first | omega | (simp only [push_cast]; first | done | omega))) only [push_cast, ↓reduceIte, Nat.reduceEqDiff, Nat.reduceBEq, Nat.reduceAdd, Nat.reduceSub, Int.reduceToNat, *] <;> with_reducible exact rfl)); (focus (simp (disch := (first | omega | (simp only [push_cast]; first | done | omega))) only [push_cast, ↓reduceIte, Nat.reduceEqDiff, Nat.reduceBEq, Nat.reduceAdd, Nat.reduceSub, Int.reduceToNat, *] <;> with_reducible exact rfl)); (focus assumption); (focus omega); (focus (first | trivial | omega)); (focus (first | rfl | (simp only [push_cast, ↓reduceIte]))); intro v pp hv hok hpp1 hpp2) | ((with_reducible apply i_drw1 width_drw (fun _ _ => by simp only [push_cast, ↓reduceIte, Nat.reduceEqDiff, Nat.reduceBEq, Nat.reduceAdd, Nat.reduceSub, Int.reduceToNat])); (focus rfl); (focus (simp (disch := (first | omega | (simp only [push_cast]; first | done | omega))) only [push_cast, ↓reduceIte, Nat.reduceEqDiff, Nat.reduceBEq, Nat.reduceAdd, Nat.reduceSub, Int.reduceToNat, *] <;> with_reducible exact rfl)); (focus (simp (disch := (first | omega | (simp only [push_cast]; first | done | omega))) only [push_cast, ↓reduceIte, Nat.reduceEqDiff, Nat.reduceBEq, Nat.reduceAdd, Nat.reduceSub, Int.reduceToNat, *] <;> with_reducible exact rfl)); (focus assumption); (focus omega); (focus (first | rfl | (simp only [push_cast, ↓reduceIte]))); intro v pp hv hok hpp1 hpp2) | ((with_reducible apply i_drw1 most_drw (fun _ _ => by simp only [push_cast, ↓reduceIte, Nat.reduceEqDiff, Nat.reduceBEq, Nat.reduceAdd, Nat.reduceSub, Int.reduceToNat])); (focus rfl); (focus (simp (disch := (first | omega | (simp only [push_cast]; first | done | omega))) only [push_cast, ↓reduceIte, Nat.reduceEqDiff, Nat.reduceBEq, Nat.reduceAdd, Nat.reduceSub, Int.reduceToNat, *] <;> with_reducible exact rfl)); (focus (simp (disch := (first | omega | (simp only [push_cast]; first | done | omega))) only [push_cast, ↓reduceIte, Nat.reduceEqDiff, Nat.reduceBEq, Nat.reduceAdd, Nat.reduceSub, Int.reduceToNat, *] <;> with_reducible exact rfl)); (focus assumption); (focus omega); (focus (first | rfl | (simp only [push_cast, ↓reduceIte]))); intro v pp hv hok hpp1 hpp2))
  all_goals ((with_reducible apply i_fin0 (a := (_, _, _, _)) (by first | exact .inl rfl | exact .inr rfl)); (focus (simp (disch := (first | omega | (simp only [push_cast]; first | done | omega))) only [push_cast, ↓reduceIte, Nat.reduceEqDiff, Nat.reduceBEq, Nat.reduceAdd, Nat.reduceSub, Int.reduceToNat, rep_iv, rep_sv, rep_w, rep_i3, rep_i4, *] <;> with_reducible exact rfl)))
  unfold okPg
  refine ⟨?_, ?_, ?_, ?_⟩ <;> (try dsimp only) <;> assumption
noncomputable def φdrawPg : Fun := Classical.choose drawPg_ex
theorem drawPg_ok : Sound Try.prog 19 φdrawPg := (Classical.choose_spec drawPg_ex).1
theorem drawPg_drw : Drw0 φdrawPg EPg okPg := (Classical.choose_spec drawPg_ex).2
noncomputable def φPgin : Fun := nilF 1 φPgi
theorem φPgin_nil {ws : LS} {wd most : Int} (h : okSs ws) (h0 : 0 < (pglV ws [] wd most).length) : φPgin [.lst false 1 (ws.map fun s => .val (.string s)), .val (.slice none 0 0), .val (.int .i64 wd), .val (.int .i64 most)] = some (.tup [.lst true 1 ((pglV ws [] wd most).map fun s => .val (.string s)), .val (.bool (pglB ws [] wd most))]) := φPgi_ap ⟨h, by simp, by simp⟩ h0
theorem φPgin_nilno {ws : LS} {wd most : Int} (h : okSs ws) (h0 : pglB ws [] wd most = false) : φPgin [.lst false 1 (ws.map fun s => .val (.string s)), .val (.slice none 0 0), .val (.int .i64 wd), .val (.int .i64 most)] = some (.tup [.val (.slice none 0 0), .val (.bool false)]) := φPgi_no ⟨h, by simp, by simp⟩ h0
theorem φPgin_ap {ws pats : LS} {wd most : Int} (h : okSs ws ∧ okSs pats) (h0 : 0 < (pglV ws pats wd most).length) : φPgin [.lst false 1 (ws.map fun s => .val (.string s)), .lst false 1 (pats.map fun s => .val (.string s)), .val (.int .i64 wd), .val (.int .i64 most)] = some (.tup [.lst true 1 ((pglV ws pats wd most).map fun s => .val (.string s)), .val (.bool (pglB ws pats wd most))]) := φPgi_ap h h0
theorem φPgin_no {ws pats : LS} {wd most : Int} (h : okSs ws ∧ okSs pats) (h0 : pglB ws pats wd most = false) : φPgin [.lst false 1 (ws.map fun s => .val (.string s)), .lst false 1 (pats.map fun s => .val (.string s)), .val (.int .i64 wd), .val (.int .i64 most)] = some (.tup [.val (.slice none 0 0), .val (.bool false)]) := φPgi_no h h0
noncomputable def φHlnn : Fun := nilF 1 φHl
theorem φHlnn_ap {l : LS} (h : okSs l) : φHlnn [.lst false 1 (l.map fun s => .val (.string s))] = some (.val (.int .i64 (hyN l))) := φHl_ap h
theorem φHlnn_nil : φHlnn [.val (.slice none 0 0)] = some (.val (.int .i64 0)) := φHl_ap (l := []) ⟨by simp, by simp⟩
theorem pgl_cases (ws pats : LS) (wd most : Int) : (pglB ws pats wd most = false ∧ pglV ws pats wd most = []) ∨ (pglB ws pats wd most = true ∧ 0 < (pglV ws pats wd most).length) := by
  cases h : pglB ws pats wd most with
  | false => exact .inl ⟨rfl, pgl_nil h⟩
  | true => exact .inr ⟨rfl, pgl_pos h⟩
theorem pgl_okSs (ws pats : LS) (wd most : Int) : okSs (pglV ws pats wd most) := okLs_ss ⟨by have := (pglV_ok ws pats wd most).1; omega, (pglV_ok ws pats wd most).2⟩
noncomputable def φLawHf : Fun := F1 dUs fun code => if okL okB8 code then some (bv true) else none
noncomputable def GLhf : Ctx := { fn := fun f => if f = 19 then some φdrawPg else if f = 15 then some φPgin else if f = 13 then some φPgl else if f = 9 then some φHlnn else if f = 20 then some φSmtn else if f = 11 then some φTrue else none, io := fun f => none }
theorem GLhf_ok : SoundΓ Try.prog GLhf := ⟨(fun f φ h => by
  unfold GLhf at h
  dsimp only at h
  split at h
  · rename_i hf; cases h; subst hf; exact ⟨⟨_, Try.func19, rfl, rfl⟩, drawPg_ok⟩
  split at h
  · rename_i hf; cases h; subst hf; exact ⟨⟨_, Try.func15, rfl, rfl⟩, (implPgi_ok.nil 1)⟩
  split at h
  · rename_i hf; cases h; subst hf; exact ⟨⟨_, Try.func13, rfl, rfl⟩, specPgl_ok⟩
  split at h
  · rename_i hf; cases h; subst hf; exact ⟨⟨_, Try.func9, rfl, rfl⟩, (implHl_ok.nil 1)⟩
  split at h
  · rename_i hf; cases h; subst hf; exact ⟨⟨_, Try.func20, rfl, rfl⟩, (smt_ok.nil 1)⟩
  split at h
  · rename_i hf; cases h; subst hf; exact ⟨⟨_, Try.func11, rfl, rfl⟩, alive_ok⟩
  cases h), (fun f φ h => by
  unfold GLhf at h
  dsimp only at h
  cases h), rfl⟩
theorem GLhf_19 (ob : Objs) (ps : List PV) : evCall GLhf ob 19 ps = (ps.mapM (reify false 0 ob fuel)).bind φdrawPg := by
  have h : GLhf.fn 19 = some φdrawPg := by simp [GLhf]
  unfold evCall
  rw [h]
  cases ps.mapM (reify false 0 ob fuel) <;> rfl
theorem GLhf_15 (ob : Objs) (ps : List PV) : evCall GLhf ob 15 ps = (ps.mapM (reify false 0 ob fuel)).bind φPgin := by
  have h : GLhf.fn 15 = some φPgin := by simp [GLhf]
  unfold evCall
  rw [h]
  cases ps.mapM (reify false 0 ob fuel) <;> rfl
theorem GLhf_13 (ob : Objs) (ps : List PV) : evCall GLhf ob 13 ps = (ps.mapM (reify false 0 ob fuel)).bind φPgl := by
  have h : GLhf.fn 13 = some φPgl := by simp [GLhf]
  unfold evCall
  rw [h]
  cases ps.mapM (reify false 0 ob fuel) <;> rfl
theorem GLhf_9 (ob : Objs) (ps : List PV) : evCall GLhf ob 9 ps = (ps.mapM (reify false 0 ob fuel)).bind φHlnn := by
  have h : GLhf.fn 9 = some φHlnn := by simp [GLhf]
  unfold evCall
  rw [h]
  cases ps.mapM (reify false 0 ob fuel) <;> rfl
theorem GLhf_20 (ob : Objs) (ps : List PV) : evCall GLhf ob 20 ps = (ps.mapM (reify false 0 ob fuel)).bind φSmtn := by
  have h : GLhf.fn 20 = some φSmtn := by simp [GLhf]
  unfold evCall
  rw [h]
  cases ps.mapM (reify false 0 ob fuel) <;> rfl
theorem GLhf_11 (ob : Objs) (ps : List PV) : evCall GLhf ob 11 ps = (ps.mapM (reify false 0 ob fuel)).bind φTrue := by
  have h : GLhf.fn 11 = some φTrue := by simp [GLhf]
  unfold evCall
  rw [h]
  cases ps.mapM (reify false 0 ob fuel) <;> rfl
set_option maxHeartbeats 16000000 in
theorem lawHf_ok : Sound Try.prog 5 φLawHf := by
  refine sound_pq mixed GLhf_ok Try.func5 rfl 61 rfl [.tmp 2] rfl (by kernel_rfl) fun ps r hr => ?_
  obtain ⟨code, rfl, hq⟩ := F1_some hr
  clear hr
  split at hq
  case isFalse => cases hq
  case isTrue hpre =>
  cases hq
  refine ⟨by simp, ?_⟩
  simp only [dIs, dUs, dSs, dI_e, dU_e, dB_e, dS_e, dFn_e, dL_e, dA2_e, dA3_e, dA4_e, dA5_e]
  have hbyte := bytes_ok hpre
  by_cases hlen : code.length ≤ 1048576
  · obtain ⟨⟨ws, pats, wd, mo⟩, e, h1, h2, h3, h4⟩ := drawPg_drw code hbyte hlen
    have apt := φTrue_ap
    dsimp only at h1 h2 h3 h4 e
    have hs1 := okT_sz h1 (by omega)
    have hs2 := okT_sz h2 (by omega)
    have ap2 := φPgl_ap (wd := wd) (most := mo) ⟨hs1, hs2⟩
    have ap5 := φHlnn_nil
    have ap6 := φSmtn_nil
    clear hpre hbyte h1 h2
    have apA : (pglB ws pats wd mo = false ∧ pglV ws pats wd mo = [] ∧ φPgin [.lst false 1 (ws.map fun s => .val (.string s)), .lst false 1 (pats.map fun s => .val (.string s)), .val (.int .i64 wd), .val (.int .i64 mo)] = some (.tup [.val (.slice none 0 0), .val (.bool false)])) ∨ (pglB ws pats wd mo = true ∧ φPgin [.lst false 1 (ws.map fun s => .val (.string s)), .lst false 1 (pats.map fun s => .val (.string s)), .val (.int .i64 wd), .val (.int .i64 mo)] = some (.tup [.lst true 1 ((pglV ws pats wd mo).map fun s => .val (.string s)), .val (.bool (pglB ws pats wd mo))]) ∧ (pglV ws pats wd mo).length ≤ 60) := by
      rcases pgl_cases ws pats wd mo with ⟨q1, q2⟩ | ⟨q1, q2⟩
      · exact .inl ⟨q1, q2, φPgin_no ⟨hs1, hs2⟩ q1⟩
      · exact .inr ⟨q1, φPgin_ap ⟨hs1, hs2⟩ q2, (pglV_ok _ _ _ _).1⟩
    have apB : (φPgin [.lst false 1 (ws.map fun s => .val (.string s)), .val (.slice none 0 0), .val (.int .i64 wd), .val (.int .i64 mo)] = some (.tup [.val (.slice none 0 0), .val (.bool false)])) ∨ (φPgin [.lst false 1 (ws.map fun s => .val (.string s)), .val (.slice none 0 0), .val (.int .i64 wd), .val (.int .i64 mo)] = some (.tup [.lst true 1 ((pglV ws [] wd mo).map fun s => .val (.string s)), .val (.bool true)]) ∧ φHlnn [.lst false 1 ((pglV ws [] wd mo).map fun s => .val (.string s))] = some (.val (.int .i64 0))) := by
      rcases pgl_cases ws [] wd mo with ⟨q1, q2⟩ | ⟨q1, q2⟩
      · exact .inl (φPgin_nilno hs1 q1)
      · exact .inr ⟨by rw [φPgin_nil hs1 q2, q1], by
          have := φHlnn_ap (pgl_okSs ws [] wd mo)
          rwa [free_hy] at this⟩
    clear hs1 hs2
    generalize pglV ws [] wd mo = V0 at *
    rcases apA with ⟨q1, q2, ap1⟩ | ⟨q1, ap1, q3⟩
    · rw [q1, q2, List.map_nil] at ap2
      rcases apB with ap3 | ⟨ap3, ap4⟩
      · have glhf_c19 := GLhf_19; have glhf_c15 := GLhf_15; have glhf_c13 := GLhf_13; have glhf_c9 := GLhf_9; have glhf_c20 := GLhf_20; have glhf_c11 := GLhf_11
        exact wlkS
      · have glhf_c19 := GLhf_19; have glhf_c15 := GLhf_15; have glhf_c13 := GLhf_13; have glhf_c9 := GLhf_9; have glhf_c20 := GLhf_20; have glhf_c11 := GLhf_11
        exact wlkS
    · rw [q1] at ap2 ap1
      generalize pglV ws pats wd mo = V at *
      have ap7 := φSmtn_ap (a := V) (b := V) (by omega) (by omega)
      rcases apB with ap3 | ⟨ap3, ap4⟩
      · have glhf_c19 := GLhf_19; have glhf_c15 := GLhf_15; have glhf_c13 := GLhf_13; have glhf_c9 := GLhf_9; have glhf_c20 := GLhf_20; have glhf_c11 := GLhf_11
        exact wlkS
      · have glhf_c19 := GLhf_19; have glhf_c15 := GLhf_15; have glhf_c13 := GLhf_13; have glhf_c9 := GLhf_9; have glhf_c20 := GLhf_20; have glhf_c11 := GLhf_11
        exact wlkS
  · have glhf_c19 := GLhf_19; have glhf_c15 := GLhf_15; have glhf_c13 := GLhf_13; have glhf_c9 := GLhf_9; have glhf_c20 := GLhf_20; have glhf_c11 := GLhf_11
    exact wlkS
end Go.Proofs.Ytngcedklbinhjaa
namespace Go.Proofs.Ytngcedklbinhjaa
open Go.ChangeShapes Go.WideShapes Go.ChangeAt Go.RowKit
open Go.ChangeMaps (open_string shut_string)
set_option linter.all false
theorem own : ownKnob Try.prog.godebug = none := by kernel_rfl
theorem laidOut : laidOutB Try.prog = true := by kernel_rfl
theorem wf_u8 {x : Int} (h : (Lit.int .u8 x).wf = true) : 0 ≤ x ∧ x ≤ 255 := by
  simpa [Lit.wf, IntKind.min, IntKind.max, IntKind.signed, IntKind.bits] using h
theorem addr_add (b off i : Nat) : (⟨b, off, none⟩ : Addr).add i = ⟨b, off + i, none⟩ := by
  unfold Addr.add
  by_cases h : i = 0 <;> simp [h]
theorem cell_lt {w : World} {a : Addr} {v : Value} (h : w.cell? a = some v) : a.block < w.heap.size := by
  unfold World.cell? at h
  by_cases hb : a.block < w.heap.size
  · exact hb
  · rw [Array.getElem?_eq_none (by omega)] at h
    cases a.spot <;> simp at h
abbrev gW (W : World) : Gh := argG fun b => b < W.heap.size
section
variable {H : Type} {enc : TypeId × Value → H} {P : Program} {W : World} {base : Nat} {α β γ δ ε : Type}
def OpC (enc : TypeId × Value → H) (P : Program) (W : World) (base : Nat) (t : TypeId) (A : Dec α) (ok : α → Prop) : Prop :=
  ∀ fuel cs x, DataW.trod enc P W base (fun _ => true) true fuel t cs = some x → ∃ a v, ok a ∧ Rep (gW W) W (A.e a) v ∧ v.cells.toList = cs ∧ v.cells.all (·.oneCell') = true
theorem opU {t : TypeId} (ht : P.underlying t = some (.int .u8)) : OpC enc P W base t dU okB8 := fun fuel cs x h => by
  obtain ⟨n, rfl, _, hw⟩ := DataW.trod_int ht h
  exact ⟨n, .int .u8 n, wf_u8 hw, rfl, rfl, by simp [Value.cells, Value.oneCell']⟩
theorem list_of {n : Nat} {p : Nat → α → Prop} (h : ∀ i, i < n → ∃ x, p i x) : ∃ l : List α, l.length = n ∧ ∀ i a, l[i]? = some a → p i a := by
  induction n with
  | zero => exact ⟨[], rfl, fun i a h => by simp at h⟩
  | succ n ih =>
    obtain ⟨l, hl, hp⟩ := ih fun i hi => h i (by omega)
    obtain ⟨x, hx⟩ := h n (by omega)
    refine ⟨l ++ [x], by simp [hl], fun i a hi => ?_⟩
    rw [List.getElem?_append] at hi
    split at hi
    · exact hp i a hi
    · rename_i hlt
      have : i - l.length = 0 := by
        by_cases h0 : i - l.length = 0
        · exact h0
        · rw [List.getElem?_eq_none (by simp; omega)] at hi
          cases hi
      rw [this] at hi
      simp at hi
      subst hi
      have : i = n := by omega
      subst this
      exact hx
theorem opL {t e : TypeId} {A : Dec α} {ok : α → Prop} (sz : Nat) (ht : P.underlying t = some (.slice e)) (hs : P.cellsOf e = sz) (h0 : 0 < sz) (hA : OpC enc P W base e A ok) : OpC enc P W base t (dL sz A) (okL ok) := fun fuel cs x h => by
  rcases Go.Deep.open_slice ht h with ⟨rfl, _⟩ | ⟨x, len, cap, m, n, D, Pl, rfl, hb, hl, hm, hmm, _, hx⟩
  · exact ⟨[], .slice none 0 0, ⟨by simp, by simp⟩, ⟨none, 0, rfl, by simp, by simp, .inl rfl⟩, rfl, by simp [Value.cells, Value.oneCell']⟩
  have hm2 : m = cap := by simpa using hmm
  have hcap : cap ≤ 9223372036854775807 := hm
  obtain ⟨l, hlen, hp⟩ := list_of (n := len) (p := fun i a => ok a ∧ ∃ v, Rep (gW W) W (A.e a) v ∧ v.cells.size = sz ∧ v.cells.all (·.oneCell') = true ∧ ∀ j, j < sz → W.cell? ((x.add (i * sz)).add j) = v.cells[j]?) (fun i hi => by
    obtain ⟨cs', h1, h2⟩ := hx i (by omega)
    obtain ⟨a, v, h3, h4, h5, h6⟩ := hA _ _ _ h2
    obtain ⟨_, h7, h8⟩ := World.cells?_some h1
    rw [hs] at h7 h8
    refine ⟨a, h3, v, h4, ?_, h6, fun j hj => ?_⟩
    · rw [← h7, ← h5]; simp
    · rw [h8 j hj, ← h5]; simp)
  refine ⟨l, .slice (some x) len cap, ⟨by omega, fun a ha => ?_⟩, ?_, rfl, by simp [Value.cells, Value.oneCell']⟩
  · obtain ⟨i, hi, rfl⟩ := List.getElem_of_mem ha
    exact (hp i _ (by simp [hi])).1
  · refine ⟨some x, cap, by simp [hlen], by simp [hlen]; omega, hcap, ?_⟩
    by_cases hn : l = []
    · exact .inl (by simp [hn])
    right
    have hl0 : 0 < l.length := List.length_pos_iff.2 hn
    obtain ⟨_, v, h4, h5, h6, h7⟩ := hp 0 l[0] (by simp [hl0])
    have h8 := h7 0 h0
    have h9 : v.cells[0]? = some v.cells[0] := by simp
    rw [h9] at h8
    have hspot := World.cell?_spot h8
    have hlt := cell_lt h8
    obtain ⟨b, off, spot⟩ := x
    simp only [Nat.zero_mul, Addr.add, if_true] at hspot hlt
    subst hspot
    refine ⟨b, off, rfl, ⟨rfl, hlt⟩, RepEs.of fun i p hi => ?_⟩
    rw [List.getElem?_map, Option.map_eq_some_iff] at hi
    obtain ⟨a, ha, rfl⟩ := hi
    obtain ⟨_, v, h4, h5, h6, h7⟩ := hp i a ha
    refine ⟨v, h4, ⟨h6, fun j hj => ?_⟩, h5⟩
    have := h7 j (by omega)
    rwa [addr_add, addr_add] at this
theorem opF {t : TypeId} {A : Dec α} {ok : α → Prop} {n : Nat} {cs : List Value} {y : DataW H × List MemPlace} (hA : OpC enc P W base t A ok) (h1 : ∀ a, oneP (A.e a) = true)
    (h : DataW.trod enc P W base (fun _ => true) true n t cs = some y) : ∃ a v, ok a ∧ Rep (gW W) W (A.e a) v ∧ v.oneCell' = true ∧ cs = [v] := by
  obtain ⟨a, v, h3, h4, h5, h6⟩ := hA _ _ _ h
  have := oneP_rep h4 (h1 a)
  exact ⟨a, v, h3, h4, this, by rw [← h5, oneCell_cells this]⟩
theorem op1 {t : TypeId} {A : Dec α} {ok : α → Prop} {v : Value} {d : DataW H} {p : List MemPlace} (hA : OpC enc P W base t A ok) (h1 : ∀ a, oneP (A.e a) = true) (hv : v.cells = #[v])
    (h : DataW.Trod enc P W base (fun _ => true) true t v d p) : ∃ a, ok a ∧ Rep (gW W) W (A.e a) v := by
  obtain ⟨fuel, hf⟩ := h
  obtain ⟨a, u, h3, h4, h5, h6⟩ := opF hA h1 hf
  rw [hv] at h6
  have : v = u := by simpa using h6
  subst this
  exact ⟨a, h3, h4⟩
theorem walk_of {f : Nat} {φ : Fun} {ps : List PV} {args : Array Value} (h : Sound P f φ) (hT : TabF W fun _ => False) (ha : φ ps = some (bv true)) (hr : RepL (gW W) W ps args.toList) :
    Calls P f args W fun e w' => e = .returned (.bool true) ∧ Below W.heap.size W w' := by
  refine (h W (fun b => b < W.heap.size) ps args _ ha (fun b hb => hb) hT hr).mono ?_
  rintro e w' ⟨v, rfl, hb, hv⟩
  have := hv { I := fun _ _ => True, β := fun _ => 0, κ := fun _ => 0, nx := 0 } fun b _ _ => trivial
  have hv2 : v = .bool true := this
  subst hv2
  exact ⟨rfl, hb⟩
end
end Go.Proofs.Ytngcedklbinhjaa
