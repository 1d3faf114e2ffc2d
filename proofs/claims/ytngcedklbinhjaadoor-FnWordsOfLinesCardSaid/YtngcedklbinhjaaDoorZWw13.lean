/- What the proof rests on, part 13: contracts of functions. No condition beyond what each states. -/
import Derived.Test.YtngcedklbinhjaaDoorZWw12
namespace Go.Proofs.YtngcedklbinhjaaDoor
open Go.RowKit
set_option linter.all false
abbrev EStr (s : ByteArray) : PV := .val (.string s)
set_option maxHeartbeats 8000000 in
theorem text_ex : ∃ Φ : FunIO, SoundIO Tryd.prog 28 Φ ∧ Drw2 52 Φ 700000000 15 EStr (fun n => 0 ≤ n ∧ n ≤ 1000) (fun _ s => s.size ≤ 21) := by
  refine drw2_of mixed GRd_ok Tryd.func28 rfl 39 rfl [.tmp 4] rfl (by kernel_rfl) (by simp) _ _ _ _ _ _ fun code p n hok hp hn => ?_
  have hp0 := hok.pos
  repeat' (first | (first | (with_reducible first | apply i_seq | apply i_block | apply i_skip | apply i_exit | apply i_ret | apply i_kS | apply i_kSx | apply i_kSr | apply i_kL | apply i_kLx | apply i_kLr | apply i_kB | apply i_kBr | apply i_kBs | apply i_nil) | ((with_reducible apply i_region); (simp only [List.map_cons, List.map_nil] <;> exact rfl)) | ((with_reducible apply i_draw); (simp only [List.map_cons, List.map_nil] <;> exact rfl); decide +kernel) | ((with_reducible apply i_kBo); rfl) | ((first | ((with_reducible apply i_V); rfl; rfl; rfl) | ((first | ((with_reducible apply i_E); rfl) | ((with_reducible apply i_S); rfl)); first | rfl | (simp only [push_cast, ↓reduceIte])) | ((with_reducible apply i_Vq); rfl; rfl) | ((with_reducible apply i_Vp); rfl; rfl; rfl) | (with_reducible first | apply i_Gb | apply i_cond)); (simp (disch := (first | omega | (simp only [push_cast]; first | done | omega))) only [push_cast, ↓reduceIte, Nat.reduceEqDiff, Nat.reduceBEq, Nat.reduceAdd, Nat.reduceSub, Int.reduceToNat, *] <;> with_reducible exact rfl); all_goals try (first | (with_reducible first | refine hyT ?_ | refine hyF ?_ | exact hyA | exact hyB) | (intro hX; first | (cases hX; done) | ((try simp only [decide_eq_true_eq, decide_eq_false_iff_not, Bool.not_eq_true', Bool.not_eq_false'] at hX); (try have hXb := inB_iff.1 hX)))))) | ((with_reducible apply i_drw2 pick_drw (fun _ _ => rfl)); rfl; (simp (disch := (first | omega | (simp only [push_cast]; first | done | omega))) only [push_cast, ↓reduceIte, Nat.reduceEqDiff, Nat.reduceBEq, Nat.reduceAdd, Nat.reduceSub, Int.reduceToNat, *] <;> with_reducible exact rfl); (simp (disch := (first | omega | (simp only [push_cast]; first | done | omega))) only [push_cast, ↓reduceIte, Nat.reduceEqDiff, Nat.reduceBEq, Nat.reduceAdd, Nat.reduceSub, Int.reduceToNat, *] <;> with_reducible exact rfl); (simp (disch := (first | omega | (simp only [push_cast]; first | done | omega))) only [push_cast, ↓reduceIte, Nat.reduceEqDiff, Nat.reduceBEq, Nat.reduceAdd, Nat.reduceSub, Int.reduceToNat, *] <;> with_reducible exact rfl); assumption; omega; (focus (first | trivial | omega)); (focus (first | rfl | (simp only [push_cast, ↓reduceIte]))); intro v pp hv hok hpp1 hpp2) | ((with_reducible apply i_drw2 odd_drw (fun _ _ => rfl)); rfl; (simp (disch := (first | omega | (simp only [push_cast]; first | done | omega))) only [push_cast, ↓reduceIte, Nat.reduceEqDiff, Nat.reduceBEq, Nat.reduceAdd, Nat.reduceSub, Int.reduceToNat, *] <;> with_reducible exact rfl); (simp (disch := (first | omega | (simp only [push_cast]; first | done | omega))) only [push_cast, ↓reduceIte, Nat.reduceEqDiff, Nat.reduceBEq, Nat.reduceAdd, Nat.reduceSub, Int.reduceToNat, *] <;> with_reducible exact rfl); (simp (disch := (first | omega | (simp only [push_cast]; first | done | omega))) only [push_cast, ↓reduceIte, Nat.reduceEqDiff, Nat.reduceBEq, Nat.reduceAdd, Nat.reduceSub, Int.reduceToNat, *] <;> with_reducible exact rfl); assumption; omega; (focus (first | trivial | omega)); (focus (first | rfl | (simp only [push_cast, ↓reduceIte]))); intro v pp hv hok hpp1 hpp2))
  all_goals try ((with_reducible apply i_fin1 (by first | exact .inl rfl | exact .inr rfl)); (focus (simp (disch := (first | omega | (simp only [push_cast]; first | done | omega))) only [push_cast, ↓reduceIte, Nat.reduceEqDiff, Nat.reduceBEq, Nat.reduceAdd, Nat.reduceSub, Int.reduceToNat, rep_iv, rep_sv, rep_w, rep_i3, rep_i4, *] <;> with_reducible exact rfl)); (focus (simp (disch := (first | omega | (simp only [push_cast]; first | done | omega))) only [push_cast, ↓reduceIte, Nat.reduceEqDiff, Nat.reduceBEq, Nat.reduceAdd, Nat.reduceSub, Int.reduceToNat, rep_iv, rep_sv, rep_w, rep_i3, rep_i4, *] <;> with_reducible exact rfl)))
  all_goals try (first | omega | assumption | exact sel_all (p := fun a : ByteArray => a.size ≤ 21) (by decide) (by simp only [List.length_cons, List.length_nil]; omega))
  refine i_loop (α := ByteArray × Int × Int × Nat) mixed (fun s => [(0, .own 0 2 0 0), (5, .val (.string s.1)), (6, iv s.2.1)])
    (fun s => [(0, rdC 52 code s.2.2.1)]) (fun s => s.2.2.2)
    (fun s => okRd code s.2.2.1 ∧ p ≤ s.2.2.1 ∧ s.2.2.1 + s.2.1 ≤ p + 14 ∧ s.1.size + s.2.1 ≤ 10 ∧ 0 ≤ s.2.1 ∧ 0 < s.2.2.2) (fun s => s.2.1.toNat) (by kernel_rfl) (⟨#[]⟩, 1 + v, pp, 1) ⟨hok, ?_⟩ ?_ ?_ rfl ?_
  · have h0 : ((⟨#[]⟩ : ByteArray)).size = 0 := rfl
    dsimp only; omega
  · exact agr
  · exact agr
  rintro ⟨s, k, q, y⟩ ⟨okq, i1, i2, i3, i4, i5⟩
  dsimp only at okq i1 i2 i3 i4 i5
  repeat' (first | (first | (with_reducible first | apply i_seq | apply i_block | apply i_skip | apply i_exit | apply i_ret | apply i_kS | apply i_kSx | apply i_kSr | apply i_kL | apply i_kLx | apply i_kLr | apply i_kB | apply i_kBr | apply i_kBs | apply i_nil) | ((with_reducible apply i_region); (simp only [List.map_cons, List.map_nil] <;> exact rfl)) | ((with_reducible apply i_draw); (simp only [List.map_cons, List.map_nil] <;> exact rfl); decide +kernel) | ((with_reducible apply i_kBo); rfl) | ((first | ((with_reducible apply i_V); rfl; rfl; rfl) | ((first | ((with_reducible apply i_E); rfl) | ((with_reducible apply i_S); rfl)); first | rfl | (simp only [push_cast, ↓reduceIte])) | ((with_reducible apply i_Vq); rfl; rfl) | ((with_reducible apply i_Vp); rfl; rfl; rfl) | (with_reducible first | apply i_Gb | apply i_cond)); (simp (disch := (first | omega | (simp only [push_cast]; first | done | omega))) only [push_cast, ↓reduceIte, Nat.reduceEqDiff, Nat.reduceBEq, Nat.reduceAdd, Nat.reduceSub, Int.reduceToNat, *] <;> with_reducible exact rfl); all_goals try (first | (with_reducible first | refine hyT ?_ | refine hyF ?_ | exact hyA | exact hyB) | (intro hX; first | (cases hX; done) | ((try simp only [decide_eq_true_eq, decide_eq_false_iff_not, Bool.not_eq_true', Bool.not_eq_false'] at hX); (try have hXb := inB_iff.1 hX)))))) | ((with_reducible apply i_drw2 pick_drw (fun _ _ => rfl)); rfl; (simp (disch := (first | omega | (simp only [push_cast]; first | done | omega))) only [push_cast, ↓reduceIte, Nat.reduceEqDiff, Nat.reduceBEq, Nat.reduceAdd, Nat.reduceSub, Int.reduceToNat, *] <;> with_reducible exact rfl); (simp (disch := (first | omega | (simp only [push_cast]; first | done | omega))) only [push_cast, ↓reduceIte, Nat.reduceEqDiff, Nat.reduceBEq, Nat.reduceAdd, Nat.reduceSub, Int.reduceToNat, *] <;> with_reducible exact rfl); (simp (disch := (first | omega | (simp only [push_cast]; first | done | omega))) only [push_cast, ↓reduceIte, Nat.reduceEqDiff, Nat.reduceBEq, Nat.reduceAdd, Nat.reduceSub, Int.reduceToNat, *] <;> with_reducible exact rfl); assumption; omega; (focus (first | trivial | omega)); (focus (first | rfl | (simp only [push_cast, ↓reduceIte]))); intro v pp hv hok hpp1 hpp2))
  all_goals try ((with_reducible apply i_fin1 (by first | exact .inl rfl | exact .inr rfl)); (focus (simp (disch := (first | omega | (simp only [push_cast]; first | done | omega))) only [push_cast, ↓reduceIte, Nat.reduceEqDiff, Nat.reduceBEq, Nat.reduceAdd, Nat.reduceSub, Int.reduceToNat, rep_iv, rep_sv, rep_w, rep_i3, rep_i4, *] <;> with_reducible exact rfl)); (focus (simp (disch := (first | omega | (simp only [push_cast]; first | done | omega))) only [push_cast, ↓reduceIte, Nat.reduceEqDiff, Nat.reduceBEq, Nat.reduceAdd, Nat.reduceSub, Int.reduceToNat, rep_iv, rep_sv, rep_w, rep_i3, rep_i4, *] <;> with_reducible exact rfl)))
  all_goals try (first | omega | assumption)
  refine ⟨(s ++ bytesOf [IntKind.u8.wrap (97 + v)], k - 1, pp, y + 1), ⟨hok, ?_⟩, ?_, ?_, ?_, rfl⟩
  · simp only [ByteArray.size_append, size_bytesOf, List.length_cons, List.length_nil]; omega
  · dsimp only; omega
  · exact agr
  · exact agr
noncomputable def Φtext : FunIO := Classical.choose text_ex
theorem text_io : SoundIO Tryd.prog 28 Φtext := (Classical.choose_spec text_ex).1
theorem text_drw : Drw2 52 Φtext 700000000 15 EStr (fun n => 0 ≤ n ∧ n ≤ 1000) (fun _ s => s.size ≤ 21) := (Classical.choose_spec text_ex).2
abbrev ESs (l : LS) : PV := .lst true 1 (l.map fun s => PV.val (.string s))
def okT (n : Nat) (l : LS) : Prop := l.length ≤ n ∧ ∀ s ∈ l, s.size ≤ 21
theorem okT_app {l : LS} {a : ByteArray} {m n : Nat} (h : l.length ≤ m) (hn : m < n) (h1 : ∀ s ∈ l, s.size ≤ 21) (h2 : a.size ≤ 21) : okT n (l ++ [a]) := by
  refine ⟨by simp; omega, fun x hx => ?_⟩
  rcases List.mem_append.1 hx with hx | hx
  · exact h1 x hx
  · simp only [List.mem_singleton] at hx
    subst hx
    exact h2
noncomputable def GRw : Ctx := { fn := fun f => none, io := fun f => if f = 19 then some Φpick else if f = 20 then some Φodd else if f = 28 then some Φtext else none }
theorem GRw_ok : SoundΓ Tryd.prog GRw := ⟨(fun f φ h => by
  unfold GRw at h
  dsimp only at h
  cases h), (fun f φ h => by
  unfold GRw at h
  dsimp only at h
  split at h
  · rename_i hf; cases h; subst hf; exact ⟨⟨_, Tryd.func19, rfl, rfl⟩, pick_io⟩
  split at h
  · rename_i hf; cases h; subst hf; exact ⟨⟨_, Tryd.func20, rfl, rfl⟩, odd_io⟩
  split at h
  · rename_i hf; cases h; subst hf; exact ⟨⟨_, Tryd.func28, rfl, rfl⟩, text_io⟩
  cases h), rfl⟩
set_option maxHeartbeats 8000000 in
theorem words_ex : ∃ Φ : FunIO, SoundIO Tryd.prog 17 Φ ∧ Drw2 52 Φ 600000000 200 ESs (fun n => 0 ≤ n ∧ n ≤ 1000) (fun _ l => okT 13 l) := by
  refine drw2_of mixed GRw_ok Tryd.func17 rfl 37 rfl [.tmp 4] rfl (by kernel_rfl) (by simp) _ _ _ _ _ _ fun code p n hok hp hn => ?_
  have hp0 := hok.pos
  repeat' (first | (first | (with_reducible first | apply i_seq | apply i_block | apply i_skip | apply i_exit | apply i_ret | apply i_kS | apply i_kSx | apply i_kSr | apply i_kL | apply i_kLx | apply i_kLr | apply i_kB | apply i_kBr | apply i_kBs | apply i_nil) | ((with_reducible apply i_region); (simp only [List.map_cons, List.map_nil] <;> exact rfl)) | ((with_reducible apply i_draw); (simp only [List.map_cons, List.map_nil] <;> exact rfl); decide +kernel) | ((with_reducible apply i_kBo); rfl) | ((first | ((with_reducible apply i_V); rfl; rfl; rfl) | ((first | ((with_reducible apply i_E); rfl) | ((with_reducible apply i_S); rfl)); first | rfl | (simp only [push_cast, ↓reduceIte])) | ((with_reducible apply i_Vq); rfl; rfl) | ((with_reducible apply i_Vp); rfl; rfl; rfl) | (with_reducible first | apply i_Gb | apply i_cond)); (simp (disch := (first | omega | (simp only [push_cast]; first | done | omega))) only [push_cast, ↓reduceIte, Nat.reduceEqDiff, Nat.reduceBEq, Nat.reduceAdd, Nat.reduceSub, Int.reduceToNat, *] <;> with_reducible exact rfl); all_goals try (first | (with_reducible first | refine hyT ?_ | refine hyF ?_ | exact hyA | exact hyB) | (intro hX; first | (cases hX; done) | ((try simp only [decide_eq_true_eq, decide_eq_false_iff_not, Bool.not_eq_true', Bool.not_eq_false'] at hX); (try have hXb := inB_iff.1 hX)))))) | ((with_reducible apply i_drw2 pick_drw (fun _ _ => rfl)); rfl; (simp (disch := (first | omega | (simp only [push_cast]; first | done | omega))) only [push_cast, ↓reduceIte, Nat.reduceEqDiff, Nat.reduceBEq, Nat.reduceAdd, Nat.reduceSub, Int.reduceToNat, *] <;> with_reducible exact rfl); (simp (disch := (first | omega | (simp only [push_cast]; first | done | omega))) only [push_cast, ↓reduceIte, Nat.reduceEqDiff, Nat.reduceBEq, Nat.reduceAdd, Nat.reduceSub, Int.reduceToNat, *] <;> with_reducible exact rfl); (simp (disch := (first | omega | (simp only [push_cast]; first | done | omega))) only [push_cast, ↓reduceIte, Nat.reduceEqDiff, Nat.reduceBEq, Nat.reduceAdd, Nat.reduceSub, Int.reduceToNat, *] <;> with_reducible exact rfl); assumption; omega; (focus (first | trivial | omega)); (focus (first | rfl | (simp only [push_cast, ↓reduceIte]))); intro v pp hv hok hpp1 hpp2) | ((with_reducible apply i_drw2 odd_drw (fun _ _ => rfl)); rfl; (simp (disch := (first | omega | (simp only [push_cast]; first | done | omega))) only [push_cast, ↓reduceIte, Nat.reduceEqDiff, Nat.reduceBEq, Nat.reduceAdd, Nat.reduceSub, Int.reduceToNat, *] <;> with_reducible exact rfl); (simp (disch := (first | omega | (simp only [push_cast]; first | done | omega))) only [push_cast, ↓reduceIte, Nat.reduceEqDiff, Nat.reduceBEq, Nat.reduceAdd, Nat.reduceSub, Int.reduceToNat, *] <;> with_reducible exact rfl); (simp (disch := (first | omega | (simp only [push_cast]; first | done | omega))) only [push_cast, ↓reduceIte, Nat.reduceEqDiff, Nat.reduceBEq, Nat.reduceAdd, Nat.reduceSub, Int.reduceToNat, *] <;> with_reducible exact rfl); assumption; omega; (focus (first | trivial | omega)); (focus (first | rfl | (simp only [push_cast, ↓reduceIte]))); intro v pp hv hok hpp1 hpp2) | ((with_reducible apply i_drw2 text_drw (fun _ _ => by simp only [push_cast, ↓reduceIte, Nat.reduceEqDiff, Nat.reduceBEq, Nat.reduceAdd, Nat.reduceSub, Int.reduceToNat])); (focus rfl); (focus (simp (disch := (first | omega | (simp only [push_cast]; first | done | omega))) only [push_cast, ↓reduceIte, Nat.reduceEqDiff, Nat.reduceBEq, Nat.reduceAdd, Nat.reduceSub, Int.reduceToNat, *] <;> with_reducible exact rfl)); (focus (simp (disch := (first | omega | (simp only [push_cast]; first | done | omega))) only [push_cast, ↓reduceIte, Nat.reduceEqDiff, Nat.reduceBEq, Nat.reduceAdd, Nat.reduceSub, Int.reduceToNat, *] <;> with_reducible exact rfl)); (focus (simp (disch := (first | omega | (simp only [push_cast]; first | done | omega))) only [push_cast, ↓reduceIte, Nat.reduceEqDiff, Nat.reduceBEq, Nat.reduceAdd, Nat.reduceSub, Int.reduceToNat, *] <;> with_reducible exact rfl)); (focus assumption); (focus omega); (focus (first | trivial | omega)); (focus (first | rfl | (simp only [push_cast, ↓reduceIte]))); intro v pp hv hok hpp1 hpp2))
  rename_i h0
  refine i_loop (α := LS × Int × Int × Nat × Nat) mixed (fun s => [(0, .own 0 2 0 0), (1, iv n), (5, .row s.2.2.2.1 1 0 s.1.length), (6, iv s.2.1)])
    (fun s => [(0, rdC 52 code s.2.2.1), (s.2.2.2.1, 9, 1, s.1.map fun s => PV.val (.string s))]) (fun s => s.2.2.2.2)
    (fun s => okRd code s.2.2.1 ∧ (∀ x ∈ s.1, x.size ≤ 21) ∧ p ≤ s.2.2.1 ∧ s.2.2.1 + 15 * s.2.1 ≤ p + 110 ∧ s.1.length + s.2.1 ≤ 8 ∧ 0 ≤ s.2.1 ∧ 0 < s.2.2.2.1 ∧ s.2.2.2.1 < s.2.2.2.2) (fun s => s.2.1.toNat) (by kernel_rfl) ([], v, pp, 1, 2) ⟨hok, by simp, ?_⟩ ?_ ?_ rfl ?_
  · dsimp only [List.length_nil]; omega
  · exact agr
  · exact agr
  rintro ⟨l, k, q, x, y⟩ ⟨okq, hl, i1, i2, i3, i4, i5, i6⟩
  dsimp only at okq hl i1 i2 i3 i4 i5 i6
  clear hok h0
  repeat' (first | (first | (with_reducible first | apply i_seq | apply i_block | apply i_skip | apply i_exit | apply i_ret | apply i_kS | apply i_kSx | apply i_kSr | apply i_kL | apply i_kLx | apply i_kLr | apply i_kB | apply i_kBr | apply i_kBs | apply i_nil) | ((with_reducible apply i_region); (simp only [List.map_cons, List.map_nil] <;> exact rfl)) | ((with_reducible apply i_draw); (simp only [List.map_cons, List.map_nil] <;> exact rfl); decide +kernel) | ((with_reducible apply i_kBo); rfl) | ((first | ((with_reducible apply i_V); rfl; rfl; rfl) | ((first | ((with_reducible apply i_E); rfl) | ((with_reducible apply i_S); rfl)); first | rfl | (simp only [push_cast, ↓reduceIte])) | ((with_reducible apply i_Vq); rfl; rfl) | ((with_reducible apply i_Vp); rfl; rfl; rfl) | (with_reducible first | apply i_Gb | apply i_cond)); (simp (disch := (first | omega | (simp only [push_cast]; first | done | omega))) only [push_cast, ↓reduceIte, Nat.reduceEqDiff, Nat.reduceBEq, Nat.reduceAdd, Nat.reduceSub, Int.reduceToNat, *] <;> with_reducible exact rfl); all_goals try (first | (with_reducible first | refine hyT ?_ | refine hyF ?_ | exact hyA | exact hyB) | (intro hX; first | (cases hX; done) | ((try simp only [decide_eq_true_eq, decide_eq_false_iff_not, Bool.not_eq_true', Bool.not_eq_false'] at hX); (try have hXb := inB_iff.1 hX)))))) | ((with_reducible apply i_drw2 pick_drw (fun _ _ => rfl)); rfl; (simp (disch := (first | omega | (simp only [push_cast]; first | done | omega))) only [push_cast, ↓reduceIte, Nat.reduceEqDiff, Nat.reduceBEq, Nat.reduceAdd, Nat.reduceSub, Int.reduceToNat, *] <;> with_reducible exact rfl); (simp (disch := (first | omega | (simp only [push_cast]; first | done | omega))) only [push_cast, ↓reduceIte, Nat.reduceEqDiff, Nat.reduceBEq, Nat.reduceAdd, Nat.reduceSub, Int.reduceToNat, *] <;> with_reducible exact rfl); (simp (disch := (first | omega | (simp only [push_cast]; first | done | omega))) only [push_cast, ↓reduceIte, Nat.reduceEqDiff, Nat.reduceBEq, Nat.reduceAdd, Nat.reduceSub, Int.reduceToNat, *] <;> with_reducible exact rfl); assumption; omega; (focus (first | trivial | omega)); (focus (first | rfl | (simp only [push_cast, ↓reduceIte]))); intro v pp hv hok hpp1 hpp2) | ((with_reducible apply i_drw2 odd_drw (fun _ _ => rfl)); rfl; (simp (disch := (first | omega | (simp only [push_cast]; first | done | omega))) only [push_cast, ↓reduceIte, Nat.reduceEqDiff, Nat.reduceBEq, Nat.reduceAdd, Nat.reduceSub, Int.reduceToNat, *] <;> with_reducible exact rfl); (simp (disch := (first | omega | (simp only [push_cast]; first | done | omega))) only [push_cast, ↓reduceIte, Nat.reduceEqDiff, Nat.reduceBEq, Nat.reduceAdd, Nat.reduceSub, Int.reduceToNat, *] <;> with_reducible exact rfl); (simp (disch := (first | omega | (simp only [push_cast]; first | done | omega))) only [push_cast, ↓reduceIte, Nat.reduceEqDiff, Nat.reduceBEq, Nat.reduceAdd, Nat.reduceSub, Int.reduceToNat, *] <;> with_reducible exact rfl); assumption; omega; (focus (first | trivial | omega)); (focus (first | rfl | (simp only [push_cast, ↓reduceIte]))); intro v pp hv hok hpp1 hpp2) | ((with_reducible apply i_drw2 text_drw (fun _ _ => by simp only [push_cast, ↓reduceIte, Nat.reduceEqDiff, Nat.reduceBEq, Nat.reduceAdd, Nat.reduceSub, Int.reduceToNat])); (focus rfl); (focus (simp (disch := (first | omega | (simp only [push_cast]; first | done | omega))) only [push_cast, ↓reduceIte, Nat.reduceEqDiff, Nat.reduceBEq, Nat.reduceAdd, Nat.reduceSub, Int.reduceToNat, *] <;> with_reducible exact rfl)); (focus (simp (disch := (first | omega | (simp only [push_cast]; first | done | omega))) only [push_cast, ↓reduceIte, Nat.reduceEqDiff, Nat.reduceBEq, Nat.reduceAdd, Nat.reduceSub, Int.reduceToNat, *] <;> with_reducible exact rfl)); (focus (simp (disch := (first | omega | (simp only [push_cast]; first | done | omega))) only [push_cast, ↓reduceIte, Nat.reduceEqDiff, Nat.reduceBEq, Nat.reduceAdd, Nat.reduceSub, Int.reduceToNat, *] <;> with_reducible exact rfl)); (focus assumption); (focus omega); (focus (first | trivial | omega)); (focus (first | rfl | (simp only [push_cast, ↓reduceIte]))); intro v pp hv hok hpp1 hpp2))
  all_goals try ((with_reducible apply i_fin1 (by first | exact .inl rfl | exact .inr rfl)); (focus (simp (disch := (first | omega | (simp only [push_cast]; first | done | omega))) only [push_cast, ↓reduceIte, Nat.reduceEqDiff, Nat.reduceBEq, Nat.reduceAdd, Nat.reduceSub, Int.reduceToNat, rep_iv, rep_sv, rep_w, rep_i3, rep_i4, *] <;> with_reducible exact rfl)); (focus (simp (disch := (first | omega | (simp only [push_cast]; first | done | omega))) only [push_cast, ↓reduceIte, Nat.reduceEqDiff, Nat.reduceBEq, Nat.reduceAdd, Nat.reduceSub, Int.reduceToNat, rep_iv, rep_sv, rep_w, rep_i3, rep_i4, *] <;> with_reducible exact rfl)))
  all_goals try (first | omega | assumption | exact ⟨by omega, by assumption⟩ | exact okT_app (m := 12) (by omega) (by omega) (by assumption) (by assumption))
  · refine ⟨(l ++ [v], k - 1, pp, y + 1, y + 2), ⟨hok, (okT_app (m := 8) (n := 9) (by omega) (by omega) hl (by assumption)).2, ?_⟩, ?_, ?_, ?_, rfl⟩
    · simp only [List.length_append, List.length_cons, List.length_nil]; omega
    · dsimp only; omega
    all_goals exact agr
  refine i_loop (α := LS × Nat × Nat) mixed (fun s => [(0, .own 0 2 0 0), (5, .row s.2.1 1 0 s.1.length)])
    (fun s => [(0, rdC 52 code pp), (s.2.1, 9, 1, s.1.map fun s => PV.val (.string s))]) (fun s => s.2.2)
    (fun s => (∀ x ∈ s.1, x.size ≤ 21) ∧ s.1.length ≤ 13 ∧ 0 < s.2.1 ∧ s.2.1 < s.2.2) (fun s => 13 - s.1.length) (by kernel_rfl) (l, x, y) ⟨hl, ?_⟩ ?_ ?_ rfl ?_
  · dsimp only; omega
  · exact agr
  · exact agr
  rintro ⟨l2, x2, y2⟩ ⟨hl2, j1, j2, j3⟩
  dsimp only at hl2 j1 j2 j3
  clear hl
  repeat' (first | (first | (with_reducible first | apply i_seq | apply i_block | apply i_skip | apply i_exit | apply i_ret | apply i_kS | apply i_kSx | apply i_kSr | apply i_kL | apply i_kLx | apply i_kLr | apply i_kB | apply i_kBr | apply i_kBs | apply i_nil) | ((with_reducible apply i_region); (simp only [List.map_cons, List.map_nil] <;> exact rfl)) | ((with_reducible apply i_draw); (simp only [List.map_cons, List.map_nil] <;> exact rfl); decide +kernel) | ((with_reducible apply i_kBo); rfl) | ((first | ((with_reducible apply i_V); rfl; rfl; rfl) | ((first | ((with_reducible apply i_E); rfl) | ((with_reducible apply i_S); rfl)); first | rfl | (simp only [push_cast, ↓reduceIte])) | ((with_reducible apply i_Vq); rfl; rfl) | ((with_reducible apply i_Vp); rfl; rfl; rfl) | (with_reducible first | apply i_Gb | apply i_cond)); (simp (disch := (first | omega | (simp only [push_cast]; first | done | omega))) only [push_cast, ↓reduceIte, Nat.reduceEqDiff, Nat.reduceBEq, Nat.reduceAdd, Nat.reduceSub, Int.reduceToNat, *] <;> with_reducible exact rfl); all_goals try (first | (with_reducible first | refine hyT ?_ | refine hyF ?_ | exact hyA | exact hyB) | (intro hX; first | (cases hX; done) | ((try simp only [decide_eq_true_eq, decide_eq_false_iff_not, Bool.not_eq_true', Bool.not_eq_false'] at hX); (try have hXb := inB_iff.1 hX)))))) | ((with_reducible apply i_drw2 pick_drw (fun _ _ => rfl)); rfl; (simp (disch := (first | omega | (simp only [push_cast]; first | done | omega))) only [push_cast, ↓reduceIte, Nat.reduceEqDiff, Nat.reduceBEq, Nat.reduceAdd, Nat.reduceSub, Int.reduceToNat, *] <;> with_reducible exact rfl); (simp (disch := (first | omega | (simp only [push_cast]; first | done | omega))) only [push_cast, ↓reduceIte, Nat.reduceEqDiff, Nat.reduceBEq, Nat.reduceAdd, Nat.reduceSub, Int.reduceToNat, *] <;> with_reducible exact rfl); (simp (disch := (first | omega | (simp only [push_cast]; first | done | omega))) only [push_cast, ↓reduceIte, Nat.reduceEqDiff, Nat.reduceBEq, Nat.reduceAdd, Nat.reduceSub, Int.reduceToNat, *] <;> with_reducible exact rfl); assumption; omega; (focus (first | trivial | omega)); (focus (first | rfl | (simp only [push_cast, ↓reduceIte]))); intro v pp hv hok hpp1 hpp2))
  all_goals try ((with_reducible apply i_fin1 (by first | exact .inl rfl | exact .inr rfl)); (focus (simp (disch := (first | omega | (simp only [push_cast]; first | done | omega))) only [push_cast, ↓reduceIte, Nat.reduceEqDiff, Nat.reduceBEq, Nat.reduceAdd, Nat.reduceSub, Int.reduceToNat, rep_iv, rep_sv, rep_w, rep_i3, rep_i4, *] <;> with_reducible exact rfl)); (focus (simp (disch := (first | omega | (simp only [push_cast]; first | done | omega))) only [push_cast, ↓reduceIte, Nat.reduceEqDiff, Nat.reduceBEq, Nat.reduceAdd, Nat.reduceSub, Int.reduceToNat, rep_iv, rep_sv, rep_w, rep_i3, rep_i4, *] <;> with_reducible exact rfl)))
  all_goals try (first | omega | assumption | exact ⟨by omega, by assumption⟩)
  refine ⟨(l2 ++ [⟨#[111, 102]⟩], y2 + 1, y2 + 2), ⟨(okT_app (m := 12) (n := 13) (by omega) (by omega) hl2 (by decide)).2, ?_⟩, ?_, ?_, ?_, rfl⟩
  · simp only [List.length_append, List.length_cons, List.length_nil]; omega
  · simp only [List.length_append, List.length_cons, List.length_nil]; omega
  all_goals exact agr
noncomputable def Φwords : FunIO := Classical.choose words_ex
theorem words_io : SoundIO Tryd.prog 17 Φwords := (Classical.choose_spec words_ex).1
theorem words_drw : Drw2 52 Φwords 600000000 200 ESs (fun n => 0 ≤ n ∧ n ≤ 1000) (fun _ l => okT 13 l) := (Classical.choose_spec words_ex).2
set_option maxHeartbeats 8000000 in
theorem pattern_ex : ∃ Φ : FunIO, SoundIO Tryd.prog 29 Φ ∧ Drw2 52 Φ 700000000 15 EStr (fun n => 0 ≤ n ∧ n ≤ 1000) (fun _ s => s.size ≤ 21) := by
  refine drw2_of mixed GRd_ok Tryd.func29 rfl 18 rfl [.tmp 4] rfl (by kernel_rfl) (by simp) _ _ _ _ _ _ fun code p n hok hp hn => ?_
  have hp0 := hok.pos
  repeat' (first | (first | (with_reducible first | apply i_seq | apply i_block | apply i_skip | apply i_exit | apply i_ret | apply i_kS | apply i_kSx | apply i_kSr | apply i_kL | apply i_kLx | apply i_kLr | apply i_kB | apply i_kBr | apply i_kBs | apply i_nil) | ((with_reducible apply i_region); (simp only [List.map_cons, List.map_nil] <;> exact rfl)) | ((with_reducible apply i_draw); (simp only [List.map_cons, List.map_nil] <;> exact rfl); decide +kernel) | ((with_reducible apply i_kBo); rfl) | ((first | ((with_reducible apply i_V); rfl; rfl; rfl) | ((first | ((with_reducible apply i_E); rfl) | ((with_reducible apply i_S); rfl)); first | rfl | (simp only [push_cast, ↓reduceIte])) | ((with_reducible apply i_Vq); rfl; rfl) | ((with_reducible apply i_Vp); rfl; rfl; rfl) | (with_reducible first | apply i_Gb | apply i_cond)); (simp (disch := (first | omega | (simp only [push_cast]; first | done | omega))) only [push_cast, ↓reduceIte, Nat.reduceEqDiff, Nat.reduceBEq, Nat.reduceAdd, Nat.reduceSub, Int.reduceToNat, *] <;> with_reducible exact rfl); all_goals try (first | (with_reducible first | refine hyT ?_ | refine hyF ?_ | exact hyA | exact hyB) | (intro hX; first | (cases hX; done) | ((try simp only [decide_eq_true_eq, decide_eq_false_iff_not, Bool.not_eq_true', Bool.not_eq_false'] at hX); (try have hXb := inB_iff.1 hX)))))) | ((with_reducible apply i_drw2 pick_drw (fun _ _ => rfl)); rfl; (simp (disch := (first | omega | (simp only [push_cast]; first | done | omega))) only [push_cast, ↓reduceIte, Nat.reduceEqDiff, Nat.reduceBEq, Nat.reduceAdd, Nat.reduceSub, Int.reduceToNat, *] <;> with_reducible exact rfl); (simp (disch := (first | omega | (simp only [push_cast]; first | done | omega))) only [push_cast, ↓reduceIte, Nat.reduceEqDiff, Nat.reduceBEq, Nat.reduceAdd, Nat.reduceSub, Int.reduceToNat, *] <;> with_reducible exact rfl); (simp (disch := (first | omega | (simp only [push_cast]; first | done | omega))) only [push_cast, ↓reduceIte, Nat.reduceEqDiff, Nat.reduceBEq, Nat.reduceAdd, Nat.reduceSub, Int.reduceToNat, *] <;> with_reducible exact rfl); assumption; omega; (focus (first | trivial | omega)); (focus (first | rfl | (simp only [push_cast, ↓reduceIte]))); intro v pp hv hok hpp1 hpp2) | ((with_reducible apply i_drw2 odd_drw (fun _ _ => rfl)); rfl; (simp (disch := (first | omega | (simp only [push_cast]; first | done | omega))) only [push_cast, ↓reduceIte, Nat.reduceEqDiff, Nat.reduceBEq, Nat.reduceAdd, Nat.reduceSub, Int.reduceToNat, *] <;> with_reducible exact rfl); (simp (disch := (first | omega | (simp only [push_cast]; first | done | omega))) only [push_cast, ↓reduceIte, Nat.reduceEqDiff, Nat.reduceBEq, Nat.reduceAdd, Nat.reduceSub, Int.reduceToNat, *] <;> with_reducible exact rfl); (simp (disch := (first | omega | (simp only [push_cast]; first | done | omega))) only [push_cast, ↓reduceIte, Nat.reduceEqDiff, Nat.reduceBEq, Nat.reduceAdd, Nat.reduceSub, Int.reduceToNat, *] <;> with_reducible exact rfl); assumption; omega; (focus (first | trivial | omega)); (focus (first | rfl | (simp only [push_cast, ↓reduceIte]))); intro v pp hv hok hpp1 hpp2))
  all_goals try ((with_reducible apply i_fin1 (by first | exact .inl rfl | exact .inr rfl)); (focus (simp (disch := (first | omega | (simp only [push_cast]; first | done | omega))) only [push_cast, ↓reduceIte, Nat.reduceEqDiff, Nat.reduceBEq, Nat.reduceAdd, Nat.reduceSub, Int.reduceToNat, rep_iv, rep_sv, rep_w, rep_i3, rep_i4, *] <;> with_reducible exact rfl)); (focus (simp (disch := (first | omega | (simp only [push_cast]; first | done | omega))) only [push_cast, ↓reduceIte, Nat.reduceEqDiff, Nat.reduceBEq, Nat.reduceAdd, Nat.reduceSub, Int.reduceToNat, rep_iv, rep_sv, rep_w, rep_i3, rep_i4, *] <;> with_reducible exact rfl)))
  all_goals try (first | omega | assumption | exact sel_all (p := fun a : ByteArray => a.size ≤ 21) (by decide) (by simp only [List.length_cons, List.length_nil]; omega))
noncomputable def Φpattern : FunIO := Classical.choose pattern_ex
theorem pattern_io : SoundIO Tryd.prog 29 Φpattern := (Classical.choose_spec pattern_ex).1
theorem pattern_drw : Drw2 52 Φpattern 700000000 15 EStr (fun n => 0 ≤ n ∧ n ≤ 1000) (fun _ s => s.size ≤ 21) := (Classical.choose_spec pattern_ex).2
abbrev EStrs (o : Nat) (l : LS) : PV := .row o 1 0 l.length
abbrev OStrs (l : LS) : CellIO := (9, 1, l.map fun s => .val (.string s))
attribute [push_cast]
  EStrs List.length_append
theorem patterns_hE : ∀ (o nx : Nat) (a : LS), renF (outF [o] nx) fuel (EStrs 1 a) = some (EStrs nx a) := fun o nx a => by
  simp only [renS_fuel, renS_row, outF_1n, Option.map_some]
theorem patterns_hO : ∀ (nm : Nat → Option Nat) (a : LS), (OStrs a).2.2.mapM (renF nm fuel) = some (OStrs a).2.2 := fun nm a => by
  show (a.map fun s => PV.val (.string s)).mapM (renF nm 8) = _
  rw [renM_vals]
noncomputable def GRp : Ctx := { fn := fun f => none, io := fun f => if f = 19 then some Φpick else if f = 20 then some Φodd else if f = 29 then some Φpattern else none }
theorem GRp_ok : SoundΓ Tryd.prog GRp := ⟨(fun f φ h => by
  unfold GRp at h
  dsimp only at h
  cases h), (fun f φ h => by
  unfold GRp at h
  dsimp only at h
  split at h
  · rename_i hf; cases h; subst hf; exact ⟨⟨_, Tryd.func19, rfl, rfl⟩, pick_io⟩
  split at h
  · rename_i hf; cases h; subst hf; exact ⟨⟨_, Tryd.func20, rfl, rfl⟩, odd_io⟩
  split at h
  · rename_i hf; cases h; subst hf; exact ⟨⟨_, Tryd.func29, rfl, rfl⟩, pattern_io⟩
  cases h), rfl⟩
set_option maxHeartbeats 8000000 in
theorem patterns_ex : ∃ Φ : FunIO, SoundIO Tryd.prog 18 Φ ∧ Drw2N 52 Φ 600000000 200 EStrs OStrs (fun n => 0 ≤ n ∧ n ≤ 1000) (fun _ l => okT 21 l) := by
  refine drw2N_of mixed GRp_ok Tryd.func18 rfl 37 rfl [.tmp 4] rfl (by kernel_rfl) (by simp) _ _ _ _ _ _ _ fun code p n hok hp hn => ?_
  have hp0 := hok.pos
  repeat' (first | (first | (with_reducible first | apply i_seq | apply i_block | apply i_skip | apply i_exit | apply i_ret | apply i_kS | apply i_kSx | apply i_kSr | apply i_kL | apply i_kLx | apply i_kLr | apply i_kB | apply i_kBr | apply i_kBs | apply i_nil) | ((with_reducible apply i_region); (simp only [List.map_cons, List.map_nil] <;> exact rfl)) | ((with_reducible apply i_draw); (simp only [List.map_cons, List.map_nil] <;> exact rfl); decide +kernel) | ((with_reducible apply i_kBo); rfl) | ((first | ((with_reducible apply i_V); rfl; rfl; rfl) | ((first | ((with_reducible apply i_E); rfl) | ((with_reducible apply i_S); rfl)); first | rfl | (simp only [push_cast, ↓reduceIte])) | ((with_reducible apply i_Vq); rfl; rfl) | ((with_reducible apply i_Vp); rfl; rfl; rfl) | (with_reducible first | apply i_Gb | apply i_cond)); (simp (disch := (first | omega | (simp only [push_cast]; first | done | omega))) only [push_cast, ↓reduceIte, Nat.reduceEqDiff, Nat.reduceBEq, Nat.reduceAdd, Nat.reduceSub, Int.reduceToNat, *] <;> with_reducible exact rfl); all_goals try (first | (with_reducible first | refine hyT ?_ | refine hyF ?_ | exact hyA | exact hyB) | (intro hX; first | (cases hX; done) | ((try simp only [decide_eq_true_eq, decide_eq_false_iff_not, Bool.not_eq_true', Bool.not_eq_false'] at hX); (try have hXb := inB_iff.1 hX)))))) | ((with_reducible apply i_drw2 pick_drw (fun _ _ => rfl)); rfl; (simp (disch := (first | omega | (simp only [push_cast]; first | done | omega))) only [push_cast, ↓reduceIte, Nat.reduceEqDiff, Nat.reduceBEq, Nat.reduceAdd, Nat.reduceSub, Int.reduceToNat, *] <;> with_reducible exact rfl); (simp (disch := (first | omega | (simp only [push_cast]; first | done | omega))) only [push_cast, ↓reduceIte, Nat.reduceEqDiff, Nat.reduceBEq, Nat.reduceAdd, Nat.reduceSub, Int.reduceToNat, *] <;> with_reducible exact rfl); (simp (disch := (first | omega | (simp only [push_cast]; first | done | omega))) only [push_cast, ↓reduceIte, Nat.reduceEqDiff, Nat.reduceBEq, Nat.reduceAdd, Nat.reduceSub, Int.reduceToNat, *] <;> with_reducible exact rfl); assumption; omega; (focus (first | trivial | omega)); (focus (first | rfl | (simp only [push_cast, ↓reduceIte]))); intro v pp hv hok hpp1 hpp2) | ((with_reducible apply i_drw2 odd_drw (fun _ _ => rfl)); rfl; (simp (disch := (first | omega | (simp only [push_cast]; first | done | omega))) only [push_cast, ↓reduceIte, Nat.reduceEqDiff, Nat.reduceBEq, Nat.reduceAdd, Nat.reduceSub, Int.reduceToNat, *] <;> with_reducible exact rfl); (simp (disch := (first | omega | (simp only [push_cast]; first | done | omega))) only [push_cast, ↓reduceIte, Nat.reduceEqDiff, Nat.reduceBEq, Nat.reduceAdd, Nat.reduceSub, Int.reduceToNat, *] <;> with_reducible exact rfl); (simp (disch := (first | omega | (simp only [push_cast]; first | done | omega))) only [push_cast, ↓reduceIte, Nat.reduceEqDiff, Nat.reduceBEq, Nat.reduceAdd, Nat.reduceSub, Int.reduceToNat, *] <;> with_reducible exact rfl); assumption; omega; (focus (first | trivial | omega)); (focus (first | rfl | (simp only [push_cast, ↓reduceIte]))); intro v pp hv hok hpp1 hpp2) | ((with_reducible apply i_drw2 pattern_drw (fun _ _ => by simp only [push_cast, ↓reduceIte, Nat.reduceEqDiff, Nat.reduceBEq, Nat.reduceAdd, Nat.reduceSub, Int.reduceToNat])); (focus rfl); (focus (simp (disch := (first | omega | (simp only [push_cast]; first | done | omega))) only [push_cast, ↓reduceIte, Nat.reduceEqDiff, Nat.reduceBEq, Nat.reduceAdd, Nat.reduceSub, Int.reduceToNat, *] <;> with_reducible exact rfl)); (focus (simp (disch := (first | omega | (simp only [push_cast]; first | done | omega))) only [push_cast, ↓reduceIte, Nat.reduceEqDiff, Nat.reduceBEq, Nat.reduceAdd, Nat.reduceSub, Int.reduceToNat, *] <;> with_reducible exact rfl)); (focus (simp (disch := (first | omega | (simp only [push_cast]; first | done | omega))) only [push_cast, ↓reduceIte, Nat.reduceEqDiff, Nat.reduceBEq, Nat.reduceAdd, Nat.reduceSub, Int.reduceToNat, *] <;> with_reducible exact rfl)); (focus assumption); (focus omega); (focus (first | trivial | omega)); (focus (first | rfl | (simp only [push_cast, ↓reduceIte]))); intro v pp hv hok hpp1 hpp2))
  rename_i h0
  refine i_loop (α := LS × Int × Int × Nat × Nat) mixed (fun s => [(0, .own 0 2 0 0), (1, iv n), (5, .row s.2.2.2.1 1 0 s.1.length), (6, iv s.2.1)])
    (fun s => [(0, rdC 52 code s.2.2.1), (s.2.2.2.1, 9, 1, s.1.map fun s => PV.val (.string s))]) (fun s => s.2.2.2.2)
    (fun s => okRd code s.2.2.1 ∧ (∀ x ∈ s.1, x.size ≤ 21) ∧ p ≤ s.2.2.1 ∧ s.2.2.1 + 15 * s.2.1 ≤ p + 110 ∧ s.1.length + s.2.1 ≤ 8 ∧ 0 ≤ s.2.1 ∧ 0 < s.2.2.2.1 ∧ s.2.2.2.1 < s.2.2.2.2) (fun s => s.2.1.toNat) (by kernel_rfl) ([], v, pp, 1, 2) ⟨hok, by simp, ?_⟩ ?_ ?_ rfl ?_
  · dsimp only [List.length_nil]; omega
  · exact agr
  · exact agr
  rintro ⟨l, k, q, x, y⟩ ⟨okq, hl, i1, i2, i3, i4, i5, i6⟩
  dsimp only at okq hl i1 i2 i3 i4 i5 i6
  clear hok h0
  repeat' (first | (first | (with_reducible first | apply i_seq | apply i_block | apply i_skip | apply i_exit | apply i_ret | apply i_kS | apply i_kSx | apply i_kSr | apply i_kL | apply i_kLx | apply i_kLr | apply i_kB | apply i_kBr | apply i_kBs | apply i_nil) | ((with_reducible apply i_region); (simp only [List.map_cons, List.map_nil] <;> exact rfl)) | ((with_reducible apply i_draw); (simp only [List.map_cons, List.map_nil] <;> exact rfl); decide +kernel) | ((with_reducible apply i_kBo); rfl) | ((first | ((with_reducible apply i_V); rfl; rfl; rfl) | ((first | ((with_reducible apply i_E); rfl) | ((with_reducible apply i_S); rfl)); first | rfl | (simp only [push_cast, ↓reduceIte])) | ((with_reducible apply i_Vq); rfl; rfl) | ((with_reducible apply i_Vp); rfl; rfl; rfl) | (with_reducible first | apply i_Gb | apply i_cond)); (simp (disch := (first | omega | (simp only [push_cast]; first | done | omega))) only [push_cast, ↓reduceIte, Nat.reduceEqDiff, Nat.reduceBEq, Nat.reduceAdd, Nat.reduceSub, Int.reduceToNat, *] <;> with_reducible exact rfl); all_goals try (first | (with_reducible first | refine hyT ?_ | refine hyF ?_ | exact hyA | exact hyB) | (intro hX; first | (cases hX; done) | ((try simp only [decide_eq_true_eq, decide_eq_false_iff_not, Bool.not_eq_true', Bool.not_eq_false'] at hX); (try have hXb := inB_iff.1 hX)))))) | ((with_reducible apply i_drw2 pick_drw (fun _ _ => rfl)); rfl; (simp (disch := (first | omega | (simp only [push_cast]; first | done | omega))) only [push_cast, ↓reduceIte, Nat.reduceEqDiff, Nat.reduceBEq, Nat.reduceAdd, Nat.reduceSub, Int.reduceToNat, *] <;> with_reducible exact rfl); (simp (disch := (first | omega | (simp only [push_cast]; first | done | omega))) only [push_cast, ↓reduceIte, Nat.reduceEqDiff, Nat.reduceBEq, Nat.reduceAdd, Nat.reduceSub, Int.reduceToNat, *] <;> with_reducible exact rfl); (simp (disch := (first | omega | (simp only [push_cast]; first | done | omega))) only [push_cast, ↓reduceIte, Nat.reduceEqDiff, Nat.reduceBEq, Nat.reduceAdd, Nat.reduceSub, Int.reduceToNat, *] <;> with_reducible exact rfl); assumption; omega; (focus (first | trivial | omega)); (focus (first | rfl | (simp only [push_cast, ↓reduceIte]))); intro v pp hv hok hpp1 hpp2) | ((with_reducible apply i_drw2 odd_drw (fun _ _ => rfl)); rfl; (simp (disch := (first | omega | (simp only [push_cast]; first | done | omega))) only [push_cast, ↓reduceIte, Nat.reduceEqDiff, Nat.reduceBEq, Nat.reduceAdd, Nat.reduceSub, Int.reduceToNat, *] <;> with_reducible exact rfl); (simp (disch := (first | omega | (simp only [push_cast]; first | done | omega))) only [push_cast, ↓reduceIte, Nat.reduceEqDiff, Nat.reduceBEq, Nat.reduceAdd, Nat.reduceSub, Int.reduceToNat, *] <;> with_reducible exact rfl); (simp (disch := (first | omega | (simp only [push_cast]; first | done | omega))) only [push_cast, ↓reduceIte, Nat.reduceEqDiff, Nat.reduceBEq, Nat.reduceAdd, Nat.reduceSub, Int.reduceToNat, *] <;> with_reducible exact rfl); assumption; omega; (focus (first | trivial | omega)); (focus (first | rfl | (simp only [push_cast, ↓reduceIte]))); intro v pp hv hok hpp1 hpp2) | ((with_reducible apply i_drw2 pattern_drw (fun _ _ => by simp only [push_cast, ↓reduceIte, Nat.reduceEqDiff, Nat.reduceBEq, Nat.reduceAdd, Nat.reduceSub, Int.reduceToNat])); (focus rfl); (focus (simp (disch := (first | omega | (simp only [push_cast]; first | done | omega))) only [push_cast, ↓reduceIte, Nat.reduceEqDiff, Nat.reduceBEq, Nat.reduceAdd, Nat.reduceSub, Int.reduceToNat, *] <;> with_reducible exact rfl)); (focus (simp (disch := (first | omega | (simp only [push_cast]; first | done | omega))) only [push_cast, ↓reduceIte, Nat.reduceEqDiff, Nat.reduceBEq, Nat.reduceAdd, Nat.reduceSub, Int.reduceToNat, *] <;> with_reducible exact rfl)); (focus (simp (disch := (first | omega | (simp only [push_cast]; first | done | omega))) only [push_cast, ↓reduceIte, Nat.reduceEqDiff, Nat.reduceBEq, Nat.reduceAdd, Nat.reduceSub, Int.reduceToNat, *] <;> with_reducible exact rfl)); (focus assumption); (focus omega); (focus (first | trivial | omega)); (focus (first | rfl | (simp only [push_cast, ↓reduceIte]))); intro v pp hv hok hpp1 hpp2))
  all_goals try (first | ((with_reducible apply i_fin1N (E := EStrs) (O := OStrs) (x) (by omega) (by first | exact .inl rfl | exact .inr rfl)); (focus (simp (disch := (first | omega | (simp only [push_cast]; first | done | omega))) only [push_cast, ↓reduceIte, Nat.reduceEqDiff, Nat.reduceBEq, Nat.reduceAdd, Nat.reduceSub, Int.reduceToNat, rep_iv, rep_sv, rep_w, rep_i3, rep_i4, *] <;> with_reducible exact rfl)); (focus (simp (disch := (first | omega | (simp only [push_cast]; first | done | omega))) only [push_cast, ↓reduceIte, Nat.reduceEqDiff, Nat.reduceBEq, Nat.reduceAdd, Nat.reduceSub, Int.reduceToNat, rep_iv, rep_sv, rep_w, rep_i3, rep_i4, *] <;> with_reducible exact rfl)); (focus (simp (disch := (first | omega | (simp only [push_cast]; first | done | omega))) only [push_cast, ↓reduceIte, Nat.reduceEqDiff, Nat.reduceBEq, Nat.reduceAdd, Nat.reduceSub, Int.reduceToNat, rep_iv, rep_sv, rep_w, rep_i3, rep_i4, *] <;> with_reducible exact rfl))) | ((with_reducible apply i_fin1N (E := EStrs) (O := OStrs) (y + 1) (by omega) (by first | exact .inl rfl | exact .inr rfl)); (focus (simp (disch := (first | omega | (simp only [push_cast]; first | done | omega))) only [push_cast, ↓reduceIte, Nat.reduceEqDiff, Nat.reduceBEq, Nat.reduceAdd, Nat.reduceSub, Int.reduceToNat, rep_iv, rep_sv, rep_w, rep_i3, rep_i4, *] <;> with_reducible exact rfl)); (focus (simp (disch := (first | omega | (simp only [push_cast]; first | done | omega))) only [push_cast, ↓reduceIte, Nat.reduceEqDiff, Nat.reduceBEq, Nat.reduceAdd, Nat.reduceSub, Int.reduceToNat, rep_iv, rep_sv, rep_w, rep_i3, rep_i4, *] <;> with_reducible exact rfl)); (focus (simp (disch := (first | omega | (simp only [push_cast]; first | done | omega))) only [push_cast, ↓reduceIte, Nat.reduceEqDiff, Nat.reduceBEq, Nat.reduceAdd, Nat.reduceSub, Int.reduceToNat, rep_iv, rep_sv, rep_w, rep_i3, rep_i4, *] <;> with_reducible exact rfl))))
  all_goals try (first | omega | assumption | exact ⟨by omega, by assumption⟩ | exact okT_app (m := 20) (by omega) (by omega) (by assumption) (by assumption))
  · refine ⟨(l ++ [v], k - 1, pp, y + 1, y + 2), ⟨hok, (okT_app (m := 8) (n := 9) (by omega) (by omega) hl (by assumption)).2, ?_⟩, ?_, ?_, ?_, rfl⟩
    · simp only [List.length_append, List.length_cons, List.length_nil]; omega
    · dsimp only; omega
    all_goals exact agr
  refine i_loop (α := LS × Nat × Nat) mixed (fun s => [(0, .own 0 2 0 0), (5, .row s.2.1 1 0 s.1.length)])
    (fun s => [(0, rdC 52 code pp), (s.2.1, 9, 1, s.1.map fun s => PV.val (.string s))]) (fun s => s.2.2)
    (fun s => (∀ x ∈ s.1, x.size ≤ 21) ∧ s.1.length ≤ 21 ∧ 0 < s.2.1 ∧ s.2.1 < s.2.2) (fun s => 21 - s.1.length) (by kernel_rfl) (l, x, y) ⟨hl, ?_⟩ ?_ ?_ rfl ?_
  · dsimp only; omega
  · exact agr
  · exact agr
  rintro ⟨l2, x2, y2⟩ ⟨hl2, j1, j2, j3⟩
  dsimp only at hl2 j1 j2 j3
  clear hl
  repeat' (first | (first | (with_reducible first | apply i_seq | apply i_block | apply i_skip | apply i_exit | apply i_ret | apply i_kS | apply i_kSx | apply i_kSr | apply i_kL | apply i_kLx | apply i_kLr | apply i_kB | apply i_kBr | apply i_kBs | apply i_nil) | ((with_reducible apply i_region); (simp only [List.map_cons, List.map_nil] <;> exact rfl)) | ((with_reducible apply i_draw); (simp only [List.map_cons, List.map_nil] <;> exact rfl); decide +kernel) | ((with_reducible apply i_kBo); rfl) | ((first | ((with_reducible apply i_V); rfl; rfl; rfl) | ((first | ((with_reducible apply i_E); rfl) | ((with_reducible apply i_S); rfl)); first | rfl | (simp only [push_cast, ↓reduceIte])) | ((with_reducible apply i_Vq); rfl; rfl) | ((with_reducible apply i_Vp); rfl; rfl; rfl) | (with_reducible first | apply i_Gb | apply i_cond)); (simp (disch := (first | omega | (simp only [push_cast]; first | done | omega))) only [push_cast, ↓reduceIte, Nat.reduceEqDiff, Nat.reduceBEq, Nat.reduceAdd, Nat.reduceSub, Int.reduceToNat, *] <;> with_reducible exact rfl); all_goals try (first | (with_reducible first | refine hyT ?_ | refine hyF ?_ | exact hyA | exact hyB) | (intro hX; first | (cases hX; done) | ((try simp only [decide_eq_true_eq, decide_eq_false_iff_not, Bool.not_eq_true', Bool.not_eq_false'] at hX); (try have hXb := inB_iff.1 hX)))))) | ((with_reducible apply i_drw2 pick_drw (fun _ _ => rfl)); rfl; (simp (disch := (first | omega | (simp only [push_cast]; first | done | omega))) only [push_cast, ↓reduceIte, Nat.reduceEqDiff, Nat.reduceBEq, Nat.reduceAdd, Nat.reduceSub, Int.reduceToNat, *] <;> with_reducible exact rfl); (simp (disch := (first | omega | (simp only [push_cast]; first | done | omega))) only [push_cast, ↓reduceIte, Nat.reduceEqDiff, Nat.reduceBEq, Nat.reduceAdd, Nat.reduceSub, Int.reduceToNat, *] <;> with_reducible exact rfl); (simp (disch := (first | omega | (simp only [push_cast]; first | done | omega))) only [push_cast, ↓reduceIte, Nat.reduceEqDiff, Nat.reduceBEq, Nat.reduceAdd, Nat.reduceSub, Int.reduceToNat, *] <;> with_reducible exact rfl); assumption; omega; (focus (first | trivial | omega)); (focus (first | rfl | (simp only [push_cast, ↓reduceIte]))); intro v pp hv hok hpp1 hpp2))
  all_goals try (first | ((with_reducible apply i_fin1N (E := EStrs) (O := OStrs) (x2) (by omega) (by first | exact .inl rfl | exact .inr rfl)); (focus (simp (disch := (first | omega | (simp only [push_cast]; first | done | omega))) only [push_cast, ↓reduceIte, Nat.reduceEqDiff, Nat.reduceBEq, Nat.reduceAdd, Nat.reduceSub, Int.reduceToNat, rep_iv, rep_sv, rep_w, rep_i3, rep_i4, *] <;> with_reducible exact rfl)); (focus (simp (disch := (first | omega | (simp only [push_cast]; first | done | omega))) only [push_cast, ↓reduceIte, Nat.reduceEqDiff, Nat.reduceBEq, Nat.reduceAdd, Nat.reduceSub, Int.reduceToNat, rep_iv, rep_sv, rep_w, rep_i3, rep_i4, *] <;> with_reducible exact rfl)); (focus (simp (disch := (first | omega | (simp only [push_cast]; first | done | omega))) only [push_cast, ↓reduceIte, Nat.reduceEqDiff, Nat.reduceBEq, Nat.reduceAdd, Nat.reduceSub, Int.reduceToNat, rep_iv, rep_sv, rep_w, rep_i3, rep_i4, *] <;> with_reducible exact rfl))))
  all_goals try (first | omega | assumption | exact ⟨by omega, by assumption⟩)
  refine ⟨(l2 ++ [⟨#[97, 49]⟩], y2 + 1, y2 + 2), ⟨(okT_app (m := 20) (n := 21) (by omega) (by omega) hl2 (by decide)).2, ?_⟩, ?_, ?_, ?_, rfl⟩
  · simp only [List.length_append, List.length_cons, List.length_nil]; omega
  · simp only [List.length_append, List.length_cons, List.length_nil]; omega
  all_goals exact agr
noncomputable def Φpatterns : FunIO := Classical.choose patterns_ex
theorem patterns_io : SoundIO Tryd.prog 18 Φpatterns := (Classical.choose_spec patterns_ex).1
theorem patterns_drw : Drw2N 52 Φpatterns 600000000 200 EStrs OStrs (fun n => 0 ≤ n ∧ n ≤ 1000) (fun _ l => okT 21 l) := (Classical.choose_spec patterns_ex).2
end Go.Proofs.YtngcedklbinhjaaDoor
namespace Go.Proofs.YtngcedklbinhjaaDoor
open Go.RowKit
set_option linter.all false
theorem okT_sz {n : Nat} {l : LS} (h : okT n l) (hn : n ≤ 1000) : okSs l := ⟨by have := h.1; omega, fun k => by
  by_cases hk : k < l.length
  · rw [List.getElem?_eq_getElem hk, Option.getD_some]
    have := h.2 _ (List.getElem_mem hk)
    omega
  · rw [List.getElem?_eq_none (by omega)]
    decide⟩
def okLs (l : LS) : Prop := l.length ≤ 62 ∧ ∀ s ∈ l, s.size ≤ 2000
theorem okLs_app {l : LS} {a : ByteArray} {n : Nat} (h : l.length ≤ n) (hn : n < 62) (h1 : ∀ s ∈ l, s.size ≤ 2000) (h2 : a.size ≤ 2000) : okLs (l ++ [a]) := by
  refine ⟨by simp; omega, fun x hx => ?_⟩
  rcases List.mem_append.1 hx with hx | hx
  · exact h1 x hx
  · rw [List.mem_singleton.1 hx]; exact h2
theorem lnsK_size {l : List It} {tx : LS} {br : List Int} (h : ∀ k : Nat, (tx[k]?.getD ByteArray.empty).size ≤ 20) (hl : l.length ≤ 60) (hb : okBr l br) : ∀ k, k ≤ br.length → ∀ s ∈ lnsK l tx br k, s.size ≤ 2000
  | 0, _ => by simp [lnsK]
  | k + 1, hk => fun s hs => by
    rw [lnsK] at hs
    rcases List.mem_append.1 hs with hs | hs
    · exact lnsK_size h hl hb k (by omega) s hs
    · rw [List.mem_singleton.1 hs]
      obtain ⟨b1, b2, b3, -⟩ := hb.at_ (k := k) (by omega)
      have := lnT_size (l := l) (tx := tx) (a := frB br k) h ((br[k]?.getD 0).toNat - frB br k)
      unfold lnR
      split
      · rw [ByteArray.size_append, show (⟨#[45]⟩ : ByteArray).size = 1 from rfl]
        omega
      · omega
theorem pglV_ok (ws pats : LS) (wd most : Int) : (pglV ws pats wd most).length ≤ 60 ∧ ∀ s ∈ pglV ws pats wd most, s.size ≤ 2000 := by
  unfold pglV
  split
  · rename_i h
    unfold pglB at h
    rw [Bool.and_eq_true] at h
    obtain ⟨h1, h2⟩ := h
    have hV : piV ws pats = piR ws pats := if_pos h1
    rw [hV] at h2
    obtain ⟨hB, -, -, hm, -⟩ := brkOk_iff.1 h2
    have hb := brk_ok (wd := wd) hB hm.2
    have hl := items_len hB
    rw [lnsK_len]
    exact ⟨by have := hb.1; omega, lnsK_size tx_size hl hb _ (Nat.le_refl _)⟩
  · simp
noncomputable def GTx : Ctx := { fn := fun f => none, io := fun f => if f = 19 then some Φpick else if f = 20 then some Φodd else if f = 17 then some Φwords else if f = 18 then some Φpatterns else if f = 16 then some (liftN ΨPgl) else none }
theorem GTx_ok : SoundΓ Tryd.prog GTx := ⟨(fun f φ h => by
  unfold GTx at h
  dsimp only at h
  cases h), (fun f φ h => by
  unfold GTx at h
  dsimp only at h
  split at h
  · rename_i hf; cases h; subst hf; exact ⟨⟨_, Tryd.func19, rfl, rfl⟩, pick_io⟩
  split at h
  · rename_i hf; cases h; subst hf; exact ⟨⟨_, Tryd.func20, rfl, rfl⟩, odd_io⟩
  split at h
  · rename_i hf; cases h; subst hf; exact ⟨⟨_, Tryd.func17, rfl, rfl⟩, words_io⟩
  split at h
  · rename_i hf; cases h; subst hf; exact ⟨⟨_, Tryd.func18, rfl, rfl⟩, patterns_io⟩
  split at h
  · rename_i hf; cases h; subst hf; exact ⟨⟨_, Tryd.func16, rfl, rfl⟩, specPglN.lift⟩
  cases h), rfl⟩
theorem GTx_19 : GTx.io 19 = some Φpick := by simp [GTx]
theorem GTx_20 : GTx.io 20 = some Φodd := by simp [GTx]
theorem GTx_17 : GTx.io 17 = some Φwords := by simp [GTx]
theorem GTx_18 : GTx.io 18 = some Φpatterns := by simp [GTx]
theorem GTx_16 : GTx.io 16 = some (liftN ΨPgl) := by simp [GTx]
set_option maxHeartbeats 16000000 in
theorem tlines_ex : ∃ Φ : FunIO, SoundIO Tryd.prog 9 Φ ∧ Drw1 52 Φ 500000000 500 ESs okLs := by
  refine drw1_of mixed GTx_ok Tryd.func9 rfl 35 rfl [.tmp 2] rfl (by kernel_rfl) (by simp) _ _ _ _ _ fun code p hok hp => ?_
  have hp0 := hok.pos
  have gtx_c19 := GTx_19; have gtx_c20 := GTx_20; have gtx_c17 := GTx_17; have gtx_c18 := GTx_18; have gtx_c16 := GTx_16
  repeat' (first | (first | (with_reducible first | apply i_seq | apply i_block | apply i_skip | apply i_exit | apply i_ret | apply i_kS | apply i_kSx | apply i_kSr | apply i_kL | apply i_kLx | apply i_kLr | apply i_kB | apply i_kBr | apply i_kBs | apply i_nil) | ((with_reducible apply i_region); (simp only [List.map_cons, List.map_nil] <;> exact rfl)) | ((with_reducible apply i_draw); (simp only [List.map_cons, List.map_nil] <;> exact rfl); decide +kernel) | ((with_reducible apply i_kBo); rfl) | ((first | ((with_reducible apply i_V); rfl; rfl; rfl) | ((first | ((with_reducible apply i_E); rfl) | ((with_reducible apply i_S); rfl)); first | rfl | (simp only [push_cast, ↓reduceIte])) | ((with_reducible apply i_Vq); rfl; rfl) | ((with_reducible apply i_Vp); rfl; rfl; rfl) | (with_reducible first | apply i_Gb | apply i_cond)); (simp (disch := (first | omega | (simp only [push_cast]; first | done | omega))) only [push_cast, ↓reduceIte, Nat.reduceEqDiff, Nat.reduceBEq, Nat.reduceAdd, Nat.reduceSub, Int.reduceToNat, *] <;> with_reducible exact rfl); all_goals try (first | (with_reducible first | refine hyT ?_ | refine hyF ?_ | exact hyA | exact hyB) | (intro hX; first | (cases hX; done) | ((try simp only [decide_eq_true_eq, decide_eq_false_iff_not, Bool.not_eq_true', Bool.not_eq_false'] at hX); (try have hXb := inB_iff.1 hX)))))) | ((with_reducible apply i_drw2 pick_drw (fun _ _ => rfl)); rfl; (simp (disch := (first | omega | (simp only [push_cast]; first | done | omega))) only [push_cast, ↓reduceIte, Nat.reduceEqDiff, Nat.reduceBEq, Nat.reduceAdd, Nat.reduceSub, Int.reduceToNat, *] <;> with_reducible exact rfl); (simp (disch := (first | omega | (simp only [push_cast]; first | done | omega))) only [push_cast, ↓reduceIte, Nat.reduceEqDiff, Nat.reduceBEq, Nat.reduceAdd, Nat.reduceSub, Int.reduceToNat, *] <;> with_reducible exact rfl); (simp (disch := (first | omega | (simp only [push_cast]; first | done | omega))) only [push_cast, ↓reduceIte, Nat.reduceEqDiff, Nat.reduceBEq, Nat.reduceAdd, Nat.reduceSub, Int.reduceToNat, *] <;> with_reducible exact rfl); assumption; omega; (focus (first | trivial | omega)); (focus (first | rfl | (simp only [push_cast, ↓reduceIte]))); intro v pp hv hok hpp1 hpp2) | ((with_reducible apply i_drw2 odd_drw (fun _ _ => rfl)); rfl; (simp (disch := (first | omega | (simp only [push_cast]; first | done | omega))) only [push_cast, ↓reduceIte, Nat.reduceEqDiff, Nat.reduceBEq, Nat.reduceAdd, Nat.reduceSub, Int.reduceToNat, *] <;> with_reducible exact rfl); (simp (disch := (first | omega | (simp only [push_cast]; first | done | omega))) only [push_cast, ↓reduceIte, Nat.reduceEqDiff, Nat.reduceBEq, Nat.reduceAdd, Nat.reduceSub, Int.reduceToNat, *] <;> with_reducible exact rfl); (simp (disch := (first | omega | (simp only [push_cast]; first | done | omega))) only [push_cast, ↓reduceIte, Nat.reduceEqDiff, Nat.reduceBEq, Nat.reduceAdd, Nat.reduceSub, Int.reduceToNat, *] <;> with_reducible exact rfl); assumption; omega; (focus (first | trivial | omega)); (focus (first | rfl | (simp only [push_cast, ↓reduceIte]))); intro v pp hv hok hpp1 hpp2) | ((with_reducible apply i_drw2 words_drw (fun _ _ => by simp only [push_cast, ↓reduceIte, Nat.reduceEqDiff, Nat.reduceBEq, Nat.reduceAdd, Nat.reduceSub, Int.reduceToNat])); (focus rfl); (focus (simp (disch := (first | omega | (simp only [push_cast]; first | done | omega))) only [push_cast, ↓reduceIte, Nat.reduceEqDiff, Nat.reduceBEq, Nat.reduceAdd, Nat.reduceSub, Int.reduceToNat, *] <;> with_reducible exact rfl)); (focus (simp (disch := (first | omega | (simp only [push_cast]; first | done | omega))) only [push_cast, ↓reduceIte, Nat.reduceEqDiff, Nat.reduceBEq, Nat.reduceAdd, Nat.reduceSub, Int.reduceToNat, *] <;> with_reducible exact rfl)); (focus (simp (disch := (first | omega | (simp only [push_cast]; first | done | omega))) only [push_cast, ↓reduceIte, Nat.reduceEqDiff, Nat.reduceBEq, Nat.reduceAdd, Nat.reduceSub, Int.reduceToNat, *] <;> with_reducible exact rfl)); (focus assumption); (focus omega); (focus (first | trivial | omega)); (focus (first | rfl | (simp only [push_cast, ↓reduceIte]))); intro v pp hv hok hpp1 hpp2) | ((with_reducible apply i_drw2N patterns_drw patterns_hE patterns_hO); (focus rfl); (focus (simp (disch := (first | omega | (simp only [push_cast]; first | done | omega))) only [push_cast, ↓reduceIte, Nat.reduceEqDiff, Nat.reduceBEq, Nat.reduceAdd, Nat.reduceSub, Int.reduceToNat, *] <;> with_reducible exact rfl)); (focus (simp (disch := (first | omega | (simp only [push_cast]; first | done | omega))) only [push_cast, ↓reduceIte, Nat.reduceEqDiff, Nat.reduceBEq, Nat.reduceAdd, Nat.reduceSub, Int.reduceToNat, *] <;> with_reducible exact rfl)); (focus (simp (disch := (first | omega | (simp only [push_cast]; first | done | omega))) only [push_cast, ↓reduceIte, Nat.reduceEqDiff, Nat.reduceBEq, Nat.reduceAdd, Nat.reduceSub, Int.reduceToNat, *] <;> with_reducible exact rfl)); (focus assumption); (focus omega); (focus (first | trivial | omega)); (focus (first | rfl | (simp only [push_cast, ↓reduceIte]))); intro v pp hv hok hpp1 hpp2))
  rename_i ok0 ws q1 hws ok1 a1 a2 ps q2 hps ok2 b1 b2
  have apg := Pgl_lift (ws := ws) (pats := ps) (wd := 30 + v) (most := 10000) ⟨okT_sz hws (by omega), okT_sz hps (by omega)⟩
  have hL := pglV_ok ws ps (30 + v) 10000
  generalize pglV ws ps (30 + v) 10000 = L at *
  generalize pglB ws ps (30 + v) 10000 = B at *
  obtain ⟨hL1, hL2⟩ := hL
  have hwl := hws.1
  have hpl := hps.1
  clear ok0 ok1 ok2 hws hps
  repeat' (first | (first | (with_reducible first | apply i_seq | apply i_block | apply i_skip | apply i_exit | apply i_ret | apply i_kS | apply i_kSx | apply i_kSr | apply i_kL | apply i_kLx | apply i_kLr | apply i_kB | apply i_kBr | apply i_kBs | apply i_nil) | ((with_reducible apply i_region); (simp only [List.map_cons, List.map_nil] <;> exact rfl)) | ((with_reducible apply i_draw); (simp only [List.map_cons, List.map_nil] <;> exact rfl); decide +kernel) | ((with_reducible apply i_kBo); rfl) | ((first | ((with_reducible apply i_V); rfl; rfl; rfl) | ((first | ((with_reducible apply i_E); rfl) | ((with_reducible apply i_S); rfl)); first | rfl | (simp only [push_cast, ↓reduceIte])) | ((with_reducible apply i_Vq); rfl; rfl) | ((with_reducible apply i_Vp); rfl; rfl; rfl) | (with_reducible first | apply i_Gb | apply i_cond)); (simp (disch := (first | omega | (simp only [push_cast]; first | done | omega))) only [push_cast, ↓reduceIte, Nat.reduceEqDiff, Nat.reduceBEq, Nat.reduceAdd, Nat.reduceSub, Int.reduceToNat, *] <;> with_reducible exact rfl); all_goals try (first | (with_reducible first | refine hyT ?_ | refine hyF ?_ | exact hyA | exact hyB) | (intro hX; first | (cases hX; done) | ((try simp only [decide_eq_true_eq, decide_eq_false_iff_not, Bool.not_eq_true', Bool.not_eq_false'] at hX); (try have hXb := inB_iff.1 hX)))))) | ((with_reducible apply i_drw2 pick_drw (fun _ _ => rfl)); rfl; (simp (disch := (first | omega | (simp only [push_cast]; first | done | omega))) only [push_cast, ↓reduceIte, Nat.reduceEqDiff, Nat.reduceBEq, Nat.reduceAdd, Nat.reduceSub, Int.reduceToNat, *] <;> with_reducible exact rfl); (simp (disch := (first | omega | (simp only [push_cast]; first | done | omega))) only [push_cast, ↓reduceIte, Nat.reduceEqDiff, Nat.reduceBEq, Nat.reduceAdd, Nat.reduceSub, Int.reduceToNat, *] <;> with_reducible exact rfl); (simp (disch := (first | omega | (simp only [push_cast]; first | done | omega))) only [push_cast, ↓reduceIte, Nat.reduceEqDiff, Nat.reduceBEq, Nat.reduceAdd, Nat.reduceSub, Int.reduceToNat, *] <;> with_reducible exact rfl); assumption; omega; (focus (first | trivial | omega)); (focus (first | rfl | (simp only [push_cast, ↓reduceIte]))); intro v pp hv hok hpp1 hpp2) | ((with_reducible apply i_drw2 odd_drw (fun _ _ => rfl)); rfl; (simp (disch := (first | omega | (simp only [push_cast]; first | done | omega))) only [push_cast, ↓reduceIte, Nat.reduceEqDiff, Nat.reduceBEq, Nat.reduceAdd, Nat.reduceSub, Int.reduceToNat, *] <;> with_reducible exact rfl); (simp (disch := (first | omega | (simp only [push_cast]; first | done | omega))) only [push_cast, ↓reduceIte, Nat.reduceEqDiff, Nat.reduceBEq, Nat.reduceAdd, Nat.reduceSub, Int.reduceToNat, *] <;> with_reducible exact rfl); (simp (disch := (first | omega | (simp only [push_cast]; first | done | omega))) only [push_cast, ↓reduceIte, Nat.reduceEqDiff, Nat.reduceBEq, Nat.reduceAdd, Nat.reduceSub, Int.reduceToNat, *] <;> with_reducible exact rfl); assumption; omega; (focus (first | trivial | omega)); (focus (first | rfl | (simp only [push_cast, ↓reduceIte]))); intro v pp hv hok hpp1 hpp2))
  all_goals try ((with_reducible apply i_fin1 (by first | exact .inl rfl | exact .inr rfl)); (focus (simp (disch := (first | omega | (simp only [push_cast]; first | done | omega))) only [push_cast, ↓reduceIte, Nat.reduceEqDiff, Nat.reduceBEq, Nat.reduceAdd, Nat.reduceSub, Int.reduceToNat, rep_iv, rep_sv, rep_w, rep_i3, rep_i4, *] <;> with_reducible exact rfl)); (focus (simp (disch := (first | omega | (simp only [push_cast]; first | done | omega))) only [push_cast, ↓reduceIte, Nat.reduceEqDiff, Nat.reduceBEq, Nat.reduceAdd, Nat.reduceSub, Int.reduceToNat, rep_iv, rep_sv, rep_w, rep_i3, rep_i4, *] <;> with_reducible exact rfl)))
  all_goals try (first | omega | assumption | exact ⟨by omega, hL2⟩)
  have hz : ∀ (a : ByteArray), a.size ≤ 21 → a.size ≤ 2000 := fun a h => by omega
  refine okLs_app (n := 61) (by rw [List.length_append, List.length_singleton]; omega) (by omega) (okLs_app (n := 60) hL1 (by omega) hL2 (hz _ (sel_all (p := fun a : ByteArray => a.size ≤ 21) (by decide) (by simp only [List.length_cons, List.length_nil]; omega)))).2 (hz _ (sel_all (p := fun a : ByteArray => a.size ≤ 21) (by decide) (by simp only [List.length_cons, List.length_nil]; omega)))
noncomputable def Φtlines : FunIO := Classical.choose tlines_ex
theorem tlines_io : SoundIO Tryd.prog 9 Φtlines := (Classical.choose_spec tlines_ex).1
theorem tlines_drw : Drw1 52 Φtlines 500000000 500 ESs okLs := (Classical.choose_spec tlines_ex).2
end Go.Proofs.YtngcedklbinhjaaDoor
namespace Go.Proofs.YtngcedklbinhjaaDoor
open Go.RowKit
set_option linter.all false
theorem wm_good : ∀ (s acc : List UInt8), (∀ b ∈ acc, ¬ b = 32) → ∀ x ∈ wordsM s acc, x ≠ [] ∧ ∀ b ∈ x, ¬ b = 32
  | [], acc, h => fun x hx => by
    unfold wordsM at hx
    split at hx
    · cases hx
    · rw [List.mem_singleton.1 hx]
      exact ⟨by assumption, h⟩
  | b :: l, acc, h => fun x hx => by
    unfold wordsM at hx
    split at hx
    · rcases List.mem_append.1 hx with hx | hx
      · split at hx
        · cases hx
        · rw [List.mem_singleton.1 hx]
          exact ⟨by assumption, h⟩
      · exact wm_good l [] (by simp) x hx
    · rename_i hb
      exact wm_good l (acc ++ [b]) (fun c hc => by
        rcases List.mem_append.1 hc with hc | hc
        · exact h c hc
        · rw [List.mem_singleton.1 hc]; exact hb) x hx
theorem wm_sp : ∀ s acc : List UInt8, wordsM (s ++ [32]) acc = wordsM s acc
  | [], acc => by simp [wordsM]
  | b :: l, acc => by
    rw [List.cons_append, wordsM, wordsM, wm_sp l, wm_sp l]
theorem wm_short : ∀ (s acc : List UInt8), ∀ x ∈ wordsM s acc, x.length ≤ s.length + acc.length
  | [], acc => fun x hx => by
    unfold wordsM at hx
    split at hx
    · cases hx
    · rw [List.mem_singleton.1 hx]
      omega
  | b :: l, acc => fun x hx => by
    unfold wordsM at hx
    rw [List.length_cons]
    split at hx
    · rcases List.mem_append.1 hx with hx | hx
      · split at hx
        · cases hx
        · rw [List.mem_singleton.1 hx]
          omega
      · have := wm_short l [] x hx
        rw [List.length_nil] at this
        omega
    · have := wm_short l (acc ++ [b]) x hx
      rw [List.length_append, List.length_singleton] at this
      omega
theorem wolR_short {l : LS} (k : Nat) : ((wolR l)[k]?.getD .empty).size ≤ sumS l + l.length := by
  by_cases hk : k < (wolR l).length
  · rw [List.getElem?_eq_getElem hk, Option.getD_some]
    have hm := List.getElem_mem hk
    generalize (wolR l)[k] = x at *
    obtain ⟨y, hy, rfl⟩ := List.mem_map.1 hm
    have h1 := wm_short _ _ y hy
    have h2 := linesB_len (l := l) l.length (Nat.le_refl _)
    rw [List.take_length] at h2
    rw [List.length_nil] at h1
    have h3 : (⟨y.toArray⟩ : ByteArray).size = y.length := by show y.toArray.size = y.length; simp
    omega
  · rw [List.getElem?_eq_none (by omega)]
    exact Nat.zero_le _
theorem wolR_more (l : LS) : wolR (l ++ [⟨#[]⟩]) = wolR l := by
  unfold wolR
  rw [List.map_append, List.map_cons, List.map_nil, linesB_snoc, show lineB (⟨#[]⟩ : ByteArray).data.toList = [32] from rfl, wm_sp]
theorem wolR_good {l : LS} {k : Nat} (hk : k < (wolR l).length) : ¬ (wolR l)[k]?.getD .empty = ⟨#[]⟩ ∧ ∀ j : Nat, j < ((wolR l)[k]?.getD .empty).size → ¬ at8 ((wolR l)[k]?.getD .empty) j = 32 := by
  rw [List.getElem?_eq_getElem hk, Option.getD_some]
  have hm := List.getElem_mem hk
  generalize (wolR l)[k] = x at *
  obtain ⟨y, hy, rfl⟩ := List.mem_map.1 hm
  obtain ⟨h1, h2⟩ := wm_good _ _ (by simp) y hy
  refine ⟨fun e => h1 ?_, fun j hj e => ?_⟩
  · have := congrArg (·.data.toList) e
    simpa using this
  · have hj2 : j < (⟨y.toArray⟩ : ByteArray).data.toList.length := by
      rw [Array.length_toList]; exact hj
    rw [at8_u hj2] at e
    refine h2 _ (List.getElem_mem (by simpa using hj2)) (UInt8.toNat_inj.1 (?_ : _ = 32))
    have e2 : ((⟨y.toArray⟩ : ByteArray).data.toList[j].toNat : Int) = 32 := e
    simp only [] at e2
    omega
noncomputable def GDwl : Ctx := { fn := fun f => none, io := fun f => if f = 10 then some ΦOpen else if f = 9 then some Φtlines else none }
theorem GDwl_ok : SoundΓ Tryd.prog GDwl := ⟨(fun f φ h => by
  unfold GDwl at h
  dsimp only at h
  cases h), (fun f φ h => by
  unfold GDwl at h
  dsimp only at h
  split at h
  · rename_i hf; cases h; subst hf; exact ⟨⟨_, Tryd.func10, rfl, rfl⟩, open_io⟩
  split at h
  · rename_i hf; cases h; subst hf; exact ⟨⟨_, Tryd.func9, rfl, rfl⟩, tlines_io⟩
  cases h), rfl⟩
theorem GDwl_10 : GDwl.io 10 = some ΦOpen := by simp [GDwl]
theorem GDwl_9 : GDwl.io 9 = some Φtlines := by simp [GDwl]
set_option maxHeartbeats 8000000 in
theorem drawWl_ex : ∃ φ : Fun, Sound Tryd.prog 4 φ ∧ Drw0 φ ESs okLs := by
  refine drw0_of mixed GDwl_ok Tryd.func4 rfl 6 rfl [.tmp 2] rfl (by kernel_rfl) (by simp) _ _ fun code hbyte hlen => ?_
  have hok := okRd_take hbyte
  have apo := @ΦOpen_ap
  have gdwl_c10 := GDwl_10; have gdwl_c9 := GDwl_9
  repeat' (first | (first | (with_reducible first | apply i_seq | apply i_block | apply i_skip | apply i_exit | apply i_ret | apply i_kS | apply i_kSx | apply i_kSr | apply i_kL | apply i_kLx | apply i_kLr | apply i_kB | apply i_kBr | apply i_kBs | apply i_nil) | ((with_reducible apply i_region); (simp only [List.map_cons, List.map_nil] <;> exact rfl)) | ((with_reducible apply i_draw); (simp only [List.map_cons, List.map_nil] <;> exact rfl); decide +kernel) | ((with_reducible apply i_kBo); rfl) | ((first | ((with_reducible apply i_V); rfl; rfl; rfl) | ((first | ((with_reducible apply i_E); rfl) | ((with_reducible apply i_S); rfl)); first | rfl | (simp only [push_cast, ↓reduceIte])) | ((with_reducible apply i_Vq); rfl; rfl) | ((with_reducible apply i_Vp); rfl; rfl; rfl) | (with_reducible first | apply i_Gb | apply i_cond)); (simp (disch := (first | omega | (simp only [push_cast]; first | done | omega))) only [push_cast, ↓reduceIte, Nat.reduceEqDiff, Nat.reduceBEq, Nat.reduceAdd, Nat.reduceSub, Int.reduceToNat, *] <;> with_reducible exact rfl); all_goals try (first | (with_reducible first | refine hyT ?_ | refine hyF ?_ | exact hyA | exact hyB) | (intro hX; first | (cases hX; done) | ((try simp only [decide_eq_true_eq, decide_eq_false_iff_not, Bool.not_eq_true', Bool.not_eq_false'] at hX); (try have hXb := inB_iff.1 hX)))))) | ((with_reducible apply i_drw1 tlines_drw (fun _ _ => by simp only [push_cast, ↓reduceIte, Nat.reduceEqDiff, Nat.reduceBEq, Nat.reduceAdd, Nat.reduceSub, Int.reduceToNat])); (focus rfl); (focus (simp (disch := (first | omega | (simp only [push_cast]; first | done | omega))) only [push_cast, ↓reduceIte, Nat.reduceEqDiff, Nat.reduceBEq, Nat.reduceAdd, Nat.reduceSub, Int.reduceToNat, *] <;> with_reducible exact rfl)); (focus (simp (disch := (first | omega | (simp only [push_cast]; first | done | omega))) only [push_cast, ↓reduceIte, Nat.reduceEqDiff, Nat.reduceBEq, Nat.reduceAdd, Nat.reduceSub, Int.reduceToNat, *] <;> with_reducible exact rfl)); (focus assumption); (focus omega); (focus (first | rfl | (simp only [push_cast, ↓reduceIte]))); intro v pp hv hok hpp1 hpp2))
  all_goals ((with_reducible apply i_fin0 (by first | exact .inl rfl | exact .inr rfl)); (focus (simp (disch := (first | omega | (simp only [push_cast]; first | done | omega))) only [push_cast, ↓reduceIte, Nat.reduceEqDiff, Nat.reduceBEq, Nat.reduceAdd, Nat.reduceSub, Int.reduceToNat, rep_iv, rep_sv, rep_w, rep_i3, rep_i4, *] <;> with_reducible exact rfl)))
  all_goals assumption
noncomputable def φdrawWl : Fun := Classical.choose drawWl_ex
theorem drawWl_ok : Sound Tryd.prog 4 φdrawWl := (Classical.choose_spec drawWl_ex).1
theorem drawWl_drw : Drw0 φdrawWl ESs okLs := (Classical.choose_spec drawWl_ex).2
noncomputable def φSmtw : Fun := nilF 1 φSmt
theorem φSmtw_ap {a b : LS} (h : a.length ≤ 1048576) (h2 : b.length ≤ 1048576) : φSmtw [.lst false 1 (a.map fun s => .val (.string s)), .lst false 1 (b.map fun s => .val (.string s))] = some (.val (.bool (decide (a = b)))) := φSmt_ap h h2
theorem φSmtw_nil : φSmtw [.val (.slice none 0 0), .lst false 1 []] = some (.val (.bool true)) := φSmt_ap (a := []) (b := []) (by simp) (by simp)
theorem φSmtw_nil2 : φSmtw [.val (.slice none 0 0), .val (.slice none 0 0)] = some (.val (.bool true)) := φSmt_ap (a := []) (b := []) (by simp) (by simp)
noncomputable def φLawWw : Fun := F1 dUs fun code => if okL okB8 code then some (bv true) else none
noncomputable def GLww : Ctx := { fn := fun f => if f = 4 then some φdrawWl else if f = 5 then some φWolIn else if f = 7 then some φWol else if f = 6 then some φSmtw else if f = 8 then some φTrue else none, io := fun f => none }
theorem GLww_ok : SoundΓ Tryd.prog GLww := ⟨(fun f φ h => by
  unfold GLww at h
  dsimp only at h
  split at h
  · rename_i hf; cases h; subst hf; exact ⟨⟨_, Tryd.func4, rfl, rfl⟩, drawWl_ok⟩
  split at h
  · rename_i hf; cases h; subst hf; exact ⟨⟨_, Tryd.func5, rfl, rfl⟩, (implWol_ok.nil 1)⟩
  split at h
  · rename_i hf; cases h; subst hf; exact ⟨⟨_, Tryd.func7, rfl, rfl⟩, specWol_ok⟩
  split at h
  · rename_i hf; cases h; subst hf; exact ⟨⟨_, Tryd.func6, rfl, rfl⟩, (smt_ok.nil 1)⟩
  split at h
  · rename_i hf; cases h; subst hf; exact ⟨⟨_, Tryd.func8, rfl, rfl⟩, alive_ok⟩
  cases h), (fun f φ h => by
  unfold GLww at h
  dsimp only at h
  cases h), rfl⟩
theorem GLww_4 (ob : Objs) (ps : List PV) : evCall GLww ob 4 ps = (ps.mapM (reify false 0 ob fuel)).bind φdrawWl := by
  have h : GLww.fn 4 = some φdrawWl := by simp [GLww]
  unfold evCall
  rw [h]
  cases ps.mapM (reify false 0 ob fuel) <;> rfl
theorem GLww_5 (ob : Objs) (ps : List PV) : evCall GLww ob 5 ps = (ps.mapM (reify false 0 ob fuel)).bind φWolIn := by
  have h : GLww.fn 5 = some φWolIn := by simp [GLww]
  unfold evCall
  rw [h]
  cases ps.mapM (reify false 0 ob fuel) <;> rfl
theorem GLww_7 (ob : Objs) (ps : List PV) : evCall GLww ob 7 ps = (ps.mapM (reify false 0 ob fuel)).bind φWol := by
  have h : GLww.fn 7 = some φWol := by simp [GLww]
  unfold evCall
  rw [h]
  cases ps.mapM (reify false 0 ob fuel) <;> rfl
theorem GLww_6 (ob : Objs) (ps : List PV) : evCall GLww ob 6 ps = (ps.mapM (reify false 0 ob fuel)).bind φSmtw := by
  have h : GLww.fn 6 = some φSmtw := by simp [GLww]
  unfold evCall
  rw [h]
  cases ps.mapM (reify false 0 ob fuel) <;> rfl
theorem GLww_8 (ob : Objs) (ps : List PV) : evCall GLww ob 8 ps = (ps.mapM (reify false 0 ob fuel)).bind φTrue := by
  have h : GLww.fn 8 = some φTrue := by simp [GLww]
  unfold evCall
  rw [h]
  cases ps.mapM (reify false 0 ob fuel) <;> rfl
set_option maxHeartbeats 16000000 in
theorem lawWw_ok : Sound Tryd.prog 3 φLawWw := by
  refine sound_pq mixed GLww_ok Tryd.func3 rfl 57 rfl [.tmp 2] rfl (by kernel_rfl) fun ps r hr => ?_
  obtain ⟨code, rfl, hq⟩ := F1_some hr
  clear hr
  split at hq
  case isFalse => cases hq
  case isTrue hpre =>
  cases hq
  refine ⟨by simp, ?_⟩
  simp only [dIs, dUs, dSs, dI_e, dU_e, dB_e, dS_e, dFn_e, dL_e, dA2_e, dA3_e, dA4_e, dA5_e]
  have hbyte := bytes_ok hpre
  by_cases hlen : code.length ≤ 1048576
  · obtain ⟨L, e, hs⟩ := drawWl_drw code hbyte hlen
    unfold ESs at e
    have apt := φTrue_ap
    obtain ⟨hl, hs2⟩ := hs
    have hsm : sumS L ≤ 124000 := by
      have := sumS_le (l := L) (c := 2000) fun i => by
        by_cases hi : i < L.length
        · rw [List.getElem?_eq_getElem hi, Option.getD_some]
          exact hs2 _ (List.getElem_mem hi)
        · rw [List.getElem?_eq_none (by omega)]
          decide
      have : L.length * 2000 ≤ 62 * 2000 := Nat.mul_le_mul_right _ hl
      omega
    have hok : okWl L := ⟨by omega, by omega⟩
    have hok2 : okWl (L ++ [⟨#[]⟩]) := ⟨by rw [List.length_append, List.length_singleton]; omega, by
      have := sumS_le (l := L ++ [⟨#[]⟩]) (c := 2000) fun i => by
        by_cases hi : i < (L ++ [(⟨#[]⟩ : ByteArray)]).length
        · rw [List.getElem?_eq_getElem hi, Option.getD_some]
          rcases List.mem_append.1 (List.getElem_mem hi) with h | h
          · exact hs2 _ h
          · rw [List.mem_singleton.1 h]; decide
        · rw [List.getElem?_eq_none (by omega)]
          decide
      have h2 : (L ++ [(⟨#[]⟩ : ByteArray)]).length = L.length + 1 := by rw [List.length_append, List.length_singleton]
      have : (L ++ [(⟨#[]⟩ : ByteArray)]).length * 2000 ≤ 63 * 2000 := Nat.mul_le_mul_right _ (by omega)
      omega⟩
    have hm := wolR_more L
    have hgood := fun (k : Nat) hk => wolR_good (l := L) (k := k) hk
    have hwl := wolR_len L
    have hsh := fun k : Nat => wolR_short (l := L) k
    have ap1 := φWol_ap hok
    clear hbyte hpre hs2
    by_cases h0 : (wolR L).length = 0
    · have ap2 : φWolIn [.lst false 1 (L.map fun s => .val (.string s))] = _ := φWolI_nil hok h0
      have ap3 : φWolIn [.lst false 1 ((L ++ [(⟨#[]⟩ : ByteArray)]).map fun s => .val (.string s))] = _ := φWolI_nil hok2 (by rw [hm]; exact h0)
      rw [List.eq_nil_of_length_eq_zero h0] at ap1
      have ap4 := φSmtw_nil
      have ap5 := φSmtw_nil2
      clear hok hok2 hgood hm h0 hsh
      simp only [List.map_nil] at ap1
      have glww_c4 := GLww_4; have glww_c5 := GLww_5; have glww_c7 := GLww_7; have glww_c6 := GLww_6; have glww_c8 := GLww_8
      (refine wlk ?_; intros)
      refine i_loop (α := Unit) mixed (fun k => [(3, .lst true 1 (L.map fun s => .val (.string s))), (4, .val (.slice none 0 0)), (5, iv 0)])
          (fun _ => []) (fun _ => 0) (fun k => True) (fun k => 0) (by kernel_rfl) () trivial ?_ trivial rfl ?_
      · exact agr
      rintro - -
      exact wlkS
    · have ap2 := φWolIn_ap hok (by omega)
      have ap3 := φWolIn_ap hok2 (by rw [hm]; omega)
      rw [hm] at ap3
      generalize wolR L = R at *
      have ap4 := φSmtw_ap (a := R) (b := R) (by omega) (by omega)
      clear hok hok2 hm
      have glww_c4 := GLww_4; have glww_c5 := GLww_5; have glww_c7 := GLww_7; have glww_c6 := GLww_6; have glww_c8 := GLww_8
      (refine wlk ?_; intros)
      refine i_loop (α := Nat) mixed (fun k => [(3, .lst true 1 (L.map fun s => .val (.string s))), (4, .lst true 1 (R.map fun s => .val (.string s))), (5, iv k)])
          (fun _ => []) (fun _ => 0) (fun k => k ≤ R.length) (fun k => R.length - k) (by kernel_rfl) 0 (Nat.zero_le _) ?_ trivial rfl ?_
      · exact agr
      intro k hk
      have hg := hgood k
      have hz := hsh k
      clear hgood hsh
      by_cases hkl : k < R.length
      · obtain ⟨hg1, hg2⟩ := hg hkl
        clear hg
        (refine wlk ?_; intros)
        refine i_loop (α := Nat) mixed (fun j => [(3, .lst true 1 (L.map fun s => .val (.string s))), (4, .lst true 1 (R.map fun s => .val (.string s))), (5, iv k), (6, iv j)])
          (fun _ => []) (fun _ => 0) (fun j => j ≤ (R[k]?.getD .empty).size) (fun j => (R[k]?.getD .empty).size - j) (by kernel_rfl) 0 (Nat.zero_le _) ?_ trivial rfl ?_
        · exact agr
        intro j hj
        have hg3 := hg2 j
        clear hg2
        by_cases hjl : j < (R[k]?.getD .empty).size
        · have hg3 := hg3 hjl
          (refine wlk ?_; intros)
          refine ⟨j + 1, by omega, by dsimp only; omega, ?_, trivial, rfl⟩
          exact agr
        · clear hg3
          (refine wlk ?_; intros)
          refine ⟨k + 1, by omega, by dsimp only; omega, ?_, trivial, rfl⟩
          exact agr
      · clear hg
        exact wlkS
  · have glww_c4 := GLww_4; have glww_c5 := GLww_5; have glww_c7 := GLww_7; have glww_c6 := GLww_6; have glww_c8 := GLww_8
    exact wlkS
end Go.Proofs.YtngcedklbinhjaaDoor
namespace Go.Proofs.YtngcedklbinhjaaDoor
open Go.ChangeShapes Go.WideShapes Go.ChangeAt Go.RowKit
open Go.ChangeMaps (open_string shut_string)
set_option linter.all false
theorem own : ownKnob Tryd.prog.godebug = none := by kernel_rfl
theorem laidOut : laidOutB Tryd.prog = true := by kernel_rfl
theorem wf_u8 {x : Int} (h : (Lit.int .u8 x).wf = true) : 0 ≤ x ∧ x ≤ 255 := by
  simpa [Lit.wf, IntKind.min, IntKind.max, IntKind.signed, IntKind.bits] using h
theorem addr_add (b off i : Nat) : (⟨b, off, none⟩ : Addr).add i = ⟨b, off + i, none⟩ := by
  unfold Addr.add
  by_cases h : i = 0 <;> simp [h]
theorem cell_lt {w : World} {a : Addr} {v : Value} (h : w.cell? a = some v) : a.block < w.heap.size := by
  unfold World.cell? at h
  by_cases hb : a.block < w.heap.size
  · exact hb
  · rw [Array.getElem?_eq_none (by omega)] at h
    cases a.spot <;> simp at h
abbrev gW (W : World) : Gh := argG fun b => b < W.heap.size
section
variable {H : Type} {enc : TypeId × Value → H} {P : Program} {W : World} {base : Nat} {α β γ δ ε : Type}
def OpC (enc : TypeId × Value → H) (P : Program) (W : World) (base : Nat) (t : TypeId) (A : Dec α) (ok : α → Prop) : Prop :=
  ∀ fuel cs x, DataW.trod enc P W base (fun _ => true) true fuel t cs = some x → ∃ a v, ok a ∧ Rep (gW W) W (A.e a) v ∧ v.cells.toList = cs ∧ v.cells.all (·.oneCell') = true
theorem opU {t : TypeId} (ht : P.underlying t = some (.int .u8)) : OpC enc P W base t dU okB8 := fun fuel cs x h => by
  obtain ⟨n, rfl, _, hw⟩ := DataW.trod_int ht h
  exact ⟨n, .int .u8 n, wf_u8 hw, rfl, rfl, by simp [Value.cells, Value.oneCell']⟩
theorem list_of {n : Nat} {p : Nat → α → Prop} (h : ∀ i, i < n → ∃ x, p i x) : ∃ l : List α, l.length = n ∧ ∀ i a, l[i]? = some a → p i a := by
  induction n with
  | zero => exact ⟨[], rfl, fun i a h => by simp at h⟩
  | succ n ih =>
    obtain ⟨l, hl, hp⟩ := ih fun i hi => h i (by omega)
    obtain ⟨x, hx⟩ := h n (by omega)
    refine ⟨l ++ [x], by simp [hl], fun i a hi => ?_⟩
    rw [List.getElem?_append] at hi
    split at hi
    · exact hp i a hi
    · rename_i hlt
      have : i - l.length = 0 := by
        by_cases h0 : i - l.length = 0
        · exact h0
        · rw [List.getElem?_eq_none (by simp; omega)] at hi
          cases hi
      rw [this] at hi
      simp at hi
      subst hi
      have : i = n := by omega
      subst this
      exact hx
theorem opL {t e : TypeId} {A : Dec α} {ok : α → Prop} (sz : Nat) (ht : P.underlying t = some (.slice e)) (hs : P.cellsOf e = sz) (h0 : 0 < sz) (hA : OpC enc P W base e A ok) : OpC enc P W base t (dL sz A) (okL ok) := fun fuel cs x h => by
  rcases Go.Deep.open_slice ht h with ⟨rfl, _⟩ | ⟨x, len, cap, m, n, D, Pl, rfl, hb, hl, hm, hmm, _, hx⟩
  · exact ⟨[], .slice none 0 0, ⟨by simp, by simp⟩, ⟨none, 0, rfl, by simp, by simp, .inl rfl⟩, rfl, by simp [Value.cells, Value.oneCell']⟩
  have hm2 : m = cap := by simpa using hmm
  have hcap : cap ≤ 9223372036854775807 := hm
  obtain ⟨l, hlen, hp⟩ := list_of (n := len) (p := fun i a => ok a ∧ ∃ v, Rep (gW W) W (A.e a) v ∧ v.cells.size = sz ∧ v.cells.all (·.oneCell') = true ∧ ∀ j, j < sz → W.cell? ((x.add (i * sz)).add j) = v.cells[j]?) (fun i hi => by
    obtain ⟨cs', h1, h2⟩ := hx i (by omega)
    obtain ⟨a, v, h3, h4, h5, h6⟩ := hA _ _ _ h2
    obtain ⟨_, h7, h8⟩ := World.cells?_some h1
    rw [hs] at h7 h8
    refine ⟨a, h3, v, h4, ?_, h6, fun j hj => ?_⟩
    · rw [← h7, ← h5]; simp
    · rw [h8 j hj, ← h5]; simp)
  refine ⟨l, .slice (some x) len cap, ⟨by omega, fun a ha => ?_⟩, ?_, rfl, by simp [Value.cells, Value.oneCell']⟩
  · obtain ⟨i, hi, rfl⟩ := List.getElem_of_mem ha
    exact (hp i _ (by simp [hi])).1
  · refine ⟨some x, cap, by simp [hlen], by simp [hlen]; omega, hcap, ?_⟩
    by_cases hn : l = []
    · exact .inl (by simp [hn])
    right
    have hl0 : 0 < l.length := List.length_pos_iff.2 hn
    obtain ⟨_, v, h4, h5, h6, h7⟩ := hp 0 l[0] (by simp [hl0])
    have h8 := h7 0 h0
    have h9 : v.cells[0]? = some v.cells[0] := by simp
    rw [h9] at h8
    have hspot := World.cell?_spot h8
    have hlt := cell_lt h8
    obtain ⟨b, off, spot⟩ := x
    simp only [Nat.zero_mul, Addr.add, if_true] at hspot hlt
    subst hspot
    refine ⟨b, off, rfl, ⟨rfl, hlt⟩, RepEs.of fun i p hi => ?_⟩
    rw [List.getElem?_map, Option.map_eq_some_iff] at hi
    obtain ⟨a, ha, rfl⟩ := hi
    obtain ⟨_, v, h4, h5, h6, h7⟩ := hp i a ha
    refine ⟨v, h4, ⟨h6, fun j hj => ?_⟩, h5⟩
    have := h7 j (by omega)
    rwa [addr_add, addr_add] at this
theorem opF {t : TypeId} {A : Dec α} {ok : α → Prop} {n : Nat} {cs : List Value} {y : DataW H × List MemPlace} (hA : OpC enc P W base t A ok) (h1 : ∀ a, oneP (A.e a) = true)
    (h : DataW.trod enc P W base (fun _ => true) true n t cs = some y) : ∃ a v, ok a ∧ Rep (gW W) W (A.e a) v ∧ v.oneCell' = true ∧ cs = [v] := by
  obtain ⟨a, v, h3, h4, h5, h6⟩ := hA _ _ _ h
  have := oneP_rep h4 (h1 a)
  exact ⟨a, v, h3, h4, this, by rw [← h5, oneCell_cells this]⟩
theorem op1 {t : TypeId} {A : Dec α} {ok : α → Prop} {v : Value} {d : DataW H} {p : List MemPlace} (hA : OpC enc P W base t A ok) (h1 : ∀ a, oneP (A.e a) = true) (hv : v.cells = #[v])
    (h : DataW.Trod enc P W base (fun _ => true) true t v d p) : ∃ a, ok a ∧ Rep (gW W) W (A.e a) v := by
  obtain ⟨fuel, hf⟩ := h
  obtain ⟨a, u, h3, h4, h5, h6⟩ := opF hA h1 hf
  rw [hv] at h6
  have : v = u := by simpa using h6
  subst this
  exact ⟨a, h3, h4⟩
theorem walk_of {f : Nat} {φ : Fun} {ps : List PV} {args : Array Value} (h : Sound P f φ) (hT : TabF W fun _ => False) (ha : φ ps = some (bv true)) (hr : RepL (gW W) W ps args.toList) :
    Calls P f args W fun e w' => e = .returned (.bool true) ∧ Below W.heap.size W w' := by
  refine (h W (fun b => b < W.heap.size) ps args _ ha (fun b hb => hb) hT hr).mono ?_
  rintro e w' ⟨v, rfl, hb, hv⟩
  have := hv { I := fun _ _ => True, β := fun _ => 0, κ := fun _ => 0, nx := 0 } fun b _ _ => trivial
  have hv2 : v = .bool true := this
  subst hv2
  exact ⟨rfl, hb⟩
end
end Go.Proofs.YtngcedklbinhjaaDoor
