/- What the proof rests on, part 15: contracts of functions. No condition beyond what each states. -/
import Derived.Test.YtngcedklbinhjaaZHf14
namespace Go.Proofs.Ytngcedklbinhjaa
open Go.RowKit
set_option linter.all false
abbrev EStr (s : ByteArray) : PV := .val (.string s)
set_option maxHeartbeats 8000000 in
theorem text_ex : ∃ Φ : FunIO, SoundIO Try.prog 78 Φ ∧ Drw2 81 Φ 700000000 15 EStr (fun n => 0 ≤ n ∧ n ≤ 1000) (fun _ s => s.size ≤ 21) := by
  refine drw2_of mixed GRd_ok Try.func78 rfl 39 rfl [.tmp 4] rfl (by kernel_rfl) (by simp) _ _ _ _ _ _ fun code p n hok hp hn => ?_
  have hp0 := hok.pos
  repeat' (first | (first | (with_reducible first | apply i_seq | apply i_block | apply i_skip | apply i_exit | apply i_ret | apply i_kS | apply i_kSx | apply i_kSr | apply i_kL | apply i_kLx | apply i_kLr | apply i_kB | apply i_kBr | apply i_kBs | apply i_nil) | ((with_reducible apply i_region); (simp only [List.map_cons, List.map_nil] <;> exact rfl)) | ((with_reducible apply i_draw); (simp only [List.map_cons, List.map_nil] <;> exact rfl); decide +kernel) | ((with_reducible apply i_kBo); rfl) | ((first | ((with_reducible apply i_V); rfl; rfl; rfl) | ((first | ((with_reducible apply i_E); rfl) | ((with_reducible apply i_S); rfl)); first | rfl | (simp only [push_cast, ↓reduceIte])) | ((with_reducible apply i_Vq); rfl; rfl) | ((with_reducible apply i_Vp); rfl; rfl; rfl) | (with_reducible first | apply i_Gb | apply i_cond)); (simp (disch := (first | omega | (simp only [push_cast]; first | done | omega))) only [push_cast, ↓reduceIte, Nat.reduceEqDiff, Nat.reduceBEq, Nat.reduceAdd, Nat.reduceSub, Int.reduceToNat, *] <;> with_reducible exact rfl); all_goals try (first | (with_reducible first | refine hyT ?_ | refine hyF ?_ | exact hyA | exact hyB) | (intro hX; first | (cases hX; done) | ((try simp only [decide_eq_true_eq, decide_eq_false_iff_not, Bool.not_eq_true', Bool.not_eq_false'] at hX); (try have hXb := inB_iff.1 hX)))))) | ((with_reducible apply i_drw2 pick_drw (fun _ _ => rfl)); rfl; (simp (disch := (first | omega | (simp only [push_cast]; first | done | omega))) only [push_cast, ↓reduceIte, Nat.reduceEqDiff, Nat.reduceBEq, Nat.reduceAdd, Nat.reduceSub, Int.reduceToNat, *] <;> with_reducible exact rfl); (simp (disch := (first | omega | (simp only [push_cast]; first | done | omega))) only [push_cast, ↓reduceIte, Nat.reduceEqDiff, Nat.reduceBEq, Nat.reduceAdd, Nat.reduceSub, Int.reduceToNat, *] <;> with_reducible exact rfl); (simp (disch := (first | omega | (simp only [push_cast]; first | done | omega))) only [push_cast, ↓reduceIte, Nat.reduceEqDiff, Nat.reduceBEq, Nat.reduceAdd, Nat.reduceSub, Int.reduceToNat, *] <;> with_reducible exact rfl); assumption; omega; (focus (first | trivial | omega)); (focus (first | rfl | (simp only [push_cast, ↓reduceIte]))); intro v pp hv hok hpp1 hpp2) | ((with_reducible apply i_drw2 odd_drw (fun _ _ => rfl)); rfl; (simp (disch := (first | omega | (simp only [push_cast]; first | done | omega))) only [push_cast, ↓reduceIte, Nat.reduceEqDiff, Nat.reduceBEq, Nat.reduceAdd, Nat.reduceSub, Int.reduceToNat, *] <;> with_reducible exact rfl); (simp (disch := (first | omega | (simp only [push_cast]; first | done | omega))) only [push_cast, ↓reduceIte, Nat.reduceEqDiff, Nat.reduceBEq, Nat.reduceAdd, Nat.reduceSub, Int.reduceToNat, *] <;> with_reducible exact rfl); (simp (disch := (first | omega | (simp only [push_cast]; first | done | omega))) only [push_cast, ↓reduceIte, Nat.reduceEqDiff, Nat.reduceBEq, Nat.reduceAdd, Nat.reduceSub, Int.reduceToNat, *] <;> with_reducible exact rfl); assumption; omega; (focus (first | trivial | omega)); (focus (first | rfl | (simp only [push_cast, ↓reduceIte]))); intro v pp hv hok hpp1 hpp2))
  all_goals try ((with_reducible apply i_fin1 (by first | exact .inl rfl | exact .inr rfl)); (focus (simp (disch := (first | omega | (simp only [push_cast]; first | done | omega))) only [push_cast, ↓reduceIte, Nat.reduceEqDiff, Nat.reduceBEq, Nat.reduceAdd, Nat.reduceSub, Int.reduceToNat, rep_iv, rep_sv, rep_w, rep_i3, rep_i4, *] <;> with_reducible exact rfl)); (focus (simp (disch := (first | omega | (simp only [push_cast]; first | done | omega))) only [push_cast, ↓reduceIte, Nat.reduceEqDiff, Nat.reduceBEq, Nat.reduceAdd, Nat.reduceSub, Int.reduceToNat, rep_iv, rep_sv, rep_w, rep_i3, rep_i4, *] <;> with_reducible exact rfl)))
  all_goals try (first | omega | assumption | exact sel_all (p := fun a : ByteArray => a.size ≤ 21) (by decide) (by simp only [List.length_cons, List.length_nil]; omega))
  refine i_loop (α := ByteArray × Int × Int × Nat) mixed (fun s => [(0, .own 0 2 0 0), (5, .val (.string s.1)), (6, iv s.2.1)])
    (fun s => [(0, rdC 81 code s.2.2.1)]) (fun s => s.2.2.2)
    (fun s => okRd code s.2.2.1 ∧ p ≤ s.2.2.1 ∧ s.2.2.1 + s.2.1 ≤ p + 14 ∧ s.1.size + s.2.1 ≤ 10 ∧ 0 ≤ s.2.1 ∧ 0 < s.2.2.2) (fun s => s.2.1.toNat) (by kernel_rfl) (⟨#[]⟩, 1 + v, pp, 1) ⟨hok, ?_⟩ ?_ ?_ rfl ?_
  · have h0 : ((⟨#[]⟩ : ByteArray)).size = 0 := rfl
    dsimp only; omega
  · exact agr
  · exact agr
  rintro ⟨s, k, q, y⟩ ⟨okq, i1, i2, i3, i4, i5⟩
  dsimp only at okq i1 i2 i3 i4 i5
  repeat' (first | (first | (with_reducible first | apply i_seq | apply i_block | apply i_skip | apply i_exit | apply i_ret | apply i_kS | apply i_kSx | apply i_kSr | apply i_kL | apply i_kLx | apply i_kLr | apply i_kB | apply i_kBr | apply i_kBs | apply i_nil) | ((with_reducible apply i_region); (simp only [List.map_cons, List.map_nil] <;> exact rfl)) | ((with_reducible apply i_draw); (simp only [List.map_cons, List.map_nil] <;> exact rfl); decide +kernel) | ((with_reducible apply i_kBo); rfl) | ((first | ((with_reducible apply i_V); rfl; rfl; rfl) | ((first | ((with_reducible apply i_E); rfl) | ((with_reducible apply i_S); rfl)); first | rfl | (simp only [push_cast, ↓reduceIte])) | ((with_reducible apply i_Vq); rfl; rfl) | ((with_reducible apply i_Vp); rfl; rfl; rfl) | (with_reducible first | apply i_Gb | apply i_cond)); (simp (disch := (first | omega | (simp only [push_cast]; first | done | omega))) only [push_cast, ↓reduceIte, Nat.reduceEqDiff, Nat.reduceBEq, Nat.reduceAdd, Nat.reduceSub, Int.reduceToNat, *] <;> with_reducible exact rfl); all_goals try (first | (with_reducible first | refine hyT ?_ | refine hyF ?_ | exact hyA | exact hyB) | (intro hX; first | (cases hX; done) | ((try simp only [decide_eq_true_eq, decide_eq_false_iff_not, Bool.not_eq_true', Bool.not_eq_false'] at hX); (try have hXb := inB_iff.1 hX)))))) | ((with_reducible apply i_drw2 pick_drw (fun _ _ => rfl)); rfl; (simp (disch := (first | omega | (simp only [push_cast]; first | done | omega))) only [push_cast, ↓reduceIte, Nat.reduceEqDiff, Nat.reduceBEq, Nat.reduceAdd, Nat.reduceSub, Int.reduceToNat, *] <;> with_reducible exact rfl); (simp (disch := (first | omega | (simp only [push_cast]; first | done | omega))) only [push_cast, ↓reduceIte, Nat.reduceEqDiff, Nat.reduceBEq, Nat.reduceAdd, Nat.reduceSub, Int.reduceToNat, *] <;> with_reducible exact rfl); (simp (disch := (first | omega | (simp only [push_cast]; first | done | omega))) only [push_cast, ↓reduceIte, Nat.reduceEqDiff, Nat.reduceBEq, Nat.reduceAdd, Nat.reduceSub, Int.reduceToNat, *] <;> with_reducible exact rfl); assumption; omega; (focus (first | trivial | omega)); (focus (first | rfl | (simp only [push_cast, ↓reduceIte]))); intro v pp hv hok hpp1 hpp2))
  all_goals try ((with_reducible apply i_fin1 (by first | exact .inl rfl | exact .inr rfl)); (focus (simp (disch := (first | omega | (simp only [push_cast]; first | done | omega))) only [push_cast, ↓reduceIte, Nat.reduceEqDiff, Nat.reduceBEq, Nat.reduceAdd, Nat.reduceSub, Int.reduceToNat, rep_iv, rep_sv, rep_w, rep_i3, rep_i4, *] <;> with_reducible exact rfl)); (focus (simp (disch := (first | omega | (simp only [push_cast]; first | done | omega))) only [push_cast, ↓reduceIte, Nat.reduceEqDiff, Nat.reduceBEq, Nat.reduceAdd, Nat.reduceSub, Int.reduceToNat, rep_iv, rep_sv, rep_w, rep_i3, rep_i4, *] <;> with_reducible exact rfl)))
  all_goals try (first | omega | assumption)
  refine ⟨(s ++ bytesOf [IntKind.u8.wrap (97 + v)], k - 1, pp, y + 1), ⟨hok, ?_⟩, ?_, ?_, ?_, rfl⟩
  · simp only [ByteArray.size_append, size_bytesOf, List.length_cons, List.length_nil]; omega
  · dsimp only; omega
  · exact agr
  · exact agr
noncomputable def Φtext : FunIO := Classical.choose text_ex
theorem text_io : SoundIO Try.prog 78 Φtext := (Classical.choose_spec text_ex).1
theorem text_drw : Drw2 81 Φtext 700000000 15 EStr (fun n => 0 ≤ n ∧ n ≤ 1000) (fun _ s => s.size ≤ 21) := (Classical.choose_spec text_ex).2
abbrev ESs (l : LS) : PV := .lst true 1 (l.map fun s => PV.val (.string s))
def okT (n : Nat) (l : LS) : Prop := l.length ≤ n ∧ ∀ s ∈ l, s.size ≤ 21
theorem okT_app {l : LS} {a : ByteArray} {m n : Nat} (h : l.length ≤ m) (hn : m < n) (h1 : ∀ s ∈ l, s.size ≤ 21) (h2 : a.size ≤ 21) : okT n (l ++ [a]) := by
  refine ⟨by simp; omega, fun x hx => ?_⟩
  rcases List.mem_append.1 hx with hx | hx
  · exact h1 x hx
  · simp only [List.mem_singleton] at hx
    subst hx
    exact h2
noncomputable def GRw : Ctx := { fn := fun f => none, io := fun f => if f = 54 then some Φpick else if f = 55 then some Φodd else if f = 78 then some Φtext else none }
theorem GRw_ok : SoundΓ Try.prog GRw := ⟨(fun f φ h => by
  unfold GRw at h
  dsimp only at h
  cases h), (fun f φ h => by
  unfold GRw at h
  dsimp only at h
  split at h
  · rename_i hf; cases h; subst hf; exact ⟨⟨_, Try.func54, rfl, rfl⟩, pick_io⟩
  split at h
  · rename_i hf; cases h; subst hf; exact ⟨⟨_, Try.func55, rfl, rfl⟩, odd_io⟩
  split at h
  · rename_i hf; cases h; subst hf; exact ⟨⟨_, Try.func78, rfl, rfl⟩, text_io⟩
  cases h), rfl⟩
set_option maxHeartbeats 8000000 in
theorem words_ex : ∃ Φ : FunIO, SoundIO Try.prog 43 Φ ∧ Drw2 81 Φ 600000000 200 ESs (fun n => 0 ≤ n ∧ n ≤ 1000) (fun _ l => okT 13 l) := by
  refine drw2_of mixed GRw_ok Try.func43 rfl 37 rfl [.tmp 4] rfl (by kernel_rfl) (by simp) _ _ _ _ _ _ fun code p n hok hp hn => ?_
  have hp0 := hok.pos
  repeat' (first | (first | (with_reducible first | apply i_seq | apply i_block | apply i_skip | apply i_exit | apply i_ret | apply i_kS | apply i_kSx | apply i_kSr | apply i_kL | apply i_kLx | apply i_kLr | apply i_kB | apply i_kBr | apply i_kBs | apply i_nil) | ((with_reducible apply i_region); (simp only [List.map_cons, List.map_nil] <;> exact rfl)) | ((with_reducible apply i_draw); (simp only [List.map_cons, List.map_nil] <;> exact rfl); decide +kernel) | ((with_reducible apply i_kBo); rfl) | ((first | ((with_reducible apply i_V); rfl; rfl; rfl) | ((first | ((with_reducible apply i_E); rfl) | ((with_reducible apply i_S); rfl)); first | rfl | (simp only [push_cast, ↓reduceIte])) | ((with_reducible apply i_Vq); rfl; rfl) | ((with_reducible apply i_Vp); rfl; rfl; rfl) | (with_reducible first | apply i_Gb | apply i_cond)); (simp (disch := (first | omega | (simp only [push_cast]; first | done | omega))) only [push_cast, ↓reduceIte, Nat.reduceEqDiff, Nat.reduceBEq, Nat.reduceAdd, Nat.reduceSub, Int.reduceToNat, *] <;> with_reducible exact rfl); all_goals try (first | (with_reducible first | refine hyT ?_ | refine hyF ?_ | exact hyA | exact hyB) | (intro hX; first | (cases hX; done) | ((try simp only [decide_eq_true_eq, decide_eq_false_iff_not, Bool.not_eq_true', Bool.not_eq_false'] at hX); (try have hXb := inB_iff.1 hX)))))) | ((with_reducible apply i_drw2 pick_drw (fun _ _ => rfl)); rfl; (simp (disch := (first | omega | (simp only [push_cast]; first | done | omega))) only [push_cast, ↓reduceIte, Nat.reduceEqDiff, Nat.reduceBEq, Nat.reduceAdd, Nat.reduceSub, Int.reduceToNat, *] <;> with_reducible exact rfl); (simp (disch := (first | omega | (simp only [push_cast]; first | done | omega))) only [push_cast, ↓reduceIte, Nat.reduceEqDiff, Nat.reduceBEq, Nat.reduceAdd, Nat.reduceSub, Int.reduceToNat, *] <;> with_reducible exact rfl); (simp (disch := (first | omega | (simp only [push_cast]; first | done | omega))) only [push_cast, ↓reduceIte, Nat.reduceEqDiff, Nat.reduceBEq, Nat.reduceAdd, Nat.reduceSub, Int.reduceToNat, *] <;> with_reducible exact rfl); assumption; omega; (focus (first | trivial | omega)); (focus (first | rfl | (simp only [push_cast, ↓reduceIte]))); intro v pp hv hok hpp1 hpp2) | ((with_reducible apply i_drw2 odd_drw (fun _ _ => rfl)); rfl; (simp (disch := (first | omega | (simp only [push_cast]; first | done | omega))) only [push_cast, ↓reduceIte, Nat.reduceEqDiff, Nat.reduceBEq, Nat.reduceAdd, Nat.reduceSub, Int.reduceToNat, *] <;> with_reducible exact rfl); (simp (disch := (first | omega | (simp only [push_cast]; first | done | omega))) only [push_cast, ↓reduceIte, Nat.reduceEqDiff, Nat.reduceBEq, Nat.reduceAdd, Nat.reduceSub, Int.reduceToNat, *] <;> with_reducible exact rfl); (simp (disch := (first | omega | (simp only [push_cast]; first | done | omega))) only [push_cast, ↓reduceIte, Nat.reduceEqDiff, Nat.reduceBEq, Nat.reduceAdd, Nat.reduceSub, Int.reduceToNat, *] <;> with_reducible exact rfl); assumption; omega; (focus (first | trivial | omega)); (focus (first | rfl | (simp only [push_cast, ↓reduceIte]))); intro v pp hv hok hpp1 hpp2) | ((with_reducible apply i_drw2 text_drw (fun _ _ => by simp only [push_cast, ↓reduceIte, Nat.reduceEqDiff, Nat.reduceBEq, Nat.reduceAdd, Nat.reduceSub, Int.reduceToNat])); (focus rfl); (focus (simp (disch := (first | omega | (simp only [push_cast]; first | done | omega))) only [push_cast, ↓reduceIte, Nat.reduceEqDiff, Nat.reduceBEq, Nat.reduceAdd, Nat.reduceSub, Int.reduceToNat, *] <;> with_reducible exact rfl)); (focus (simp (disch := (first | omega | (simp only [push_cast]; first | done | omega))) only [push_cast, ↓reduceIte, Nat.reduceEqDiff, Nat.reduceBEq, Nat.reduceAdd, Nat.reduceSub, Int.reduceToNat, *] <;> with_reducible exact rfl)); (focus (simp (disch := (first | omega | (simp only [push_cast]; first | done | omega))) only [push_cast, ↓reduceIte, Nat.reduceEqDiff, Nat.reduceBEq, Nat.reduceAdd, Nat.reduceSub, Int.reduceToNat, *] <;> with_reducible exact rfl)); (focus assumption); (focus omega); (focus (first | trivial | omega)); (focus (first | rfl | (simp only [push_cast, ↓reduceIte]))); intro v pp hv hok hpp1 hpp2))
  rename_i h0
  refine i_loop (α := LS × Int × Int × Nat × Nat) mixed (fun s => [(0, .own 0 2 0 0), (1, iv n), (5, .row s.2.2.2.1 1 0 s.1.length), (6, iv s.2.1)])
    (fun s => [(0, rdC 81 code s.2.2.1), (s.2.2.2.1, 9, 1, s.1.map fun s => PV.val (.string s))]) (fun s => s.2.2.2.2)
    (fun s => okRd code s.2.2.1 ∧ (∀ x ∈ s.1, x.size ≤ 21) ∧ p ≤ s.2.2.1 ∧ s.2.2.1 + 15 * s.2.1 ≤ p + 110 ∧ s.1.length + s.2.1 ≤ 8 ∧ 0 ≤ s.2.1 ∧ 0 < s.2.2.2.1 ∧ s.2.2.2.1 < s.2.2.2.2) (fun s => s.2.1.toNat) (by kernel_rfl) ([], v, pp, 1, 2) ⟨hok, by simp, ?_⟩ ?_ ?_ rfl ?_
  · dsimp only [List.length_nil]; omega
  · exact agr
  · exact agr
  rintro ⟨l, k, q, x, y⟩ ⟨okq, hl, i1, i2, i3, i4, i5, i6⟩
  dsimp only at okq hl i1 i2 i3 i4 i5 i6
  clear hok h0
  repeat' (first | (first | (with_reducible first | apply i_seq | apply i_block | apply i_skip | apply i_exit | apply i_ret | apply i_kS | apply i_kSx | apply i_kSr | apply i_kL | apply i_kLx | apply i_kLr | apply i_kB | apply i_kBr | apply i_kBs | apply i_nil) | ((with_reducible apply i_region); (simp only [List.map_cons, List.map_nil] <;> exact rfl)) | ((with_reducible apply i_draw); (simp only [List.map_cons, List.map_nil] <;> exact rfl); decide +kernel) | ((with_reducible apply i_kBo); rfl) | ((first | ((with_reducible apply i_V); rfl; rfl; rfl) | ((first | ((with_reducible apply i_E); rfl) | ((with_reducible apply i_S); rfl)); first | rfl | (simp only [push_cast, ↓reduceIte])) | ((with_reducible apply i_Vq); rfl; rfl) | ((with_reducible apply i_Vp); rfl; rfl; rfl) | (with_reducible first | apply i_Gb | apply i_cond)); (simp (disch := (first | omega | (simp only [push_cast]; first | done | omega))) only [push_cast, ↓reduceIte, Nat.reduceEqDiff, Nat.reduceBEq, Nat.reduceAdd, Nat.reduceSub, Int.reduceToNat, *] <;> with_reducible exact rfl); all_goals try (first | (with_reducible first | refine hyT ?_ | refine hyF ?_ | exact hyA | exact hyB) | (intro hX; first | (cases hX; done) | ((try simp only [decide_eq_true_eq, decide_eq_false_iff_not, Bool.not_eq_true', Bool.not_eq_false'] at hX); (try have hXb := inB_iff.1 hX)))))) | ((with_reducible apply i_drw2 pick_drw (fun _ _ => rfl)); rfl; (simp (disch := (first | omega | (simp only [push_cast]; first | done | omega))) only [push_cast, ↓reduceIte, Nat.reduceEqDiff, Nat.reduceBEq, Nat.reduceAdd, Nat.reduceSub, Int.reduceToNat, *] <;> with_reducible exact rfl); (simp (disch := (first | omega | (simp only [push_cast]; first | done | omega))) only [push_cast, ↓reduceIte, Nat.reduceEqDiff, Nat.reduceBEq, Nat.reduceAdd, Nat.reduceSub, Int.reduceToNat, *] <;> with_reducible exact rfl); (simp (disch := (first | omega | (simp only [push_cast]; first | done | omega))) only [push_cast, ↓reduceIte, Nat.reduceEqDiff, Nat.reduceBEq, Nat.reduceAdd, Nat.reduceSub, Int.reduceToNat, *] <;> with_reducible exact rfl); assumption; omega; (focus (first | trivial | omega)); (focus (first | rfl | (simp only [push_cast, ↓reduceIte]))); intro v pp hv hok hpp1 hpp2) | ((with_reducible apply i_drw2 odd_drw (fun _ _ => rfl)); rfl; (simp (disch := (first | omega | (simp only [push_cast]; first | done | omega))) only [push_cast, ↓reduceIte, Nat.reduceEqDiff, Nat.reduceBEq, Nat.reduceAdd, Nat.reduceSub, Int.reduceToNat, *] <;> with_reducible exact rfl); (simp (disch := (first | omega | (simp only [push_cast]; first | done | omega))) only [push_cast, ↓reduceIte, Nat.reduceEqDiff, Nat.reduceBEq, Nat.reduceAdd, Nat.reduceSub, Int.reduceToNat, *] <;> with_reducible exact rfl); (simp (disch := (first | omega | (simp only [push_cast]; first | done | omega))) only [push_cast, ↓reduceIte, Nat.reduceEqDiff, Nat.reduceBEq, Nat.reduceAdd, Nat.reduceSub, Int.reduceToNat, *] <;> with_reducible exact rfl); assumption; omega; (focus (first | trivial | omega)); (focus (first | rfl | (simp only [push_cast, ↓reduceIte]))); intro v pp hv hok hpp1 hpp2) | ((with_reducible apply i_drw2 text_drw (fun _ _ => by simp only [push_cast, ↓reduceIte, Nat.reduceEqDiff, Nat.reduceBEq, Nat.reduceAdd, Nat.reduceSub, Int.reduceToNat])); (focus rfl); (focus (simp (disch := (first | omega | (simp only [push_cast]; first | done | omega))) only [push_cast, ↓reduceIte, Nat.reduceEqDiff, Nat.reduceBEq, Nat.reduceAdd, Nat.reduceSub, Int.reduceToNat, *] <;> with_reducible exact rfl)); (focus (simp (disch := (first | omega | (simp only [push_cast]; first | done | omega))) only [push_cast, ↓reduceIte, Nat.reduceEqDiff, Nat.reduceBEq, Nat.reduceAdd, Nat.reduceSub, Int.reduceToNat, *] <;> with_reducible exact rfl)); (focus (simp (disch := (first | omega | (simp only [push_cast]; first | done | omega))) only [push_cast, ↓reduceIte, Nat.reduceEqDiff, Nat.reduceBEq, Nat.reduceAdd, Nat.reduceSub, Int.reduceToNat, *] <;> with_reducible exact rfl)); (focus assumption); (focus omega); (focus (first | trivial | omega)); (focus (first | rfl | (simp only [push_cast, ↓reduceIte]))); intro v pp hv hok hpp1 hpp2))
  all_goals try ((with_reducible apply i_fin1 (by first | exact .inl rfl | exact .inr rfl)); (focus (simp (disch := (first | omega | (simp only [push_cast]; first | done | omega))) only [push_cast, ↓reduceIte, Nat.reduceEqDiff, Nat.reduceBEq, Nat.reduceAdd, Nat.reduceSub, Int.reduceToNat, rep_iv, rep_sv, rep_w, rep_i3, rep_i4, *] <;> with_reducible exact rfl)); (focus (simp (disch := (first | omega | (simp only [push_cast]; first | done | omega))) only [push_cast, ↓reduceIte, Nat.reduceEqDiff, Nat.reduceBEq, Nat.reduceAdd, Nat.reduceSub, Int.reduceToNat, rep_iv, rep_sv, rep_w, rep_i3, rep_i4, *] <;> with_reducible exact rfl)))
  all_goals try (first | omega | assumption | exact ⟨by omega, by assumption⟩ | exact okT_app (m := 12) (by omega) (by omega) (by assumption) (by assumption))
  · refine ⟨(l ++ [v], k - 1, pp, y + 1, y + 2), ⟨hok, (okT_app (m := 8) (n := 9) (by omega) (by omega) hl (by assumption)).2, ?_⟩, ?_, ?_, ?_, rfl⟩
    · simp only [List.length_append, List.length_cons, List.length_nil]; omega
    · dsimp only; omega
    all_goals exact agr
  refine i_loop (α := LS × Nat × Nat) mixed (fun s => [(0, .own 0 2 0 0), (5, .row s.2.1 1 0 s.1.length)])
    (fun s => [(0, rdC 81 code pp), (s.2.1, 9, 1, s.1.map fun s => PV.val (.string s))]) (fun s => s.2.2)
    (fun s => (∀ x ∈ s.1, x.size ≤ 21) ∧ s.1.length ≤ 13 ∧ 0 < s.2.1 ∧ s.2.1 < s.2.2) (fun s => 13 - s.1.length) (by kernel_rfl) (l, x, y) ⟨hl, ?_⟩ ?_ ?_ rfl ?_
  · dsimp only; omega
  · exact agr
  · exact agr
  rintro ⟨l2, x2, y2⟩ ⟨hl2, j1, j2, j3⟩
  dsimp only at hl2 j1 j2 j3
  clear hl
  repeat' (first | (first | (with_reducible first | apply i_seq | apply i_block | apply i_skip | apply i_exit | apply i_ret | apply i_kS | apply i_kSx | apply i_kSr | apply i_kL | apply i_kLx | apply i_kLr | apply i_kB | apply i_kBr | apply i_kBs | apply i_nil) | ((with_reducible apply i_region); (simp only [List.map_cons, List.map_nil] <;> exact rfl)) | ((with_reducible apply i_draw); (simp only [List.map_cons, List.map_nil] <;> exact rfl); decide +kernel) | ((with_reducible apply i_kBo); rfl) | ((first | ((with_reducible apply i_V); rfl; rfl; rfl) | ((first | ((with_reducible apply i_E); rfl) | ((with_reducible apply i_S); rfl)); first | rfl | (simp only [push_cast, ↓reduceIte])) | ((with_reducible apply i_Vq); rfl; rfl) | ((with_reducible apply i_Vp); rfl; rfl; rfl) | (with_reducible first | apply i_Gb | apply i_cond)); (simp (disch := (first | omega | (simp only [push_cast]; first | done | omega))) only [push_cast, ↓reduceIte, Nat.reduceEqDiff, Nat.reduceBEq, Nat.reduceAdd, Nat.reduceSub, Int.reduceToNat, *] <;> with_reducible exact rfl); all_goals try (first | (with_reducible first | refine hyT ?_ | refine hyF ?_ | exact hyA | exact hyB) | (intro hX; first | (cases hX; done) | ((try simp only [decide_eq_true_eq, decide_eq_false_iff_not, Bool.not_eq_true', Bool.not_eq_false'] at hX); (try have hXb := inB_iff.1 hX)))))) | ((with_reducible apply i_drw2 pick_drw (fun _ _ => rfl)); rfl; (simp (disch := (first | omega | (simp only [push_cast]; first | done | omega))) only [push_cast, ↓reduceIte, Nat.reduceEqDiff, Nat.reduceBEq, Nat.reduceAdd, Nat.reduceSub, Int.reduceToNat, *] <;> with_reducible exact rfl); (simp (disch := (first | omega | (simp only [push_cast]; first | done | omega))) only [push_cast, ↓reduceIte, Nat.reduceEqDiff, Nat.reduceBEq, Nat.reduceAdd, Nat.reduceSub, Int.reduceToNat, *] <;> with_reducible exact rfl); (simp (disch := (first | omega | (simp only [push_cast]; first | done | omega))) only [push_cast, ↓reduceIte, Nat.reduceEqDiff, Nat.reduceBEq, Nat.reduceAdd, Nat.reduceSub, Int.reduceToNat, *] <;> with_reducible exact rfl); assumption; omega; (focus (first | trivial | omega)); (focus (first | rfl | (simp only [push_cast, ↓reduceIte]))); intro v pp hv hok hpp1 hpp2))
  all_goals try ((with_reducible apply i_fin1 (by first | exact .inl rfl | exact .inr rfl)); (focus (simp (disch := (first | omega | (simp only [push_cast]; first | done | omega))) only [push_cast, ↓reduceIte, Nat.reduceEqDiff, Nat.reduceBEq, Nat.reduceAdd, Nat.reduceSub, Int.reduceToNat, rep_iv, rep_sv, rep_w, rep_i3, rep_i4, *] <;> with_reducible exact rfl)); (focus (simp (disch := (first | omega | (simp only [push_cast]; first | done | omega))) only [push_cast, ↓reduceIte, Nat.reduceEqDiff, Nat.reduceBEq, Nat.reduceAdd, Nat.reduceSub, Int.reduceToNat, rep_iv, rep_sv, rep_w, rep_i3, rep_i4, *] <;> with_reducible exact rfl)))
  all_goals try (first | omega | assumption | exact ⟨by omega, by assumption⟩)
  refine ⟨(l2 ++ [⟨#[111, 102]⟩], y2 + 1, y2 + 2), ⟨(okT_app (m := 12) (n := 13) (by omega) (by omega) hl2 (by decide)).2, ?_⟩, ?_, ?_, ?_, rfl⟩
  · simp only [List.length_append, List.length_cons, List.length_nil]; omega
  · simp only [List.length_append, List.length_cons, List.length_nil]; omega
  all_goals exact agr
noncomputable def Φwords : FunIO := Classical.choose words_ex
theorem words_io : SoundIO Try.prog 43 Φwords := (Classical.choose_spec words_ex).1
theorem words_drw : Drw2 81 Φwords 600000000 200 ESs (fun n => 0 ≤ n ∧ n ≤ 1000) (fun _ l => okT 13 l) := (Classical.choose_spec words_ex).2
set_option maxHeartbeats 8000000 in
theorem pattern_ex : ∃ Φ : FunIO, SoundIO Try.prog 79 Φ ∧ Drw2 81 Φ 700000000 15 EStr (fun n => 0 ≤ n ∧ n ≤ 1000) (fun _ s => s.size ≤ 21) := by
  refine drw2_of mixed GRd_ok Try.func79 rfl 18 rfl [.tmp 4] rfl (by kernel_rfl) (by simp) _ _ _ _ _ _ fun code p n hok hp hn => ?_
  have hp0 := hok.pos
  repeat' (first | (first | (with_reducible first | apply i_seq | apply i_block | apply i_skip | apply i_exit | apply i_ret | apply i_kS | apply i_kSx | apply i_kSr | apply i_kL | apply i_kLx | apply i_kLr | apply i_kB | apply i_kBr | apply i_kBs | apply i_nil) | ((with_reducible apply i_region); (simp only [List.map_cons, List.map_nil] <;> exact rfl)) | ((with_reducible apply i_draw); (simp only [List.map_cons, List.map_nil] <;> exact rfl); decide +kernel) | ((with_reducible apply i_kBo); rfl) | ((first | ((with_reducible apply i_V); rfl; rfl; rfl) | ((first | ((with_reducible apply i_E); rfl) | ((with_reducible apply i_S); rfl)); first | rfl | (simp only [push_cast, ↓reduceIte])) | ((with_reducible apply i_Vq); rfl; rfl) | ((with_reducible apply i_Vp); rfl; rfl; rfl) | (with_reducible first | apply i_Gb | apply i_cond)); (simp (disch := (first | omega | (simp only [push_cast]; first | done | omega))) only [push_cast, ↓reduceIte, Nat.reduceEqDiff, Nat.reduceBEq, Nat.reduceAdd, Nat.reduceSub, Int.reduceToNat, *] <;> with_reducible exact rfl); all_goals try (first | (with_reducible first | refine hyT ?_ | refine hyF ?_ | exact hyA | exact hyB) | (intro hX; first | (cases hX; done) | ((try simp only [decide_eq_true_eq, decide_eq_false_iff_not, Bool.not_eq_true', Bool.not_eq_false'] at hX); (try have hXb := inB_iff.1 hX)))))) | ((with_reducible apply i_drw2 pick_drw (fun _ _ => rfl)); rfl; (simp (disch := (first | omega | (simp only [push_cast]; first | done | omega))) only [push_cast, ↓reduceIte, Nat.reduceEqDiff, Nat.reduceBEq, Nat.reduceAdd, Nat.reduceSub, Int.reduceToNat, *] <;> with_reducible exact rfl); (simp (disch := (first | omega | (simp only [push_cast]; first | done | omega))) only [push_cast, ↓reduceIte, Nat.reduceEqDiff, Nat.reduceBEq, Nat.reduceAdd, Nat.reduceSub, Int.reduceToNat, *] <;> with_reducible exact rfl); (simp (disch := (first | omega | (simp only [push_cast]; first | done | omega))) only [push_cast, ↓reduceIte, Nat.reduceEqDiff, Nat.reduceBEq, Nat.reduceAdd, Nat.reduceSub, Int.reduceToNat, *] <;> with_reducible exact rfl); assumption; omega; (focus (first | trivial | omega)); (focus (first | rfl | (simp only [push_cast, ↓reduceIte]))); intro v pp hv hok hpp1 hpp2) | ((with_reducible apply i_drw2 odd_drw (fun _ _ => rfl)); rfl; (simp (disch := (first | omega | (simp only [push_cast]; first | done | omega))) only [push_cast, ↓reduceIte, Nat.reduceEqDiff, Nat.reduceBEq, Nat.reduceAdd, Nat.reduceSub, Int.reduceToNat, *] <;> with_reducible exact rfl); (simp (disch := (first | omega | (simp only [push_cast]; first | done | omega))) only [push_cast, ↓reduceIte, Nat.reduceEqDiff, Nat.reduceBEq, Nat.reduceAdd, Nat.reduceSub, Int.reduceToNat, *] <;> with_reducible exact rfl); (simp (disch := (first | omega | (simp only [push_cast]; first | done | omega))) only [push_cast, ↓reduceIte, Nat.reduceEqDiff, Nat.reduceBEq, Nat.reduceAdd, Nat.reduceSub, Int.reduceToNat, *] <;> with_reducible exact rfl); assumption; omega; (focus (first | trivial | omega)); (focus (first | rfl | (simp only [push_cast, ↓reduceIte]))); intro v pp hv hok hpp1 hpp2))
  all_goals try ((with_reducible apply i_fin1 (by first | exact .inl rfl | exact .inr rfl)); (focus (simp (disch := (first | omega | (simp only [push_cast]; first | done | omega))) only [push_cast, ↓reduceIte, Nat.reduceEqDiff, Nat.reduceBEq, Nat.reduceAdd, Nat.reduceSub, Int.reduceToNat, rep_iv, rep_sv, rep_w, rep_i3, rep_i4, *] <;> with_reducible exact rfl)); (focus (simp (disch := (first | omega | (simp only [push_cast]; first | done | omega))) only [push_cast, ↓reduceIte, Nat.reduceEqDiff, Nat.reduceBEq, Nat.reduceAdd, Nat.reduceSub, Int.reduceToNat, rep_iv, rep_sv, rep_w, rep_i3, rep_i4, *] <;> with_reducible exact rfl)))
  all_goals try (first | omega | assumption | exact sel_all (p := fun a : ByteArray => a.size ≤ 21) (by decide) (by simp only [List.length_cons, List.length_nil]; omega))
noncomputable def Φpattern : FunIO := Classical.choose pattern_ex
theorem pattern_io : SoundIO Try.prog 79 Φpattern := (Classical.choose_spec pattern_ex).1
theorem pattern_drw : Drw2 81 Φpattern 700000000 15 EStr (fun n => 0 ≤ n ∧ n ≤ 1000) (fun _ s => s.size ≤ 21) := (Classical.choose_spec pattern_ex).2
abbrev EStrs (o : Nat) (l : LS) : PV := .row o 1 0 l.length
abbrev OStrs (l : LS) : CellIO := (9, 1, l.map fun s => .val (.string s))
attribute [push_cast]
  EStrs List.length_append
theorem patterns_hE : ∀ (o nx : Nat) (a : LS), renF (outF [o] nx) fuel (EStrs 1 a) = some (EStrs nx a) := fun o nx a => by
  simp only [renS_fuel, renS_row, outF_1n, Option.map_some]
theorem patterns_hO : ∀ (nm : Nat → Option Nat) (a : LS), (OStrs a).2.2.mapM (renF nm fuel) = some (OStrs a).2.2 := fun nm a => by
  show (a.map fun s => PV.val (.string s)).mapM (renF nm 8) = _
  rw [renM_vals]
noncomputable def GRp : Ctx := { fn := fun f => none, io := fun f => if f = 54 then some Φpick else if f = 55 then some Φodd else if f = 79 then some Φpattern else none }
theorem GRp_ok : SoundΓ Try.prog GRp := ⟨(fun f φ h => by
  unfold GRp at h
  dsimp only at h
  cases h), (fun f φ h => by
  unfold GRp at h
  dsimp only at h
  split at h
  · rename_i hf; cases h; subst hf; exact ⟨⟨_, Try.func54, rfl, rfl⟩, pick_io⟩
  split at h
  · rename_i hf; cases h; subst hf; exact ⟨⟨_, Try.func55, rfl, rfl⟩, odd_io⟩
  split at h
  · rename_i hf; cases h; subst hf; exact ⟨⟨_, Try.func79, rfl, rfl⟩, pattern_io⟩
  cases h), rfl⟩
set_option maxHeartbeats 8000000 in
theorem patterns_ex : ∃ Φ : FunIO, SoundIO Try.prog 44 Φ ∧ Drw2N 81 Φ 600000000 200 EStrs OStrs (fun n => 0 ≤ n ∧ n ≤ 1000) (fun _ l => okT 21 l) := by
  refine drw2N_of mixed GRp_ok Try.func44 rfl 37 rfl [.tmp 4] rfl (by kernel_rfl) (by simp) _ _ _ _ _ _ _ fun code p n hok hp hn => ?_
  have hp0 := hok.pos
  repeat' (first | (first | (with_reducible first | apply i_seq | apply i_block | apply i_skip | apply i_exit | apply i_ret | apply i_kS | apply i_kSx | apply i_kSr | apply i_kL | apply i_kLx | apply i_kLr | apply i_kB | apply i_kBr | apply i_kBs | apply i_nil) | ((with_reducible apply i_region); (simp only [List.map_cons, List.map_nil] <;> exact rfl)) | ((with_reducible apply i_draw); (simp only [List.map_cons, List.map_nil] <;> exact rfl); decide +kernel) | ((with_reducible apply i_kBo); rfl) | ((first | ((with_reducible apply i_V); rfl; rfl; rfl) | ((first | ((with_reducible apply i_E); rfl) | ((with_reducible apply i_S); rfl)); first | rfl | (simp only [push_cast, ↓reduceIte])) | ((with_reducible apply i_Vq); rfl; rfl) | ((with_reducible apply i_Vp); rfl; rfl; rfl) | (with_reducible first | apply i_Gb | apply i_cond)); (simp (disch := (first | omega | (simp only [push_cast]; first | done | omega))) only [push_cast, ↓reduceIte, Nat.reduceEqDiff, Nat.reduceBEq, Nat.reduceAdd, Nat.reduceSub, Int.reduceToNat, *] <;> with_reducible exact rfl); all_goals try (first | (with_reducible first | refine hyT ?_ | refine hyF ?_ | exact hyA | exact hyB) | (intro hX; first | (cases hX; done) | ((try simp only [decide_eq_true_eq, decide_eq_false_iff_not, Bool.not_eq_true', Bool.not_eq_false'] at hX); (try have hXb := inB_iff.1 hX)))))) | ((with_reducible apply i_drw2 pick_drw (fun _ _ => rfl)); rfl; (simp (disch := (first | omega | (simp only [push_cast]; first | done | omega))) only [push_cast, ↓reduceIte, Nat.reduceEqDiff, Nat.reduceBEq, Nat.reduceAdd, Nat.reduceSub, Int.reduceToNat, *] <;> with_reducible exact rfl); (simp (disch := (first | omega | (simp only [push_cast]; first | done | omega))) only [push_cast, ↓reduceIte, Nat.reduceEqDiff, Nat.reduceBEq, Nat.reduceAdd, Nat.reduceSub, Int.reduceToNat, *] <;> with_reducible exact rfl); (simp (disch := (first | omega | (simp only [push_cast]; first | done | omega))) only [push_cast, ↓reduceIte, Nat.reduceEqDiff, Nat.reduceBEq, Nat.reduceAdd, Nat.reduceSub, Int.reduceToNat, *] <;> with_reducible exact rfl); assumption; omega; (focus (first | trivial | omega)); (focus (first | rfl | (simp only [push_cast, ↓reduceIte]))); intro v pp hv hok hpp1 hpp2) | ((with_reducible apply i_drw2 odd_drw (fun _ _ => rfl)); rfl; (simp (disch := (first | omega | (simp only [push_cast]; first | done | omega))) only [push_cast, ↓reduceIte, Nat.reduceEqDiff, Nat.reduceBEq, Nat.reduceAdd, Nat.reduceSub, Int.reduceToNat, *] <;> with_reducible exact rfl); (simp (disch := (first | omega | (simp only [push_cast]; first | done | omega))) only [push_cast, ↓reduceIte, Nat.reduceEqDiff, Nat.reduceBEq, Nat.reduceAdd, Nat.reduceSub, Int.reduceToNat, *] <;> with_reducible exact rfl); (simp (disch := (first | omega | (simp only [push_cast]; first | done | omega))) only [push_cast, ↓reduceIte, Nat.reduceEqDiff, Nat.reduceBEq, Nat.reduceAdd, Nat.reduceSub, Int.reduceToNat, *] <;> with_reducible exact rfl); assumption; omega; (focus (first | trivial | omega)); (focus (first | rfl | (simp only [push_cast, ↓reduceIte]))); intro v pp hv hok hpp1 hpp2) | ((with_reducible apply i_drw2 pattern_drw (fun _ _ => by simp only [push_cast, ↓reduceIte, Nat.reduceEqDiff, Nat.reduceBEq, Nat.reduceAdd, Nat.reduceSub, Int.reduceToNat])); (focus rfl); (focus (simp (disch := (first | omega | (simp only [push_cast]; first | done | omega))) only [push_cast, ↓reduceIte, Nat.reduceEqDiff, Nat.reduceBEq, Nat.reduceAdd, Nat.reduceSub, Int.reduceToNat, *] <;> with_reducible exact rfl)); (focus (simp (disch := (first | omega | (simp only [push_cast]; first | done | omega))) only [push_cast, ↓reduceIte, Nat.reduceEqDiff, Nat.reduceBEq, Nat.reduceAdd, Nat.reduceSub, Int.reduceToNat, *] <;> with_reducible exact rfl)); (focus (simp (disch := (first | omega | (simp only [push_cast]; first | done | omega))) only [push_cast, ↓reduceIte, Nat.reduceEqDiff, Nat.reduceBEq, Nat.reduceAdd, Nat.reduceSub, Int.reduceToNat, *] <;> with_reducible exact rfl)); (focus assumption); (focus omega); (focus (first | trivial | omega)); (focus (first | rfl | (simp only [push_cast, ↓reduceIte]))); intro v pp hv hok hpp1 hpp2))
  rename_i h0
  refine i_loop (α := LS × Int × Int × Nat × Nat) mixed (fun s => [(0, .own 0 2 0 0), (1, iv n), (5, .row s.2.2.2.1 1 0 s.1.length), (6, iv s.2.1)])
    (fun s => [(0, rdC 81 code s.2.2.1), (s.2.2.2.1, 9, 1, s.1.map fun s => PV.val (.string s))]) (fun s => s.2.2.2.2)
    (fun s => okRd code s.2.2.1 ∧ (∀ x ∈ s.1, x.size ≤ 21) ∧ p ≤ s.2.2.1 ∧ s.2.2.1 + 15 * s.2.1 ≤ p + 110 ∧ s.1.length + s.2.1 ≤ 8 ∧ 0 ≤ s.2.1 ∧ 0 < s.2.2.2.1 ∧ s.2.2.2.1 < s.2.2.2.2) (fun s => s.2.1.toNat) (by kernel_rfl) ([], v, pp, 1, 2) ⟨hok, by simp, ?_⟩ ?_ ?_ rfl ?_
  · dsimp only [List.length_nil]; omega
  · exact agr
  · exact agr
  rintro ⟨l, k, q, x, y⟩ ⟨okq, hl, i1, i2, i3, i4, i5, i6⟩
  dsimp only at okq hl i1 i2 i3 i4 i5 i6
  clear hok h0
  repeat' (first | (first | (with_reducible first | apply i_seq | apply i_block | apply i_skip | apply i_exit | apply i_ret | apply i_kS | apply i_kSx | apply i_kSr | apply i_kL | apply i_kLx | apply i_kLr | apply i_kB | apply i_kBr | apply i_kBs | apply i_nil) | ((with_reducible apply i_region); (simp only [List.map_cons, List.map_nil] <;> exact rfl)) | ((with_reducible apply i_draw); (simp only [List.map_cons, List.map_nil] <;> exact rfl); decide +kernel) | ((with_reducible apply i_kBo); rfl) | ((first | ((with_reducible apply i_V); rfl; rfl; rfl) | ((first | ((with_reducible apply i_E); rfl) | ((with_reducible apply i_S); rfl)); first | rfl | (simp only [push_cast, ↓reduceIte])) | ((with_reducible apply i_Vq); rfl; rfl) | ((with_reducible apply i_Vp); rfl; rfl; rfl) | (with_reducible first | apply i_Gb | apply i_cond)); (simp (disch := (first | omega | (simp only [push_cast]; first | done | omega))) only [push_cast, ↓reduceIte, Nat.reduceEqDiff, Nat.reduceBEq, Nat.reduceAdd, Nat.reduceSub, Int.reduceToNat, *] <;> with_reducible exact rfl); all_goals try (first | (with_reducible first | refine hyT ?_ | refine hyF ?_ | exact hyA | exact hyB) | (intro hX; first | (cases hX; done) | ((try simp only [decide_eq_true_eq, decide_eq_false_iff_not, Bool.not_eq_true', Bool.not_eq_false'] at hX); (try have hXb := inB_iff.1 hX)))))) | ((with_reducible apply i_drw2 pick_drw (fun _ _ => rfl)); rfl; (simp (disch := (first | omega | (simp only [push_cast]; first | done | omega))) only [push_cast, ↓reduceIte, Nat.reduceEqDiff, Nat.reduceBEq, Nat.reduceAdd, Nat.reduceSub, Int.reduceToNat, *] <;> with_reducible exact rfl); (simp (disch := (first | omega | (simp only [push_cast]; first | done | omega))) only [push_cast, ↓reduceIte, Nat.reduceEqDiff, Nat.reduceBEq, Nat.reduceAdd, Nat.reduceSub, Int.reduceToNat, *] <;> with_reducible exact rfl); (simp (disch := (first | omega | (simp only [push_cast]; first | done | omega))) only [push_cast, ↓reduceIte, Nat.reduceEqDiff, Nat.reduceBEq, Nat.reduceAdd, Nat.reduceSub, Int.reduceToNat, *] <;> with_reducible exact rfl); assumption; omega; (focus (first | trivial | omega)); (focus (first | rfl | (simp only [push_cast, ↓reduceIte]))); intro v pp hv hok hpp1 hpp2) | ((with_reducible apply i_drw2 odd_drw (fun _ _ => rfl)); rfl; (simp (disch := (first | omega | (simp only [push_cast]; first | done | omega))) only [push_cast, ↓reduceIte, Nat.reduceEqDiff, Nat.reduceBEq, Nat.reduceAdd, Nat.reduceSub, Int.reduceToNat, *] <;> with_reducible exact rfl); (simp (disch := (first | omega | (simp only [push_cast]; first | done | omega))) only [push_cast, ↓reduceIte, Nat.reduceEqDiff, Nat.reduceBEq, Nat.reduceAdd, Nat.reduceSub, Int.reduceToNat, *] <;> with_reducible exact rfl); (simp (disch := (first | omega | (simp only [push_cast]; first | done | omega))) only [push_cast, ↓reduceIte, Nat.reduceEqDiff, Nat.reduceBEq, Nat.reduceAdd, Nat.reduceSub, Int.reduceToNat, *] <;> with_reducible exact rfl); assumption; omega; (focus (first | trivial | omega)); (focus (first | rfl | (simp only [push_cast, ↓reduceIte]))); intro v pp hv hok hpp1 hpp2) | ((with_reducible apply i_drw2 pattern_drw (fun _ _ => by simp only [push_cast, ↓reduceIte, Nat.reduceEqDiff, Nat.reduceBEq, Nat.reduceAdd, Nat.reduceSub, Int.reduceToNat])); (focus rfl); (focus (simp (disch := (first | omega | (simp only [push_cast]; first | done | omega))) only [push_cast, ↓reduceIte, Nat.reduceEqDiff, Nat.reduceBEq, Nat.reduceAdd, Nat.reduceSub, Int.reduceToNat, *] <;> with_reducible exact rfl)); (focus (simp (disch := (first | omega | (simp only [push_cast]; first | done | omega))) only [push_cast, ↓reduceIte, Nat.reduceEqDiff, Nat.reduceBEq, Nat.reduceAdd, Nat.reduceSub, Int.reduceToNat, *] <;> with_reducible exact rfl)); (focus (simp (disch := (first | omega | (simp only [push_cast]; first | done | omega))) only [push_cast, ↓reduceIte, Nat.reduceEqDiff, Nat.reduceBEq, Nat.reduceAdd, Nat.reduceSub, Int.reduceToNat, *] <;> with_reducible exact rfl)); (focus assumption); (focus omega); (focus (first | trivial | omega)); (focus (first | rfl | (simp only [push_cast, ↓reduceIte]))); intro v pp hv hok hpp1 hpp2))
  all_goals try (first | ((with_reducible apply i_fin1N (E := EStrs) (O := OStrs) (x) (by omega) (by first | exact .inl rfl | exact .inr rfl)); (focus (simp (disch := (first | omega | (simp only [push_cast]; first | done | omega))) only [push_cast, ↓reduceIte, Nat.reduceEqDiff, Nat.reduceBEq, Nat.reduceAdd, Nat.reduceSub, Int.reduceToNat, rep_iv, rep_sv, rep_w, rep_i3, rep_i4, *] <;> with_reducible exact rfl)); (focus (simp (disch := (first | omega | (simp only [push_cast]; first | done | omega))) only [push_cast, ↓reduceIte, Nat.reduceEqDiff, Nat.reduceBEq, Nat.reduceAdd, Nat.reduceSub, Int.reduceToNat, rep_iv, rep_sv, rep_w, rep_i3, rep_i4, *] <;> with_reducible exact rfl)); (focus (simp (disch := (first | omega | (simp only [push_cast]; first | done | omega))) only [push_cast, ↓reduceIte, Nat.reduceEqDiff, Nat.reduceBEq, Nat.reduceAdd, Nat.reduceSub, Int.reduceToNat, rep_iv, rep_sv, rep_w, rep_i3, rep_i4, *] <;> with_reducible exact rfl))) | ((with_reducible apply i_fin1N (E := EStrs) (O := OStrs) (y + 1) (by omega) (by first | exact .inl rfl | exact .inr rfl)); (focus (simp (disch := (first | omega | (simp only [push_cast]; first | done | omega))) only [push_cast, ↓reduceIte, Nat.reduceEqDiff, Nat.reduceBEq, Nat.reduceAdd, Nat.reduceSub, Int.reduceToNat, rep_iv, rep_sv, rep_w, rep_i3, rep_i4, *] <;> with_reducible exact rfl)); (focus (simp (disch := (first | omega | (simp only [push_cast]; first | done | omega))) only [push_cast, ↓reduceIte, Nat.reduceEqDiff, Nat.reduceBEq, Nat.reduceAdd, Nat.reduceSub, Int.reduceToNat, rep_iv, rep_sv, rep_w, rep_i3, rep_i4, *] <;> with_reducible exact rfl)); (focus (simp (disch := (first | omega | (simp only [push_cast]; first | done | omega))) only [push_cast, ↓reduceIte, Nat.reduceEqDiff, Nat.reduceBEq, Nat.reduceAdd, Nat.reduceSub, Int.reduceToNat, rep_iv, rep_sv, rep_w, rep_i3, rep_i4, *] <;> with_reducible exact rfl))))
  all_goals try (first | omega | assumption | exact ⟨by omega, by assumption⟩ | exact okT_app (m := 20) (by omega) (by omega) (by assumption) (by assumption))
  · refine ⟨(l ++ [v], k - 1, pp, y + 1, y + 2), ⟨hok, (okT_app (m := 8) (n := 9) (by omega) (by omega) hl (by assumption)).2, ?_⟩, ?_, ?_, ?_, rfl⟩
    · simp only [List.length_append, List.length_cons, List.length_nil]; omega
    · dsimp only; omega
    all_goals exact agr
  refine i_loop (α := LS × Nat × Nat) mixed (fun s => [(0, .own 0 2 0 0), (5, .row s.2.1 1 0 s.1.length)])
    (fun s => [(0, rdC 81 code pp), (s.2.1, 9, 1, s.1.map fun s => PV.val (.string s))]) (fun s => s.2.2)
    (fun s => (∀ x ∈ s.1, x.size ≤ 21) ∧ s.1.length ≤ 21 ∧ 0 < s.2.1 ∧ s.2.1 < s.2.2) (fun s => 21 - s.1.length) (by kernel_rfl) (l, x, y) ⟨hl, ?_⟩ ?_ ?_ rfl ?_
  · dsimp only; omega
  · exact agr
  · exact agr
  rintro ⟨l2, x2, y2⟩ ⟨hl2, j1, j2, j3⟩
  dsimp only at hl2 j1 j2 j3
  clear hl
  repeat' (first | (first | (with_reducible first | apply i_seq | apply i_block | apply i_skip | apply i_exit | apply i_ret | apply i_kS | apply i_kSx | apply i_kSr | apply i_kL | apply i_kLx | apply i_kLr | apply i_kB | apply i_kBr | apply i_kBs | apply i_nil) | ((with_reducible apply i_region); (simp only [List.map_cons, List.map_nil] <;> exact rfl)) | ((with_reducible apply i_draw); (simp only [List.map_cons, List.map_nil] <;> exact rfl); decide +kernel) | ((with_reducible apply i_kBo); rfl) | ((first | ((with_reducible apply i_V); rfl; rfl; rfl) | ((first | ((with_reducible apply i_E); rfl) | ((with_reducible apply i_S); rfl)); first | rfl | (simp only [push_cast, ↓reduceIte])) | ((with_reducible apply i_Vq); rfl; rfl) | ((with_reducible apply i_Vp); rfl; rfl; rfl) | (with_reducible first | apply i_Gb | apply i_cond)); (simp (disch := (first | omega | (simp only [push_cast]; first | done | omega))) only [push_cast, ↓reduceIte, Nat.reduceEqDiff, Nat.reduceBEq, Nat.reduceAdd, Nat.reduceSub, Int.reduceToNat, *] <;> with_reducible exact rfl); all_goals try (first | (with_reducible first | refine hyT ?_ | refine hyF ?_ | exact hyA | exact hyB) | (intro hX; first | (cases hX; done) | ((try simp only [decide_eq_true_eq, decide_eq_false_iff_not, Bool.not_eq_true', Bool.not_eq_false'] at hX); (try have hXb := inB_iff.1 hX)))))) | ((with_reducible apply i_drw2 pick_drw (fun _ _ => rfl)); rfl; (simp (disch := (first | omega | (simp only [push_cast]; first | done | omega))) only [push_cast, ↓reduceIte, Nat.reduceEqDiff, Nat.reduceBEq, Nat.reduceAdd, Nat.reduceSub, Int.reduceToNat, *] <;> with_reducible exact rfl); (simp (disch := (first | omega | (simp only [push_cast]; first | done | omega))) only [push_cast, ↓reduceIte, Nat.reduceEqDiff, Nat.reduceBEq, Nat.reduceAdd, Nat.reduceSub, Int.reduceToNat, *] <;> with_reducible exact rfl); (simp (disch := (first | omega | (simp only [push_cast]; first | done | omega))) only [push_cast, ↓reduceIte, Nat.reduceEqDiff, Nat.reduceBEq, Nat.reduceAdd, Nat.reduceSub, Int.reduceToNat, *] <;> with_reducible exact rfl); assumption; omega; (focus (first | trivial | omega)); (focus (first | rfl | (simp only [push_cast, ↓reduceIte]))); intro v pp hv hok hpp1 hpp2))
  all_goals try (first | ((with_reducible apply i_fin1N (E := EStrs) (O := OStrs) (x2) (by omega) (by first | exact .inl rfl | exact .inr rfl)); (focus (simp (disch := (first | omega | (simp only [push_cast]; first | done | omega))) only [push_cast, ↓reduceIte, Nat.reduceEqDiff, Nat.reduceBEq, Nat.reduceAdd, Nat.reduceSub, Int.reduceToNat, rep_iv, rep_sv, rep_w, rep_i3, rep_i4, *] <;> with_reducible exact rfl)); (focus (simp (disch := (first | omega | (simp only [push_cast]; first | done | omega))) only [push_cast, ↓reduceIte, Nat.reduceEqDiff, Nat.reduceBEq, Nat.reduceAdd, Nat.reduceSub, Int.reduceToNat, rep_iv, rep_sv, rep_w, rep_i3, rep_i4, *] <;> with_reducible exact rfl)); (focus (simp (disch := (first | omega | (simp only [push_cast]; first | done | omega))) only [push_cast, ↓reduceIte, Nat.reduceEqDiff, Nat.reduceBEq, Nat.reduceAdd, Nat.reduceSub, Int.reduceToNat, rep_iv, rep_sv, rep_w, rep_i3, rep_i4, *] <;> with_reducible exact rfl))))
  all_goals try (first | omega | assumption | exact ⟨by omega, by assumption⟩)
  refine ⟨(l2 ++ [⟨#[97, 49]⟩], y2 + 1, y2 + 2), ⟨(okT_app (m := 20) (n := 21) (by omega) (by omega) hl2 (by decide)).2, ?_⟩, ?_, ?_, ?_, rfl⟩
  · simp only [List.length_append, List.length_cons, List.length_nil]; omega
  · simp only [List.length_append, List.length_cons, List.length_nil]; omega
  all_goals exact agr
noncomputable def Φpatterns : FunIO := Classical.choose patterns_ex
theorem patterns_io : SoundIO Try.prog 44 Φpatterns := (Classical.choose_spec patterns_ex).1
theorem patterns_drw : Drw2N 81 Φpatterns 600000000 200 EStrs OStrs (fun n => 0 ≤ n ∧ n ≤ 1000) (fun _ l => okT 21 l) := (Classical.choose_spec patterns_ex).2
end Go.Proofs.Ytngcedklbinhjaa
namespace Go.Proofs.Ytngcedklbinhjaa
open Go.RowKit
set_option linter.all false
def endsHy (s : ByteArray) : Bool := decide (1 ≤ s.size ∧ at8 s (s.size - 1) = 45)
def hyN (l : LS) : Nat := (l.filter endsHy).length
theorem hyN_app (l l' : LS) : hyN (l ++ l') = hyN l + hyN l' := by simp [hyN]
theorem hyN_le (l : LS) : hyN l ≤ l.length := List.length_filter_le _ _
theorem hyN_take {l : LS} {k : Nat} (h : k < l.length) : hyN (l.take (k + 1)) = hyN (l.take k) + if endsHy (l[k]?.getD .empty) = true then 1 else 0 := by
  rw [List.take_succ_eq_append_getElem h, hyN_app, List.getElem?_eq_getElem h, Option.getD_some]
  unfold hyN
  by_cases he : endsHy l[k] = true
  · simp [he]
  · simp [he]
theorem last_45 {s : ByteArray} (h : 1 ≤ s.size) : s.extract (s.size - 1) s.size = ⟨#[45]⟩ ↔ at8 s (s.size - 1) = 45 := by
  have h1 : (s.extract (s.size - 1) s.size).size = 1 := by rw [ByteArray.size_extract]; omega
  have h2 : at8 (s.extract (s.size - 1) s.size) 0 = at8 s (s.size - 1) := at8_ext (by omega) (Nat.le_refl _)
  constructor
  · intro e
    rw [← h2, e]
    rfl
  · intro e
    rw [e] at h2
    generalize s.extract (s.size - 1) s.size = t at *
    obtain ⟨⟨l⟩⟩ := t
    have hl : l.length = 1 := h1
    match l, hl with
    | [x], _ =>
      have hx : ((x.toNat : Nat) : Int) = 45 := h2
      have : x = 45 := UInt8.toNat.inj (by show x.toNat = 45; omega)
      rw [this]
noncomputable def φSuf : Fun := F2 dS dS fun s t => open Classical in if t = ⟨#[45]⟩ ∧ s.size ≤ 1099511627776 then some (bv (endsHy s)) else none
theorem φSuf_ap {s : ByteArray} (h : s.size ≤ 1099511627776) : φSuf [.val (.string s), .val (.string ⟨#[45]⟩)] = some (.val (.bool (endsHy s))) := (F2_ap (A := dS) (B := dS) s ⟨#[45]⟩).trans (if_pos ⟨rfl, h⟩)
set_option maxHeartbeats 4000000 in
theorem sufL_ok : Sound Try.prog 56 φSuf := by
  refine sound_pq mixed GE_ok Try.func56 rfl 21 rfl [.tmp 4] rfl (by kernel_rfl) fun ps r hr => ?_
  obtain ⟨s, t, rfl, hq⟩ := F2_some hr
  clear hr
  split at hq
  case isFalse => cases hq
  case isTrue hpre =>
  cases hq
  refine ⟨by simp, ?_⟩
  simp only [dIs, dUs, dSs, dI_e, dU_e, dB_e, dS_e, dFn_e, dL_e, dA2_e, dA3_e, dA4_e, dA5_e]
  obtain ⟨rfl, hs⟩ := hpre
  have h45 : (⟨#[45]⟩ : ByteArray).size = 1 := rfl
  by_cases h1 : 1 ≤ s.size
  · have hE : endsHy s = decide (s.extract (s.size - 1) s.size = ⟨#[45]⟩) := decide_eq_decide.2 ⟨fun q => (last_45 h1).2 q.2, fun q => ⟨h1, (last_45 h1).1 q⟩⟩
    have hz1 : ((s.size : Int) - (0 + 1)).toNat = s.size - 1 := by omega
    have hz2 : ((s.size : Int) - 1).toNat = s.size - 1 := by omega
    rw [hE]
    clear hE
    exact wlkF
  · have hE : endsHy s = false := decide_eq_false fun q => h1 q.1
    rw [hE]
    clear hE
    exact wlkF
noncomputable def GSuf : Ctx := { fn := fun f => if f = 56 then some φSuf else none, io := fun f => none }
theorem GSuf_ok : SoundΓ Try.prog GSuf := ⟨(fun f φ h => by
  unfold GSuf at h
  dsimp only at h
  split at h
  · rename_i hf; cases h; subst hf; exact ⟨⟨_, Try.func56, rfl, rfl⟩, sufL_ok⟩
  cases h), (fun f φ h => by
  unfold GSuf at h
  dsimp only at h
  cases h), rfl⟩
theorem GSuf_56 (ob : Objs) (ps : List PV) : evCall GSuf ob 56 ps = (ps.mapM (reify false 0 ob fuel)).bind φSuf := by
  have h : GSuf.fn 56 = some φSuf := by simp [GSuf]
  unfold evCall
  rw [h]
  cases ps.mapM (reify false 0 ob fuel) <;> rfl
theorem suf_ok : Sound Try.prog 34 φSuf := by
  refine sound_pq mixed GSuf_ok Try.func34 rfl 8 rfl [.tmp 4] rfl (by kernel_rfl) fun ps r hr => ?_
  obtain ⟨s, t, rfl, hq⟩ := F2_some hr
  clear hr
  split at hq
  case isFalse => cases hq
  case isTrue hpre =>
  cases hq
  refine ⟨by simp, ?_⟩
  simp only [dIs, dUs, dSs, dI_e, dU_e, dB_e, dS_e, dFn_e, dL_e, dA2_e, dA3_e, dA4_e, dA5_e]
  obtain ⟨rfl, hs⟩ := hpre
  have ap := φSuf_ap hs
  have gsuf_c56 := GSuf_56
  exact wlkF
noncomputable def φHl : Fun := F1 dSs fun l => if okSs l then some (iv (hyN l)) else none
theorem φHl_ap {l : LS} (h : okSs l) : φHl [.lst false 1 (l.map fun s => .val (.string s))] = some (.val (.int .i64 (hyN l))) := (F1_ap (A := dSs) l).trans (if_pos h)
noncomputable def GHlI : Ctx := { fn := fun f => if f = 34 then some φSuf else none, io := fun f => none }
theorem GHlI_ok : SoundΓ Try.prog GHlI := ⟨(fun f φ h => by
  unfold GHlI at h
  dsimp only at h
  split at h
  · rename_i hf; cases h; subst hf; exact ⟨⟨_, Try.func34, rfl, rfl⟩, suf_ok⟩
  cases h), (fun f φ h => by
  unfold GHlI at h
  dsimp only at h
  cases h), rfl⟩
theorem GHlI_34 (ob : Objs) (ps : List PV) : evCall GHlI ob 34 ps = (ps.mapM (reify false 0 ob fuel)).bind φSuf := by
  have h : GHlI.fn 34 = some φSuf := by simp [GHlI]
  unfold evCall
  rw [h]
  cases ps.mapM (reify false 0 ob fuel) <;> rfl
set_option maxHeartbeats 8000000 in
theorem implHl_ok : Sound Try.prog 9 φHl := by
  refine sound_pq mixed GHlI_ok Try.func9 rfl 18 rfl [.tmp 2] rfl (by kernel_rfl) fun ps r hr => ?_
  obtain ⟨l, rfl, hq⟩ := F1_some hr
  clear hr
  split at hq
  case isFalse => cases hq
  case isTrue hpre =>
  cases hq
  refine ⟨by simp, ?_⟩
  simp only [dIs, dUs, dSs, dI_e, dU_e, dB_e, dS_e, dFn_e, dL_e, dA2_e, dA3_e, dA4_e, dA5_e]
  obtain ⟨hl, hs⟩ := hpre
  have ghli_c34 := GHlI_34
  (refine wlk ?_; intros)
  refine i_loop (α := Nat) mixed (fun k => [(3, iv (hyN (l.take k))), (6, .lst false 1 (l.map pvS)), (7, iv l.length), (8, iv k)]) (fun _ => []) (fun _ => 0) (fun k => k ≤ l.length) (fun k => l.length - k) (by kernel_rfl) 0 (Nat.zero_le _) ?_ trivial rfl ?_
  · simp (disch := (first | omega | (simp only [push_cast]; first | done | omega))) only [push_cast, ↓reduceIte, Nat.reduceEqDiff, Nat.reduceBEq, Nat.reduceAdd, Nat.reduceSub, Int.reduceToNat, List.take_zero, hyN, List.filter_nil, List.length_nil, *]
  intro k hk
  have hb := hyN_le (l.take k)
  rw [List.length_take] at hb
  by_cases h0 : k < l.length
  · have hn := hyN_take h0
    have hsk := hs k
    have ap := φSuf_ap (s := l[k]?.getD .empty) (by omega)
    clear hs
    cases he : endsHy (l[k]?.getD .empty) with
    | true =>
      rw [he, if_pos rfl] at hn
      rw [he] at ap
      replace hn := Lib.hid hn
      generalize hyN (l.take k) = n at *
      clear he
      (refine wlk ?_; intros)
      refine ⟨k + 1, by omega, by dsimp only; omega, ?_, trivial, rfl⟩
      dsimp only
      rw [hn.out]
      exact agi
    | false =>
      rw [he, if_neg (by decide)] at hn
      rw [he] at ap
      replace hn := Lib.hid hn
      generalize hyN (l.take k) = n at *
      clear he
      (refine wlk ?_; intros)
      refine ⟨k + 1, by omega, by dsimp only; omega, ?_, trivial, rfl⟩
      dsimp only
      rw [hn.out]
      exact agi
  · obtain rfl : k = l.length := by omega
    rw [List.take_length]
    exact wlkF
end Go.Proofs.Ytngcedklbinhjaa
namespace Go.Proofs.Ytngcedklbinhjaa
open Go.RowKit
set_option linter.all false
def refsA : List PV → List Nat
  | [] => []
  | .own o _ _ _ :: l => o :: refsA l
  | .row o _ _ _ :: l => o :: refsA l
  | _ :: l => refsA l
def refsX : PV → List Nat
  | .own o _ _ _ => [o]
  | .row o _ _ _ => [o]
  | .agg cs => refsA cs
  | _ => []
def refsL : List PV → List Nat
  | [] => []
  | p :: ps => refsX p ++ refsL ps
theorem refsA_eq : ∀ cs : List PV, (cs.flatMap fun c => match c with | .own o _ _ _ => [o] | .row o _ _ _ => [o] | _ => []) = refsA cs
  | [] => rfl
  | c :: cs => by
    rw [List.flatMap_cons, refsA_eq cs]
    cases c <;> rfl
theorem refsL_eq : ∀ ps : List PV, ps.flatMap refsOf = refsL ps
  | [] => rfl
  | p :: ps => by
    rw [List.flatMap_cons, refsL_eq ps]
    show _ = refsX p ++ refsL ps
    congr 1
    cases p with
    | agg cs => exact refsA_eq cs
    | _ => rfl
section
variable {Φ : FunIO} {ob : Objs} {nx : Nat}
def ioTwo (Φ : FunIO) (ob : Objs) (nx a b : Nat) (qs : List PV) : Option CellIO → Option CellIO → Option (PV × Objs × Nat)
  | some c, some d => (c.2.2.mapM (renF (inn [a, b]) fuel)).bind fun es => (d.2.2.mapM (renF (inn [a, b]) fuel)).bind fun fs => ioR [a, b] ob nx (Φ qs [(c.1, c.2.1, es), (d.1, d.2.1, fs)])
  | _, _ => none
def ioX (Φ : FunIO) (ob : Objs) (nx : Nat) (ps : List PV) : List Nat → Option (PV × Objs × Nat)
  | [] => (ps.mapM (renF (inn []) fuel)).bind fun qs => ioR [] ob nx (Φ qs [])
  | [o] => (ps.mapM (renF (inn [o]) fuel)).bind fun qs => ioOne Φ ob nx o qs (ob o)
  | [a, b] => (ps.mapM (renF (inn [a, b]) fuel)).bind fun qs => ioTwo Φ ob nx a b qs (ob a) (ob b)
  | _ => ioEv Φ ob nx ps
theorem io_any (ps : List PV) : ioEv Φ ob nx ps = ioX Φ ob nx ps (dedup (refsL ps)) := by
  generalize hos : dedup (refsL ps) = os
  rw [← refsL_eq] at hos
  match os with
  | [] =>
    show _ = (ps.mapM (renF (inn []) fuel)).bind _
    cases h2 : ps.mapM (renF (inn []) fuel) with
    | some qs => rw [ioEv_eq ps [] hos, h2, mapM_nil']; rfl
    | none => rw [ioEv_eq ps [] hos, h2, mapM_nil']; rfl
  | [o] =>
    show _ = (ps.mapM (renF (inn [o]) fuel)).bind _
    cases h2 : ps.mapM (renF (inn [o]) fuel) with
    | some qs => rw [ioOne_of hos h2]; rfl
    | none =>
      rw [ioEv_eq ps [o] hos, h2]
      cases [o].mapM ob <;> rfl
  | [a, b] =>
    show _ = (ps.mapM (renF (inn [a, b]) fuel)).bind _
    rw [ioEv_eq ps [a, b] hos]
    simp only [mapM_cons', mapM_nil', renC]
    cases ps.mapM (renF (inn [a, b]) fuel) with
    | none => cases ob a <;> cases ob b <;> rfl
    | some qs =>
      simp only [Option.bind_some]
      cases ob a with
      | none => rfl
      | some c =>
        cases ob b with
        | none => rfl
        | some d =>
          obtain ⟨T, sz, es0⟩ := c
          obtain ⟨T2, sz2, fs0⟩ := d
          simp only [Option.bind_some, Option.map_some, ioTwo, mapM_cons', mapM_nil', renC]
          cases es0.mapM (renF (inn [a, b]) fuel) with
          | none => rfl
          | some es =>
            simp only [Option.bind_some, Option.map_some]
            cases fs0.mapM (renF (inn [a, b]) fuel) <;> rfl
  | _ :: _ :: _ :: _ => rfl
theorem ioX_nil {ps : List PV} : ioX Φ ob nx ps [] = (ps.mapM (renF (inn []) fuel)).bind fun qs => ioR [] ob nx (Φ qs []) := rfl
theorem ioX_one {ps : List PV} {o : Nat} : ioX Φ ob nx ps [o] = (ps.mapM (renF (inn [o]) fuel)).bind fun qs => ioOne Φ ob nx o qs (ob o) := rfl
theorem ioX_two {ps : List PV} {a b : Nat} : ioX Φ ob nx ps [a, b] = (ps.mapM (renF (inn [a, b]) fuel)).bind fun qs => ioTwo Φ ob nx a b qs (ob a) (ob b) := rfl
theorem ioTwo_some {a b T T2 sz sz2 : Nat} {es es2 qs : List PV} : ioTwo Φ ob nx a b qs (some (T, sz, es)) (some (T2, sz2, es2)) = (es.mapM (renF (inn [a, b]) fuel)).bind fun es => (es2.mapM (renF (inn [a, b]) fuel)).bind fun fs => ioR [a, b] ob nx (Φ qs [(T, sz, es), (T2, sz2, fs)]) := rfl
theorem dd_ab {a b : Nat} (h : ¬ a = b) : dedup [a, b] = [a, b] := by
  have h' : ¬ b = a := fun e => h e.symm
  simp [dedup, h']
theorem inn_a {a b : Nat} : inn [a, b] a = some 0 := by simp [inn]
theorem inn_b {a b : Nat} (h : ¬ a = b) : inn [a, b] b = some 1 := by
  have h2 : (a == b) = false := by simpa using h
  simp [inn, List.idxOf_cons, h2]
theorem outF_ab0 {a b nx : Nat} : outF [a, b] nx 0 = some a := rfl
theorem outF_ab1 {a b nx : Nat} : outF [a, b] nx 1 = some b := rfl
theorem outF_ab2 {a b nx : Nat} : outF [a, b] nx 2 = some nx := by simp [outF, outn]
theorem outF_a1 {a nx : Nat} : outF [a] nx 1 = some nx := by simp [outF, outn]
theorem ioR_ab2 {a b T T2 sz sz2 : Nat} {es es2 : List PV} {r : PV} : ioR [a, b] ob nx (some (r, [(T, sz, es), (T2, sz2, es2)])) = (renF (outF [a, b] nx) fuel r).bind fun r' => (es.mapM (renF (outF [a, b] nx) fuel)).bind fun es' => (es2.mapM (renF (outF [a, b] nx) fuel)).map fun es2' => (r', upd (upd ob a (some (T, sz, es'))) b (some (T2, sz2, es2')), nx) := by
  unfold ioR
  simp only [mapM_cons', mapM_nil', renC]
  cases renF (outF [a, b] nx) fuel r with
  | none => rfl
  | some r' =>
    cases es.mapM (renF (outF [a, b] nx) fuel) with
    | none => rfl
    | some es' =>
      cases es2.mapM (renF (outF [a, b] nx) fuel) <;> rfl
theorem ioR_ab3 {a b T T2 T3 sz sz2 sz3 : Nat} {es es2 es3 : List PV} {r : PV} : ioR [a, b] ob nx (some (r, [(T, sz, es), (T2, sz2, es2), (T3, sz3, es3)])) = (renF (outF [a, b] nx) fuel r).bind fun r' => (es.mapM (renF (outF [a, b] nx) fuel)).bind fun es' => (es2.mapM (renF (outF [a, b] nx) fuel)).bind fun es2' => (es3.mapM (renF (outF [a, b] nx) fuel)).map fun es3' => (r', upd (upd (upd ob a (some (T, sz, es'))) b (some (T2, sz2, es2'))) nx (some (T3, sz3, es3')), nx + 1) := by
  unfold ioR
  simp only [mapM_cons', mapM_nil', renC]
  cases renF (outF [a, b] nx) fuel r with
  | none => rfl
  | some r' =>
    cases es.mapM (renF (outF [a, b] nx) fuel) with
    | none => rfl
    | some es' =>
      cases es2.mapM (renF (outF [a, b] nx) fuel) with
      | none => rfl
      | some es2' =>
        cases es3.mapM (renF (outF [a, b] nx) fuel) with
        | none => rfl
        | some es3' =>
          simp only [Option.map_some, Option.bind_some, List.length_cons, List.length_nil, Nat.zero_add, Nat.reduceAdd, Nat.reduceSub, Option.some.injEq, Prod.mk.injEq, true_and, and_true]
          show putObs ob [(outn [a, b] nx 0, _), (outn [a, b] nx 1, _), (outn [a, b] nx 2, _)] = _
          simp [putObs, outn]
theorem dd_nil : dedup [] = [] := rfl
theorem dd_one {o : Nat} : dedup [o] = [o] := rfl
theorem dd_two {o : Nat} : dedup [o, o] = [o] := by simp [dedup]
theorem rl_nil : refsL [] = [] := rfl
theorem rl_cons {p : PV} {ps : List PV} : refsL (p :: ps) = refsX p ++ refsL ps := rfl
theorem rx_val {v : Value} : refsX (.val v) = [] := rfl
theorem rx_lst {k : Bool} {sz : Nat} {es : List PV} : refsX (.lst k sz es) = [] := rfl
theorem rx_ptr {k : Bool} {e : PV} {o : Nat} : refsX (.ptr k e o) = [] := rfl
theorem rx_own {o a b c : Nat} : refsX (.own o a b c) = [o] := rfl
theorem rx_row {o a b c : Nat} : refsX (.row o a b c) = [o] := rfl
theorem rx_agg {cs : List PV} : refsX (.agg cs) = refsA cs := rfl
theorem ra_nil : refsA [] = [] := rfl
theorem ra_val {v : Value} {l : List PV} : refsA (.val v :: l) = refsA l := rfl
theorem ra_lst {k : Bool} {sz : Nat} {es l : List PV} : refsA (.lst k sz es :: l) = refsA l := rfl
theorem ra_own {o a b c : Nat} {l : List PV} : refsA (.own o a b c :: l) = o :: refsA l := rfl
theorem ra_row {o a b c : Nat} {l : List PV} : refsA (.row o a b c :: l) = o :: refsA l := rfl
end
attribute [push_cast low]
  io_any
attribute [push_cast]
  ioX_nil ioX_one ioX_two ioTwo_some dd_ab inn_a inn_b outF_ab0 outF_ab1 outF_ab2 outF_a1 ioR_ab2 ioR_ab3 dd_nil dd_one dd_two rl_nil rl_cons rx_val rx_lst rx_ptr rx_own rx_row rx_agg ra_nil ra_val ra_lst ra_own ra_row
end Go.Proofs.Ytngcedklbinhjaa
namespace Go.Proofs.Ytngcedklbinhjaa
open Go.RowKit
set_option linter.all false
theorem okT_sz {n : Nat} {l : LS} (h : okT n l) (hn : n ≤ 1000) : okSs l := ⟨by have := h.1; omega, fun k => by
  by_cases hk : k < l.length
  · rw [List.getElem?_eq_getElem hk, Option.getD_some]
    have := h.2 _ (List.getElem_mem hk)
    omega
  · rw [List.getElem?_eq_none (by omega)]
    decide⟩
def okLs (l : LS) : Prop := l.length ≤ 62 ∧ ∀ s ∈ l, s.size ≤ 2000
theorem lnsK_size {l : List It} {tx : LS} {br : List Int} (h : ∀ k : Nat, (tx[k]?.getD ByteArray.empty).size ≤ 20) (hl : l.length ≤ 60) (hb : okBr l br) : ∀ k, k ≤ br.length → ∀ s ∈ lnsK l tx br k, s.size ≤ 2000
  | 0, _ => by simp [lnsK]
  | k + 1, hk => fun s hs => by
    rw [lnsK] at hs
    rcases List.mem_append.1 hs with hs | hs
    · exact lnsK_size h hl hb k (by omega) s hs
    · rw [List.mem_singleton.1 hs]
      obtain ⟨b1, b2, b3, -⟩ := hb.at_ (k := k) (by omega)
      have := lnT_size (l := l) (tx := tx) (a := frB br k) h ((br[k]?.getD 0).toNat - frB br k)
      unfold lnR
      split
      · rw [ByteArray.size_append, show (⟨#[45]⟩ : ByteArray).size = 1 from rfl]
        omega
      · omega
theorem pglV_ok (ws pats : LS) (wd most : Int) : (pglV ws pats wd most).length ≤ 60 ∧ ∀ s ∈ pglV ws pats wd most, s.size ≤ 2000 := by
  unfold pglV
  split
  · rename_i h
    unfold pglB at h
    rw [Bool.and_eq_true] at h
    obtain ⟨h1, h2⟩ := h
    have hV : piV ws pats = piR ws pats := if_pos h1
    rw [hV] at h2
    obtain ⟨hB, -, -, hm, -⟩ := brkOk_iff.1 h2
    have hb := brk_ok (wd := wd) hB hm.2
    have hl := items_len hB
    rw [lnsK_len]
    exact ⟨by have := hb.1; omega, lnsK_size tx_size hl hb _ (Nat.le_refl _)⟩
  · simp
theorem okLs_ss {l : LS} (h : okLs l) : okSs l := ⟨by have := h.1; omega, fun k => by
  by_cases hk : k < l.length
  · rw [List.getElem?_eq_getElem hk, Option.getD_some]
    have := h.2 _ (List.getElem_mem hk)
    omega
  · rw [List.getElem?_eq_none (by omega)]
    decide⟩
end Go.Proofs.Ytngcedklbinhjaa
namespace Go.Proofs.Ytngcedklbinhjaa
open Go.RowKit
set_option linter.all false
theorem places_nil (w : ByteArray) : placesR w [] = [] := by
  have h : (List.range (w.size + 1)).filter (plB w.size (levelsR w [])) = [] := List.filter_eq_nil_iff.2 fun k _ => by
    have h0 : (levelsR w [])[k]?.getD 0 = 0 := by
      show (List.replicate (w.size + 1) (0 : Int))[k]?.getD 0 = 0
      rw [List.getElem?_replicate]
      split <;> rfl
    simp only [plB, h0, decide_eq_true_eq]
    omega
  unfold placesR plK
  rw [h]
  rfl
theorem parts_nil (w : ByteArray) : (partsV w []).length ≤ 1 := by
  unfold partsV
  split
  · unfold partsR
    rw [places_nil]
    exact Nat.le_refl _
  · simp
theorem wiK_mark {ps : LS} : ∀ k, k ≤ 1 → ∀ x ∈ wiK ps k, x.mark = false
  | 0, _, x, h => by simp [wiK] at h
  | 1, _, x, h => by
    simp only [wiK, if_true, List.nil_append, List.mem_singleton] at h
    rw [h]
  | k + 2, h, _, _ => by omega
theorem piK_mark {ws : LS} : ∀ k, ∀ x ∈ piK ws [] k, x.mark = false
  | 0, x, h => by simp [piK] at h
  | k + 1, x, h => by
    rw [piK] at h
    rcases List.mem_append.1 h with h | h
    · split at h
      · exact piK_mark k x h
      · rcases List.mem_append.1 h with h | h
        · exact piK_mark k x h
        · rw [List.mem_singleton.1 h]
    · exact wiK_mark _ (parts_nil _) x h
theorem piR_mark {ws : LS} : ∀ x ∈ piR ws [], x.mark = false := fun x h => by
  unfold piR at h
  rcases List.mem_append.1 h with h | h
  · exact piK_mark _ x h
  · simp only [List.mem_cons, List.not_mem_nil, or_false] at h
    rcases h with h | h | h <;> rw [h]
def noHy (s : ByteArray) : Prop := ∀ b ∈ s.data.toList, ¬ b = 45
theorem noHy_app {a b : ByteArray} (h : noHy a) (h2 : noHy b) : noHy (a ++ b) := fun x hx => by
  rw [ByteArray.data_append, Array.toList_append] at hx
  rcases List.mem_append.1 hx with hx | hx
  · exact h x hx
  · exact h2 x hx
theorem noHy_word {s : ByteArray} (h : wordB s = true) : noHy s := fun b hb e => by
  obtain ⟨i, hi, rfl⟩ := List.getElem_of_mem hb
  have hi2 : i < s.size := by simpa using hi
  unfold wordB at h
  rw [Bool.and_eq_true, List.all_eq_true] at h
  have h1 := inB_iff.1 (h.1 i (List.mem_range.2 hi2))
  have h2 : at8 s i = (s.data.toList[i].toNat : Int) := by
    unfold at8
    rw [getElem?_pos s i hi2]
    rfl
  rw [h2, e] at h1
  exact absurd h1.1 (by decide)
theorem tx_noHy (ws pats : LS) (k : Nat) : noHy ((txR ws pats)[k]?.getD .empty) := by
  by_cases h : k < (txR ws pats).length
  · exact noHy_word (txR_at h)
  · rw [List.getElem?_eq_none (by omega)]
    intro b hb
    simp at hb
theorem lnT_noHy {l : List It} {tx : LS} {a : Nat} (h : ∀ k : Nat, noHy (tx[k]?.getD .empty)) : ∀ j, noHy (lnT l tx a j)
  | 0 => fun b hb => by simp [lnT] at hb
  | j + 1 => by
    have ih := lnT_noHy (l := l) (a := a) h j
    rw [lnT]
    unfold lnStep
    split
    · exact noHy_app ih (h _)
    · split
      · refine noHy_app ih fun b hb => ?_
        rw [List.mem_singleton.1 hb]
        decide
      · exact ih
theorem ends_noHy {s : ByteArray} (h : noHy s) : endsHy s = false := decide_eq_false fun ⟨h1, h2⟩ => by
  have hi : s.size - 1 < s.size := by omega
  unfold at8 at h2
  rw [getElem?_pos s _ hi] at h2
  have h3 : (s[s.size - 1]'hi).toNat = 45 := by
    have : (((s[s.size - 1]'hi).toNat : Nat) : Int) = 45 := h2
    omega
  refine h (s[s.size - 1]'hi) (by
    show s.data[s.size - 1] ∈ s.data.toList
    exact Array.getElem_mem_toList _) (UInt8.toNat.inj h3)
theorem lnsK_noHy {l : List It} {tx : LS} {br : List Int} (hm : ∀ x ∈ l, x.mark = false) (h : ∀ k : Nat, noHy (tx[k]?.getD .empty)) : ∀ k, ∀ s ∈ lnsK l tx br k, endsHy s = false
  | 0, s, hs => by simp [lnsK] at hs
  | k + 1, s, hs => by
    rw [lnsK] at hs
    rcases List.mem_append.1 hs with hs | hs
    · exact lnsK_noHy hm h k s hs
    · rw [List.mem_singleton.1 hs]
      unfold lnR
      have h0 : (gI l (br[k]?.getD 0).toNat).mark = false := by
        by_cases hk : (br[k]?.getD 0).toNat < l.length
        · unfold gI
          rw [List.getElem?_eq_getElem hk, Option.getD_some]
          exact hm _ (List.getElem_mem hk)
        · unfold gI
          rw [List.getElem?_eq_none (by omega)]
          rfl
      rw [if_neg (by rw [h0]; decide)]
      exact ends_noHy (lnT_noHy h _)
theorem free_hy (ws : LS) (wd most : Int) : hyN (pglV ws [] wd most) = 0 := by
  unfold hyN
  rw [List.filter_eq_nil_iff.2 fun s hs => ?_]
  · rfl
  · unfold pglV at hs
    split at hs
    · rw [lnsK_noHy piR_mark (tx_noHy ws []) _ s hs]
      decide
    · simp at hs
end Go.Proofs.Ytngcedklbinhjaa
namespace Go.Proofs.Ytngcedklbinhjaa
open Go.RowKit
open Go.ChangeMaps (setBlock heap_setBlock_same heap_setBlock_other modify_eq_set)
open Go.Maps (Keyed)
set_option linter.all false
abbrev VL := List (Value × Value)
abbrev kv (e : MapEntry) : Value × Value := (e.key, e.val)
structure EntL (P : Program) (k : TypeId) (es : Array MapEntry) (clock : Nat) (L : VL) : Prop where
  list : es.toList.map kv = L
  old : ∀ e ∈ es.toList, e.born < clock
  born : (es.toList.map (·.born)).Nodup
  keys : (L.map Prod.fst).Nodup
  keyed : ∀ p ∈ L, ∃ l, keyOf P k p.1 = some l
def MapL (P : Program) (k : TypeId) (w : World) (b : Nat) (L : VL) : Prop := ∃ es clock, w.heap[b]? = some (.map es clock) ∧ EntL P k es clock L
def IterL (P : Program) (k : TypeId) (w : World) (r b : Nat) (L : VL) (left : List Value) : Prop :=
  ∃ es clock since seen c0, w.heap[b]? = some (.map es clock) ∧ EntL P k es clock L ∧ w.heap[r]? = some (.mapIter (some b) since seen c0) ∧ (∀ x ∈ es.toList, x.born < since) ∧ since ≤ c0 ∧ since ≤ clock ∧ (leftOf es seen).toList.map (·.key) = left
variable {P : Program} {k t e : TypeId} {w w' : World} {b r : Nat} {L : VL} {left : List Value} {key v : Value} {kl : Lit}
theorem MapL.lt (h : MapL P k w b L) : b < w.heap.size := by
  obtain ⟨es, clock, hb, _⟩ := h
  exact (Array.getElem?_eq_some_iff.1 hb).1
theorem MapL.made (w : World) : MapL P k (w.alloc (.map #[] 0)) w.heap.size [] :=
  ⟨#[], 0, (MapKept.heap_alloc w _).1, rfl, by simp, by simp, by simp, by simp⟩
theorem EntL.key_mem {es : Array MapEntry} {clock : Nat} (H : EntL P k es clock L) {e0 : MapEntry} (h : e0 ∈ es.toList) : (e0.key, e0.val) ∈ L := by
  rw [← H.list]
  exact List.mem_map.2 ⟨e0, h, rfl⟩
theorem EntL.all {es : Array MapEntry} {clock : Nat} (H : EntL P k es clock L) : ∀ e ∈ es.toList, ∃ l, keyOf P k e.key = some l := fun e he => H.keyed _ (H.key_mem he)
theorem nodup_val {L : VL} (h : (L.map Prod.fst).Nodup) {key v v' : Value} (h1 : (key, v) ∈ L) (h2 : (key, v') ∈ L) : v = v' := by
  induction L with
  | nil => simp at h1
  | cons x L ih =>
    rw [List.map_cons, List.nodup_cons] at h
    rcases List.mem_cons.1 h1 with e1 | h1
    · rcases List.mem_cons.1 h2 with e2 | h2
      · have := e1.trans e2.symm
        exact (Prod.ext_iff.1 this).2
      · exact absurd (List.mem_map.2 ⟨_, h2, by rw [← e1]⟩) h.1
    · rcases List.mem_cons.1 h2 with e2 | h2
      · exact absurd (List.mem_map.2 ⟨_, h1, by rw [← e2]⟩) h.1
      · exact ih h.2 h1 h2
theorem MapL.look_yes (h : MapL P k w b L) (K : Keyed P k) (ht : P.underlying t = some (.map k e)) (c : Bool) (hkey : keyOf P k key = some kl) (hm : (key, v) ∈ L) :
    (Instr.lookup t (.map (some b)) key c).run P w = .ok (if c then .tuple #[v, .bool true] else v) w := by
  obtain ⟨es, clock, hb, H⟩ := h
  rcases K.find w hkey es.toList H.all with ⟨h1, h2⟩ | ⟨j, e0, h1, h2, h3⟩
  · rw [← H.list] at hm
    obtain ⟨e0, he, h4⟩ := List.mem_map.1 hm
    exact absurd (Prod.ext_iff.1 h4).1 (h2 e0 he)
  · have hv : e0.val = v := nodup_val H.keys (h3 ▸ H.key_mem (List.mem_of_getElem? h2)) hm
    rw [← hv]
    simp [Instr.lookup, run_underlying ht, MapKept.run_getObj_map hb, K.check w _ hkey, h1, Result.andThen]
theorem MapL.look_no (h : MapL P k w b L) (K : Keyed P k) (ht : P.underlying t = some (.map k e)) (c : Bool) (hkey : keyOf P k key = some kl) {z : Value} (hz : (zeroValue e).run P w = .ok z w) (hm : ∀ p ∈ L, p.1 ≠ key) :
    (Instr.lookup t (.map (some b)) key c).run P w = .ok (if c then .tuple #[z, .bool false] else z) w := by
  obtain ⟨es, clock, hb, H⟩ := h
  rcases K.find w hkey es.toList H.all with ⟨h1, h2⟩ | ⟨j, e0, h1, h2, h3⟩
  · simp [Instr.lookup, run_underlying ht, MapKept.run_getObj_map hb, K.check w _ hkey, h1, hz, Result.andThen]
  · exact absurd h3 (hm _ (H.key_mem (List.mem_of_getElem? h2)))
theorem grown_setBlock {o o' : Obj} (hb : w.heap[b]? = some o) : w.grownBy (setBlock w b o') (some b) :=
  ⟨rfl, rfl, rfl, by simp [setBlock], fun i _ hi => by
    have : i ≠ b := fun e1 => hi (by rw [e1])
    simp [setBlock, Array.getElem?_setIfInBounds, Ne.symm this]⟩
theorem EntL.push {es : Array MapEntry} {clock : Nat} (H : EntL P k es clock L) (hkey : keyOf P k key = some kl) (hm : ∀ p ∈ L, p.1 ≠ key) : EntL P k (es.push ⟨key, v, clock⟩) (clock + 1) (L ++ [(key, v)]) := by
  refine ⟨?_, fun e0 he => ?_, ?_, ?_, fun p hp => ?_⟩
  · rw [Array.toList_push, List.map_append, H.list]; rfl
  · rw [Array.toList_push] at he
    rcases List.mem_append.1 he with he | he
    · have := H.old e0 he; omega
    · rw [List.mem_singleton.1 he]; exact Nat.lt_succ_self _
  · rw [Array.toList_push, List.map_append, List.nodup_append]
    refine ⟨H.born, by simp, fun a ha c hc => ?_⟩
    obtain ⟨e0, he, rfl⟩ := List.mem_map.1 ha
    simp only [List.map_cons, List.map_nil, List.mem_singleton] at hc
    have := H.old e0 he
    omega
  · rw [List.map_append, List.nodup_append]
    refine ⟨H.keys, by simp, fun a ha c hc => ?_⟩
    obtain ⟨p, hp, rfl⟩ := List.mem_map.1 ha
    simp only [List.map_cons, List.map_nil, List.mem_singleton] at hc
    rw [hc]
    exact hm p hp
  · rcases List.mem_append.1 hp with hp | hp
    · exact H.keyed p hp
    · rw [List.mem_singleton.1 hp]; exact ⟨kl, hkey⟩
theorem MapL.upd_new (h : MapL P k w b L) (K : Keyed P k) (ht : P.underlying t = some (.map k e)) (hkey : keyOf P k key = some kl) (hm : ∀ p ∈ L, p.1 ≠ key) :
    ∃ w', (Instr.mapUpdate t (.map (some b)) key v).run P w = .ok () w' ∧ MapL P k w' b (L ++ [(key, v)]) ∧ w.grownBy w' (some b) ∧ w'.heap.size = w.heap.size := by
  obtain ⟨es, clock, hb, H⟩ := h
  rcases K.find w hkey es.toList H.all with ⟨h1, h2⟩ | ⟨j, e0, h1, h2, h3⟩
  · refine ⟨setBlock w b (.map (es.push ⟨key, v, clock⟩) (clock + 1)), ?_, ⟨_, _, heap_setBlock_same hb _, H.push hkey hm⟩, grown_setBlock hb, by simp [setBlock]⟩
    simp [Instr.mapUpdate, run_underlying ht, MapKept.run_getObj_map hb, K.check w false hkey, h1, MapKept.run_setObj_map _ hb, Result.andThen, setBlock]
  · exact absurd h3 (hm _ (H.key_mem (List.mem_of_getElem? h2)))
theorem EntL.set {es : Array MapEntry} {clock : Nat} {L1 L2 : VL} {v0 : Value} {j : Nat} {e0 : MapEntry} (H : EntL P k es clock (L1 ++ (key, v0) :: L2)) (h2 : es.toList[j]? = some e0) (h3 : e0.key = key) :
    EntL P k (es.modify j fun e' => { e' with key := key, val := v }) clock (L1 ++ (key, v) :: L2) ∧ (es.modify j fun e' => { e' with key := key, val := v }).toList = es.toList.set j { e0 with key := key, val := v } := by
  have hl : (es.modify j (fun e' => { e' with key := key, val := v })).toList = es.toList.set j { e0 with key := key, val := v } := by rw [Array.toList_modify, modify_eq_set _ _ _ _ h2]
  have hL : (L1 ++ (key, v0) :: L2)[j]? = some (key, e0.val) := by rw [← H.list, List.getElem?_map, h2, ← h3]; rfl
  have hj : j = L1.length := by
    have hjl := (List.getElem?_eq_some_iff.1 hL).1
    refine (List.getElem?_inj (by simpa using hjl) H.keys).1 ?_
    rw [List.getElem?_map, hL]
    simp
  refine ⟨⟨?_, fun x hx => ?_, ?_, ?_, fun p hp => ?_⟩, hl⟩
  · rw [hl, List.map_set, H.list, hj]
    simp
  · rw [hl] at hx
    rcases List.mem_or_eq_of_mem_set hx with hx | rfl
    · exact H.old x hx
    · exact H.old e0 (List.mem_of_getElem? h2)
  · rw [hl, List.map_set]
    have : (es.toList.map (·.born))[j]? = some e0.born := by rw [List.getElem?_map, h2]; rfl
    have e2 : (es.toList.map (·.born)).set j e0.born = es.toList.map (·.born) := by
      obtain ⟨hlt, he⟩ := List.getElem?_eq_some_iff.1 this
      exact he ▸ List.set_getElem_self hlt
    rw [show ({ e0 with key := key, val := v } : MapEntry).born = e0.born from rfl, e2]
    exact H.born
  · have := H.keys
    simpa using this
  · rcases List.mem_append.1 hp with hp | hp
    · exact H.keyed p (List.mem_append.2 (.inl hp))
    · rcases List.mem_cons.1 hp with rfl | hp
      · exact H.keyed (key, v0) (by simp)
      · exact H.keyed p (by simp [hp])
theorem MapL.upd_old {L1 L2 : VL} {v0 : Value} (h : MapL P k w b (L1 ++ (key, v0) :: L2)) (K : Keyed P k) (ht : P.underlying t = some (.map k e)) (hkey : keyOf P k key = some kl) :
    ∃ w', (Instr.mapUpdate t (.map (some b)) key v).run P w = .ok () w' ∧ MapL P k w' b (L1 ++ (key, v) :: L2) ∧ w.grownBy w' (some b) ∧ w'.heap.size = w.heap.size := by
  obtain ⟨es, clock, hb, H⟩ := h
  rcases K.find w hkey es.toList H.all with ⟨h1, h2⟩ | ⟨j, e0, h1, h2, h3⟩
  · have hm : (key, v0) ∈ es.toList.map kv := by rw [H.list]; simp
    obtain ⟨e0, he, h4⟩ := List.mem_map.1 hm
    exact absurd (Prod.ext_iff.1 h4).1 (h2 e0 he)
  · have hj : es[j]? = some e0 := by simpa using h2
    refine ⟨setBlock w b (.map (es.modify j fun e' => { e' with key := key, val := v }) clock), ?_, ⟨_, _, heap_setBlock_same hb _, (H.set h2 h3).1⟩, grown_setBlock hb, by simp [setBlock]⟩
    simp [Instr.mapUpdate, run_underlying ht, MapKept.run_getObj_map hb, K.check w false hkey, h1, hj, h3, K.stays w hkey, MapKept.run_setObj_map _ hb, Result.andThen, setBlock]
theorem IterL.ne (h : IterL P k w r b L left) : r ≠ b := by
  obtain ⟨es, clock, since, seen, c0, hb, _, hr, _⟩ := h
  intro e1
  rw [e1, hb] at hr
  cases hr
theorem MapL.range (h : MapL P k w b L) (ht : P.underlying t = some (.map k e)) :
    ∃ w', (Instr.range t (.map (some b))).run P w = .ok (.pointer (some ⟨w.heap.size, 0, none⟩)) w' ∧ IterL P k w' w.heap.size b L (L.map Prod.fst) ∧ w.grownBy w' none ∧ w'.heap.size = w.heap.size + 1 := by
  have hlt := h.lt
  obtain ⟨es, clock, hb, H⟩ := h
  refine ⟨_, run_range_map w t k e b es clock ht hb, ⟨es, clock, clock, #[], clock, ((MapKept.heap_alloc w _).2 b hlt).trans hb, H, (MapKept.heap_alloc w _).1, H.old, Nat.le_refl _, Nat.le_refl _, ?_⟩, World.grownBy_alloc w _ none, by simp⟩
  rw [← H.list, List.map_map]
  simp only [leftOf, Array.toList_filter]
  rw [List.filter_eq_self.2 (fun x _ => by simp)]
  rfl
theorem IterL.next (h : IterL P k w r b L left) (ty : TypeId) :
    (left = [] ∧ (Instr.next (.pointer (some ⟨r, 0, none⟩)) false ty).run P w = .ok (.tuple #[.bool false]) w) ∨
    ∃ key v w' left', key ∈ left ∧ (key, v) ∈ L ∧ (Instr.next (.pointer (some ⟨r, 0, none⟩)) false ty).run P w = .ok (.tuple #[.bool true, key, v]) w' ∧ IterL P k w' r b L left' ∧
      (∀ x, x ∈ left' ↔ x ∈ left ∧ x ≠ key) ∧ left'.length < left.length ∧ w.grownBy w' (some r) ∧ w'.heap.size = w.heap.size ∧ ∀ w2 : World, w2.heap[r]? = w'.heap[r]? → w2.heap[b]? = w'.heap[b]? → (Instr.entry (.pointer (some ⟨r, 0, none⟩))).run P w2 = .ok (.tuple #[key, v]) w2 := by
  have hne := h.ne
  obtain ⟨es, clock, since, seen, c0, hb, H, hr, hold, hsc, hsk, rfl⟩ := h
  rcases run_next_at (P := P) w ty r b since c0 seen es clock hr hb hold hsc with ⟨h0, hrun⟩ | ⟨e, he, w1, hal, hrun⟩
  · refine Or.inl ⟨?_, hrun⟩
    have : (leftOf es seen).toList = [] := List.eq_nil_of_length_eq_zero (by rw [Array.length_toList]; exact h0)
    rw [this]
    rfl
  · obtain ⟨hem, hes⟩ := mem_left he
    have hr1 : w1.heap[r]? = some (.mapIter (some b) since seen c0) := by rcases hal with rfl | rfl <;> exact hr
    have hb1 : w1.heap[b]? = some (.map es clock) := by rcases hal with rfl | rfl <;> exact hb
    have hset := MapKept.heap_set (o' := .mapIter (some b) since (seen.push e.born) clock) hr1
    have hb' : (setBlock w1 r (.mapIter (some b) since (seen.push e.born) clock)).heap[b]? = some (.map es clock) := (hset.2 b (fun e1 => hne e1.symm)).trans hb1
    refine Or.inr ⟨e.key, e.val, _, _, List.mem_map.2 ⟨e, he, rfl⟩, H.key_mem hem, hrun, ⟨es, clock, since, seen.push e.born, clock, hb', H, hset.1, hold, hsk, hsk, rfl⟩, fun x => ?_, ?_, ?_, ?_,
      fun w2 h1 h2 => run_entry_at w2 r b since seen es clock e (h1.trans hset.1) (h2.trans hb') hem H.born⟩
    · have key1 : ∀ y ∈ es.toList, y.key = e.key → y.born = e.born := fun y hy h1 => by
        have hk := H.keys
        rw [← H.list, List.map_map] at hk
        obtain ⟨i, hi, rfl⟩ := List.getElem_of_mem hy
        obtain ⟨j, hj, rfl⟩ := List.getElem_of_mem hem
        have : i = j := by
          refine (List.getElem?_inj (by simpa using hi) hk).1 ?_
          rw [List.getElem?_map, List.getElem?_map, List.getElem?_eq_getElem hi, List.getElem?_eq_getElem hj]
          exact congrArg some h1
        subst this
        rfl
      constructor
      · intro hx
        obtain ⟨y, hy, rfl⟩ := List.mem_map.1 hx
        obtain ⟨y1, y2⟩ := mem_left hy
        rw [Array.contains_push] at y2
        simp only [Bool.or_eq_false_iff] at y2
        refine ⟨List.mem_map.2 ⟨y, ?_, rfl⟩, fun h1 => ?_⟩
        · simp only [leftOf, Array.mem_toList_iff, Array.mem_filter]
          exact ⟨by simpa using y1, by simp only [Bool.not_eq_true']; exact y2.1⟩
        · have := key1 y y1 h1
          simp [this] at y2
      · rintro ⟨hx, hxe⟩
        obtain ⟨y, hy, rfl⟩ := List.mem_map.1 hx
        obtain ⟨y1, y2⟩ := mem_left hy
        refine List.mem_map.2 ⟨y, ?_, rfl⟩
        simp only [leftOf, Array.mem_toList_iff, Array.mem_filter]
        refine ⟨by simpa using y1, ?_⟩
        rw [Array.contains_push, y2]
        have hbn : y.born ≠ e.born := fun h1 => hxe (by
          have hk := H.born
          obtain ⟨i, hi, rfl⟩ := List.getElem_of_mem y1
          obtain ⟨j, hj, rfl⟩ := List.getElem_of_mem hem
          have : i = j := by
            refine (List.getElem?_inj (by simpa using hi) hk).1 ?_
            rw [List.getElem?_map, List.getElem?_map, List.getElem?_eq_getElem hi, List.getElem?_eq_getElem hj]
            exact congrArg some h1
          subst this
          rfl)
        simp [hbn]
    · have := left_shrinks es seen e he
      simpa using this
    · rcases hal with rfl | rfl <;> exact ⟨rfl, rfl, rfl, by simp [setBlock], fun i _ hi => hset.2 i (fun e1 => hi (by rw [e1]))⟩
    · rcases hal with rfl | rfl <;> simp [setBlock]
theorem IterL.upd {L1 L2 : VL} {v0 : Value} (h : IterL P k w r b (L1 ++ (key, v0) :: L2) left) (K : Keyed P k) (ht : P.underlying t = some (.map k e)) (hkey : keyOf P k key = some kl) :
    ∃ w', (Instr.mapUpdate t (.map (some b)) key v).run P w = .ok () w' ∧ IterL P k w' r b (L1 ++ (key, v) :: L2) left ∧ w.grownBy w' (some b) ∧ w'.heap.size = w.heap.size := by
  have hne := h.ne
  obtain ⟨es, clock, since, seen, c0, hb, H, hr, hold, hsc, hsk, rfl⟩ := h
  rcases K.find w hkey es.toList H.all with ⟨h1, h2⟩ | ⟨j, e0, h1, h2, h3⟩
  · have hm : (key, v0) ∈ es.toList.map kv := by rw [H.list]; simp
    obtain ⟨e0, he, h4⟩ := List.mem_map.1 hm
    exact absurd (Prod.ext_iff.1 h4).1 (h2 e0 he)
  · have hj : es[j]? = some e0 := by simpa using h2
    obtain ⟨hE, hl⟩ := H.set (v := v) h2 h3
    refine ⟨setBlock w b (.map (es.modify j fun e' => { e' with key := key, val := v }) clock), ?_, ⟨_, clock, since, seen, c0, heap_setBlock_same hb _, hE, (heap_setBlock_other hb _ hne).trans hr, fun x hx => ?_, hsc, hsk, ?_⟩, grown_setBlock hb, by simp [setBlock]⟩
    · simp [Instr.mapUpdate, run_underlying ht, MapKept.run_getObj_map hb, K.check w false hkey, h1, hj, h3, K.stays w hkey, MapKept.run_setObj_map _ hb, Result.andThen, setBlock]
    · rw [hl] at hx
      rcases List.mem_or_eq_of_mem_set hx with hx | rfl
      · exact hold x hx
      · exact hold e0 (List.mem_of_getElem? h2)
    · simp only [leftOf, Array.toList_filter, hl]
      have hs : ∀ (l : List MapEntry) (j : Nat), l[j]? = some e0 → ((l.set j { e0 with key := key, val := v }).filter fun e => !seen.contains e.born).map (·.key) = (l.filter fun e => !seen.contains e.born).map (·.key) := by
        intro l
        induction l with
        | nil => intro j hj; simp at hj
        | cons x l ih =>
          intro j hj
          cases j with
          | zero =>
            simp only [List.getElem?_cons_zero, Option.some.injEq] at hj
            subst hj
            rw [List.set_cons_zero, List.filter_cons, List.filter_cons]
            dsimp only
            split
            · rw [List.map_cons, List.map_cons, h3]
            · rfl
          | succ j =>
            rw [List.getElem?_cons_succ] at hj
            rw [List.set_cons_succ, List.filter_cons, List.filter_cons]
            split
            · rw [List.map_cons, List.map_cons, ih j hj]
            · exact ih j hj
      exact hs _ j h2
end Go.Proofs.Ytngcedklbinhjaa
