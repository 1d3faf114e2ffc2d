/- What the proof rests on, part 13: contracts of functions. No condition beyond what each states. -/
import Derived.Test.YtpggpdbipajchaaDoorZIoD12
namespace Go.Proofs.YtpggpdbipajchaaDoor
open Go.RowKit
set_option linter.all false
abbrev EWs (l : List W2) : PV := .lst true 2 (l.map fun x => PV.agg [.val (.string x.1), .val (.int .i64 x.2)])
def okWs (l : List W2) : Prop := l.length ≤ 9 ∧ ∀ x ∈ l, x.1.size ≤ 5
theorem okWs_app {l : List W2} {a : ByteArray} {b : Int} (h : l.length ≤ 8) (h1 : ∀ x ∈ l, x.1.size ≤ 5) (h2 : a.size ≤ 5) : okWs (l ++ [(a, b)]) := by
  refine ⟨by simp; omega, fun x hx => ?_⟩
  rcases List.mem_append.1 hx with hx | hx
  · exact h1 x hx
  · simp only [List.mem_singleton] at hx
    subst hx
    exact h2
set_option maxHeartbeats 8000000 in
theorem index_ex : ∃ Φ : FunIO, SoundIO Tryd.prog 83 Φ ∧ Drw2 102 Φ 600000000 100 EWs (fun n => 0 ≤ n ∧ n ≤ 1000) (fun _ l => okWs l) := by
  refine drw2_of mixed GRd_ok Tryd.func83 rfl 41 rfl [.tmp 4] rfl (by kernel_rfl) (by simp) _ _ _ _ _ _ fun code p n hok hp hn => ?_
  have hp0 := hok.pos
  repeat' (first | (first | (with_reducible first | apply i_seq | apply i_block | apply i_skip | apply i_exit | apply i_ret | apply i_kS | apply i_kSx | apply i_kSr | apply i_kL | apply i_kLx | apply i_kLr | apply i_kB | apply i_kBr | apply i_kBs | apply i_nil) | ((with_reducible apply i_region); (simp only [List.map_cons, List.map_nil] <;> exact rfl)) | ((with_reducible apply i_draw); (simp only [List.map_cons, List.map_nil] <;> exact rfl); decide +kernel) | ((with_reducible apply i_kBo); rfl) | ((first | ((with_reducible apply i_V); rfl; rfl; rfl) | ((first | ((with_reducible apply i_E); rfl) | ((with_reducible apply i_S); rfl)); first | rfl | (simp only [push_cast, ↓reduceIte])) | ((with_reducible apply i_Vq); rfl; rfl) | ((with_reducible apply i_Vp); rfl; rfl; rfl) | (with_reducible first | apply i_Gb | apply i_cond)); (simp (disch := (first | omega | (simp only [push_cast]; first | done | omega))) only [push_cast, ↓reduceIte, Nat.reduceEqDiff, Nat.reduceBEq, Nat.reduceAdd, Nat.reduceSub, Int.reduceToNat, *] <;> with_reducible exact rfl); all_goals try (first | (with_reducible first | refine hyT ?_ | refine hyF ?_ | exact hyA | exact hyB) | (intro hX; first | (cases hX; done) | ((try simp only [decide_eq_true_eq, decide_eq_false_iff_not, Bool.not_eq_true', Bool.not_eq_false'] at hX); (try have hXb := inB_iff.1 hX)))))) | ((with_reducible apply i_drw2 pick_drw (fun _ _ => rfl)); rfl; (simp (disch := (first | omega | (simp only [push_cast]; first | done | omega))) only [push_cast, ↓reduceIte, Nat.reduceEqDiff, Nat.reduceBEq, Nat.reduceAdd, Nat.reduceSub, Int.reduceToNat, *] <;> with_reducible exact rfl); (simp (disch := (first | omega | (simp only [push_cast]; first | done | omega))) only [push_cast, ↓reduceIte, Nat.reduceEqDiff, Nat.reduceBEq, Nat.reduceAdd, Nat.reduceSub, Int.reduceToNat, *] <;> with_reducible exact rfl); (simp (disch := (first | omega | (simp only [push_cast]; first | done | omega))) only [push_cast, ↓reduceIte, Nat.reduceEqDiff, Nat.reduceBEq, Nat.reduceAdd, Nat.reduceSub, Int.reduceToNat, *] <;> with_reducible exact rfl); assumption; omega; (focus (first | trivial | omega)); (focus (first | rfl | (simp only [push_cast, ↓reduceIte]))); intro v pp hv hok hpp1 hpp2) | ((with_reducible apply i_drw2 odd_drw (fun _ _ => rfl)); rfl; (simp (disch := (first | omega | (simp only [push_cast]; first | done | omega))) only [push_cast, ↓reduceIte, Nat.reduceEqDiff, Nat.reduceBEq, Nat.reduceAdd, Nat.reduceSub, Int.reduceToNat, *] <;> with_reducible exact rfl); (simp (disch := (first | omega | (simp only [push_cast]; first | done | omega))) only [push_cast, ↓reduceIte, Nat.reduceEqDiff, Nat.reduceBEq, Nat.reduceAdd, Nat.reduceSub, Int.reduceToNat, *] <;> with_reducible exact rfl); (simp (disch := (first | omega | (simp only [push_cast]; first | done | omega))) only [push_cast, ↓reduceIte, Nat.reduceEqDiff, Nat.reduceBEq, Nat.reduceAdd, Nat.reduceSub, Int.reduceToNat, *] <;> with_reducible exact rfl); assumption; omega; (focus (first | trivial | omega)); (focus (first | rfl | (simp only [push_cast, ↓reduceIte]))); intro v pp hv hok hpp1 hpp2))
  rename_i h0
  refine i_loop (α := List W2 × Int × Int × Nat × Nat) mixed (fun s => [(0, .own 0 2 0 0), (1, iv n), (5, .row s.2.2.2.1 2 0 s.1.length), (6, iv s.2.1)])
    (fun s => [(0, rdC 102 code s.2.2.1), (s.2.2.2.1, 61, 2, s.1.map fun x => PV.agg [.val (.string x.1), .val (.int .i64 x.2)])]) (fun s => s.2.2.2.2)
    (fun s => okRd code s.2.2.1 ∧ (∀ x ∈ s.1, x.1.size ≤ 5) ∧ p ≤ s.2.2.1 ∧ s.2.2.1 + 2 * s.2.1 ≤ p + 20 ∧ s.1.length + s.2.1 ≤ 8 ∧ 0 ≤ s.2.1 ∧ 0 < s.2.2.2.1 ∧ s.2.2.2.1 < s.2.2.2.2) (fun s => s.2.1.toNat) (by kernel_rfl) ([], v, pp, 1, 2) ⟨hok, by simp, ?_⟩ ?_ ?_ rfl ?_
  · dsimp only [List.length_nil]; omega
  · exact agr
  · exact agr
  rintro ⟨l, k, q, x, y⟩ ⟨okq, hl, i1, i2, i3, i4, i5, i6⟩
  dsimp only at okq hl i1 i2 i3 i4 i5 i6
  clear hok h0
  have e5 : ∀ a ∈ ([⟨#[97]⟩, ⟨#[111, 102]⟩, ⟨#[119, 97, 116, 101, 114]⟩, ⟨#[102, 108, 111, 119]⟩, ⟨#[116, 97, 98, 108, 101]⟩] : List ByteArray), a.size ≤ 5 := by decide
  have e3 : ∀ a ∈ ([(⟨#[65]⟩, 1), (⟨#[97]⟩, 0), (⟨#[97]⟩, 1000)] : List W2), a.1.size ≤ 5 := by decide
  repeat' (first | (first | (with_reducible first | apply i_seq | apply i_block | apply i_skip | apply i_exit | apply i_ret | apply i_kS | apply i_kSx | apply i_kSr | apply i_kL | apply i_kLx | apply i_kLr | apply i_kB | apply i_kBr | apply i_kBs | apply i_nil) | ((with_reducible apply i_region); (simp only [List.map_cons, List.map_nil] <;> exact rfl)) | ((with_reducible apply i_draw); (simp only [List.map_cons, List.map_nil] <;> exact rfl); decide +kernel) | ((with_reducible apply i_kBo); rfl) | ((first | ((with_reducible apply i_V); rfl; rfl; rfl) | ((first | ((with_reducible apply i_E); rfl) | ((with_reducible apply i_S); rfl)); first | rfl | (simp only [push_cast, ↓reduceIte])) | ((with_reducible apply i_Vq); rfl; rfl) | ((with_reducible apply i_Vp); rfl; rfl; rfl) | (with_reducible first | apply i_Gb | apply i_cond)); (simp (disch := (first | omega | (simp only [push_cast]; first | done | omega))) only [push_cast, ↓reduceIte, Nat.reduceEqDiff, Nat.reduceBEq, Nat.reduceAdd, Nat.reduceSub, Int.reduceToNat, *] <;> with_reducible exact rfl); all_goals try (first | (with_reducible first | refine hyT ?_ | refine hyF ?_ | exact hyA | exact hyB) | (intro hX; first | (cases hX; done) | ((try simp only [decide_eq_true_eq, decide_eq_false_iff_not, Bool.not_eq_true', Bool.not_eq_false'] at hX); (try have hXb := inB_iff.1 hX)))))) | ((with_reducible apply i_drw2 pick_drw (fun _ _ => rfl)); rfl; (simp (disch := (first | omega | (simp only [push_cast]; first | done | omega))) only [push_cast, ↓reduceIte, Nat.reduceEqDiff, Nat.reduceBEq, Nat.reduceAdd, Nat.reduceSub, Int.reduceToNat, *] <;> with_reducible exact rfl); (simp (disch := (first | omega | (simp only [push_cast]; first | done | omega))) only [push_cast, ↓reduceIte, Nat.reduceEqDiff, Nat.reduceBEq, Nat.reduceAdd, Nat.reduceSub, Int.reduceToNat, *] <;> with_reducible exact rfl); (simp (disch := (first | omega | (simp only [push_cast]; first | done | omega))) only [push_cast, ↓reduceIte, Nat.reduceEqDiff, Nat.reduceBEq, Nat.reduceAdd, Nat.reduceSub, Int.reduceToNat, *] <;> with_reducible exact rfl); assumption; omega; (focus (first | trivial | omega)); (focus (first | rfl | (simp only [push_cast, ↓reduceIte]))); intro v pp hv hok hpp1 hpp2) | ((with_reducible apply i_drw2 odd_drw (fun _ _ => rfl)); rfl; (simp (disch := (first | omega | (simp only [push_cast]; first | done | omega))) only [push_cast, ↓reduceIte, Nat.reduceEqDiff, Nat.reduceBEq, Nat.reduceAdd, Nat.reduceSub, Int.reduceToNat, *] <;> with_reducible exact rfl); (simp (disch := (first | omega | (simp only [push_cast]; first | done | omega))) only [push_cast, ↓reduceIte, Nat.reduceEqDiff, Nat.reduceBEq, Nat.reduceAdd, Nat.reduceSub, Int.reduceToNat, *] <;> with_reducible exact rfl); (simp (disch := (first | omega | (simp only [push_cast]; first | done | omega))) only [push_cast, ↓reduceIte, Nat.reduceEqDiff, Nat.reduceBEq, Nat.reduceAdd, Nat.reduceSub, Int.reduceToNat, *] <;> with_reducible exact rfl); assumption; omega; (focus (first | trivial | omega)); (focus (first | rfl | (simp only [push_cast, ↓reduceIte]))); intro v pp hv hok hpp1 hpp2))
  all_goals try ((with_reducible apply i_fin1 (by first | exact .inl rfl | exact .inr rfl)); (focus (simp (disch := (first | omega | (simp only [push_cast]; first | done | omega))) only [push_cast, ↓reduceIte, Nat.reduceEqDiff, Nat.reduceBEq, Nat.reduceAdd, Nat.reduceSub, Int.reduceToNat, rep_iv, rep_sv, rep_w, rep_i3, rep_i4, *] <;> with_reducible exact rfl)); (focus (simp (disch := (first | omega | (simp only [push_cast]; first | done | omega))) only [push_cast, ↓reduceIte, Nat.reduceEqDiff, Nat.reduceBEq, Nat.reduceAdd, Nat.reduceSub, Int.reduceToNat, rep_iv, rep_sv, rep_w, rep_i3, rep_i4, *] <;> with_reducible exact rfl)))
  all_goals try (first | omega | assumption | exact ⟨by omega, by assumption⟩ | exact okWs_app (by omega) (by assumption) (sel_all (p := fun a : W2 => a.1.size ≤ 5) e3 (by simp only [List.length_cons, List.length_nil]; omega)))
  · rename_i v1 p1 hv1 ok1 a1 a2
    refine ⟨(l ++ [(sel .empty [⟨#[97]⟩, ⟨#[111, 102]⟩, ⟨#[119, 97, 116, 101, 114]⟩, ⟨#[102, 108, 111, 119]⟩, ⟨#[116, 97, 98, 108, 101]⟩] v1.toNat, 1 + v)], k - 1, pp, y, y + 1), ⟨hok, (okWs_app (by omega) (by assumption) (sel_all (p := fun a : ByteArray => a.size ≤ 5) e5 (by simp only [List.length_cons, List.length_nil]; omega))).2, ?_⟩, ?_, ?_, ?_, rfl⟩
    · simp only [List.length_append, List.length_cons, List.length_nil]; omega
    · dsimp only; omega
    · exact agr
    · exact agr
noncomputable def Φindex : FunIO := Classical.choose index_ex
theorem index_io : SoundIO Tryd.prog 83 Φindex := (Classical.choose_spec index_ex).1
theorem index_drw : Drw2 102 Φindex 600000000 100 EWs (fun n => 0 ≤ n ∧ n ≤ 1000) (fun _ l => okWs l) := (Classical.choose_spec index_ex).2
end Go.Proofs.YtpggpdbipajchaaDoor
namespace Go.Proofs.YtpggpdbipajchaaDoor
open Go.RowKit
set_option linter.all false
def φSmt : Fun := F2 dSs dSs fun a b => if a.length ≤ 1048576 ∧ b.length ≤ 1048576 then some (bv (decide (a = b))) else none
theorem φSmt_ap {a b : LS} (h : a.length ≤ 1048576) (h2 : b.length ≤ 1048576) : φSmt [.lst false 1 (a.map fun s => .val (.string s)), .lst false 1 (b.map fun s => .val (.string s))] = some (.val (.bool (decide (a = b)))) :=
  (F2_ap (A := dSs) (B := dSs) a b).trans (if_pos ⟨h, h2⟩)
set_option maxHeartbeats 4000000 in
theorem smt_ok : Sound Tryd.prog 46 φSmt := by
  refine sound_pq mixed GE_ok Tryd.func46 rfl 26 rfl [.tmp 4] rfl (by kernel_rfl) fun ps r hr => ?_
  obtain ⟨xs, ys, rfl, hq⟩ := F2_some hr
  clear hr
  split at hq
  case isFalse => cases hq
  case isTrue hpre =>
  cases hq
  refine ⟨by simp, ?_⟩
  simp only [dIs, dUs, dSs, dI_e, dU_e, dB_e, dS_e, dFn_e, dL_e, dA2_e, dA3_e, dA4_e, dA5_e]
  obtain ⟨hl1, hl2⟩ := hpre
  repeat' (first | (with_reducible first | apply i_seq | apply i_block | apply i_skip | apply i_exit | apply i_ret | apply i_kS | apply i_kSx | apply i_kSr | apply i_kL | apply i_kLx | apply i_kLr | apply i_kB | apply i_kBr | apply i_kBs | apply i_nil) | ((with_reducible apply i_region); (simp only [List.map_cons, List.map_nil] <;> exact rfl)) | ((with_reducible apply i_draw); (simp only [List.map_cons, List.map_nil] <;> exact rfl); decide +kernel) | ((with_reducible apply i_kBo); rfl) | ((first | ((with_reducible apply i_V); rfl; rfl; rfl) | ((first | ((with_reducible apply i_E); rfl) | ((with_reducible apply i_S); rfl)); first | rfl | (simp only [push_cast, ↓reduceIte])) | ((with_reducible apply i_Vq); rfl; rfl) | ((with_reducible apply i_Vp); rfl; rfl; rfl) | (with_reducible first | apply i_Gb | apply i_cond)); (simp (disch := (first | omega | (simp only [push_cast]; first | done | omega))) only [push_cast, ↓reduceIte, Nat.reduceEqDiff, Nat.reduceBEq, Nat.reduceAdd, Nat.reduceSub, Int.reduceToNat, *] <;> with_reducible exact rfl); all_goals try (first | (with_reducible first | refine hyT ?_ | refine hyF ?_ | exact hyA | exact hyB) | (intro hX; first | (cases hX; done) | ((try simp only [decide_eq_true_eq, decide_eq_false_iff_not, Bool.not_eq_true', Bool.not_eq_false'] at hX); (try have hXb := inB_iff.1 hX))))))
  · ((first | apply i_end | apply i_endN); simp (disch := (first | omega | (simp only [push_cast]; first | done | omega))) only [push_cast, ↓reduceIte, Nat.reduceEqDiff, Nat.reduceBEq, Nat.reduceAdd, Nat.reduceSub, Int.reduceToNat, *])
    have : ¬ xs = ys := fun h => by subst h; simp_all
    simp [this]
  refine i_loop (α := Nat) mixed (fun k => [(0, .lst false 1 (xs.map fun s => .val (.string s))), (1, .lst false 1 (ys.map fun s => .val (.string s))), (5, iv k)]) (fun k => []) (fun _ => 0)
    (fun k => k ≤ xs.length ∧ ∀ j, j < k → xs[j]?.getD .empty = ys[j]?.getD .empty) (fun k => xs.length - k) (by kernel_rfl) 0 ⟨Nat.zero_le _, fun j hj => by omega⟩ ?_ trivial rfl ?_
  · simp only [push_cast, ↓reduceIte, Nat.reduceEqDiff, Nat.reduceBEq, Nat.reduceAdd, Nat.reduceSub, Int.reduceToNat]
  · intro k ⟨hk, hok⟩
    repeat' (first | (with_reducible first | apply i_seq | apply i_block | apply i_skip | apply i_exit | apply i_ret | apply i_kS | apply i_kSx | apply i_kSr | apply i_kL | apply i_kLx | apply i_kLr | apply i_kB | apply i_kBr | apply i_kBs | apply i_nil) | ((with_reducible apply i_region); (simp only [List.map_cons, List.map_nil] <;> exact rfl)) | ((with_reducible apply i_draw); (simp only [List.map_cons, List.map_nil] <;> exact rfl); decide +kernel) | ((with_reducible apply i_kBo); rfl) | ((first | ((with_reducible apply i_V); rfl; rfl; rfl) | ((first | ((with_reducible apply i_E); rfl) | ((with_reducible apply i_S); rfl)); first | rfl | (simp only [push_cast, ↓reduceIte])) | ((with_reducible apply i_Vq); rfl; rfl) | ((with_reducible apply i_Vp); rfl; rfl; rfl) | (with_reducible first | apply i_Gb | apply i_cond)); (simp (disch := (first | omega | (simp only [push_cast]; first | done | omega))) only [push_cast, ↓reduceIte, Nat.reduceEqDiff, Nat.reduceBEq, Nat.reduceAdd, Nat.reduceSub, Int.reduceToNat, *] <;> with_reducible exact rfl); all_goals try (first | (with_reducible first | refine hyT ?_ | refine hyF ?_ | exact hyA | exact hyB) | (intro hX; first | (cases hX; done) | ((try simp only [decide_eq_true_eq, decide_eq_false_iff_not, Bool.not_eq_true', Bool.not_eq_false'] at hX); (try have hXb := inB_iff.1 hX))))))
    all_goals try ((first | apply i_end | apply i_endN); simp (disch := (first | omega | (simp only [push_cast]; first | done | omega))) only [push_cast, ↓reduceIte, Nat.reduceEqDiff, Nat.reduceBEq, Nat.reduceAdd, Nat.reduceSub, Int.reduceToNat, *])
    · have : ¬ xs = ys := fun h => by subst h; simp_all
      simp [this]
    · refine ⟨k + 1, ⟨by omega, fun j hj => ?_⟩, by dsimp only; omega, by simp only [push_cast, ↓reduceIte, Nat.reduceEqDiff, Nat.reduceBEq, Nat.reduceAdd, Nat.reduceSub, Int.reduceToNat], trivial, rfl⟩
      by_cases h1 : j < k
      · exact hok j h1
      · have : j = k := by omega
        subst this
        assumption
    · have : xs = ys := eq_of_getDK (d := .empty) (by omega) fun j hj => hok j (by omega)
      simp [this]
end Go.Proofs.YtpggpdbipajchaaDoor
namespace Go.Proofs.YtpggpdbipajchaaDoor
open Go.RowKit
set_option linter.all false
noncomputable def GDio : Ctx := { fn := fun f => none, io := fun f => if f = 60 then some ΦOpen else if f = 83 then some Φindex else none }
theorem GDio_ok : SoundΓ Tryd.prog GDio := ⟨(fun f φ h => by
  unfold GDio at h
  dsimp only at h
  cases h), (fun f φ h => by
  unfold GDio at h
  dsimp only at h
  split at h
  · rename_i hf; cases h; subst hf; exact ⟨⟨_, Tryd.func60, rfl, rfl⟩, open_io⟩
  split at h
  · rename_i hf; cases h; subst hf; exact ⟨⟨_, Tryd.func83, rfl, rfl⟩, index_io⟩
  cases h), rfl⟩
theorem GDio_60 : GDio.io 60 = some ΦOpen := by simp [GDio]
theorem GDio_83 : GDio.io 83 = some Φindex := by simp [GDio]
theorem drawIxOf_ex : ∃ φ : Fun, Sound Tryd.prog 45 φ ∧ Drw0 φ EWs okWs := by
  refine drw0_of mixed GDio_ok Tryd.func45 rfl 6 rfl [.tmp 2] rfl (by kernel_rfl) (by simp) _ _ fun code hbyte hlen => ?_
  have hok := okRd_take hbyte
  have apo := @ΦOpen_ap
  have gdio_c60 := GDio_60; have gdio_c83 := GDio_83
  repeat' (first | (first | (with_reducible first | apply i_seq | apply i_block | apply i_skip | apply i_exit | apply i_ret | apply i_kS | apply i_kSx | apply i_kSr | apply i_kL | apply i_kLx | apply i_kLr | apply i_kB | apply i_kBr | apply i_kBs | apply i_nil) | ((with_reducible apply i_region); (simp only [List.map_cons, List.map_nil] <;> exact rfl)) | ((with_reducible apply i_draw); (simp only [List.map_cons, List.map_nil] <;> exact rfl); decide +kernel) | ((with_reducible apply i_kBo); rfl) | ((first | ((with_reducible apply i_V); rfl; rfl; rfl) | ((first | ((with_reducible apply i_E); rfl) | ((with_reducible apply i_S); rfl)); first | rfl | (simp only [push_cast, ↓reduceIte])) | ((with_reducible apply i_Vq); rfl; rfl) | ((with_reducible apply i_Vp); rfl; rfl; rfl) | (with_reducible first | apply i_Gb | apply i_cond)); (simp (disch := (first | omega | (simp only [push_cast]; first | done | omega))) only [push_cast, ↓reduceIte, Nat.reduceEqDiff, Nat.reduceBEq, Nat.reduceAdd, Nat.reduceSub, Int.reduceToNat, *] <;> with_reducible exact rfl); all_goals try (first | (with_reducible first | refine hyT ?_ | refine hyF ?_ | exact hyA | exact hyB) | (intro hX; first | (cases hX; done) | ((try simp only [decide_eq_true_eq, decide_eq_false_iff_not, Bool.not_eq_true', Bool.not_eq_false'] at hX); (try have hXb := inB_iff.1 hX)))))) | ((with_reducible apply i_drw2 index_drw (fun _ _ => by simp only [push_cast, ↓reduceIte, Nat.reduceEqDiff, Nat.reduceBEq, Nat.reduceAdd, Nat.reduceSub, Int.reduceToNat])); (focus rfl); (focus (simp (disch := (first | omega | (simp only [push_cast]; first | done | omega))) only [push_cast, ↓reduceIte, Nat.reduceEqDiff, Nat.reduceBEq, Nat.reduceAdd, Nat.reduceSub, Int.reduceToNat, *] <;> with_reducible exact rfl)); (focus (simp (disch := (first | omega | (simp only [push_cast]; first | done | omega))) only [push_cast, ↓reduceIte, Nat.reduceEqDiff, Nat.reduceBEq, Nat.reduceAdd, Nat.reduceSub, Int.reduceToNat, *] <;> with_reducible exact rfl)); (focus (simp (disch := (first | omega | (simp only [push_cast]; first | done | omega))) only [push_cast, ↓reduceIte, Nat.reduceEqDiff, Nat.reduceBEq, Nat.reduceAdd, Nat.reduceSub, Int.reduceToNat, *] <;> with_reducible exact rfl)); (focus assumption); (focus omega); (focus (first | trivial | omega)); (focus (first | rfl | (simp only [push_cast, ↓reduceIte]))); intro v pp hv hok hpp1 hpp2))
  ((with_reducible apply i_fin0 (by first | exact .inl rfl | exact .inr rfl)); (focus (simp (disch := (first | omega | (simp only [push_cast]; first | done | omega))) only [push_cast, ↓reduceIte, Nat.reduceEqDiff, Nat.reduceBEq, Nat.reduceAdd, Nat.reduceSub, Int.reduceToNat, rep_iv, rep_sv, rep_w, rep_i3, rep_i4, *] <;> with_reducible exact rfl)))
  assumption
noncomputable def φdrawIxOf : Fun := Classical.choose drawIxOf_ex
theorem drawIxOf_ok : Sound Tryd.prog 45 φdrawIxOf := (Classical.choose_spec drawIxOf_ex).1
theorem drawIxOf_drw : Drw0 φdrawIxOf EWs okWs := (Classical.choose_spec drawIxOf_ex).2
noncomputable def φIxI : Fun := pureN ΨIx
theorem implIx_ok : Sound Tryd.prog 41 φIxI := implIxN.pure
theorem φIxI_yes {l : List W2} (h : okW l) (h0 : 0 < (indexR l).length) : φIxI [.lst false 2 (l.map fun x => .agg [.val (.string x.1), .val (.int .i64 x.2)])] = some (.lst true 1 ((indexR l).map fun s => .val (.string s))) := by
  have hp : 0 < ((indexR l).map fun s => PV.val (.string s)).length := by simpa using h0
  refine pureN_of (r := .row 0 1 0 (indexR l).length) (cs0 := [(9, 1, (indexR l).map fun s => .val (.string s))]) ((G1_ap (A := dWs) l).trans ((if_pos h).trans (by rw [nP_pos hp, nC_pos hp, List.length_map]))) ?_
  rw [ls_one]
  (simp (disch := (first | omega | (simp only [push_cast]; first | done | omega))) only [push_cast, ↓reduceIte, Nat.reduceEqDiff, Nat.reduceBEq, Nat.reduceAdd, Nat.reduceSub, Int.reduceToNat, *] <;> with_reducible exact rfl)
theorem φIxI_no {l : List W2} (h : okW l) (h0 : (indexR l).length = 0) : φIxI [.lst false 2 (l.map fun x => .agg [.val (.string x.1), .val (.int .i64 x.2)])] = some (.val (.slice none 0 0)) := by
  refine pureN_of (r := .val (.slice none 0 0)) (cs0 := []) ((G1_ap (A := dWs) l).trans ((if_pos h).trans (by rw [List.eq_nil_of_length_eq_zero h0]; rfl))) ?_
  (simp (disch := (first | omega | (simp only [push_cast]; first | done | omega))) only [push_cast, ↓reduceIte, Nat.reduceEqDiff, Nat.reduceBEq, Nat.reduceAdd, Nat.reduceSub, Int.reduceToNat, *] <;> with_reducible exact rfl)
noncomputable def φSmti : Fun := nilF 1 φSmt
theorem φSmti_ap {a b : LS} (h : a.length ≤ 1048576) (h2 : b.length ≤ 1048576) : φSmti [.lst false 1 (a.map fun s => .val (.string s)), .lst false 1 (b.map fun s => .val (.string s))] = some (.val (.bool (decide (a = b)))) := φSmt_ap h h2
theorem φSmti_nil : φSmti [.val (.slice none 0 0), .lst false 1 []] = some (.val (.bool true)) := φSmt_ap (a := []) (b := []) (by simp) (by simp)
theorem φSmti_nil2 : φSmti [.val (.slice none 0 0), .val (.slice none 0 0)] = some (.val (.bool true)) := φSmt_ap (a := []) (b := []) (by simp) (by simp)
theorem okW_ofx {l : List W2} (h : l.length ≤ 100) (h2 : ∀ x ∈ l, x.1.size ≤ 5) : okW l := by
  refine ⟨by omega, fun i => ?_⟩
  by_cases hi : i < l.length
  · have := h2 l[i] (List.getElem_mem hi)
    simp only [List.getElem?_eq_getElem hi, Option.getD_some]
    omega
  · rw [List.getElem?_eq_none (by omega)]
    simp [w0]
theorem indexR_asc {l : List W2} {k : Nat} (hk : k + 1 < (indexR l).length) : ltB ((indexR l)[k]?.getD .empty) ((indexR l)[k + 1]?.getD .empty) = true := by
  unfold indexR at hk ⊢
  split at hk
  · rename_i h
    rw [if_pos h]
    exact idx_asc h hk
  · simp at hk
theorem indexR_le (l : List W2) : (indexR l).length ≤ l.length := by
  unfold indexR
  split
  · exact idxR_len l
  · simp
theorem rev_take {l : List W2} {i : Nat} (h : i < l.length) : l.reverse.take (i + 1) = l.reverse.take i ++ [l[l.length - 1 - i]?.getD w0] := by
  have h1 : i < l.reverse.length := by simpa using h
  rw [List.take_succ_eq_append_getElem h1, List.getElem_reverse, List.getElem?_eq_getElem (by omega), Option.getD_some]
noncomputable def φLawIo : Fun := F1 dUs fun code => if okL okB8 code then some (bv true) else none
noncomputable def GLio : Ctx := { fn := fun f => if f = 45 then some φdrawIxOf else if f = 41 then some φIxI else if f = 39 then some φIx else if f = 46 then some φSmti else if f = 22 then some φTrue else none, io := fun f => none }
theorem GLio_ok : SoundΓ Tryd.prog GLio := ⟨(fun f φ h => by
  unfold GLio at h
  dsimp only at h
  split at h
  · rename_i hf; cases h; subst hf; exact ⟨⟨_, Tryd.func45, rfl, rfl⟩, drawIxOf_ok⟩
  split at h
  · rename_i hf; cases h; subst hf; exact ⟨⟨_, Tryd.func41, rfl, rfl⟩, implIx_ok⟩
  split at h
  · rename_i hf; cases h; subst hf; exact ⟨⟨_, Tryd.func39, rfl, rfl⟩, specIx_ok⟩
  split at h
  · rename_i hf; cases h; subst hf; exact ⟨⟨_, Tryd.func46, rfl, rfl⟩, (smt_ok.nil 1)⟩
  split at h
  · rename_i hf; cases h; subst hf; exact ⟨⟨_, Tryd.func22, rfl, rfl⟩, alive_ok⟩
  cases h), (fun f φ h => by
  unfold GLio at h
  dsimp only at h
  cases h), rfl⟩
theorem GLio_45 (ob : Objs) (ps : List PV) : evCall GLio ob 45 ps = (ps.mapM (reify false 0 ob fuel)).bind φdrawIxOf := by
  have h : GLio.fn 45 = some φdrawIxOf := by simp [GLio]
  unfold evCall
  rw [h]
  cases ps.mapM (reify false 0 ob fuel) <;> rfl
theorem GLio_41 (ob : Objs) (ps : List PV) : evCall GLio ob 41 ps = (ps.mapM (reify false 0 ob fuel)).bind φIxI := by
  have h : GLio.fn 41 = some φIxI := by simp [GLio]
  unfold evCall
  rw [h]
  cases ps.mapM (reify false 0 ob fuel) <;> rfl
theorem GLio_39 (ob : Objs) (ps : List PV) : evCall GLio ob 39 ps = (ps.mapM (reify false 0 ob fuel)).bind φIx := by
  have h : GLio.fn 39 = some φIx := by simp [GLio]
  unfold evCall
  rw [h]
  cases ps.mapM (reify false 0 ob fuel) <;> rfl
theorem GLio_46 (ob : Objs) (ps : List PV) : evCall GLio ob 46 ps = (ps.mapM (reify false 0 ob fuel)).bind φSmti := by
  have h : GLio.fn 46 = some φSmti := by simp [GLio]
  unfold evCall
  rw [h]
  cases ps.mapM (reify false 0 ob fuel) <;> rfl
theorem GLio_22 (ob : Objs) (ps : List PV) : evCall GLio ob 22 ps = (ps.mapM (reify false 0 ob fuel)).bind φTrue := by
  have h : GLio.fn 22 = some φTrue := by simp [GLio]
  unfold evCall
  rw [h]
  cases ps.mapM (reify false 0 ob fuel) <;> rfl
set_option maxHeartbeats 16000000 in
theorem lawIo_ok : Sound Tryd.prog 10 φLawIo := by
  refine sound_pq mixed GLio_ok Tryd.func10 rfl 65 rfl [.tmp 2] rfl (by kernel_rfl) fun ps r hr => ?_
  obtain ⟨code, rfl, hq⟩ := F1_some hr
  clear hr
  split at hq
  case isFalse => cases hq
  case isTrue hpre =>
  cases hq
  refine ⟨by simp, ?_⟩
  simp only [dIs, dUs, dSs, dI_e, dU_e, dB_e, dS_e, dFn_e, dL_e, dA2_e, dA3_e, dA4_e, dA5_e]
  have hbyte := bytes_ok hpre
  by_cases hlen : code.length ≤ 1048576
  · obtain ⟨l, e, hl, hs⟩ := drawIxOf_drw code hbyte hlen
    have apt := φTrue_ap
    have hw := okW_ofx (l := l) (by omega) hs
    have hwr := okW_ofx (l := l.reverse) (by simp; omega) (fun x hx => hs x (List.mem_reverse.1 hx))
    have ap2 := φIx_ap hw
    have hle := indexR_le l
    have hrt := fun i h => rev_take (l := l) (i := i) h
    have hfull : l.reverse.take l.length = l.reverse := by rw [List.take_of_length_le (by simp)]
    have hrl : l.reverse.length = l.length := List.length_reverse
    by_cases h0 : (indexR l).length = 0
    · have ap1 := φIxI_no hw h0
      have ap3 := φIxI_no hwr (by rw [indexR_rev]; exact h0)
      have ap4 := φSmti_nil
      have ap5 := φSmti_nil2
      rw [List.eq_nil_of_length_eq_zero h0, List.map_nil] at ap2
      clear hpre hbyte hs hw hwr h0 hle
      have glio_c45 := GLio_45; have glio_c41 := GLio_41; have glio_c39 := GLio_39; have glio_c46 := GLio_46; have glio_c22 := GLio_22
      (refine wlk ?_; intros)
      refine i_loop (α := Nat × Nat × Nat) mixed (fun i => [(3, .lst true 2 (l.map fun x => .agg [.val (.string x.1), .val (.int .i64 x.2)])), (4, .val (.slice none 0 0)), (5, .row i.2.1 2 0 i.1), (6, .val (.int .i64 ((l.length : Int) - 1 - i.1)))])
        (fun i => [(i.2.1, 61, 2, (l.reverse.take i.1).map fun x => .agg [.val (.string x.1), .val (.int .i64 x.2)])]) (fun i => i.2.2) (fun i => i.1 ≤ l.length ∧ i.2.1 < i.2.2) (fun i => l.length - i.1) (by kernel_rfl) (0, 0, 1) ⟨Nat.zero_le _, by decide⟩ ?_ ?_ rfl ?_
      · exact agi
      · exact agr
        try rfl
      rintro ⟨k, o, y⟩ ⟨hk, hoy⟩
      dsimp only at hk hoy
      by_cases hkl : k < l.length
      · have hn1 := hrt k hkl
        have htl : (l.reverse.take k).length = k := by rw [List.length_take, hrl]; omega
        replace hn1 := Lib.hid hn1
        clear hrt hfull hrl
        dsimp only
        rw [show (l.length : Int) - 1 - (k : Int) = ((l.length - 1 - k : Nat) : Int) by omega]
        have hq : l.length - 1 - k < l.length := by omega
        have hq2 : ((l.length - 1 - k : Nat) : Int) = (l.length : Int) - 1 - k := by omega
        replace hq2 := Lib.hid hq2
        generalize l.length - 1 - k = q at *
        generalize l.reverse.take k = R at *
        (refine wlk ?_; intros)
        refine ⟨(k + 1, y + 1, y + 2), ⟨by dsimp only; omega, by dsimp only; omega⟩, by dsimp only; omega, ?_, ?_, rfl⟩
        · dsimp only
          have hq2 := hq2.out
          exact agi
        · dsimp only
          rw [hn1.out]
          exact agr
      · obtain rfl : k = l.length := by omega
        rw [hfull]
        dsimp only
        rw [show (l.length : Int) - 1 - (l.length : Int) = -1 by omega]
        clear hrt hfull
        generalize hRR : l.reverse = R at *
        clear hRR
        (refine wlk ?_; intros)
        refine i_loop (α := Unit) mixed (fun _ => [(3, .lst true 2 (l.map fun x => .agg [.val (.string x.1), .val (.int .i64 x.2)])), (4, .val (.slice none 0 0)), (5, .row o 2 0 l.length), (7, iv 1)])
          (fun _ => [(o, 61, 2, R.map fun x => .agg [.val (.string x.1), .val (.int .i64 x.2)])]) (fun _ => y) (fun _ => True) (fun _ => 0) (by kernel_rfl) () trivial ?_ ?_ rfl ?_
        · exact agr
        · exact agr
        rintro _ _
        exact wlkS
    · have ap1 := φIxI_yes hw (by omega)
      have ap3 := φIxI_yes hwr (by rw [indexR_rev]; omega)
      rw [indexR_rev] at ap3
      have ap4 := φSmti_ap (a := indexR l) (b := indexR l) (by omega) (by omega)
      have hasc := fun k h => indexR_asc (l := l) (k := k) h
      clear hpre hbyte hs hw hwr
      have glio_c45 := GLio_45; have glio_c41 := GLio_41; have glio_c39 := GLio_39; have glio_c46 := GLio_46; have glio_c22 := GLio_22
      (refine wlk ?_; intros)
      refine i_loop (α := Nat × Nat × Nat) mixed (fun i => [(3, .lst true 2 (l.map fun x => .agg [.val (.string x.1), .val (.int .i64 x.2)])), (4, .lst true 1 ((indexR l).map fun s => .val (.string s))), (5, .row i.2.1 2 0 i.1), (6, .val (.int .i64 ((l.length : Int) - 1 - i.1)))])
        (fun i => [(i.2.1, 61, 2, (l.reverse.take i.1).map fun x => .agg [.val (.string x.1), .val (.int .i64 x.2)])]) (fun i => i.2.2) (fun i => i.1 ≤ l.length ∧ i.2.1 < i.2.2) (fun i => l.length - i.1) (by kernel_rfl) (0, 0, 1) ⟨Nat.zero_le _, by decide⟩ ?_ ?_ rfl ?_
      · exact agi
      · exact agr
        try rfl
      rintro ⟨k, o, y⟩ ⟨hk, hoy⟩
      dsimp only at hk hoy
      by_cases hkl : k < l.length
      · have hn1 := hrt k hkl
        have htl : (l.reverse.take k).length = k := by rw [List.length_take, hrl]; omega
        replace hn1 := Lib.hid hn1
        clear hrt hfull hrl
        dsimp only
        rw [show (l.length : Int) - 1 - (k : Int) = ((l.length - 1 - k : Nat) : Int) by omega]
        have hq : l.length - 1 - k < l.length := by omega
        have hq2 : ((l.length - 1 - k : Nat) : Int) = (l.length : Int) - 1 - k := by omega
        replace hq2 := Lib.hid hq2
        generalize l.length - 1 - k = q at *
        generalize l.reverse.take k = R at *
        (refine wlk ?_; intros)
        refine ⟨(k + 1, y + 1, y + 2), ⟨by dsimp only; omega, by dsimp only; omega⟩, by dsimp only; omega, ?_, ?_, rfl⟩
        · dsimp only
          have hq2 := hq2.out
          exact agi
        · dsimp only
          rw [hn1.out]
          exact agr
      · obtain rfl : k = l.length := by omega
        rw [hfull]
        dsimp only
        rw [show (l.length : Int) - 1 - (l.length : Int) = -1 by omega]
        clear hrt hfull
        generalize hRR : l.reverse = R at *
        clear hRR
        generalize indexR l = I at *
        (refine wlk ?_; intros)
        refine i_loop (α := Nat) mixed (fun i => [(3, .lst true 2 (l.map fun x => .agg [.val (.string x.1), .val (.int .i64 x.2)])), (4, .lst true 1 (I.map fun s => .val (.string s))), (5, .row o 2 0 l.length), (7, iv (i + 1))])
          (fun _ => [(o, 61, 2, R.map fun x => .agg [.val (.string x.1), .val (.int .i64 x.2)])]) (fun _ => y) (fun i => i + 1 ≤ I.length) (fun i => I.length - i) (by kernel_rfl) 0 (by omega) ?_ ?_ rfl ?_
        · simp (disch := (first | omega | (simp only [push_cast]; first | done | omega))) only [push_cast, ↓reduceIte, Nat.reduceEqDiff, Nat.reduceBEq, Nat.reduceAdd, Nat.reduceSub, Int.reduceToNat, List.length_append, *]
          try rfl
        · exact agr
        rintro i hi
        by_cases hil : i + 1 < I.length
        · have hlt := hasc i hil
          clear hasc
          (refine wlk ?_; intros)
          refine ⟨i + 1, by omega, by dsimp only; omega, ?_, ?_, rfl⟩
          · dsimp only
            exact agi
          · exact agr
        · clear hasc
          exact wlkS
  · have glio_c45 := GLio_45; have glio_c41 := GLio_41; have glio_c39 := GLio_39; have glio_c46 := GLio_46; have glio_c22 := GLio_22
    exact wlkS
end Go.Proofs.YtpggpdbipajchaaDoor
namespace Go.Proofs.YtpggpdbipajchaaDoor
open Go.ChangeShapes Go.WideShapes Go.ChangeAt Go.RowKit
open Go.ChangeMaps (open_string shut_string)
set_option linter.all false
theorem own : ownKnob Tryd.prog.godebug = none := by kernel_rfl
theorem laidOut : laidOutB Tryd.prog = true := by kernel_rfl
theorem wf_u8 {x : Int} (h : (Lit.int .u8 x).wf = true) : 0 ≤ x ∧ x ≤ 255 := by
  simpa [Lit.wf, IntKind.min, IntKind.max, IntKind.signed, IntKind.bits] using h
theorem addr_add (b off i : Nat) : (⟨b, off, none⟩ : Addr).add i = ⟨b, off + i, none⟩ := by
  unfold Addr.add
  by_cases h : i = 0 <;> simp [h]
theorem cell_lt {w : World} {a : Addr} {v : Value} (h : w.cell? a = some v) : a.block < w.heap.size := by
  unfold World.cell? at h
  by_cases hb : a.block < w.heap.size
  · exact hb
  · rw [Array.getElem?_eq_none (by omega)] at h
    cases a.spot <;> simp at h
theorem tab_of {P : Program} {W : World} {name : String} {k : IntKind} {zs : List Int} {g : Nat} (hg : P.globalNamed name = some g) (h : Lib.TabIs P W name k zs) : ∃ T k', W.heap[g]? = some (.cells ((zs.map fun z => Value.int k z).toArray) T k') := by
  unfold Lib.TabIs World.var? at h
  rw [hg, Option.bind_some] at h
  split at h
  · rename_i cs T k' hc
    cases h
    exact ⟨_, _, hc⟩
  · cases h
theorem laid_tail {P : Program} {x : String × DataW Unit} {r : List (String × DataW Unit)} {w : World} (h : laidMet P (x :: r) w) : laidMet P r w := by
  obtain ⟨ps, hv, hnd, hc⟩ := h
  obtain ⟨g, t, cs, fuel, p, q, h1, h2, h3, h4, h5, rfl⟩ := hv
  exact ⟨q, h5, (List.nodup_append.1 hnd).2.1, fun b off hm => hc b off (List.mem_append_right _ hm)⟩
abbrev gW (W : World) : Gh := argG fun b => b < W.heap.size
section
variable {H : Type} {enc : TypeId × Value → H} {P : Program} {W : World} {base : Nat} {α β γ δ ε : Type}
def OpC (enc : TypeId × Value → H) (P : Program) (W : World) (base : Nat) (t : TypeId) (A : Dec α) (ok : α → Prop) : Prop :=
  ∀ fuel cs x, DataW.trod enc P W base (fun _ => true) true fuel t cs = some x → ∃ a v, ok a ∧ Rep (gW W) W (A.e a) v ∧ v.cells.toList = cs ∧ v.cells.all (·.oneCell') = true
theorem opU {t : TypeId} (ht : P.underlying t = some (.int .u8)) : OpC enc P W base t dU okB8 := fun fuel cs x h => by
  obtain ⟨n, rfl, _, hw⟩ := DataW.trod_int ht h
  exact ⟨n, .int .u8 n, wf_u8 hw, rfl, rfl, by simp [Value.cells, Value.oneCell']⟩
theorem list_of {n : Nat} {p : Nat → α → Prop} (h : ∀ i, i < n → ∃ x, p i x) : ∃ l : List α, l.length = n ∧ ∀ i a, l[i]? = some a → p i a := by
  induction n with
  | zero => exact ⟨[], rfl, fun i a h => by simp at h⟩
  | succ n ih =>
    obtain ⟨l, hl, hp⟩ := ih fun i hi => h i (by omega)
    obtain ⟨x, hx⟩ := h n (by omega)
    refine ⟨l ++ [x], by simp [hl], fun i a hi => ?_⟩
    rw [List.getElem?_append] at hi
    split at hi
    · exact hp i a hi
    · rename_i hlt
      have : i - l.length = 0 := by
        by_cases h0 : i - l.length = 0
        · exact h0
        · rw [List.getElem?_eq_none (by simp; omega)] at hi
          cases hi
      rw [this] at hi
      simp at hi
      subst hi
      have : i = n := by omega
      subst this
      exact hx
theorem opL {t e : TypeId} {A : Dec α} {ok : α → Prop} (sz : Nat) (ht : P.underlying t = some (.slice e)) (hs : P.cellsOf e = sz) (h0 : 0 < sz) (hA : OpC enc P W base e A ok) : OpC enc P W base t (dL sz A) (okL ok) := fun fuel cs x h => by
  rcases Go.Deep.open_slice ht h with ⟨rfl, _⟩ | ⟨x, len, cap, m, n, D, Pl, rfl, hb, hl, hm, hmm, _, hx⟩
  · exact ⟨[], .slice none 0 0, ⟨by simp, by simp⟩, ⟨none, 0, rfl, by simp, by simp, .inl rfl⟩, rfl, by simp [Value.cells, Value.oneCell']⟩
  have hm2 : m = cap := by simpa using hmm
  have hcap : cap ≤ 9223372036854775807 := hm
  obtain ⟨l, hlen, hp⟩ := list_of (n := len) (p := fun i a => ok a ∧ ∃ v, Rep (gW W) W (A.e a) v ∧ v.cells.size = sz ∧ v.cells.all (·.oneCell') = true ∧ ∀ j, j < sz → W.cell? ((x.add (i * sz)).add j) = v.cells[j]?) (fun i hi => by
    obtain ⟨cs', h1, h2⟩ := hx i (by omega)
    obtain ⟨a, v, h3, h4, h5, h6⟩ := hA _ _ _ h2
    obtain ⟨_, h7, h8⟩ := World.cells?_some h1
    rw [hs] at h7 h8
    refine ⟨a, h3, v, h4, ?_, h6, fun j hj => ?_⟩
    · rw [← h7, ← h5]; simp
    · rw [h8 j hj, ← h5]; simp)
  refine ⟨l, .slice (some x) len cap, ⟨by omega, fun a ha => ?_⟩, ?_, rfl, by simp [Value.cells, Value.oneCell']⟩
  · obtain ⟨i, hi, rfl⟩ := List.getElem_of_mem ha
    exact (hp i _ (by simp [hi])).1
  · refine ⟨some x, cap, by simp [hlen], by simp [hlen]; omega, hcap, ?_⟩
    by_cases hn : l = []
    · exact .inl (by simp [hn])
    right
    have hl0 : 0 < l.length := List.length_pos_iff.2 hn
    obtain ⟨_, v, h4, h5, h6, h7⟩ := hp 0 l[0] (by simp [hl0])
    have h8 := h7 0 h0
    have h9 : v.cells[0]? = some v.cells[0] := by simp
    rw [h9] at h8
    have hspot := World.cell?_spot h8
    have hlt := cell_lt h8
    obtain ⟨b, off, spot⟩ := x
    simp only [Nat.zero_mul, Addr.add, if_true] at hspot hlt
    subst hspot
    refine ⟨b, off, rfl, ⟨rfl, hlt⟩, RepEs.of fun i p hi => ?_⟩
    rw [List.getElem?_map, Option.map_eq_some_iff] at hi
    obtain ⟨a, ha, rfl⟩ := hi
    obtain ⟨_, v, h4, h5, h6, h7⟩ := hp i a ha
    refine ⟨v, h4, ⟨h6, fun j hj => ?_⟩, h5⟩
    have := h7 j (by omega)
    rwa [addr_add, addr_add] at this
theorem opF {t : TypeId} {A : Dec α} {ok : α → Prop} {n : Nat} {cs : List Value} {y : DataW H × List MemPlace} (hA : OpC enc P W base t A ok) (h1 : ∀ a, oneP (A.e a) = true)
    (h : DataW.trod enc P W base (fun _ => true) true n t cs = some y) : ∃ a v, ok a ∧ Rep (gW W) W (A.e a) v ∧ v.oneCell' = true ∧ cs = [v] := by
  obtain ⟨a, v, h3, h4, h5, h6⟩ := hA _ _ _ h
  have := oneP_rep h4 (h1 a)
  exact ⟨a, v, h3, h4, this, by rw [← h5, oneCell_cells this]⟩
theorem op1 {t : TypeId} {A : Dec α} {ok : α → Prop} {v : Value} {d : DataW H} {p : List MemPlace} (hA : OpC enc P W base t A ok) (h1 : ∀ a, oneP (A.e a) = true) (hv : v.cells = #[v])
    (h : DataW.Trod enc P W base (fun _ => true) true t v d p) : ∃ a, ok a ∧ Rep (gW W) W (A.e a) v := by
  obtain ⟨fuel, hf⟩ := h
  obtain ⟨a, u, h3, h4, h5, h6⟩ := opF hA h1 hf
  rw [hv] at h6
  have : v = u := by simpa using h6
  subst this
  exact ⟨a, h3, h4⟩
theorem walk_of {f : Nat} {φ : Fun} {ps : List PV} {args : Array Value} (h : Sound P f φ) (hT : TabF W fun _ => False) (ha : φ ps = some (bv true)) (hr : RepL (gW W) W ps args.toList) :
    Calls P f args W fun e w' => e = .returned (.bool true) ∧ Below W.heap.size W w' := by
  refine (h W (fun b => b < W.heap.size) ps args _ ha (fun b hb => hb) hT hr).mono ?_
  rintro e w' ⟨v, rfl, hb, hv⟩
  have := hv { I := fun _ _ => True, β := fun _ => 0, κ := fun _ => 0, nx := 0 } fun b _ _ => trivial
  have hv2 : v = .bool true := this
  subst hv2
  exact ⟨rfl, hb⟩
end
theorem returns_and_shaped {H : Type} {enc : TypeId × Value → H} {a : Assume} {C : Checked} {os : Os} {f : FuncId} {fn : Func} {s : ChangeSpec} {conds : List PathCond} {apart fresh handsOn again : Bool} {X : World → Array Value → Prop}
    (hX : ∀ (w w' : World) (args : Array Value), w.heap = w'.heap → X w args → X w' args)
    (own : ownKnob C.prog.godebug = none) (started : os.Started) (noInit : C.prog.inits.idxOf? f = none) (hfn : C.prog.funcs[f]? = some fn)
    (witness : ∃ (w : World) (tape : Tape) (i : Input), w.os = os ∧ (w.forCall tape i).Shaped C.prog ∧ i.vars = [] ∧ Input.okWide C.prog (w.forCall tape i) .any w.heap.size f i ∧
      ((s.pre enc C.prog fn conds apart (w.forCall tape i).memory i.args ∧ X (w.forCall tape i).memory i.args) ∧ sizedMet enc C.prog fn (OpenSpec.ofChange s) apart (w.forCall tape i).memory i.args) ∧ a.holds C.prog (lone (Frame.enter C.prog f i.args .normal) [] (w.forCall tape i)))
    (contract : ∀ (W : World) (base : Nat) (args : Array Value) (ds gs : List (DataW H)) (before : List MemPlace),
      (∀ (j : Nat) t v, fn.params[j]? = some t → args[j]? = some v → Value.okWide C.prog W .any base t v) →
      DataW.Whole enc C.prog fn.params.toList s.vars apart W args.toList ds gs before →
      conds.all (PathCond.test C.prog ⟨fn.params.toList, ds, s.plain.varTypes C.prog, gs⟩) = true →
      (DataW.weightsEach C.prog (fn.params.toList ++ s.plain.varTypes C.prog) (ds ++ gs)).all (· ≤ reachBytes) = true → X W args → W.ShapedOpen C.prog →
      a.holds C.prog (lone (Frame.enter C.prog f args .normal) [] W) →
      Calls C.prog f args W fun e W' => ∃ v, e = .returned v ∧ s.post enc C.prog fn apart fresh handsOn again W args v W') :
    ReturnsInHanded a C os f .any (fun w args => (s.pre enc C.prog fn conds apart w args ∧ X w args) ∧ sizedMet enc C.prog fn (OpenSpec.ofChange s) apart w args) (s.post enc C.prog fn apart fresh handsOn again) := by
  refine returnsInHanded_of_calls own started noInit witness ?_
  intro w tape i _ hsh _ hok hpre hholds
  obtain ⟨_, _, _, fn', hfn', _, _, _, _, hval⟩ := hok
  have e : fn' = fn := Option.some.inj (hfn'.symm.trans hfn)
  subst e
  obtain ⟨⟨⟨ds, gs, before, hw, hc⟩, hx⟩, hz⟩ := hpre
  have hw' := DataW.Whole.of_heap (w' := w.forCall tape i) (by rfl) hw
  refine (contract (w.forCall tape i) w.heap.size i.args ds gs before hval hw' hc (hz.weights hw) (hX _ _ _ (by rfl) hx) hsh hholds).mono fun e W' ⟨v, he, hp⟩ => ?_
  subst he
  exact ChangeSpec.post_blind hp
end Go.Proofs.YtpggpdbipajchaaDoor
