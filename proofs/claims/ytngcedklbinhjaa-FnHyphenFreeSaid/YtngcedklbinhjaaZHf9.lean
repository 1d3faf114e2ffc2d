/- What the proof rests on, part 9: contracts of functions. No condition beyond what each states. -/
import Derived.Test.YtngcedklbinhjaaZHf8
namespace Go.Proofs.Ytngcedklbinhjaa
open Go.RowKit
set_option linter.all false
abbrev LS := List ByteArray
section
variable {α β : Type} {n sz sz' f i : Nat} {ob : Objs} {k k' fr : Bool} {l : List LS}
theorem get_ss {g : LS → PV} (h : i < l.length) : ((l[i]?).map g).getD .dead = g ((l[i]?).getD []) := by simp [h]
theorem omg_ss {g : LS → β} (h : i < l.length) : Option.map g l[i]? = some (g ((l[i]?).getD [])) := by simp [h]
theorem mapM_maps {F : PV → Option PV} {g g' : α → PV} (h : ∀ x, F (g x) = some (g' x)) : ∀ {l : List α}, (l.map g).mapM F = some (l.map g')
  | [] => rfl
  | x :: l => by rw [List.map_cons, List.mapM_cons, h x, mapM_maps h]; rfl
theorem reify_strs {m : Nat} {p : LS} : reify false m ob (f + 2) (.lst k sz (p.map fun s => .val (.string s))) = some (.lst false sz (p.map fun s => .val (.string s))) := reifyS_vals
theorem reify_strsT {m : Nat} {p : LS} : reify fr m ob (f + 2) (.lst true sz (p.map fun s => .val (.string s))) = some (.lst fr sz (p.map fun s => .val (.string s))) := by
  cases fr
  · exact reifyS_vals
  · exact reifyT_vals
theorem reifyS_lsts : reify false n ob (f + 3) (.lst k sz (l.map fun p => .lst k' sz' (p.map fun s => .val (.string s)))) = some (.lst false sz (l.map fun p => .lst false sz' (p.map fun s => .val (.string s)))) := by
  show (if false = true ∧ k = false ∧ (l.map fun p => PV.lst k' sz' (p.map fun s => PV.val (.string s))) ≠ [] then none else ((l.map fun p => PV.lst k' sz' (p.map fun s => PV.val (.string s))).mapM (reify false n ob (f + 2))).map (PV.lst false sz)) = _
  rw [mapM_maps (g' := fun p => PV.lst false sz' (p.map fun s => PV.val (.string s))) fun p => reify_strs]
  simp
theorem reifyT_lsts : reify true n ob (f + 3) (.lst true sz (l.map fun p => .lst true sz' (p.map fun s => .val (.string s)))) = some (.lst true sz (l.map fun p => .lst true sz' (p.map fun s => .val (.string s)))) := by
  show (if true = true ∧ true = false ∧ (l.map fun p => PV.lst true sz' (p.map fun s => PV.val (.string s))) ≠ [] then none else ((l.map fun p => PV.lst true sz' (p.map fun s => PV.val (.string s))).mapM (reify true n ob (f + 2))).map (PV.lst true sz)) = _
  rw [mapM_maps (g' := fun p => PV.lst true sz' (p.map fun s => PV.val (.string s))) fun p => reify_strsT]
  simp
theorem rowRe_lsts {m T : Nat} (hm : m = l.length) : rowRe fr (f + 2) ob sz 0 m (some (T, sz, l.map fun p => .lst true sz' (p.map fun s => .val (.string s)))) = some (.lst fr sz (l.map fun p => .lst fr sz' (p.map fun s => .val (.string s)))) := by
  subst hm
  have e : ((l.map fun p => PV.lst true sz' (p.map fun s => PV.val (.string s))).drop 0).take l.length = l.map fun p => PV.lst true sz' (p.map fun s => PV.val (.string s)) := by
    rw [List.drop_zero, List.take_of_length_le (by simp)]
  have e2 := mapM_maps (l := l) (F := reify fr 0 ob (f + 2)) (g := fun p => PV.lst true sz' (p.map fun s => PV.val (.string s))) (g' := fun p => PV.lst fr sz' (p.map fun s => PV.val (.string s))) fun p => reify_strsT
  simp only [rowRe, e, e2, Nat.zero_add, List.length_map, Nat.le_refl, and_self, if_true, Option.map_some]
end
attribute [push_cast]
  get_ss omg_ss reifyS_lsts reifyT_lsts rowRe_lsts
theorem eq_of_getDK {α : Type} {d : α} {xs ys : List α} (hl : xs.length = ys.length) (h : ∀ j, j < xs.length → xs[j]?.getD d = ys[j]?.getD d) : xs = ys := by
  apply List.ext_getElem hl
  intro i h1 h2
  have := h i h1
  simpa [h1, h2] using this
abbrev okSs (l : LS) : Prop := l.length ≤ 1048576 ∧ ∀ i : Nat, (l[i]?.getD .empty).size ≤ 1048576
noncomputable instance (l : LS) : Decidable (okSs l) := Classical.propDecidable _
theorem all_noK {α : Type} {d : α} {p : α → Bool} {l : List α} {k : Nat} (h : k < l.length) (hb : p (l[k]?.getD d) = false) : l.all p = false := by
  rw [List.all_eq_false]
  exact ⟨l[k], List.getElem_mem h, by simp [h] at hb; simp [hb]⟩
theorem all_yesK {α : Type} {d : α} {p : α → Bool} {l : List α} (h : ∀ j, j < l.length → p (l[j]?.getD d) = true) : l.all p = true := by
  rw [List.all_eq_true]
  intro x hx
  obtain ⟨j, hj, rfl⟩ := List.getElem_of_mem hx
  simpa [hj] using h j hj
def smallC (c : Int) : Bool := inB c 97 122
def digC (c : Int) : Bool := inB c 48 57
def prevD (s : ByteArray) (k : Nat) : Bool := decide (0 < k) && digC (at8 s (k - 1))
def patAt (s : ByteArray) (k : Nat) : Bool := smallC (at8 s k) || (digC (at8 s k) && !prevD s k) || (decide (at8 s k = 46) && (decide (k = 0) || decide (k + 1 = s.size)))
def anyS (s : ByteArray) (k : Nat) : Bool := (List.range k).any fun j => smallC (at8 s j)
theorem anyS_succ (s : ByteArray) (k : Nat) : anyS s (k + 1) = (anyS s k || smallC (at8 s k)) := by
  simp [anyS, List.range_succ, List.any_append]
def patB (s : ByteArray) : Bool := (List.range s.size).all (patAt s) && (anyS s s.size && decide (s.size ≤ 12))
theorem patB_no {s : ByteArray} {k : Nat} (h : k < s.size) (hb : patAt s k = false) : patB s = false := by
  have : (List.range s.size).all (patAt s) = false := by
    rw [List.all_eq_false]
    exact ⟨k, List.mem_range.2 h, by simp [hb]⟩
  simp [patB, this]
theorem patB_yes {s : ByteArray} (h : ∀ j, j < s.size → patAt s j = true) : patB s = (anyS s s.size && decide (s.size ≤ 12)) := by
  have : (List.range s.size).all (patAt s) = true := by
    rw [List.all_eq_true]
    exact fun k hk => h k (List.mem_range.1 hk)
  simp [patB, this]
def φPat : Fun := F1 dS fun s => if s.size ≤ 1099511627776 then some (bv (patB s)) else none
theorem φPat_ap {s : ByteArray} (h : s.size ≤ 1099511627776) : φPat [.val (.string s)] = some (.val (.bool (patB s))) :=
  (F1_ap (A := dS) s).trans (if_pos h)
theorem patAt_iff {s : ByteArray} {k : Nat} : patAt s k = true ↔ (97 ≤ at8 s k ∧ at8 s k ≤ 122) ∨ (48 ≤ at8 s k ∧ at8 s k ≤ 57 ∧ prevD s k = false) ∨ (at8 s k = 46 ∧ (k = 0 ∨ k + 1 = s.size)) := by
  simp [patAt, smallC, digC, inB, or_assoc, and_assoc]
theorem small_no {c : Int} (h : c < 97 ∨ 122 < c) : smallC c = false := Bool.eq_false_iff.2 fun h2 => by have := inB_iff.1 h2; omega
theorem dig_no {c : Int} (h : c < 48 ∨ 57 < c) : digC c = false := Bool.eq_false_iff.2 fun h2 => by have := inB_iff.1 h2; omega
structure PatI (s : ByteArray) (k : Nat) (n : Int) : Prop where
  kk : k ≤ s.size
  n0 : 0 ≤ n
  n1 : n ≤ k
  all : ∀ j, j < k → patAt s j = true
  any : decide (0 < n) = anyS s k
theorem PatI.zero (s : ByteArray) : PatI s 0 0 := ⟨Nat.zero_le _, by omega, by omega, fun j hj => by omega, rfl⟩
theorem PatI.letter {s : ByteArray} {k : Nat} {n : Int} (h : PatI s k n) (hk : k < s.size) (hs : smallC (at8 s k) = true) : PatI s (k + 1) (n + 1) :=
  ⟨by omega, by have := h.n0; omega, by have := h.n1; omega, fun j hj => by
    by_cases h1 : j < k
    · exact h.all j h1
    · have : j = k := by omega
      subst this
      simp [patAt, hs], by
    rw [anyS_succ, hs, Bool.or_true]
    have := h.n0
    simp; omega⟩
theorem PatI.other {s : ByteArray} {k : Nat} {n : Int} (h : PatI s k n) (hk : k < s.size) (hp : patAt s k = true) (hs : smallC (at8 s k) = false) : PatI s (k + 1) n :=
  ⟨by omega, h.n0, by have := h.n1; omega, fun j hj => by
    by_cases h1 : j < k
    · exact h.all j h1
    · have : j = k := by omega
      subst this
      exact hp, by rw [anyS_succ, hs, Bool.or_false]; exact h.any⟩
theorem PatI.done {s : ByteArray} {k : Nat} {n : Int} (h : PatI s k n) (hk : ¬ k < s.size) : patB s = (decide (0 < n) && decide (s.size ≤ 12)) := by
  have hk2 := h.kk
  have : k = s.size := by omega
  subst this
  rw [patB_yes h.all, h.any]
theorem prevD_succ (s : ByteArray) (k : Nat) : prevD s (k + 1) = digC (at8 s k) := by simp [prevD]
set_option maxHeartbeats 8000000 in
theorem specPatternValid_ok : Sound Try.prog 81 φPat := by
  refine sound_pq mixed GE_ok Try.func81 rfl 57 rfl [.tmp 2] rfl (by kernel_rfl) fun ps r hr => ?_
  obtain ⟨s, rfl, hq⟩ := F1_some hr
  clear hr
  split at hq
  case isFalse => cases hq
  case isTrue hlen =>
  cases hq
  refine ⟨by simp, ?_⟩
  simp only [dIs, dUs, dSs, dI_e, dU_e, dB_e, dS_e, dFn_e, dL_e, dA2_e, dA3_e, dA4_e, dA5_e]
  (refine wlkX ?_; intros)
  refine i_loop (α := Nat × Int) mixed (fun k => [(0, sv s), (3, iv k.2), (4, bv (prevD s k.1)), (5, iv k.1)]) (fun _ => []) (fun _ => 0)
    (fun k => PatI s k.1 k.2) (fun k => s.size - k.1) (by kernel_rfl) (0, 0) (PatI.zero s) ?_ trivial rfl ?_
  · simp only [push_cast, ↓reduceIte, Nat.reduceEqDiff, Nat.reduceBEq, Nat.reduceAdd, Nat.reduceSub, Int.reduceToNat]
    rfl
  · rintro ⟨k, n⟩ hi
    dsimp only at hi
    have hk := hi.kk
    have hn0 := hi.n0
    have hn1 := hi.n1
    have hrk := at8_rng s k
    generalize hd : prevD s k = d
    repeat' (first | (with_reducible first | apply i_seq | apply i_block | apply i_skip | apply i_exit | apply i_ret | apply i_kS | apply i_kSx | apply i_kSr | apply i_kL | apply i_kLx | apply i_kLr | apply i_kB | apply i_kBr | apply i_kBs | apply i_nil) | ((with_reducible apply i_region); (simp only [List.map_cons, List.map_nil] <;> exact rfl)) | ((with_reducible apply i_draw); (simp only [List.map_cons, List.map_nil] <;> exact rfl); decide +kernel) | ((with_reducible apply i_kBo); rfl) | ((first | ((with_reducible apply i_V); rfl; rfl; rfl) | ((first | ((with_reducible apply i_E); rfl) | ((with_reducible apply i_S); rfl)); first | rfl | (simp only [push_cast, ↓reduceIte])) | ((with_reducible apply i_Vq); rfl; rfl) | ((with_reducible apply i_Vp); rfl; rfl; rfl) | (with_reducible first | apply i_Gb | apply i_cond)); (simp (disch := (first | omega | (simp only [push_cast]; first | done | omega))) only [push_cast, ↓reduceIte, Nat.reduceEqDiff, Nat.reduceBEq, Nat.reduceAdd, Nat.reduceSub, Int.reduceToNat, *] <;> with_reducible exact rfl); all_goals try (first | (with_reducible first | refine hyT ?_ | refine hyF ?_ | exact hyA | exact hyB) | (intro hX; first | (cases hX; done) | ((try simp only [decide_eq_true_eq, decide_eq_false_iff_not, Bool.not_eq_true', Bool.not_eq_false'] at hX); (try have hXb := inB_iff.1 hX))))))
    all_goals try ((first | apply i_end | apply i_endN); simp (disch := (first | omega | (simp only [push_cast]; first | done | omega))) only [push_cast, ↓reduceIte, Nat.reduceEqDiff, Nat.reduceBEq, Nat.reduceAdd, Nat.reduceSub, Int.reduceToNat, *])
    all_goals try (exfalso; omega)
    all_goals (first
      | (rw [patB_no (k := k) (by omega) (Bool.eq_false_iff.2 fun h => by rcases patAt_iff.1 h with h | h | h <;> (first | omega | (simp_all; done) | (simp_all; omega)))]; done)
      | exact ⟨(k + 1, n + 1), hi.letter (by omega) (inB_iff.2 ⟨by omega, by omega⟩), by dsimp only; omega, by (have hdg := @dig_no (at8 s k) (by omega); simp only [push_cast, ↓reduceIte, Nat.reduceEqDiff, Nat.reduceBEq, Nat.reduceAdd, Nat.reduceSub, Int.reduceToNat, prevD_succ, hdg]), trivial, rfl⟩
      | exact ⟨(k + 1, n), hi.other (by omega) (patAt_iff.2 (.inr (.inr ⟨by omega, by omega⟩))) (small_no (by omega)), by dsimp only; omega, by (have hdg := @dig_no (at8 s k) (by omega); simp only [push_cast, ↓reduceIte, Nat.reduceEqDiff, Nat.reduceBEq, Nat.reduceAdd, Nat.reduceSub, Int.reduceToNat, prevD_succ, hdg]; try exact congrArg (fun z => PV.val (Value.int .i64 z)) (by omega)), trivial, rfl⟩
      | exact ⟨(k + 1, n), hi.other (by omega) (patAt_iff.2 (.inr (.inl ⟨by omega, by omega, by simp_all⟩))) (small_no (by omega)), by dsimp only; omega, by (have hdg : digC (at8 s k) = true := inB_iff.2 ⟨by omega, by omega⟩; simp only [push_cast, ↓reduceIte, Nat.reduceEqDiff, Nat.reduceBEq, Nat.reduceAdd, Nat.reduceSub, Int.reduceToNat, prevD_succ, hdg]), trivial, rfl⟩
      | (rw [hi.done (by omega)]; simp_all; done)
      | (rw [hi.done (by omega)]; simp_all; omega))
def φDig : Fun := F1 dU fun n => some (bv (inB n 48 57))
theorem φDig_ap (n : Int) : φDig [.val (.int .u8 n)] = some (.val (.bool (inB n 48 57))) := rfl
theorem isDigit_ok : Sound Try.prog 108 φDig := by
  refine sound_pq mixed GE_ok Try.func108 rfl 9 rfl [.tmp 2] rfl (by kernel_rfl) fun ps r hr => ?_
  obtain ⟨n, rfl, hr⟩ := F1_some hr
  cases hr
  refine ⟨by simp, ?_⟩
  simp only [dIs, dUs, dSs, dI_e, dU_e, dB_e, dS_e, dFn_e, dL_e, dA2_e, dA3_e, dA4_e, dA5_e]
  repeat' (first | (with_reducible first | apply i_seq | apply i_block | apply i_skip | apply i_exit | apply i_ret | apply i_kS | apply i_kSx | apply i_kSr | apply i_kL | apply i_kLx | apply i_kLr | apply i_kB | apply i_kBr | apply i_kBs | apply i_nil) | ((with_reducible apply i_region); (simp only [List.map_cons, List.map_nil] <;> exact rfl)) | ((with_reducible apply i_draw); (simp only [List.map_cons, List.map_nil] <;> exact rfl); decide +kernel) | ((with_reducible apply i_kBo); rfl) | ((first | ((with_reducible apply i_V); rfl; rfl; rfl) | ((first | ((with_reducible apply i_E); rfl) | ((with_reducible apply i_S); rfl)); first | rfl | (simp only [push_cast, ↓reduceIte])) | ((with_reducible apply i_Vq); rfl; rfl) | ((with_reducible apply i_Vp); rfl; rfl; rfl) | (with_reducible first | apply i_Gb | apply i_cond)); (simp (disch := (first | omega | (simp only [push_cast]; first | done | omega))) only [push_cast, ↓reduceIte, Nat.reduceEqDiff, Nat.reduceBEq, Nat.reduceAdd, Nat.reduceSub, Int.reduceToNat, *] <;> with_reducible exact rfl); all_goals try (first | (with_reducible first | refine hyT ?_ | refine hyF ?_ | exact hyA | exact hyB) | (intro hX; first | (cases hX; done) | ((try simp only [decide_eq_true_eq, decide_eq_false_iff_not, Bool.not_eq_true', Bool.not_eq_false'] at hX); (try have hXb := inB_iff.1 hX))))))
  all_goals ((first | apply i_end | apply i_endN); simp (disch := (first | omega | (simp only [push_cast]; first | done | omega))) only [push_cast, ↓reduceIte, Nat.reduceEqDiff, Nat.reduceBEq, Nat.reduceAdd, Nat.reduceSub, Int.reduceToNat, *])
  all_goals (first | (simp_all [inB]; done) | (simp_all [inB]; omega))
noncomputable def GPt : Ctx := { fn := fun f => if f = 107 then some φSmall else if f = 108 then some φDig else none, io := fun f => none }
theorem GPt_ok : SoundΓ Try.prog GPt := ⟨(fun f φ h => by
  unfold GPt at h
  dsimp only at h
  split at h
  · rename_i hf; cases h; subst hf; exact ⟨⟨_, Try.func107, rfl, rfl⟩, isSmall_ok⟩
  split at h
  · rename_i hf; cases h; subst hf; exact ⟨⟨_, Try.func108, rfl, rfl⟩, isDigit_ok⟩
  cases h), (fun f φ h => by
  unfold GPt at h
  dsimp only at h
  cases h), rfl⟩
theorem GPt_107 (ob : Objs) (ps : List PV) : evCall GPt ob 107 ps = (ps.mapM (reify false 0 ob fuel)).bind φSmall := by
  have h : GPt.fn 107 = some φSmall := by simp [GPt]
  unfold evCall
  rw [h]
  cases ps.mapM (reify false 0 ob fuel) <;> rfl
theorem GPt_108 (ob : Objs) (ps : List PV) : evCall GPt ob 108 ps = (ps.mapM (reify false 0 ob fuel)).bind φDig := by
  have h : GPt.fn 108 = some φDig := by simp [GPt]
  unfold evCall
  rw [h]
  cases ps.mapM (reify false 0 ob fuel) <;> rfl
set_option maxHeartbeats 8000000 in
theorem implPatternValid_ok : Sound Try.prog 90 φPat := by
  refine sound_pq mixed GPt_ok Try.func90 rfl 51 rfl [.tmp 2] rfl (by kernel_rfl) fun ps r hr => ?_
  obtain ⟨s, rfl, hq⟩ := F1_some hr
  clear hr
  split at hq
  case isFalse => cases hq
  case isTrue hlen =>
  cases hq
  refine ⟨by simp, ?_⟩
  simp only [dIs, dUs, dSs, dI_e, dU_e, dB_e, dS_e, dFn_e, dL_e, dA2_e, dA3_e, dA4_e, dA5_e]
  have gpt_c107 := GPt_107; have gpt_c108 := GPt_108; have ap := φSmall_ap; have ap2 := φDig_ap
  (refine wlkX ?_; intros)
  refine i_loop (α := Nat × Int) mixed (fun k => [(0, sv s), (3, iv k.2), (7, iv s.size), (8, iv k.1)]) (fun _ => []) (fun _ => 0)
    (fun k => PatI s k.1 k.2) (fun k => s.size - k.1) (by kernel_rfl) (0, 0) (PatI.zero s) ?_ trivial rfl ?_
  · simp only [push_cast, ↓reduceIte, Nat.reduceEqDiff, Nat.reduceBEq, Nat.reduceAdd, Nat.reduceSub, Int.reduceToNat]
  · rintro ⟨k, n⟩ hi
    dsimp only at hi
    have hk := hi.kk
    have hn0 := hi.n0
    have hn1 := hi.n1
    have hrk := at8_rng s k
    have hpd : prevD s k = (decide (0 < k) && inB (at8 s (k - 1)) 48 57) := rfl
    have hsm : inB (at8 s k) 97 122 = false → (at8 s k < 97 ∨ 122 < at8 s k) := fun h => by
      by_cases hh : 97 ≤ at8 s k ∧ at8 s k ≤ 122
      · rw [inB_iff.2 hh] at h; cases h
      · omega
    have hdgk : inB (at8 s k) 48 57 = false → (at8 s k < 48 ∨ 57 < at8 s k) := fun h => by
      by_cases hh : 48 ≤ at8 s k ∧ at8 s k ≤ 57
      · rw [inB_iff.2 hh] at h; cases h
      · omega
    have hpd := Lib.hid hpd
    have hsm := Lib.hid hsm
    have hdgk := Lib.hid hdgk
    repeat' (first | (with_reducible first | apply i_seq | apply i_block | apply i_skip | apply i_exit | apply i_ret | apply i_kS | apply i_kSx | apply i_kSr | apply i_kL | apply i_kLx | apply i_kLr | apply i_kB | apply i_kBr | apply i_kBs | apply i_nil) | ((with_reducible apply i_region); (simp only [List.map_cons, List.map_nil] <;> exact rfl)) | ((with_reducible apply i_draw); (simp only [List.map_cons, List.map_nil] <;> exact rfl); decide +kernel) | ((with_reducible apply i_kBo); rfl) | ((first | ((with_reducible apply i_V); rfl; rfl; rfl) | ((first | ((with_reducible apply i_E); rfl) | ((with_reducible apply i_S); rfl)); first | rfl | (simp only [push_cast, ↓reduceIte])) | ((with_reducible apply i_Vq); rfl; rfl) | ((with_reducible apply i_Vp); rfl; rfl; rfl) | (with_reducible first | apply i_Gb | apply i_cond)); (simp (disch := (first | omega | (simp only [push_cast]; first | done | omega))) only [push_cast, ↓reduceIte, Nat.reduceEqDiff, Nat.reduceBEq, Nat.reduceAdd, Nat.reduceSub, Int.reduceToNat, *] <;> with_reducible exact rfl); all_goals try (first | (with_reducible first | refine hyT ?_ | refine hyF ?_ | exact hyA | exact hyB) | (intro hX; first | (cases hX; done) | ((try simp only [decide_eq_true_eq, decide_eq_false_iff_not, Bool.not_eq_true', Bool.not_eq_false'] at hX); (try have hXb := inB_iff.1 hX))))))
    all_goals try ((first | apply i_end | apply i_endN); simp (disch := (first | omega | (simp only [push_cast]; first | done | omega))) only [push_cast, ↓reduceIte, Nat.reduceEqDiff, Nat.reduceBEq, Nat.reduceAdd, Nat.reduceSub, Int.reduceToNat, *])
    all_goals try (exfalso; omega)
    all_goals (have hpd1 := hpd.out; have hsm1 := hsm.out; have hdgk1 := hdgk.out)
    all_goals (first
      | (rw [patB_no (k := k) (by omega) (Bool.eq_false_iff.2 fun h => by rcases patAt_iff.1 h with h | h | h <;> (first | omega | (simp_all; done) | (simp_all; omega)))]; done)
      | exact ⟨(k + 1, n + 1), hi.letter (by omega) (by assumption), by dsimp only; omega, by simp only [push_cast, ↓reduceIte, Nat.reduceEqDiff, Nat.reduceBEq, Nat.reduceAdd, Nat.reduceSub, Int.reduceToNat], trivial, rfl⟩
      | exact ⟨(k + 1, n), hi.other (by omega) (patAt_iff.2 (.inr (.inr ⟨by omega, by omega⟩))) (by assumption), by dsimp only; omega, by (simp only [push_cast, ↓reduceIte, Nat.reduceEqDiff, Nat.reduceBEq, Nat.reduceAdd, Nat.reduceSub, Int.reduceToNat]; try exact congrArg (fun z => PV.val (Value.int .i64 z)) (by omega)), trivial, rfl⟩
      | exact ⟨(k + 1, n), hi.other (by omega) (patAt_iff.2 (.inr (.inl ⟨by omega, by omega, by simp_all⟩))) (by assumption), by dsimp only; omega, by simp only [push_cast, ↓reduceIte, Nat.reduceEqDiff, Nat.reduceBEq, Nat.reduceAdd, Nat.reduceSub, Int.reduceToNat], trivial, rfl⟩
      | (rw [hi.done (by omega)]; simp_all; done)
      | (rw [hi.done (by omega)]; simp_all; omega))
def allWords (l : LS) : Bool := decide (l.length ≤ 12) && l.all wordB
noncomputable def φWords : Fun := F1 dSs fun l => if okSs l then some (bv (allWords l)) else none
theorem φWords_ap {l : LS} (h : okSs l) : φWords [.lst false 1 (l.map fun s => .val (.string s))] = some (.val (.bool (allWords l))) :=
  (F1_ap (A := dSs) l).trans (if_pos h)
noncomputable def GSWords : Ctx := { fn := fun f => if f = 69 then some φWord else none, io := fun f => none }
theorem GSWords_ok : SoundΓ Try.prog GSWords := ⟨(fun f φ h => by
  unfold GSWords at h
  dsimp only at h
  split at h
  · rename_i hf; cases h; subst hf; exact ⟨⟨_, Try.func69, rfl, rfl⟩, specWordValid_ok⟩
  cases h), (fun f φ h => by
  unfold GSWords at h
  dsimp only at h
  cases h), rfl⟩
theorem GSWords_69 (ob : Objs) (ps : List PV) : evCall GSWords ob 69 ps = (ps.mapM (reify false 0 ob fuel)).bind φWord := by
  have h : GSWords.fn 69 = some φWord := by simp [GSWords]
  unfold evCall
  rw [h]
  cases ps.mapM (reify false 0 ob fuel) <;> rfl
set_option maxHeartbeats 4000000 in
theorem specWordsValid_ok : Sound Try.prog 58 φWords := by
  refine sound_pq mixed GSWords_ok Try.func58 rfl 19 rfl [.tmp 2] rfl (by kernel_rfl) fun ps r hr => ?_
  obtain ⟨l, rfl, hq⟩ := F1_some hr
  clear hr
  split at hq
  case isFalse => cases hq
  case isTrue hok =>
  cases hq
  obtain ⟨hlen, hsz⟩ := hok
  refine ⟨by simp, ?_⟩
  simp only [dIs, dUs, dSs, dI_e, dU_e, dB_e, dS_e, dFn_e, dL_e, dA2_e, dA3_e, dA4_e, dA5_e]
  have gswords_c69 := GSWords_69
  repeat' (first | (with_reducible first | apply i_seq | apply i_block | apply i_skip | apply i_exit | apply i_ret | apply i_kS | apply i_kSx | apply i_kSr | apply i_kL | apply i_kLx | apply i_kLr | apply i_kB | apply i_kBr | apply i_kBs | apply i_nil) | ((with_reducible apply i_region); (simp only [List.map_cons, List.map_nil] <;> exact rfl)) | ((with_reducible apply i_draw); (simp only [List.map_cons, List.map_nil] <;> exact rfl); decide +kernel) | ((with_reducible apply i_kBo); rfl) | ((first | ((with_reducible apply i_V); rfl; rfl; rfl) | ((first | ((with_reducible apply i_E); rfl) | ((with_reducible apply i_S); rfl)); first | rfl | (simp only [push_cast, ↓reduceIte])) | ((with_reducible apply i_Vq); rfl; rfl) | ((with_reducible apply i_Vp); rfl; rfl; rfl) | (with_reducible first | apply i_Gb | apply i_cond)); (simp (disch := (first | omega | (simp only [push_cast]; first | done | omega))) only [push_cast, ↓reduceIte, Nat.reduceEqDiff, Nat.reduceBEq, Nat.reduceAdd, Nat.reduceSub, Int.reduceToNat, *] <;> with_reducible exact rfl); all_goals try (first | (with_reducible first | refine hyT ?_ | refine hyF ?_ | exact hyA | exact hyB) | (intro hX; first | (cases hX; done) | ((try simp only [decide_eq_true_eq, decide_eq_false_iff_not, Bool.not_eq_true', Bool.not_eq_false'] at hX); (try have hXb := inB_iff.1 hX))))))
  refine i_loop (α := Nat) mixed (fun k => [(0, .lst false 1 (l.map fun s => .val (.string s))), (3, iv k)]) (fun _ => []) (fun _ => 0)
    (fun k => k ≤ l.length ∧ ∀ j, j < k → wordB (l[j]?.getD .empty) = true) (fun k => l.length - k) (by kernel_rfl) 0 ⟨Nat.zero_le _, fun j hj => by omega⟩ ?_ trivial rfl ?_
  · simp only [push_cast, ↓reduceIte, Nat.reduceEqDiff, Nat.reduceBEq, Nat.reduceAdd, Nat.reduceSub, Int.reduceToNat]
  · intro k ⟨hk, hok⟩
    have ap := @φWord_ap (l[k]?.getD .empty) (by have := hsz k; omega)
    clear hsz
    repeat' (first | (with_reducible first | apply i_seq | apply i_block | apply i_skip | apply i_exit | apply i_ret | apply i_kS | apply i_kSx | apply i_kSr | apply i_kL | apply i_kLx | apply i_kLr | apply i_kB | apply i_kBr | apply i_kBs | apply i_nil) | ((with_reducible apply i_region); (simp only [List.map_cons, List.map_nil] <;> exact rfl)) | ((with_reducible apply i_draw); (simp only [List.map_cons, List.map_nil] <;> exact rfl); decide +kernel) | ((with_reducible apply i_kBo); rfl) | ((first | ((with_reducible apply i_V); rfl; rfl; rfl) | ((first | ((with_reducible apply i_E); rfl) | ((with_reducible apply i_S); rfl)); first | rfl | (simp only [push_cast, ↓reduceIte])) | ((with_reducible apply i_Vq); rfl; rfl) | ((with_reducible apply i_Vp); rfl; rfl; rfl) | (with_reducible first | apply i_Gb | apply i_cond)); (simp (disch := (first | omega | (simp only [push_cast]; first | done | omega))) only [push_cast, ↓reduceIte, Nat.reduceEqDiff, Nat.reduceBEq, Nat.reduceAdd, Nat.reduceSub, Int.reduceToNat, *] <;> with_reducible exact rfl); all_goals try (first | (with_reducible first | refine hyT ?_ | refine hyF ?_ | exact hyA | exact hyB) | (intro hX; first | (cases hX; done) | ((try simp only [decide_eq_true_eq, decide_eq_false_iff_not, Bool.not_eq_true', Bool.not_eq_false'] at hX); (try have hXb := inB_iff.1 hX))))))
    all_goals try ((first | apply i_end | apply i_endN); simp (disch := (first | omega | (simp only [push_cast]; first | done | omega))) only [push_cast, ↓reduceIte, Nat.reduceEqDiff, Nat.reduceBEq, Nat.reduceAdd, Nat.reduceSub, Int.reduceToNat, *])
    · rw [show allWords l = false from by (unfold allWords; rw [all_noK (d := .empty) (k := k) (by omega) (by simp_all), Bool.and_false])]
    · refine ⟨k + 1, ⟨by omega, fun j hj => ?_⟩, by dsimp only; omega, by simp only [push_cast, ↓reduceIte, Nat.reduceEqDiff, Nat.reduceBEq, Nat.reduceAdd, Nat.reduceSub, Int.reduceToNat], trivial, rfl⟩
      by_cases h1 : j < k
      · exact hok j h1
      · have : j = k := by omega
        subst this
        simp_all
    · rw [show allWords l = decide (l.length ≤ 12) from by (unfold allWords; rw [all_yesK (d := .empty) fun j hj => hok j (by omega), Bool.and_true])]
      simp
      omega
noncomputable def GIWords : Ctx := { fn := fun f => if f = 89 then some φWord else none, io := fun f => none }
theorem GIWords_ok : SoundΓ Try.prog GIWords := ⟨(fun f φ h => by
  unfold GIWords at h
  dsimp only at h
  split at h
  · rename_i hf; cases h; subst hf; exact ⟨⟨_, Try.func89, rfl, rfl⟩, implWordValid_ok⟩
  cases h), (fun f φ h => by
  unfold GIWords at h
  dsimp only at h
  cases h), rfl⟩
theorem GIWords_89 (ob : Objs) (ps : List PV) : evCall GIWords ob 89 ps = (ps.mapM (reify false 0 ob fuel)).bind φWord := by
  have h : GIWords.fn 89 = some φWord := by simp [GIWords]
  unfold evCall
  rw [h]
  cases ps.mapM (reify false 0 ob fuel) <;> rfl
set_option maxHeartbeats 4000000 in
theorem implWordsValid_ok : Sound Try.prog 71 φWords := by
  refine sound_pq mixed GIWords_ok Try.func71 rfl 18 rfl [.tmp 2] rfl (by kernel_rfl) fun ps r hr => ?_
  obtain ⟨l, rfl, hq⟩ := F1_some hr
  clear hr
  split at hq
  case isFalse => cases hq
  case isTrue hok =>
  cases hq
  obtain ⟨hlen, hsz⟩ := hok
  refine ⟨by simp, ?_⟩
  simp only [dIs, dUs, dSs, dI_e, dU_e, dB_e, dS_e, dFn_e, dL_e, dA2_e, dA3_e, dA4_e, dA5_e]
  have giwords_c89 := GIWords_89
  repeat' (first | (with_reducible first | apply i_seq | apply i_block | apply i_skip | apply i_exit | apply i_ret | apply i_kS | apply i_kSx | apply i_kSr | apply i_kL | apply i_kLx | apply i_kLr | apply i_kB | apply i_kBr | apply i_kBs | apply i_nil) | ((with_reducible apply i_region); (simp only [List.map_cons, List.map_nil] <;> exact rfl)) | ((with_reducible apply i_draw); (simp only [List.map_cons, List.map_nil] <;> exact rfl); decide +kernel) | ((with_reducible apply i_kBo); rfl) | ((first | ((with_reducible apply i_V); rfl; rfl; rfl) | ((first | ((with_reducible apply i_E); rfl) | ((with_reducible apply i_S); rfl)); first | rfl | (simp only [push_cast, ↓reduceIte])) | ((with_reducible apply i_Vq); rfl; rfl) | ((with_reducible apply i_Vp); rfl; rfl; rfl) | (with_reducible first | apply i_Gb | apply i_cond)); (simp (disch := (first | omega | (simp only [push_cast]; first | done | omega))) only [push_cast, ↓reduceIte, Nat.reduceEqDiff, Nat.reduceBEq, Nat.reduceAdd, Nat.reduceSub, Int.reduceToNat, *] <;> with_reducible exact rfl); all_goals try (first | (with_reducible first | refine hyT ?_ | refine hyF ?_ | exact hyA | exact hyB) | (intro hX; first | (cases hX; done) | ((try simp only [decide_eq_true_eq, decide_eq_false_iff_not, Bool.not_eq_true', Bool.not_eq_false'] at hX); (try have hXb := inB_iff.1 hX))))))
  refine i_loop (α := Nat) mixed (fun k => [(0, .lst false 1 (l.map fun s => .val (.string s))), (5, .lst false 1 (l.map fun s => .val (.string s))), (6, iv l.length), (7, iv k)]) (fun _ => []) (fun _ => 0)
    (fun k => k ≤ l.length ∧ ∀ j, j < k → wordB (l[j]?.getD .empty) = true) (fun k => l.length - k) (by kernel_rfl) 0 ⟨Nat.zero_le _, fun j hj => by omega⟩ ?_ trivial rfl ?_
  · simp only [push_cast, ↓reduceIte, Nat.reduceEqDiff, Nat.reduceBEq, Nat.reduceAdd, Nat.reduceSub, Int.reduceToNat]
  · intro k ⟨hk, hok⟩
    have ap := @φWord_ap (l[k]?.getD .empty) (by have := hsz k; omega)
    clear hsz
    repeat' (first | (with_reducible first | apply i_seq | apply i_block | apply i_skip | apply i_exit | apply i_ret | apply i_kS | apply i_kSx | apply i_kSr | apply i_kL | apply i_kLx | apply i_kLr | apply i_kB | apply i_kBr | apply i_kBs | apply i_nil) | ((with_reducible apply i_region); (simp only [List.map_cons, List.map_nil] <;> exact rfl)) | ((with_reducible apply i_draw); (simp only [List.map_cons, List.map_nil] <;> exact rfl); decide +kernel) | ((with_reducible apply i_kBo); rfl) | ((first | ((with_reducible apply i_V); rfl; rfl; rfl) | ((first | ((with_reducible apply i_E); rfl) | ((with_reducible apply i_S); rfl)); first | rfl | (simp only [push_cast, ↓reduceIte])) | ((with_reducible apply i_Vq); rfl; rfl) | ((with_reducible apply i_Vp); rfl; rfl; rfl) | (with_reducible first | apply i_Gb | apply i_cond)); (simp (disch := (first | omega | (simp only [push_cast]; first | done | omega))) only [push_cast, ↓reduceIte, Nat.reduceEqDiff, Nat.reduceBEq, Nat.reduceAdd, Nat.reduceSub, Int.reduceToNat, *] <;> with_reducible exact rfl); all_goals try (first | (with_reducible first | refine hyT ?_ | refine hyF ?_ | exact hyA | exact hyB) | (intro hX; first | (cases hX; done) | ((try simp only [decide_eq_true_eq, decide_eq_false_iff_not, Bool.not_eq_true', Bool.not_eq_false'] at hX); (try have hXb := inB_iff.1 hX))))))
    all_goals try ((first | apply i_end | apply i_endN); simp (disch := (first | omega | (simp only [push_cast]; first | done | omega))) only [push_cast, ↓reduceIte, Nat.reduceEqDiff, Nat.reduceBEq, Nat.reduceAdd, Nat.reduceSub, Int.reduceToNat, *])
    · rw [show allWords l = false from by (unfold allWords; rw [all_noK (d := .empty) (k := k) (by omega) (by simp_all), Bool.and_false])]
    · refine ⟨k + 1, ⟨by omega, fun j hj => ?_⟩, by dsimp only; omega, by simp only [push_cast, ↓reduceIte, Nat.reduceEqDiff, Nat.reduceBEq, Nat.reduceAdd, Nat.reduceSub, Int.reduceToNat], trivial, rfl⟩
      by_cases h1 : j < k
      · exact hok j h1
      · have : j = k := by omega
        subst this
        simp_all
    · rw [show allWords l = decide (l.length ≤ 12) from by (unfold allWords; rw [all_yesK (d := .empty) fun j hj => hok j (by omega), Bool.and_true])]
      simp
      omega
def allPats (l : LS) : Bool := decide (l.length ≤ 20) && l.all patB
noncomputable def φPats : Fun := F1 dSs fun l => if okSs l then some (bv (allPats l)) else none
theorem φPats_ap {l : LS} (h : okSs l) : φPats [.lst false 1 (l.map fun s => .val (.string s))] = some (.val (.bool (allPats l))) :=
  (F1_ap (A := dSs) l).trans (if_pos h)
noncomputable def GSPats : Ctx := { fn := fun f => if f = 81 then some φPat else none, io := fun f => none }
theorem GSPats_ok : SoundΓ Try.prog GSPats := ⟨(fun f φ h => by
  unfold GSPats at h
  dsimp only at h
  split at h
  · rename_i hf; cases h; subst hf; exact ⟨⟨_, Try.func81, rfl, rfl⟩, specPatternValid_ok⟩
  cases h), (fun f φ h => by
  unfold GSPats at h
  dsimp only at h
  cases h), rfl⟩
theorem GSPats_81 (ob : Objs) (ps : List PV) : evCall GSPats ob 81 ps = (ps.mapM (reify false 0 ob fuel)).bind φPat := by
  have h : GSPats.fn 81 = some φPat := by simp [GSPats]
  unfold evCall
  rw [h]
  cases ps.mapM (reify false 0 ob fuel) <;> rfl
set_option maxHeartbeats 4000000 in
theorem specPatternsValid_ok : Sound Try.prog 59 φPats := by
  refine sound_pq mixed GSPats_ok Try.func59 rfl 19 rfl [.tmp 2] rfl (by kernel_rfl) fun ps r hr => ?_
  obtain ⟨l, rfl, hq⟩ := F1_some hr
  clear hr
  split at hq
  case isFalse => cases hq
  case isTrue hok =>
  cases hq
  obtain ⟨hlen, hsz⟩ := hok
  refine ⟨by simp, ?_⟩
  simp only [dIs, dUs, dSs, dI_e, dU_e, dB_e, dS_e, dFn_e, dL_e, dA2_e, dA3_e, dA4_e, dA5_e]
  have gspats_c81 := GSPats_81
  repeat' (first | (with_reducible first | apply i_seq | apply i_block | apply i_skip | apply i_exit | apply i_ret | apply i_kS | apply i_kSx | apply i_kSr | apply i_kL | apply i_kLx | apply i_kLr | apply i_kB | apply i_kBr | apply i_kBs | apply i_nil) | ((with_reducible apply i_region); (simp only [List.map_cons, List.map_nil] <;> exact rfl)) | ((with_reducible apply i_draw); (simp only [List.map_cons, List.map_nil] <;> exact rfl); decide +kernel) | ((with_reducible apply i_kBo); rfl) | ((first | ((with_reducible apply i_V); rfl; rfl; rfl) | ((first | ((with_reducible apply i_E); rfl) | ((with_reducible apply i_S); rfl)); first | rfl | (simp only [push_cast, ↓reduceIte])) | ((with_reducible apply i_Vq); rfl; rfl) | ((with_reducible apply i_Vp); rfl; rfl; rfl) | (with_reducible first | apply i_Gb | apply i_cond)); (simp (disch := (first | omega | (simp only [push_cast]; first | done | omega))) only [push_cast, ↓reduceIte, Nat.reduceEqDiff, Nat.reduceBEq, Nat.reduceAdd, Nat.reduceSub, Int.reduceToNat, *] <;> with_reducible exact rfl); all_goals try (first | (with_reducible first | refine hyT ?_ | refine hyF ?_ | exact hyA | exact hyB) | (intro hX; first | (cases hX; done) | ((try simp only [decide_eq_true_eq, decide_eq_false_iff_not, Bool.not_eq_true', Bool.not_eq_false'] at hX); (try have hXb := inB_iff.1 hX))))))
  refine i_loop (α := Nat) mixed (fun k => [(0, .lst false 1 (l.map fun s => .val (.string s))), (3, iv k)]) (fun _ => []) (fun _ => 0)
    (fun k => k ≤ l.length ∧ ∀ j, j < k → patB (l[j]?.getD .empty) = true) (fun k => l.length - k) (by kernel_rfl) 0 ⟨Nat.zero_le _, fun j hj => by omega⟩ ?_ trivial rfl ?_
  · simp only [push_cast, ↓reduceIte, Nat.reduceEqDiff, Nat.reduceBEq, Nat.reduceAdd, Nat.reduceSub, Int.reduceToNat]
  · intro k ⟨hk, hok⟩
    have ap := @φPat_ap (l[k]?.getD .empty) (by have := hsz k; omega)
    clear hsz
    repeat' (first | (with_reducible first | apply i_seq | apply i_block | apply i_skip | apply i_exit | apply i_ret | apply i_kS | apply i_kSx | apply i_kSr | apply i_kL | apply i_kLx | apply i_kLr | apply i_kB | apply i_kBr | apply i_kBs | apply i_nil) | ((with_reducible apply i_region); (simp only [List.map_cons, List.map_nil] <;> exact rfl)) | ((with_reducible apply i_draw); (simp only [List.map_cons, List.map_nil] <;> exact rfl); decide +kernel) | ((with_reducible apply i_kBo); rfl) | ((first | ((with_reducible apply i_V); rfl; rfl; rfl) | ((first | ((with_reducible apply i_E); rfl) | ((with_reducible apply i_S); rfl)); first | rfl | (simp only [push_cast, ↓reduceIte])) | ((with_reducible apply i_Vq); rfl; rfl) | ((with_reducible apply i_Vp); rfl; rfl; rfl) | (with_reducible first | apply i_Gb | apply i_cond)); (simp (disch := (first | omega | (simp only [push_cast]; first | done | omega))) only [push_cast, ↓reduceIte, Nat.reduceEqDiff, Nat.reduceBEq, Nat.reduceAdd, Nat.reduceSub, Int.reduceToNat, *] <;> with_reducible exact rfl); all_goals try (first | (with_reducible first | refine hyT ?_ | refine hyF ?_ | exact hyA | exact hyB) | (intro hX; first | (cases hX; done) | ((try simp only [decide_eq_true_eq, decide_eq_false_iff_not, Bool.not_eq_true', Bool.not_eq_false'] at hX); (try have hXb := inB_iff.1 hX))))))
    all_goals try ((first | apply i_end | apply i_endN); simp (disch := (first | omega | (simp only [push_cast]; first | done | omega))) only [push_cast, ↓reduceIte, Nat.reduceEqDiff, Nat.reduceBEq, Nat.reduceAdd, Nat.reduceSub, Int.reduceToNat, *])
    · rw [show allPats l = false from by (unfold allPats; rw [all_noK (d := .empty) (k := k) (by omega) (by simp_all), Bool.and_false])]
    · refine ⟨k + 1, ⟨by omega, fun j hj => ?_⟩, by dsimp only; omega, by simp only [push_cast, ↓reduceIte, Nat.reduceEqDiff, Nat.reduceBEq, Nat.reduceAdd, Nat.reduceSub, Int.reduceToNat], trivial, rfl⟩
      by_cases h1 : j < k
      · exact hok j h1
      · have : j = k := by omega
        subst this
        simp_all
    · rw [show allPats l = decide (l.length ≤ 20) from by (unfold allPats; rw [all_yesK (d := .empty) fun j hj => hok j (by omega), Bool.and_true])]
      simp
      omega
noncomputable def GIPats : Ctx := { fn := fun f => if f = 90 then some φPat else none, io := fun f => none }
theorem GIPats_ok : SoundΓ Try.prog GIPats := ⟨(fun f φ h => by
  unfold GIPats at h
  dsimp only at h
  split at h
  · rename_i hf; cases h; subst hf; exact ⟨⟨_, Try.func90, rfl, rfl⟩, implPatternValid_ok⟩
  cases h), (fun f φ h => by
  unfold GIPats at h
  dsimp only at h
  cases h), rfl⟩
theorem GIPats_90 (ob : Objs) (ps : List PV) : evCall GIPats ob 90 ps = (ps.mapM (reify false 0 ob fuel)).bind φPat := by
  have h : GIPats.fn 90 = some φPat := by simp [GIPats]
  unfold evCall
  rw [h]
  cases ps.mapM (reify false 0 ob fuel) <;> rfl
set_option maxHeartbeats 4000000 in
theorem implPatternsValid_ok : Sound Try.prog 72 φPats := by
  refine sound_pq mixed GIPats_ok Try.func72 rfl 18 rfl [.tmp 2] rfl (by kernel_rfl) fun ps r hr => ?_
  obtain ⟨l, rfl, hq⟩ := F1_some hr
  clear hr
  split at hq
  case isFalse => cases hq
  case isTrue hok =>
  cases hq
  obtain ⟨hlen, hsz⟩ := hok
  refine ⟨by simp, ?_⟩
  simp only [dIs, dUs, dSs, dI_e, dU_e, dB_e, dS_e, dFn_e, dL_e, dA2_e, dA3_e, dA4_e, dA5_e]
  have gipats_c90 := GIPats_90
  repeat' (first | (with_reducible first | apply i_seq | apply i_block | apply i_skip | apply i_exit | apply i_ret | apply i_kS | apply i_kSx | apply i_kSr | apply i_kL | apply i_kLx | apply i_kLr | apply i_kB | apply i_kBr | apply i_kBs | apply i_nil) | ((with_reducible apply i_region); (simp only [List.map_cons, List.map_nil] <;> exact rfl)) | ((with_reducible apply i_draw); (simp only [List.map_cons, List.map_nil] <;> exact rfl); decide +kernel) | ((with_reducible apply i_kBo); rfl) | ((first | ((with_reducible apply i_V); rfl; rfl; rfl) | ((first | ((with_reducible apply i_E); rfl) | ((with_reducible apply i_S); rfl)); first | rfl | (simp only [push_cast, ↓reduceIte])) | ((with_reducible apply i_Vq); rfl; rfl) | ((with_reducible apply i_Vp); rfl; rfl; rfl) | (with_reducible first | apply i_Gb | apply i_cond)); (simp (disch := (first | omega | (simp only [push_cast]; first | done | omega))) only [push_cast, ↓reduceIte, Nat.reduceEqDiff, Nat.reduceBEq, Nat.reduceAdd, Nat.reduceSub, Int.reduceToNat, *] <;> with_reducible exact rfl); all_goals try (first | (with_reducible first | refine hyT ?_ | refine hyF ?_ | exact hyA | exact hyB) | (intro hX; first | (cases hX; done) | ((try simp only [decide_eq_true_eq, decide_eq_false_iff_not, Bool.not_eq_true', Bool.not_eq_false'] at hX); (try have hXb := inB_iff.1 hX))))))
  refine i_loop (α := Nat) mixed (fun k => [(0, .lst false 1 (l.map fun s => .val (.string s))), (5, .lst false 1 (l.map fun s => .val (.string s))), (6, iv l.length), (7, iv k)]) (fun _ => []) (fun _ => 0)
    (fun k => k ≤ l.length ∧ ∀ j, j < k → patB (l[j]?.getD .empty) = true) (fun k => l.length - k) (by kernel_rfl) 0 ⟨Nat.zero_le _, fun j hj => by omega⟩ ?_ trivial rfl ?_
  · simp only [push_cast, ↓reduceIte, Nat.reduceEqDiff, Nat.reduceBEq, Nat.reduceAdd, Nat.reduceSub, Int.reduceToNat]
  · intro k ⟨hk, hok⟩
    have ap := @φPat_ap (l[k]?.getD .empty) (by have := hsz k; omega)
    clear hsz
    repeat' (first | (with_reducible first | apply i_seq | apply i_block | apply i_skip | apply i_exit | apply i_ret | apply i_kS | apply i_kSx | apply i_kSr | apply i_kL | apply i_kLx | apply i_kLr | apply i_kB | apply i_kBr | apply i_kBs | apply i_nil) | ((with_reducible apply i_region); (simp only [List.map_cons, List.map_nil] <;> exact rfl)) | ((with_reducible apply i_draw); (simp only [List.map_cons, List.map_nil] <;> exact rfl); decide +kernel) | ((with_reducible apply i_kBo); rfl) | ((first | ((with_reducible apply i_V); rfl; rfl; rfl) | ((first | ((with_reducible apply i_E); rfl) | ((with_reducible apply i_S); rfl)); first | rfl | (simp only [push_cast, ↓reduceIte])) | ((with_reducible apply i_Vq); rfl; rfl) | ((with_reducible apply i_Vp); rfl; rfl; rfl) | (with_reducible first | apply i_Gb | apply i_cond)); (simp (disch := (first | omega | (simp only [push_cast]; first | done | omega))) only [push_cast, ↓reduceIte, Nat.reduceEqDiff, Nat.reduceBEq, Nat.reduceAdd, Nat.reduceSub, Int.reduceToNat, *] <;> with_reducible exact rfl); all_goals try (first | (with_reducible first | refine hyT ?_ | refine hyF ?_ | exact hyA | exact hyB) | (intro hX; first | (cases hX; done) | ((try simp only [decide_eq_true_eq, decide_eq_false_iff_not, Bool.not_eq_true', Bool.not_eq_false'] at hX); (try have hXb := inB_iff.1 hX))))))
    all_goals try ((first | apply i_end | apply i_endN); simp (disch := (first | omega | (simp only [push_cast]; first | done | omega))) only [push_cast, ↓reduceIte, Nat.reduceEqDiff, Nat.reduceBEq, Nat.reduceAdd, Nat.reduceSub, Int.reduceToNat, *])
    · rw [show allPats l = false from by (unfold allPats; rw [all_noK (d := .empty) (k := k) (by omega) (by simp_all), Bool.and_false])]
    · refine ⟨k + 1, ⟨by omega, fun j hj => ?_⟩, by dsimp only; omega, by simp only [push_cast, ↓reduceIte, Nat.reduceEqDiff, Nat.reduceBEq, Nat.reduceAdd, Nat.reduceSub, Int.reduceToNat], trivial, rfl⟩
      by_cases h1 : j < k
      · exact hok j h1
      · have : j = k := by omega
        subst this
        simp_all
    · rw [show allPats l = decide (l.length ≤ 20) from by (unfold allPats; rw [all_yesK (d := .empty) fun j hj => hok j (by omega), Bool.and_true])]
      simp
      omega
def φBad : Fun := F1 dI fun n => some (bv (inB n 0 10000))
theorem φBad_ap (n : Int) : φBad [.val (.int .i64 n)] = some (.val (.bool (inB n 0 10000))) := rfl
noncomputable def GBd : Ctx := { fn := fun f => if f = 57 then some φIn else none, io := fun f => none }
theorem GBd_ok : SoundΓ Try.prog GBd := ⟨(fun f φ h => by
  unfold GBd at h
  dsimp only at h
  split at h
  · rename_i hf; cases h; subst hf; exact ⟨⟨_, Try.func57, rfl, rfl⟩, in_ok⟩
  cases h), (fun f φ h => by
  unfold GBd at h
  dsimp only at h
  cases h), rfl⟩
theorem GBd_57 (ob : Objs) (ps : List PV) : evCall GBd ob 57 ps = (ps.mapM (reify false 0 ob fuel)).bind φIn := by
  have h : GBd.fn 57 = some φIn := by simp [GBd]
  unfold evCall
  rw [h]
  cases ps.mapM (reify false 0 ob fuel) <;> rfl
theorem isBad_ok : Sound Try.prog 80 φBad := by
  refine sound_pq mixed GBd_ok Try.func80 rfl 5 rfl [.tmp 2] rfl (by kernel_rfl) fun ps r hr => ?_
  obtain ⟨n, rfl, hr⟩ := F1_some hr
  cases hr
  refine ⟨by simp, ?_⟩
  simp only [dIs, dUs, dSs, dI_e, dU_e, dB_e, dS_e, dFn_e, dL_e, dA2_e, dA3_e, dA4_e, dA5_e]
  have gbd_c57 := GBd_57; have ap := φIn_ap
  (refine wlkX ?_; intros)
  all_goals (exact fnF)
end Go.Proofs.Ytngcedklbinhjaa
namespace Go.Proofs.Ytngcedklbinhjaa
open Go.RowKit
set_option linter.all false
def amB (c : Int) (s : ByteArray) : Bool := s.data.toList.any fun b => decide (c = (b.toNat : Int))
theorem u8_eq {b : UInt8} {c : Int} (h0 : 0 ≤ c) (h1 : c ≤ 255) : (b == c.toNat.toUInt8) = decide (c = (b.toNat : Int)) := by
  have e : (c.toNat.toUInt8).toNat = c.toNat := by
    show c.toNat % 256 = c.toNat
    omega
  rw [Bool.eq_iff_iff, beq_iff_eq, decide_eq_true_eq]
  constructor
  · intro h
    rw [h, e]
    omega
  · intro h
    apply UInt8.toNat_inj.1
    rw [e]
    omega
theorem ib_any : ∀ (l : List UInt8) {c : Int}, 0 ≤ c → c ≤ 255 → decide (0 ≤ Lib.indexByte l c.toNat.toUInt8) = l.any fun b => decide (c = (b.toNat : Int))
  | [], c, _, _ => rfl
  | b :: l, c, h0, h1 => by
    have ih := ib_any l h0 h1
    have hge := Lib.indexByte_ge l c.toNat.toUInt8
    unfold Lib.indexByte
    rw [u8_eq h0 h1, List.any_cons]
    cases hb : decide (c = (b.toNat : Int)) with
    | true => rfl
    | false =>
      rw [Bool.false_or, ← ih, if_neg (by decide)]
      split
      · rename_i hx
        rw [beq_iff_eq.1 hx]
      · rename_i hx
        have hx1 : ¬ Lib.indexByte l c.toNat.toUInt8 = -1 := fun e => hx (beq_iff_eq.2 e)
        exact decide_eq_decide.2 (by omega)
def letW (c : Int) : Int := if c < 97 ∨ 122 < c then 0 else if c = 105 ∨ c = 106 ∨ c = 108 then 3 else if c = 102 ∨ c = 114 ∨ c = 116 then 4 else if c = 109 ∨ c = 119 then 8 else 5
def nearI (a b : Int) : Int := if ((a = 118 ∨ a = 119 ∨ a = 121) ∧ (b = 97 ∨ b = 101 ∨ b = 111)) ∨ (a = 114 ∧ (b = 110 ∨ b = 109)) then 1 else 0
def joinQ (a b : Int) : Bool := decide (a = 102 ∧ (b = 105 ∨ b = 106 ∨ b = 108 ∨ b = 102))
theorem letW_rng (c : Int) : 0 ≤ letW c ∧ letW c ≤ 8 := by
  unfold letW
  repeat' split
  all_goals omega
theorem nearI_rng (a b : Int) : 0 ≤ nearI a b ∧ nearI a b ≤ 1 := by
  unfold nearI
  split <;> omega
def φLetW : Fun := F1 dU fun c => some (iv (letW c))
theorem φLetW_ap (c : Int) : φLetW [.val (.int .u8 c)] = some (.val (.int .i64 (letW c))) := rfl
def φNear : Fun := F2 dU dU fun a b => some (iv (nearI a b))
theorem φNear_ap (a b : Int) : φNear [.val (.int .u8 a), .val (.int .u8 b)] = some (.val (.int .i64 (nearI a b))) := rfl
def φJoinQ : Fun := F2 dU dU fun a b => some (bv (joinQ a b))
theorem φJoinQ_ap (a b : Int) : φJoinQ [.val (.int .u8 a), .val (.int .u8 b)] = some (.val (.bool (joinQ a b))) := rfl
theorem specLetW_ok : Sound Try.prog 101 φLetW := by
  refine sound_pq mixed GE_ok Try.func101 rfl 39 rfl [.tmp 2] rfl (by kernel_rfl) fun ps r hr => ?_
  obtain ⟨c, rfl, hr⟩ := F1_some hr
  cases hr
  refine ⟨by simp, ?_⟩
  simp only [dIs, dUs, dSs, dI_e, dU_e, dB_e, dS_e, dFn_e, dL_e, dA2_e, dA3_e, dA4_e, dA5_e]
  (repeat' (first | (with_reducible first | apply i_seq | apply i_block | apply i_skip | apply i_exit | apply i_ret | apply i_kS | apply i_kSx | apply i_kSr | apply i_kL | apply i_kLx | apply i_kLr | apply i_kB | apply i_kBr | apply i_kBs | apply i_nil) | ((with_reducible apply i_region); (simp only [List.map_cons, List.map_nil] <;> exact rfl)) | ((with_reducible apply i_draw); (simp only [List.map_cons, List.map_nil] <;> exact rfl); decide +kernel) | ((with_reducible apply i_kBo); rfl) | ((first | ((with_reducible apply i_V); rfl; rfl; rfl) | ((first | ((with_reducible apply i_E); rfl) | ((with_reducible apply i_S); rfl)); first | rfl | (simp only [push_cast, ↓reduceIte])) | ((with_reducible apply i_Vq); rfl; rfl) | ((with_reducible apply i_Vp); rfl; rfl; rfl) | (with_reducible first | apply i_Gb | apply i_cond)); (simp (disch := (first | omega | (simp only [push_cast]; first | done | omega))) only [push_cast, ↓reduceIte, Nat.reduceEqDiff, Nat.reduceBEq, Nat.reduceAdd, Nat.reduceSub, Int.reduceToNat, *] <;> with_reducible exact rfl); all_goals try (first | (with_reducible first | refine hyT ?_ | refine hyF ?_ | exact hyA | exact hyB) | (intro hX; first | (cases hX; done) | ((try simp only [decide_eq_true_eq, decide_eq_false_iff_not, Bool.not_eq_true', Bool.not_eq_false'] at hX); (try have hXb := inB_iff.1 hX))))))); all_goals try (exfalso; omega)
  all_goals ((first | apply i_end | apply i_endN); simp (disch := (first | omega | (simp only [push_cast]; first | done | omega))) only [push_cast, ↓reduceIte, Nat.reduceEqDiff, Nat.reduceBEq, Nat.reduceAdd, Nat.reduceSub, Int.reduceToNat, *])
  all_goals ((refine congrArg (fun z => some (PV.val (Value.int IntKind.i64 z))) ?_); unfold letW; repeat' split)
  all_goals omega
theorem specNear_ok : Sound Try.prog 102 φNear := by
  refine sound_pq mixed GE_ok Try.func102 rfl 43 rfl [.tmp 4] rfl (by kernel_rfl) fun ps r hr => ?_
  obtain ⟨a, b, rfl, hr⟩ := F2_some hr
  cases hr
  refine ⟨by simp, ?_⟩
  simp only [dIs, dUs, dSs, dI_e, dU_e, dB_e, dS_e, dFn_e, dL_e, dA2_e, dA3_e, dA4_e, dA5_e]
  (repeat' (first | (with_reducible first | apply i_seq | apply i_block | apply i_skip | apply i_exit | apply i_ret | apply i_kS | apply i_kSx | apply i_kSr | apply i_kL | apply i_kLx | apply i_kLr | apply i_kB | apply i_kBr | apply i_kBs | apply i_nil) | ((with_reducible apply i_region); (simp only [List.map_cons, List.map_nil] <;> exact rfl)) | ((with_reducible apply i_draw); (simp only [List.map_cons, List.map_nil] <;> exact rfl); decide +kernel) | ((with_reducible apply i_kBo); rfl) | ((first | ((with_reducible apply i_V); rfl; rfl; rfl) | ((first | ((with_reducible apply i_E); rfl) | ((with_reducible apply i_S); rfl)); first | rfl | (simp only [push_cast, ↓reduceIte])) | ((with_reducible apply i_Vq); rfl; rfl) | ((with_reducible apply i_Vp); rfl; rfl; rfl) | (with_reducible first | apply i_Gb | apply i_cond)); (simp (disch := (first | omega | (simp only [push_cast]; first | done | omega))) only [push_cast, ↓reduceIte, Nat.reduceEqDiff, Nat.reduceBEq, Nat.reduceAdd, Nat.reduceSub, Int.reduceToNat, *] <;> with_reducible exact rfl); all_goals try (first | (with_reducible first | refine hyT ?_ | refine hyF ?_ | exact hyA | exact hyB) | (intro hX; first | (cases hX; done) | ((try simp only [decide_eq_true_eq, decide_eq_false_iff_not, Bool.not_eq_true', Bool.not_eq_false'] at hX); (try have hXb := inB_iff.1 hX))))))); all_goals try (exfalso; omega)
  all_goals ((first | apply i_end | apply i_endN); simp (disch := (first | omega | (simp only [push_cast]; first | done | omega))) only [push_cast, ↓reduceIte, Nat.reduceEqDiff, Nat.reduceBEq, Nat.reduceAdd, Nat.reduceSub, Int.reduceToNat, *])
  all_goals ((refine congrArg (fun z => some (PV.val (Value.int IntKind.i64 z))) ?_); unfold nearI; repeat' split)
  all_goals omega
theorem specJoinQ_ok : Sound Try.prog 116 φJoinQ := by
  refine sound_pq mixed GE_ok Try.func116 rfl 23 rfl [.tmp 4] rfl (by kernel_rfl) fun ps r hr => ?_
  obtain ⟨a, b, rfl, hr⟩ := F2_some hr
  cases hr
  refine ⟨by simp, ?_⟩
  simp only [dIs, dUs, dSs, dI_e, dU_e, dB_e, dS_e, dFn_e, dL_e, dA2_e, dA3_e, dA4_e, dA5_e]
  (repeat' (first | (with_reducible first | apply i_seq | apply i_block | apply i_skip | apply i_exit | apply i_ret | apply i_kS | apply i_kSx | apply i_kSr | apply i_kL | apply i_kLx | apply i_kLr | apply i_kB | apply i_kBr | apply i_kBs | apply i_nil) | ((with_reducible apply i_region); (simp only [List.map_cons, List.map_nil] <;> exact rfl)) | ((with_reducible apply i_draw); (simp only [List.map_cons, List.map_nil] <;> exact rfl); decide +kernel) | ((with_reducible apply i_kBo); rfl) | ((first | ((with_reducible apply i_V); rfl; rfl; rfl) | ((first | ((with_reducible apply i_E); rfl) | ((with_reducible apply i_S); rfl)); first | rfl | (simp only [push_cast, ↓reduceIte])) | ((with_reducible apply i_Vq); rfl; rfl) | ((with_reducible apply i_Vp); rfl; rfl; rfl) | (with_reducible first | apply i_Gb | apply i_cond)); (simp (disch := (first | omega | (simp only [push_cast]; first | done | omega))) only [push_cast, ↓reduceIte, Nat.reduceEqDiff, Nat.reduceBEq, Nat.reduceAdd, Nat.reduceSub, Int.reduceToNat, *] <;> with_reducible exact rfl); all_goals try (first | (with_reducible first | refine hyT ?_ | refine hyF ?_ | exact hyA | exact hyB) | (intro hX; first | (cases hX; done) | ((try simp only [decide_eq_true_eq, decide_eq_false_iff_not, Bool.not_eq_true', Bool.not_eq_false'] at hX); (try have hXb := inB_iff.1 hX))))))); all_goals try (exfalso; omega)
  all_goals ((first | apply i_end | apply i_endN); simp (disch := (first | omega | (simp only [push_cast]; first | done | omega))) only [push_cast, ↓reduceIte, Nat.reduceEqDiff, Nat.reduceBEq, Nat.reduceAdd, Nat.reduceSub, Int.reduceToNat, *])
  all_goals ((refine congrArg (fun z => some (PV.val (Value.bool z))) ?_); unfold joinQ; first | (simp; omega) | simp_all)
def φIb : Fun := F2 dS dU fun s c => some (iv (Lib.indexByte s.data.toList c.toNat.toUInt8))
theorem ib_ok : Sound Try.prog 118 φIb := by
  intro w J ps args r hr hJ hT hargs
  obtain ⟨s, c, rfl, hq⟩ := F2_some hr
  cases hq
  simp only [RepL] at hargs
  obtain ⟨v1, vs1, e1, h1, v2, vs2, rfl, h2, rfl⟩ := hargs
  obtain rfl : args = #[v1, v2] := by
    obtain ⟨a⟩ := args
    simp only at e1
    rw [e1]
  simp only [dS, dU, Rep] at h1 h2
  subst h1
  subst h2
  refine (Ytngcedklbinhjaa.strings_IndexByte s c w).mono ?_
  rintro e w' ⟨rfl, rfl⟩
  exact ⟨_, rfl, Below.refl _ _, fun g' _ => by simp only [Rep]⟩
theorem φIb_ap (s : ByteArray) (c : Int) : φIb [.val (.string s), .val (.int .u8 c)] = some (.val (.int .i64 (Lib.indexByte s.data.toList c.toNat.toUInt8))) := rfl
noncomputable def φAm : Fun := F2 dU dS fun c s => open Classical in if 0 ≤ c ∧ c ≤ 255 then some (bv (amB c s)) else none
theorem φAm_ap {c : Int} (s : ByteArray) (h : 0 ≤ c ∧ c ≤ 255) : φAm [.val (.int .u8 c), .val (.string s)] = some (.val (.bool (amB c s))) := (F2_ap (A := dU) (B := dS) c s).trans (if_pos h)
noncomputable def GAm : Ctx := { fn := fun f => if f = 118 then some φIb else none, io := fun f => none }
theorem GAm_ok : SoundΓ Try.prog GAm := ⟨(fun f φ h => by
  unfold GAm at h
  dsimp only at h
  split at h
  · rename_i hf; cases h; subst hf; exact ⟨⟨_, Try.func118, rfl, rfl⟩, ib_ok⟩
  cases h), (fun f φ h => by
  unfold GAm at h
  dsimp only at h
  cases h), rfl⟩
theorem GAm_118 (ob : Objs) (ps : List PV) : evCall GAm ob 118 ps = (ps.mapM (reify false 0 ob fuel)).bind φIb := by
  have h : GAm.fn 118 = some φIb := by simp [GAm]
  unfold evCall
  rw [h]
  cases ps.mapM (reify false 0 ob fuel) <;> rfl
theorem among_ok : Sound Try.prog 111 φAm := by
  refine sound_pq mixed GAm_ok Try.func111 rfl 9 rfl [.tmp 4] rfl (by kernel_rfl) fun ps r hr => ?_
  obtain ⟨c, s, rfl, hq⟩ := F2_some hr
  clear hr
  split at hq
  case isFalse => cases hq
  case isTrue hpre =>
  cases hq
  refine ⟨by simp, ?_⟩
  simp only [dIs, dUs, dSs, dI_e, dU_e, dB_e, dS_e, dFn_e, dL_e, dA2_e, dA3_e, dA4_e, dA5_e]
  have e := ib_any s.data.toList hpre.1 hpre.2
  have hge := Lib.indexByte_ge s.data.toList c.toNat.toUInt8
  have ap := φIb_ap s c
  unfold amB
  rw [← e]
  generalize Lib.indexByte s.data.toList c.toNat.toUInt8 = i at *
  clear e
  have gam_c118 := GAm_118
  exact wlkF
theorem am2 (c a b : Int) (x y : UInt8) (h : (x.toNat : Int) = a) (h2 : (y.toNat : Int) = b) : amB c ⟨#[x, y]⟩ = decide (c = a ∨ c = b) := by simp [amB, h, h2]
theorem am3 (c a b d : Int) (x y z : UInt8) (h : (x.toNat : Int) = a) (h2 : (y.toNat : Int) = b) (h3 : (z.toNat : Int) = d) : amB c ⟨#[x, y, z]⟩ = decide (c = a ∨ c = b ∨ c = d) := by simp [amB, h, h2, h3]
theorem am4 (c a b d e : Int) (x y z u : UInt8) (h : (x.toNat : Int) = a) (h2 : (y.toNat : Int) = b) (h3 : (z.toNat : Int) = d) (h4 : (u.toNat : Int) = e) : amB c ⟨#[x, y, z, u]⟩ = decide (c = a ∨ c = b ∨ c = d ∨ c = e) := by simp [amB, h, h2, h3, h4]
noncomputable def φLetWI : Fun := F1 dU fun c => open Classical in if 0 ≤ c ∧ c ≤ 255 then some (iv (letW c)) else none
theorem φLetWI_ap {c : Int} (h : 0 ≤ c ∧ c ≤ 255) : φLetWI [.val (.int .u8 c)] = some (.val (.int .i64 (letW c))) := (F1_ap (A := dU) c).trans (if_pos h)
noncomputable def φNearI : Fun := F2 dU dU fun a b => open Classical in if (0 ≤ a ∧ a ≤ 255) ∧ 0 ≤ b ∧ b ≤ 255 then some (iv (nearI a b)) else none
theorem φNearI_ap {a b : Int} (h : 0 ≤ a ∧ a ≤ 255) (h2 : 0 ≤ b ∧ b ≤ 255) : φNearI [.val (.int .u8 a), .val (.int .u8 b)] = some (.val (.int .i64 (nearI a b))) := (F2_ap (A := dU) (B := dU) a b).trans (if_pos ⟨h, h2⟩)
noncomputable def φJoinI : Fun := F2 dU dU fun a b => open Classical in if (0 ≤ a ∧ a ≤ 255) ∧ 0 ≤ b ∧ b ≤ 255 then some (bv (joinQ a b)) else none
theorem φJoinI_ap {a b : Int} (h : 0 ≤ a ∧ a ≤ 255) (h2 : 0 ≤ b ∧ b ≤ 255) : φJoinI [.val (.int .u8 a), .val (.int .u8 b)] = some (.val (.bool (joinQ a b))) := (F2_ap (A := dU) (B := dU) a b).trans (if_pos ⟨h, h2⟩)
noncomputable def GLw : Ctx := { fn := fun f => if f = 107 then some φSmall else if f = 111 then some φAm else none, io := fun f => none }
theorem GLw_ok : SoundΓ Try.prog GLw := ⟨(fun f φ h => by
  unfold GLw at h
  dsimp only at h
  split at h
  · rename_i hf; cases h; subst hf; exact ⟨⟨_, Try.func107, rfl, rfl⟩, isSmall_ok⟩
  split at h
  · rename_i hf; cases h; subst hf; exact ⟨⟨_, Try.func111, rfl, rfl⟩, among_ok⟩
  cases h), (fun f φ h => by
  unfold GLw at h
  dsimp only at h
  cases h), rfl⟩
theorem GLw_107 (ob : Objs) (ps : List PV) : evCall GLw ob 107 ps = (ps.mapM (reify false 0 ob fuel)).bind φSmall := by
  have h : GLw.fn 107 = some φSmall := by simp [GLw]
  unfold evCall
  rw [h]
  cases ps.mapM (reify false 0 ob fuel) <;> rfl
theorem GLw_111 (ob : Objs) (ps : List PV) : evCall GLw ob 111 ps = (ps.mapM (reify false 0 ob fuel)).bind φAm := by
  have h : GLw.fn 111 = some φAm := by simp [GLw]
  unfold evCall
  rw [h]
  cases ps.mapM (reify false 0 ob fuel) <;> rfl
theorem implLetW_ok : Sound Try.prog 93 φLetWI := by
  refine sound_pq mixed GLw_ok Try.func93 rfl 16 rfl [.tmp 2] rfl (by kernel_rfl) fun ps r hr => ?_
  obtain ⟨c, rfl, hq⟩ := F1_some hr
  clear hr
  split at hq
  case isFalse => cases hq
  case isTrue hpre =>
  cases hq
  refine ⟨by simp, ?_⟩
  simp only [dIs, dUs, dSs, dI_e, dU_e, dB_e, dS_e, dFn_e, dL_e, dA2_e, dA3_e, dA4_e, dA5_e]
  have ap1 := φSmall_ap c
  have ap2 := (φAm_ap ⟨#[105, 106, 108]⟩ hpre).trans (by rw [am3 c 105 106 108 _ _ _ rfl rfl rfl])
  have ap3 := (φAm_ap ⟨#[102, 114, 116]⟩ hpre).trans (by rw [am3 c 102 114 116 _ _ _ rfl rfl rfl])
  have ap4 := (φAm_ap ⟨#[109, 119]⟩ hpre).trans (by rw [am2 c 109 119 _ _ rfl rfl])
  have glw_c107 := GLw_107; have glw_c111 := GLw_111
  (repeat' (first | (with_reducible first | apply i_seq | apply i_block | apply i_skip | apply i_exit | apply i_ret | apply i_kS | apply i_kSx | apply i_kSr | apply i_kL | apply i_kLx | apply i_kLr | apply i_kB | apply i_kBr | apply i_kBs | apply i_nil) | ((with_reducible apply i_region); (simp only [List.map_cons, List.map_nil] <;> exact rfl)) | ((with_reducible apply i_draw); (simp only [List.map_cons, List.map_nil] <;> exact rfl); decide +kernel) | ((with_reducible apply i_kBo); rfl) | ((first | ((with_reducible apply i_V); rfl; rfl; rfl) | ((first | ((with_reducible apply i_E); rfl) | ((with_reducible apply i_S); rfl)); first | rfl | (simp only [push_cast, ↓reduceIte])) | ((with_reducible apply i_Vq); rfl; rfl) | ((with_reducible apply i_Vp); rfl; rfl; rfl) | (with_reducible first | apply i_Gb | apply i_cond)); (simp (disch := (first | omega | (simp only [push_cast]; first | done | omega))) only [push_cast, ↓reduceIte, Nat.reduceEqDiff, Nat.reduceBEq, Nat.reduceAdd, Nat.reduceSub, Int.reduceToNat, *] <;> with_reducible exact rfl); all_goals try (first | (with_reducible first | refine hyT ?_ | refine hyF ?_ | exact hyA | exact hyB) | (intro hX; first | (cases hX; done) | ((try simp only [decide_eq_true_eq, decide_eq_false_iff_not, Bool.not_eq_true', Bool.not_eq_false'] at hX); (try have hXb := inB_iff.1 hX))))))); all_goals try (exfalso; omega)
  all_goals ((first | apply i_end | apply i_endN); simp (disch := (first | omega | (simp only [push_cast]; first | done | omega))) only [push_cast, ↓reduceIte, Nat.reduceEqDiff, Nat.reduceBEq, Nat.reduceAdd, Nat.reduceSub, Int.reduceToNat, *])
  all_goals ((refine congrArg (fun z => some (PV.val (Value.int IntKind.i64 z))) ?_); unfold letW; repeat' split)
  all_goals (first | omega | (simp [inB] at *; omega))
noncomputable def GNb : Ctx := { fn := fun f => if f = 111 then some φAm else none, io := fun f => none }
theorem GNb_ok : SoundΓ Try.prog GNb := ⟨(fun f φ h => by
  unfold GNb at h
  dsimp only at h
  split at h
  · rename_i hf; cases h; subst hf; exact ⟨⟨_, Try.func111, rfl, rfl⟩, among_ok⟩
  cases h), (fun f φ h => by
  unfold GNb at h
  dsimp only at h
  cases h), rfl⟩
theorem GNb_111 (ob : Objs) (ps : List PV) : evCall GNb ob 111 ps = (ps.mapM (reify false 0 ob fuel)).bind φAm := by
  have h : GNb.fn 111 = some φAm := by simp [GNb]
  unfold evCall
  rw [h]
  cases ps.mapM (reify false 0 ob fuel) <;> rfl
theorem implNear_ok : Sound Try.prog 94 φNearI := by
  refine sound_pq mixed GNb_ok Try.func94 rfl 19 rfl [.tmp 4] rfl (by kernel_rfl) fun ps r hr => ?_
  obtain ⟨a, b, rfl, hq⟩ := F2_some hr
  clear hr
  split at hq
  case isFalse => cases hq
  case isTrue hpre =>
  cases hq
  refine ⟨by simp, ?_⟩
  simp only [dIs, dUs, dSs, dI_e, dU_e, dB_e, dS_e, dFn_e, dL_e, dA2_e, dA3_e, dA4_e, dA5_e]
  have ap1 := (φAm_ap ⟨#[118, 119, 121]⟩ hpre.1).trans (by rw [am3 a 118 119 121 _ _ _ rfl rfl rfl])
  have ap2 := (φAm_ap ⟨#[97, 101, 111]⟩ hpre.2).trans (by rw [am3 b 97 101 111 _ _ _ rfl rfl rfl])
  have ap3 := (φAm_ap ⟨#[110, 109]⟩ hpre.2).trans (by rw [am2 b 110 109 _ _ rfl rfl])
  have gnb_c111 := GNb_111
  (repeat' (first | (with_reducible first | apply i_seq | apply i_block | apply i_skip | apply i_exit | apply i_ret | apply i_kS | apply i_kSx | apply i_kSr | apply i_kL | apply i_kLx | apply i_kLr | apply i_kB | apply i_kBr | apply i_kBs | apply i_nil) | ((with_reducible apply i_region); (simp only [List.map_cons, List.map_nil] <;> exact rfl)) | ((with_reducible apply i_draw); (simp only [List.map_cons, List.map_nil] <;> exact rfl); decide +kernel) | ((with_reducible apply i_kBo); rfl) | ((first | ((with_reducible apply i_V); rfl; rfl; rfl) | ((first | ((with_reducible apply i_E); rfl) | ((with_reducible apply i_S); rfl)); first | rfl | (simp only [push_cast, ↓reduceIte])) | ((with_reducible apply i_Vq); rfl; rfl) | ((with_reducible apply i_Vp); rfl; rfl; rfl) | (with_reducible first | apply i_Gb | apply i_cond)); (simp (disch := (first | omega | (simp only [push_cast]; first | done | omega))) only [push_cast, ↓reduceIte, Nat.reduceEqDiff, Nat.reduceBEq, Nat.reduceAdd, Nat.reduceSub, Int.reduceToNat, *] <;> with_reducible exact rfl); all_goals try (first | (with_reducible first | refine hyT ?_ | refine hyF ?_ | exact hyA | exact hyB) | (intro hX; first | (cases hX; done) | ((try simp only [decide_eq_true_eq, decide_eq_false_iff_not, Bool.not_eq_true', Bool.not_eq_false'] at hX); (try have hXb := inB_iff.1 hX))))))); all_goals try (exfalso; omega)
  all_goals ((first | apply i_end | apply i_endN); simp (disch := (first | omega | (simp only [push_cast]; first | done | omega))) only [push_cast, ↓reduceIte, Nat.reduceEqDiff, Nat.reduceBEq, Nat.reduceAdd, Nat.reduceSub, Int.reduceToNat, *])
  all_goals ((refine congrArg (fun z => some (PV.val (Value.int IntKind.i64 z))) ?_); unfold nearI; repeat' split)
  all_goals omega
theorem implJoinQ_ok : Sound Try.prog 110 φJoinI := by
  refine sound_pq mixed GNb_ok Try.func110 rfl 11 rfl [.tmp 4] rfl (by kernel_rfl) fun ps r hr => ?_
  obtain ⟨a, b, rfl, hq⟩ := F2_some hr
  clear hr
  split at hq
  case isFalse => cases hq
  case isTrue hpre =>
  cases hq
  refine ⟨by simp, ?_⟩
  simp only [dIs, dUs, dSs, dI_e, dU_e, dB_e, dS_e, dFn_e, dL_e, dA2_e, dA3_e, dA4_e, dA5_e]
  have ap1 := (φAm_ap ⟨#[105, 106, 108, 102]⟩ hpre.2).trans (by rw [am4 b 105 106 108 102 _ _ _ _ rfl rfl rfl rfl])
  have gnb_c111 := GNb_111
  (repeat' (first | (with_reducible first | apply i_seq | apply i_block | apply i_skip | apply i_exit | apply i_ret | apply i_kS | apply i_kSx | apply i_kSr | apply i_kL | apply i_kLx | apply i_kLr | apply i_kB | apply i_kBr | apply i_kBs | apply i_nil) | ((with_reducible apply i_region); (simp only [List.map_cons, List.map_nil] <;> exact rfl)) | ((with_reducible apply i_draw); (simp only [List.map_cons, List.map_nil] <;> exact rfl); decide +kernel) | ((with_reducible apply i_kBo); rfl) | ((first | ((with_reducible apply i_V); rfl; rfl; rfl) | ((first | ((with_reducible apply i_E); rfl) | ((with_reducible apply i_S); rfl)); first | rfl | (simp only [push_cast, ↓reduceIte])) | ((with_reducible apply i_Vq); rfl; rfl) | ((with_reducible apply i_Vp); rfl; rfl; rfl) | (with_reducible first | apply i_Gb | apply i_cond)); (simp (disch := (first | omega | (simp only [push_cast]; first | done | omega))) only [push_cast, ↓reduceIte, Nat.reduceEqDiff, Nat.reduceBEq, Nat.reduceAdd, Nat.reduceSub, Int.reduceToNat, *] <;> with_reducible exact rfl); all_goals try (first | (with_reducible first | refine hyT ?_ | refine hyF ?_ | exact hyA | exact hyB) | (intro hX; first | (cases hX; done) | ((try simp only [decide_eq_true_eq, decide_eq_false_iff_not, Bool.not_eq_true', Bool.not_eq_false'] at hX); (try have hXb := inB_iff.1 hX))))))); all_goals try (exfalso; omega)
  all_goals ((first | apply i_end | apply i_endN); simp (disch := (first | omega | (simp only [push_cast]; first | done | omega))) only [push_cast, ↓reduceIte, Nat.reduceEqDiff, Nat.reduceBEq, Nat.reduceAdd, Nat.reduceSub, Int.reduceToNat, *])
  all_goals ((refine congrArg (fun z => some (PV.val (Value.bool z))) ?_); unfold joinQ; first | (simp; omega) | simp_all)
end Go.Proofs.Ytngcedklbinhjaa
namespace Go.Proofs.Ytngcedklbinhjaa
open Go.RowKit
set_option linter.all false
abbrev sgN (s : ByteArray) (i : Nat) : Nat := if i + 1 < s.size ∧ joinQ (at8 s i) (at8 s (i + 1)) = true then 2 else 1
def sgF (s : ByteArray) : Nat → Nat → LS
  | 0, _ => []
  | f + 1, i => if i < s.size then s.extract i (i + sgN s i) :: sgF s f (i + sgN s i) else []
def signs (s : ByteArray) : LS := sgF s s.size 0
theorem sgF_step {s : ByteArray} {f i : Nat} (h : i < s.size) : sgF s (f + 1) i = s.extract i (i + sgN s i) :: sgF s f (i + sgN s i) := by
  rw [sgF, if_pos h]
theorem sgF_end {s : ByteArray} {f i : Nat} (h : s.size ≤ i) : sgF s f i = [] := by
  cases f with
  | zero => rfl
  | succ f => rw [sgF, if_neg (by omega)]
theorem sgN_rng (s : ByteArray) (i : Nat) : 1 ≤ sgN s i ∧ sgN s i ≤ 2 ∧ (i < s.size → i + sgN s i ≤ s.size) := by
  unfold sgN
  split <;> omega
theorem at8_ext {s : ByteArray} {a b j : Nat} (h : j < b - a) (hb : b ≤ s.size) : at8 (s.extract a b) j = at8 s (a + j) := by
  unfold at8
  have h1 : j < (s.extract a b).size := by rw [ByteArray.size_extract]; omega
  rw [getElem?_pos (s.extract a b) j h1, getElem?_pos s (a + j) (by omega)]
  rw [ByteArray.getElem_extract]
def okSg (x : ByteArray) : Prop := 1 ≤ x.size ∧ x.size ≤ 2 ∧ ∀ j, j < x.size → 97 ≤ at8 x j ∧ at8 x j ≤ 122
theorem sgF_ok {s : ByteArray} (h : ∀ j, j < s.size → 97 ≤ at8 s j ∧ at8 s j ≤ 122) : ∀ (f i : Nat), (∀ x ∈ sgF s f i, okSg x) ∧ (sgF s f i).length ≤ s.size - i
  | 0, i => ⟨by simp [sgF], by simp [sgF]⟩
  | f + 1, i => by
    by_cases hi : i < s.size
    · obtain ⟨h1, h2, h3⟩ := sgN_rng s i
      obtain ⟨i1, i2⟩ := sgF_ok h f (i + sgN s i)
      rw [sgF_step hi]
      refine ⟨fun x hx => ?_, by rw [List.length_cons]; have := h3 hi; omega⟩
      rcases List.mem_cons.1 hx with rfl | hx
      · have hsz : (s.extract i (i + sgN s i)).size = sgN s i := by rw [ByteArray.size_extract]; have := h3 hi; omega
        refine ⟨by omega, by omega, fun j hj => ?_⟩
        have h4 := h3 hi
        rw [at8_ext (by omega) (by omega)]
        exact h _ (by omega)
      · exact i1 x hx
    · rw [sgF_end (by omega)]
      exact ⟨by simp, by simp⟩
theorem wordB_letters {s : ByteArray} (h : wordB s = true) : (∀ j, j < s.size → 97 ≤ at8 s j ∧ at8 s j ≤ 122) ∧ 1 ≤ s.size ∧ s.size ≤ 20 := by
  unfold wordB at h
  rw [Bool.and_eq_true, List.all_eq_true] at h
  refine ⟨fun j hj => inB_iff.1 (h.1 j (List.mem_range.2 hj)), ?_⟩
  have := inB_iff.1 h.2
  omega
theorem signs_ok {s : ByteArray} (h : wordB s = true) : (∀ x ∈ signs s, okSg x) ∧ 1 ≤ (signs s).length ∧ (signs s).length ≤ 20 := by
  obtain ⟨h1, h2, h3⟩ := wordB_letters h
  obtain ⟨i1, i2⟩ := sgF_ok h1 s.size 0
  refine ⟨i1, ?_, by unfold signs; omega⟩
  unfold signs
  obtain ⟨n, hn⟩ : ∃ n, s.size = n + 1 := ⟨s.size - 1, by omega⟩
  rw [hn, sgF_step (by omega), List.length_cons]
  omega
theorem signs_at {s : ByteArray} (h : wordB s = true) {k : Nat} (hk : k < (signs s).length) : okSg ((signs s)[k]?.getD .empty) := by
  rw [List.getElem?_eq_getElem hk, Option.getD_some]
  exact (signs_ok h).1 _ (List.getElem_mem hk)
def sgW (x : ByteArray) : Nat → Int
  | 0 => 0
  | j + 1 => sgW x j + letW (at8 x j)
def nearK (g : LS) (k : Nat) : Int := if k + 1 < g.length then nearI (at8 (g[k]?.getD .empty) ((g[k]?.getD .empty).size - 1)) (at8 (g[k + 1]?.getD .empty) 0) else 0
def wdK (g : LS) : Nat → Int
  | 0 => 0
  | k + 1 => wdK g k + sgW (g[k]?.getD .empty) (g[k]?.getD .empty).size - ((g[k]?.getD .empty).size - 1) - nearK g k
def wordW (s : ByteArray) : Int := if wordB s = true then wdK (signs s) (signs s).length else -1
theorem sgW_rng {x : ByteArray} (h : okSg x) : ∀ j, j ≤ x.size → 3 * (j : Int) ≤ sgW x j ∧ sgW x j ≤ 8 * j
  | 0, _ => ⟨by simp [sgW], by simp [sgW]⟩
  | j + 1, hj => by
    have ih := sgW_rng h j (by omega)
    have h1 := letW_rng (at8 x j)
    have h2 := h.2.2 j (by omega)
    have h3 : 3 ≤ letW (at8 x j) := by
      unfold letW
      rw [if_neg (by omega)]
      repeat' split
      all_goals omega
    unfold sgW
    push_cast
    omega
theorem sgW_full {x : ByteArray} (h : okSg x) : ∀ j, j ≤ x.size → 0 ≤ sgW x j ∧ sgW x j ≤ 16 := fun j hj => by
  have := sgW_rng h j hj
  have := h.2.1
  omega
theorem wdK_rng {g : LS} (h : ∀ k, k < g.length → okSg (g[k]?.getD .empty)) : ∀ k, k ≤ g.length → 0 ≤ wdK g k ∧ wdK g k ≤ 16 * k
  | 0, _ => ⟨by simp [wdK], by simp [wdK]⟩
  | k + 1, hk => by
    have ih := wdK_rng h k (by omega)
    have h1 := h k (by omega)
    have h2 := sgW_rng h1 _ (Nat.le_refl _)
    have h3 := h1.1
    have h4 := h1.2.1
    have h5 : 0 ≤ nearK g k ∧ nearK g k ≤ 1 := by
      unfold nearK
      split
      · exact nearI_rng _ _
      · omega
    unfold wdK
    generalize nearK g k = m at *
    generalize sgW (g[k]?.getD .empty) (g[k]?.getD .empty).size = z at *
    generalize (g[k]?.getD ByteArray.empty).size = y at *
    push_cast
    omega
theorem wordW_rng {s : ByteArray} (h : wordB s = true) : 0 ≤ wordW s ∧ wordW s ≤ 320 := by
  have h1 := wdK_rng (fun k hk => signs_at h hk) _ (Nat.le_refl _)
  have h2 := (signs_ok h).2.2
  unfold wordW
  rw [if_pos h]
  omega
end Go.Proofs.Ytngcedklbinhjaa
namespace Go.Proofs.Ytngcedklbinhjaa
open Go.RowKit
set_option linter.all false
def patK (p : ByteArray) : Nat → ByteArray × List Int × Int
  | 0 => (⟨#[]⟩, [], 0)
  | k + 1 => if digC (at8 p k) = true then ((patK p k).1, (patK p k).2.1, at8 p k - 48) else ((patK p k).1 ++ p.extract k (k + 1), (patK p k).2.1 ++ [(patK p k).2.2], 0)
def lettersP (p : ByteArray) : ByteArray := (patK p p.size).1
def levelsP (p : ByteArray) : List Int := (patK p p.size).2.1 ++ [(patK p p.size).2.2]
theorem patK_dig {p : ByteArray} {k : Nat} (h : digC (at8 p k) = true) : patK p (k + 1) = ((patK p k).1, (patK p k).2.1, at8 p k - 48) := by
  rw [patK, if_pos h]
theorem patK_let {p : ByteArray} {k : Nat} (h : digC (at8 p k) = false) : patK p (k + 1) = ((patK p k).1 ++ p.extract k (k + 1), (patK p k).2.1 ++ [(patK p k).2.2], 0) := by
  rw [patK, if_neg (by rw [h]; decide)]
theorem patK_rng (p : ByteArray) : ∀ k, k ≤ p.size → (patK p k).1.size = (patK p k).2.1.length ∧ (patK p k).1.size ≤ k ∧ (0 ≤ (patK p k).2.2 ∧ (patK p k).2.2 ≤ 9) ∧ ∀ x ∈ (patK p k).2.1, 0 ≤ x ∧ x ≤ 9
  | 0, _ => ⟨rfl, Nat.le_refl _, ⟨Int.le_refl _, by show (0 : Int) ≤ 9; omega⟩, by simp [patK]⟩
  | k + 1, hk => by
    obtain ⟨h1, h2, h3, h4⟩ := patK_rng p k (by omega)
    cases hd : digC (at8 p k) with
    | true =>
      rw [patK_dig hd]
      have := inB_iff.1 hd
      exact ⟨h1, by dsimp only; omega, by dsimp only; omega, h4⟩
    | false =>
      rw [patK_let hd]
      refine ⟨?_, ?_, ⟨Int.le_refl _, by show (0 : Int) ≤ 9; omega⟩, fun x hx => ?_⟩
      · dsimp only
        rw [ByteArray.size_append, ByteArray.size_extract, List.length_append, List.length_singleton]
        omega
      · dsimp only
        rw [ByteArray.size_append, ByteArray.size_extract]
        omega
      · rcases List.mem_append.1 hx with hx | hx
        · exact h4 x hx
        · rw [List.mem_singleton.1 hx]
          exact h3
theorem levelsP_rng (p : ByteArray) : (levelsP p).length = (lettersP p).size + 1 ∧ (lettersP p).size ≤ p.size ∧ ∀ k : Nat, 0 ≤ (levelsP p)[k]?.getD 0 ∧ (levelsP p)[k]?.getD 0 ≤ 9 := by
  obtain ⟨h1, h2, h3, h4⟩ := patK_rng p p.size (Nat.le_refl _)
  refine ⟨by unfold levelsP lettersP; rw [List.length_append, List.length_singleton]; omega, h2, fun k => ?_⟩
  by_cases hk : k < (levelsP p).length
  · rw [List.getElem?_eq_getElem hk, Option.getD_some]
    have hm : (levelsP p)[k] ∈ levelsP p := List.getElem_mem hk
    rcases List.mem_append.1 hm with hm | hm
    · exact h4 _ hm
    · rw [List.mem_singleton.1 hm]; exact h3
  · rw [List.getElem?_eq_none (by omega)]
    decide
def lvSet (sz a j : Nat) (lv o : List Int) : List Int := if 1 ≤ a + j ∧ a + j ≤ sz + 1 then o.set (a + j - 1) (if lv[j]?.getD 0 > o[a + j - 1]?.getD 0 then lv[j]?.getD 0 else o[a + j - 1]?.getD 0) else o
def lvJ (sz a : Nat) (lv o : List Int) : Nat → List Int
  | 0 => o
  | j + 1 => lvSet sz a j lv (lvJ sz a lv o j)
open Classical in
noncomputable def lvA (d : ByteArray) (sz : Nat) (lt : ByteArray) (lv o : List Int) : Nat → List Int
  | 0 => o
  | a + 1 => if d.extract a (a + lt.size) = lt then lvJ sz a lv (lvA d sz lt lv o a) lv.length else lvA d sz lt lv o a
def dotW (w : ByteArray) : ByteArray := (⟨#[46]⟩ ++ w) ++ ⟨#[46]⟩
theorem dotW_size (w : ByteArray) : (dotW w).size = w.size + 2 := by
  unfold dotW
  rw [ByteArray.size_append, ByteArray.size_append, show (⟨#[46]⟩ : ByteArray).size = 1 from rfl]
  omega
noncomputable def lvP (w : ByteArray) (pats : LS) : Nat → List Int
  | 0 => List.replicate (w.size + 1) 0
  | k + 1 => lvA (dotW w) w.size (lettersP (pats[k]?.getD .empty)) (levelsP (pats[k]?.getD .empty)) (lvP w pats k) (w.size + 3 - (lettersP (pats[k]?.getD .empty)).size)
noncomputable def levelsR (w : ByteArray) (pats : LS) : List Int := lvP w pats pats.length
def okLv (sz : Nat) (o : List Int) : Prop := o.length = sz + 1 ∧ ∀ k : Nat, 0 ≤ o[k]?.getD 0 ∧ o[k]?.getD 0 ≤ 9
theorem okLv.set {sz a j : Nat} {lv o : List Int} (h : okLv sz o) (hl : ∀ k : Nat, 0 ≤ lv[k]?.getD 0 ∧ lv[k]?.getD 0 ≤ 9) : okLv sz (lvSet sz a j lv o) := by
  unfold lvSet
  split
  · rename_i hc
    refine ⟨by rw [List.length_set]; exact h.1, fun k => ?_⟩
    have h1 := h.2 (a + j - 1)
    have h2 := hl j
    have h3 := h.2 k
    have h4 := h.1
    by_cases hk : a + j - 1 = k
    · subst hk
      rw [List.getElem?_set_self (by omega), Option.getD_some]
      split <;> omega
    · rw [List.getElem?_set_ne hk]
      exact h3
  · exact h
theorem okLv.lvJ {sz a : Nat} {lv o : List Int} (h : okLv sz o) (hl : ∀ k : Nat, 0 ≤ lv[k]?.getD 0 ∧ lv[k]?.getD 0 ≤ 9) : ∀ j, okLv sz (lvJ sz a lv o j)
  | 0 => h
  | j + 1 => (okLv.lvJ h hl j).set hl
theorem okLv.lvA {d lt : ByteArray} {sz : Nat} {lv o : List Int} (h : okLv sz o) (hl : ∀ k : Nat, 0 ≤ lv[k]?.getD 0 ∧ lv[k]?.getD 0 ≤ 9) : ∀ a, okLv sz (lvA d sz lt lv o a)
  | 0 => h
  | a + 1 => by
    unfold Go.Proofs.Ytngcedklbinhjaa.lvA
    split
    · exact (okLv.lvA h hl a).lvJ hl _
    · exact okLv.lvA h hl a
theorem lvP_ok (w : ByteArray) (pats : LS) : ∀ k, okLv w.size (lvP w pats k)
  | 0 => ⟨by simp [lvP], fun k => by
    unfold lvP
    rw [List.getElem?_replicate]
    split <;> decide⟩
  | k + 1 => (lvP_ok w pats k).lvA (levelsP_rng _).2.2 _
def plB (sz : Nat) (lv : List Int) (k : Nat) : Bool := decide (2 ≤ k ∧ k + 3 ≤ sz ∧ lv[k]?.getD 0 % 2 = 1)
def plK (sz : Nat) (lv : List Int) (k : Nat) : List Int := ((List.range k).filter (plB sz lv)).map fun k : Nat => (k : Int)
theorem plK_yes {sz : Nat} {lv : List Int} {k : Nat} (h : plB sz lv k = true) : plK sz lv (k + 1) = plK sz lv k ++ [(k : Int)] := by
  simp [plK, List.range_succ, List.filter_append, h]
theorem plK_no {sz : Nat} {lv : List Int} {k : Nat} (h : plB sz lv k = false) : plK sz lv (k + 1) = plK sz lv k := by
  simp [plK, List.range_succ, List.filter_append, h]
theorem plK_low {sz : Nat} {lv : List Int} : plK sz lv 2 = [] := by
  rw [plK_no (by simp [plB]), plK_no (by simp [plB])]
  rfl
theorem plK_high {sz : Nat} {lv : List Int} {k : Nat} (h : sz < k + 3) : ∀ n, plK sz lv (k + n) = plK sz lv k
  | 0 => rfl
  | n + 1 => by
    rw [← Nat.add_assoc, plK_no (by simp [plB]; omega), plK_high h n]
theorem plK_low2 {sz : Nat} {lv : List Int} {k : Nat} (h : sz < 5) : plK sz lv k = [] := by
  unfold plK
  rw [List.filter_eq_nil_iff.2 fun x _ => by simp [plB]; omega]
  rfl
noncomputable def placesR (w : ByteArray) (pats : LS) : List Int := plK w.size (levelsR w pats) (w.size + 1)
theorem plK_mem {sz : Nat} {lv : List Int} {k : Nat} : ∀ x ∈ plK sz lv k, 2 ≤ x ∧ x + 3 ≤ sz ∧ x < k := fun x hx => by
  obtain ⟨n, hn, rfl⟩ := List.mem_map.1 hx
  obtain ⟨h1, h2⟩ := List.mem_filter.1 hn
  have h3 := List.mem_range.1 h1
  have h4 := of_decide_eq_true h2
  omega
theorem plK_asc (sz : Nat) (lv : List Int) : ∀ k, (plK sz lv k).Pairwise (· < ·)
  | 0 => List.Pairwise.nil
  | k + 1 => by
    cases h : plB sz lv k with
    | true =>
      rw [plK_yes h, List.pairwise_append]
      refine ⟨plK_asc sz lv k, List.pairwise_singleton _ _, fun a ha b hb => ?_⟩
      rw [List.mem_singleton.1 hb]
      exact (plK_mem a ha).2.2
    | false =>
      rw [plK_no h]
      exact plK_asc sz lv k
theorem plK_len (sz : Nat) (lv : List Int) (k : Nat) : (plK sz lv k).length ≤ k := by
  unfold plK
  rw [List.length_map]
  exact Nat.le_trans (List.length_filter_le _ _) (by simp)
def frK (pl : List Int) (k : Nat) : Int := if k = 0 then 0 else pl[k - 1]?.getD 0
def ptF (w : ByteArray) (pl : List Int) : Nat → LS
  | 0 => []
  | k + 1 => ptF w pl k ++ [w.extract (frK pl k).toNat (pl[k]?.getD 0).toNat]
def ptR (w : ByteArray) (pl : List Int) : LS := ptF w pl pl.length ++ [w.extract (frK pl pl.length).toNat w.size]
noncomputable def partsR (w : ByteArray) (pats : LS) : LS := ptR w (placesR w pats)
theorem ptF_len (w : ByteArray) (pl : List Int) : ∀ k, (ptF w pl k).length = k
  | 0 => rfl
  | k + 1 => by rw [ptF, List.length_append, ptF_len w pl k]; rfl
def okPl (w : ByteArray) (pl : List Int) : Prop := pl.length ≤ 20 ∧ ∀ k, k < pl.length → frK pl k < pl[k]?.getD 0 ∧ pl[k]?.getD 0 < w.size
theorem frK_succ (pl : List Int) (k : Nat) : frK pl (k + 1) = pl[k]?.getD 0 := by
  unfold frK
  rw [if_neg (by omega)]
  rfl
theorem frK_rng {w : ByteArray} {pl : List Int} (h : okPl w pl) (hw : 1 ≤ w.size) : ∀ k, k ≤ pl.length → 0 ≤ frK pl k ∧ frK pl k < w.size
  | 0, _ => by simp [frK]; omega
  | k + 1, hk => by
    have h1 := frK_rng h hw k (by omega)
    have h2 := h.2 k (by omega)
    rw [frK_succ]
    omega
theorem places_ok {w : ByteArray} {pats : LS} (hw : wordB w = true) : okPl w (placesR w pats) := by
  obtain ⟨-, w1, w2⟩ := wordB_letters hw
  have ha := plK_asc w.size (levelsR w pats) (w.size + 1)
  have hm := @plK_mem w.size (levelsR w pats) (w.size + 1)
  refine ⟨?_, fun k hk => ?_⟩
  · unfold placesR plK
    rw [List.length_map]
    have : ((List.range (w.size + 1)).filter (plB w.size (levelsR w pats))).length ≤ ((List.range (w.size + 1)).filter (fun k => decide (k < w.size))).length := by
      rw [← List.countP_eq_length_filter, ← List.countP_eq_length_filter]
      refine List.countP_mono_left fun x _ hx => ?_
      have := of_decide_eq_true hx
      exact decide_eq_true (by omega)
    have h2 : ((List.range (w.size + 1)).filter (fun k => decide (k < w.size))).length ≤ w.size := by
      rw [List.range_succ, List.filter_append]
      have h3 := List.length_filter_le (fun k => decide (k < w.size)) (List.range w.size)
      rw [List.length_range] at h3
      simp
      omega
    omega
  · unfold placesR at hk ⊢
    generalize plK w.size (levelsR w pats) (w.size + 1) = pl at *
    rw [List.getElem?_eq_getElem hk, Option.getD_some]
    have h1 := hm _ (List.getElem_mem hk)
    refine ⟨?_, by omega⟩
    unfold frK
    split
    · omega
    · rename_i h0
      rw [List.getElem?_eq_getElem (show k - 1 < pl.length by omega), Option.getD_some]
      exact List.pairwise_iff_getElem.1 ha (k - 1) k (by omega) hk (by omega)
theorem wordB_ext {w : ByteArray} {a b : Nat} (hw : wordB w = true) (h1 : a < b) (h2 : b ≤ w.size) : wordB (w.extract a b) = true := by
  obtain ⟨l1, l2, l3⟩ := wordB_letters hw
  have hs : (w.extract a b).size = b - a := by rw [ByteArray.size_extract]; omega
  rw [wordB_yes fun j hj => ?_, hs]
  · exact inB_iff.2 ⟨by omega, by omega⟩
  · rw [at8_ext (by omega) h2]
    exact l1 _ (by omega)
theorem ptF_word {w : ByteArray} {pl : List Int} (hw : wordB w = true) (h : okPl w pl) : ∀ k, k ≤ pl.length → ∀ x ∈ ptF w pl k, wordB x = true
  | 0, _ => by simp [ptF]
  | k + 1, hk => fun x hx => by
    rw [ptF] at hx
    rcases List.mem_append.1 hx with hx | hx
    · exact ptF_word hw h k (by omega) x hx
    · rw [List.mem_singleton.1 hx]
      have h1 := h.2 k (by omega)
      have h2 := frK_rng h (wordB_letters hw).2.1 k (by omega)
      exact wordB_ext hw (by omega) (by omega)
theorem ptR_word {w : ByteArray} {pl : List Int} (hw : wordB w = true) (h : okPl w pl) : ∀ x ∈ ptR w pl, wordB x = true := fun x hx => by
  rcases List.mem_append.1 hx with hx | hx
  · exact ptF_word hw h _ (Nat.le_refl _) x hx
  · rw [List.mem_singleton.1 hx]
    have h2 := frK_rng h (wordB_letters hw).2.1 _ (Nat.le_refl _)
    exact wordB_ext hw (by omega) (Nat.le_refl _)
theorem ptR_len (w : ByteArray) (pl : List Int) : (ptR w pl).length = pl.length + 1 := by
  unfold ptR
  rw [List.length_append, ptF_len]
  rfl
end Go.Proofs.Ytngcedklbinhjaa
