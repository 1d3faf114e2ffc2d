/- Books (BookValid) by the engine. -/
import Derived.Test.YtnblbgdencdgjaaPxTy
import Derived.Test.YtnblbgdencdgjaaPlain
import Derived.Test.YtnblbgdencdgjaaPxGrid
import Derived.Test.YtnblbgdencdgjaaPxIndex
namespace Go.Proofs.Ytnblbgdencdgjaa
open Go.RowKit
set_option linter.all false
abbrev LS := List ByteArray
abbrev dSS : Dec (List LS) := dL 1 dSs
section
variable {α β : Type} {n sz sz' f i : Nat} {ob : Objs} {k k' fr : Bool} {l : List LS}
theorem get_ss {g : LS → PV} (h : i < l.length) : ((l[i]?).map g).getD .dead = g ((l[i]?).getD []) := by simp [h]
theorem omg_ss {g : LS → β} (h : i < l.length) : Option.map g l[i]? = some (g ((l[i]?).getD [])) := by simp [h]
theorem mapM_maps {F : PV → Option PV} {g g' : α → PV} (h : ∀ x, F (g x) = some (g' x)) : ∀ {l : List α}, (l.map g).mapM F = some (l.map g')
  | [] => rfl
  | x :: l => by rw [List.map_cons, List.mapM_cons, h x, mapM_maps h]; rfl
theorem reify_strs {m : Nat} {p : LS} : reify false m ob (f + 2) (.lst k sz (p.map fun s => .val (.string s))) = some (.lst false sz (p.map fun s => .val (.string s))) := reifyS_vals
theorem reify_strsT {m : Nat} {p : LS} : reify fr m ob (f + 2) (.lst true sz (p.map fun s => .val (.string s))) = some (.lst fr sz (p.map fun s => .val (.string s))) := by
  cases fr
  · exact reifyS_vals
  · exact reifyT_vals
theorem reifyS_lsts : reify false n ob (f + 3) (.lst k sz (l.map fun p => .lst k' sz' (p.map fun s => .val (.string s)))) = some (.lst false sz (l.map fun p => .lst false sz' (p.map fun s => .val (.string s)))) := by
  show (if false = true ∧ k = false ∧ (l.map fun p => PV.lst k' sz' (p.map fun s => PV.val (.string s))) ≠ [] then none else ((l.map fun p => PV.lst k' sz' (p.map fun s => PV.val (.string s))).mapM (reify false n ob (f + 2))).map (PV.lst false sz)) = _
  rw [mapM_maps (g' := fun p => PV.lst false sz' (p.map fun s => PV.val (.string s))) fun p => reify_strs]
  simp
theorem reifyT_lsts : reify true n ob (f + 3) (.lst true sz (l.map fun p => .lst true sz' (p.map fun s => .val (.string s)))) = some (.lst true sz (l.map fun p => .lst true sz' (p.map fun s => .val (.string s)))) := by
  show (if true = true ∧ true = false ∧ (l.map fun p => PV.lst true sz' (p.map fun s => PV.val (.string s))) ≠ [] then none else ((l.map fun p => PV.lst true sz' (p.map fun s => PV.val (.string s))).mapM (reify true n ob (f + 2))).map (PV.lst true sz)) = _
  rw [mapM_maps (g' := fun p => PV.lst true sz' (p.map fun s => PV.val (.string s))) fun p => reify_strsT]
  simp
theorem rowRe_lsts {m T : Nat} (hm : m = l.length) : rowRe fr (f + 2) ob sz 0 m (some (T, sz, l.map fun p => .lst true sz' (p.map fun s => .val (.string s)))) = some (.lst fr sz (l.map fun p => .lst fr sz' (p.map fun s => .val (.string s)))) := by
  subst hm
  have e : ((l.map fun p => PV.lst true sz' (p.map fun s => PV.val (.string s))).drop 0).take l.length = l.map fun p => PV.lst true sz' (p.map fun s => PV.val (.string s)) := by
    rw [List.drop_zero, List.take_of_length_le (by simp)]
  have e2 := mapM_maps (l := l) (F := reify fr 0 ob (f + 2)) (g := fun p => PV.lst true sz' (p.map fun s => PV.val (.string s))) (g' := fun p => PV.lst fr sz' (p.map fun s => PV.val (.string s))) fun p => reify_strsT
  simp only [rowRe, e, e2, Nat.zero_add, List.length_map, Nat.le_refl, and_self, if_true, Option.map_some]
theorem fillZ_get {xs : List α} {z : α} {j : Nat} (h : j < xs.length) : (fillZ xs z j)[j]? = some z := by
  unfold fillZ
  have hl : (xs.take j).length = j := by simp; omega
  rw [List.getElem?_append_right (by omega), hl, Nat.sub_self, List.getElem?_replicate, if_pos (by omega)]
end
attribute [push_cast]
  get_ss omg_ss reifyS_lsts reifyT_lsts rowRe_lsts fillZ_get
theorem eq_of_getDK {α : Type} {d : α} {xs ys : List α} (hl : xs.length = ys.length) (h : ∀ j, j < xs.length → xs[j]?.getD d = ys[j]?.getD d) : xs = ys := by
  apply List.ext_getElem hl
  intro i h1 h2
  have := h i h1
  simpa [h1, h2] using this
/-- All of the strings are short. -/
abbrev okSs (l : LS) : Prop := l.length ≤ 1048576 ∧ ∀ i : Nat, (l[i]?.getD .empty).size ≤ 1048576
noncomputable instance (l : LS) : Decidable (okSs l) := Classical.propDecidable _
theorem all_noK {α : Type} {d : α} {p : α → Bool} {l : List α} {k : Nat} (h : k < l.length) (hb : p (l[k]?.getD d) = false) : l.all p = false := by
  rw [List.all_eq_false]
  exact ⟨l[k], List.getElem_mem h, by simp [h] at hb; simp [hb]⟩
theorem all_yesK {α : Type} {d : α} {p : α → Bool} {l : List α} (h : ∀ j, j < l.length → p (l[j]?.getD d) = true) : l.all p = true := by
  rw [List.all_eq_true]
  intro x hx
  obtain ⟨j, hj, rfl⟩ := List.getElem_of_mem hx
  simpa [hj] using h j hj
def smallC (c : Int) : Bool := inB c 97 122
def digC (c : Int) : Bool := inB c 48 57
def prevD (s : ByteArray) (k : Nat) : Bool := decide (0 < k) && digC (at8 s (k - 1))
def patAt (s : ByteArray) (k : Nat) : Bool := smallC (at8 s k) || (digC (at8 s k) && !prevD s k) || (decide (at8 s k = 46) && (decide (k = 0) || decide (k + 1 = s.size)))
def anyS (s : ByteArray) (k : Nat) : Bool := (List.range k).any fun j => smallC (at8 s j)
theorem anyS_succ (s : ByteArray) (k : Nat) : anyS s (k + 1) = (anyS s k || smallC (at8 s k)) := by
  simp [anyS, List.range_succ, List.any_append]
/-- What PatternValid answers. -/
def patB (s : ByteArray) : Bool := (List.range s.size).all (patAt s) && (anyS s s.size && decide (s.size ≤ 12))
theorem patB_no {s : ByteArray} {k : Nat} (h : k < s.size) (hb : patAt s k = false) : patB s = false := by
  have : (List.range s.size).all (patAt s) = false := by
    rw [List.all_eq_false]
    exact ⟨k, List.mem_range.2 h, by simp [hb]⟩
  simp [patB, this]
theorem patB_yes {s : ByteArray} (h : ∀ j, j < s.size → patAt s j = true) : patB s = (anyS s s.size && decide (s.size ≤ 12)) := by
  have : (List.range s.size).all (patAt s) = true := by
    rw [List.all_eq_true]
    exact fun k hk => h k (List.mem_range.1 hk)
  simp [patB, this]
def φPat : Fun := F1 dS fun s => if s.size ≤ 1099511627776 then some (bv (patB s)) else none
theorem φPat_ap {s : ByteArray} (h : s.size ≤ 1099511627776) : φPat [.val (.string s)] = some (.val (.bool (patB s))) :=
  (F1_ap (A := dS) s).trans (if_pos h)
theorem patAt_iff {s : ByteArray} {k : Nat} : patAt s k = true ↔ (97 ≤ at8 s k ∧ at8 s k ≤ 122) ∨ (48 ≤ at8 s k ∧ at8 s k ≤ 57 ∧ prevD s k = false) ∨ (at8 s k = 46 ∧ (k = 0 ∨ k + 1 = s.size)) := by
  simp [patAt, smallC, digC, inB, or_assoc, and_assoc]
theorem small_no {c : Int} (h : c < 97 ∨ 122 < c) : smallC c = false := Bool.eq_false_iff.2 fun h2 => by have := inB_iff.1 h2; omega
theorem dig_no {c : Int} (h : c < 48 ∨ 57 < c) : digC c = false := Bool.eq_false_iff.2 fun h2 => by have := inB_iff.1 h2; omega
structure PatI (s : ByteArray) (k : Nat) (n : Int) : Prop where
  kk : k ≤ s.size
  n0 : 0 ≤ n
  n1 : n ≤ k
  all : ∀ j, j < k → patAt s j = true
  any : decide (0 < n) = anyS s k
theorem PatI.zero (s : ByteArray) : PatI s 0 0 := ⟨Nat.zero_le _, by omega, by omega, fun j hj => by omega, rfl⟩
theorem PatI.letter {s : ByteArray} {k : Nat} {n : Int} (h : PatI s k n) (hk : k < s.size) (hs : smallC (at8 s k) = true) : PatI s (k + 1) (n + 1) :=
  ⟨by omega, by have := h.n0; omega, by have := h.n1; omega, fun j hj => by
    by_cases h1 : j < k
    · exact h.all j h1
    · have : j = k := by omega
      subst this
      simp [patAt, hs], by
    rw [anyS_succ, hs, Bool.or_true]
    have := h.n0
    simp; omega⟩
theorem PatI.other {s : ByteArray} {k : Nat} {n : Int} (h : PatI s k n) (hk : k < s.size) (hp : patAt s k = true) (hs : smallC (at8 s k) = false) : PatI s (k + 1) n :=
  ⟨by omega, h.n0, by have := h.n1; omega, fun j hj => by
    by_cases h1 : j < k
    · exact h.all j h1
    · have : j = k := by omega
      subst this
      exact hp, by rw [anyS_succ, hs, Bool.or_false]; exact h.any⟩
theorem PatI.done {s : ByteArray} {k : Nat} {n : Int} (h : PatI s k n) (hk : ¬ k < s.size) : patB s = (decide (0 < n) && decide (s.size ≤ 12)) := by
  have hk2 := h.kk
  have : k = s.size := by omega
  subst this
  rw [patB_yes h.all, h.any]
theorem prevD_succ (s : ByteArray) (k : Nat) : prevD s (k + 1) = digC (at8 s k) := by simp [prevD]
set_option maxHeartbeats 8000000 in
theorem specPatternValid_ok : Sound Try.prog 65 φPat := by
  refine sound_pq mixed GE_ok Try.func65 rfl 57 rfl [.tmp 2] rfl (by kernel_rfl) fun ps r hr => ?_
  obtain ⟨s, rfl, hq⟩ := F1_some hr
  clear hr
  split at hq
  case isFalse => cases hq
  case isTrue hlen =>
  cases hq
  refine ⟨by simp, ?_⟩
  simp only [dIs, dUs, dSs, dI_e, dU_e, dB_e, dS_e, dFn_e, dL_e, dA2_e, dA3_e, dA4_e, dA5_e]
  repeat' (first | with_reducible apply i_seq | with_reducible apply i_block | ((with_reducible apply i_region); (focus (simp only [List.map_cons, List.map_nil] <;> exact rfl))) | with_reducible apply i_skip | with_reducible apply i_exit | with_reducible apply i_ret | with_reducible apply i_kS | with_reducible apply i_kSx | with_reducible apply i_kSr | with_reducible apply i_kL | with_reducible apply i_kLx | with_reducible apply i_kLr | with_reducible apply i_kB | with_reducible apply i_kBr | with_reducible apply i_kBs | ((with_reducible apply i_kBo); (focus rfl)) | with_reducible apply i_nil | ((with_reducible apply i_V); (focus rfl); (focus (simp (disch := ((try simp only [List.length_map, Int.toNat_natCast, List.length_append, List.length_take, List.length_drop, List.length_replicate, List.length_set, List.length_cons, List.length_nil, fillL_length]); omega)) only [push_cast, ↓reduceIte, Nat.reduceEqDiff, Nat.reduceBEq, Nat.reduceAdd, *] <;> exact rfl))) | ((with_reducible apply i_E); (focus rfl); (focus (simp (disch := ((try simp only [List.length_map, Int.toNat_natCast, List.length_append, List.length_take, List.length_drop, List.length_replicate, List.length_set, List.length_cons, List.length_nil, fillL_length]); omega)) only [push_cast, ↓reduceIte, Nat.reduceEqDiff, Nat.reduceBEq, Nat.reduceAdd, *] <;> exact rfl))) | ((with_reducible apply i_S); (focus rfl); (focus (simp (disch := ((try simp only [List.length_map, Int.toNat_natCast, List.length_append, List.length_take, List.length_drop, List.length_replicate, List.length_set, List.length_cons, List.length_nil, fillL_length]); omega)) only [push_cast, ↓reduceIte, Nat.reduceEqDiff, Nat.reduceBEq, Nat.reduceAdd, *] <;> exact rfl))) | ((with_reducible apply i_Gt); (focus (simp (disch := ((try simp only [List.length_map, Int.toNat_natCast, List.length_append, List.length_take, List.length_drop, List.length_replicate, List.length_set, List.length_cons, List.length_nil, fillL_length]); omega)) only [push_cast, ↓reduceIte, Nat.reduceEqDiff, Nat.reduceBEq, Nat.reduceAdd, *] <;> exact rfl))) | ((with_reducible apply i_Gf); (focus (simp (disch := ((try simp only [List.length_map, Int.toNat_natCast, List.length_append, List.length_take, List.length_drop, List.length_replicate, List.length_set, List.length_cons, List.length_nil, fillL_length]); omega)) only [push_cast, ↓reduceIte, Nat.reduceEqDiff, Nat.reduceBEq, Nat.reduceAdd, *] <;> exact rfl))) | ((with_reducible apply i_condT); (focus (simp (disch := ((try simp only [List.length_map, Int.toNat_natCast, List.length_append, List.length_take, List.length_drop, List.length_replicate, List.length_set, List.length_cons, List.length_nil, fillL_length]); omega)) only [push_cast, ↓reduceIte, Nat.reduceEqDiff, Nat.reduceBEq, Nat.reduceAdd, *] <;> exact rfl))) | ((with_reducible apply i_condF); (focus (simp (disch := ((try simp only [List.length_map, Int.toNat_natCast, List.length_append, List.length_take, List.length_drop, List.length_replicate, List.length_set, List.length_cons, List.length_nil, fillL_length]); omega)) only [push_cast, ↓reduceIte, Nat.reduceEqDiff, Nat.reduceBEq, Nat.reduceAdd, *] <;> exact rfl))) | ((with_reducible apply i_Gb); (focus (simp (disch := ((try simp only [List.length_map, Int.toNat_natCast, List.length_append, List.length_take, List.length_drop, List.length_replicate, List.length_set, List.length_cons, List.length_nil, fillL_length]); omega)) only [push_cast, ↓reduceIte, Nat.reduceEqDiff, Nat.reduceBEq, Nat.reduceAdd, *] <;> exact rfl)); all_goals (intro hX; (try simp only [decide_eq_true_eq, decide_eq_false_iff_not, Bool.not_eq_true', Bool.not_eq_false'] at hX); (try have hXb := inB_iff.1 hX))) | ((with_reducible apply i_cond); (focus (simp (disch := ((try simp only [List.length_map, Int.toNat_natCast, List.length_append, List.length_take, List.length_drop, List.length_replicate, List.length_set, List.length_cons, List.length_nil, fillL_length]); omega)) only [push_cast, ↓reduceIte, Nat.reduceEqDiff, Nat.reduceBEq, Nat.reduceAdd, *] <;> exact rfl)); all_goals (intro hX; (try simp only [decide_eq_true_eq, decide_eq_false_iff_not, Bool.not_eq_true', Bool.not_eq_false'] at hX); (try have hXb := inB_iff.1 hX))))
  refine i_loop (α := Nat × Int) mixed (fun k => [(0, sv s), (3, iv k.2), (4, bv (prevD s k.1)), (5, iv k.1)]) (fun _ => []) (fun _ => 0)
    (fun k => PatI s k.1 k.2) (fun k => s.size - k.1) (by kernel_rfl) (0, 0) (PatI.zero s) ?_ trivial rfl ?_
  · simp only [push_cast, ↓reduceIte, Nat.reduceEqDiff, Nat.reduceBEq, Nat.reduceAdd]
    rfl
  · rintro ⟨k, n⟩ hi
    dsimp only at hi
    have hk := hi.kk
    have hn0 := hi.n0
    have hn1 := hi.n1
    have hrk := at8_rng s k
    generalize hd : prevD s k = d
    repeat' (first | with_reducible apply i_seq | with_reducible apply i_block | ((with_reducible apply i_region); (focus (simp only [List.map_cons, List.map_nil] <;> exact rfl))) | with_reducible apply i_skip | with_reducible apply i_exit | with_reducible apply i_ret | with_reducible apply i_kS | with_reducible apply i_kSx | with_reducible apply i_kSr | with_reducible apply i_kL | with_reducible apply i_kLx | with_reducible apply i_kLr | with_reducible apply i_kB | with_reducible apply i_kBr | with_reducible apply i_kBs | ((with_reducible apply i_kBo); (focus rfl)) | with_reducible apply i_nil | ((with_reducible apply i_V); (focus rfl); (focus (simp (disch := ((try simp only [List.length_map, Int.toNat_natCast, List.length_append, List.length_take, List.length_drop, List.length_replicate, List.length_set, List.length_cons, List.length_nil, fillL_length]); omega)) only [push_cast, ↓reduceIte, Nat.reduceEqDiff, Nat.reduceBEq, Nat.reduceAdd, *] <;> exact rfl))) | ((with_reducible apply i_E); (focus rfl); (focus (simp (disch := ((try simp only [List.length_map, Int.toNat_natCast, List.length_append, List.length_take, List.length_drop, List.length_replicate, List.length_set, List.length_cons, List.length_nil, fillL_length]); omega)) only [push_cast, ↓reduceIte, Nat.reduceEqDiff, Nat.reduceBEq, Nat.reduceAdd, *] <;> exact rfl))) | ((with_reducible apply i_S); (focus rfl); (focus (simp (disch := ((try simp only [List.length_map, Int.toNat_natCast, List.length_append, List.length_take, List.length_drop, List.length_replicate, List.length_set, List.length_cons, List.length_nil, fillL_length]); omega)) only [push_cast, ↓reduceIte, Nat.reduceEqDiff, Nat.reduceBEq, Nat.reduceAdd, *] <;> exact rfl))) | ((with_reducible apply i_Gt); (focus (simp (disch := ((try simp only [List.length_map, Int.toNat_natCast, List.length_append, List.length_take, List.length_drop, List.length_replicate, List.length_set, List.length_cons, List.length_nil, fillL_length]); omega)) only [push_cast, ↓reduceIte, Nat.reduceEqDiff, Nat.reduceBEq, Nat.reduceAdd, *] <;> exact rfl))) | ((with_reducible apply i_Gf); (focus (simp (disch := ((try simp only [List.length_map, Int.toNat_natCast, List.length_append, List.length_take, List.length_drop, List.length_replicate, List.length_set, List.length_cons, List.length_nil, fillL_length]); omega)) only [push_cast, ↓reduceIte, Nat.reduceEqDiff, Nat.reduceBEq, Nat.reduceAdd, *] <;> exact rfl))) | ((with_reducible apply i_condT); (focus (simp (disch := ((try simp only [List.length_map, Int.toNat_natCast, List.length_append, List.length_take, List.length_drop, List.length_replicate, List.length_set, List.length_cons, List.length_nil, fillL_length]); omega)) only [push_cast, ↓reduceIte, Nat.reduceEqDiff, Nat.reduceBEq, Nat.reduceAdd, *] <;> exact rfl))) | ((with_reducible apply i_condF); (focus (simp (disch := ((try simp only [List.length_map, Int.toNat_natCast, List.length_append, List.length_take, List.length_drop, List.length_replicate, List.length_set, List.length_cons, List.length_nil, fillL_length]); omega)) only [push_cast, ↓reduceIte, Nat.reduceEqDiff, Nat.reduceBEq, Nat.reduceAdd, *] <;> exact rfl))) | ((with_reducible apply i_Gb); (focus (simp (disch := ((try simp only [List.length_map, Int.toNat_natCast, List.length_append, List.length_take, List.length_drop, List.length_replicate, List.length_set, List.length_cons, List.length_nil, fillL_length]); omega)) only [push_cast, ↓reduceIte, Nat.reduceEqDiff, Nat.reduceBEq, Nat.reduceAdd, *] <;> exact rfl)); all_goals (intro hX; (try simp only [decide_eq_true_eq, decide_eq_false_iff_not, Bool.not_eq_true', Bool.not_eq_false'] at hX); (try have hXb := inB_iff.1 hX))) | ((with_reducible apply i_cond); (focus (simp (disch := ((try simp only [List.length_map, Int.toNat_natCast, List.length_append, List.length_take, List.length_drop, List.length_replicate, List.length_set, List.length_cons, List.length_nil, fillL_length]); omega)) only [push_cast, ↓reduceIte, Nat.reduceEqDiff, Nat.reduceBEq, Nat.reduceAdd, *] <;> exact rfl)); all_goals (intro hX; (try simp only [decide_eq_true_eq, decide_eq_false_iff_not, Bool.not_eq_true', Bool.not_eq_false'] at hX); (try have hXb := inB_iff.1 hX))))
    all_goals try ((first | apply i_end | apply i_endN); simp (disch := ((try simp only [List.length_map, Int.toNat_natCast, List.length_append, List.length_take, List.length_drop, List.length_replicate, List.length_set, List.length_cons, List.length_nil, fillL_length]); omega)) only [push_cast, ↓reduceIte, Nat.reduceEqDiff, Nat.reduceBEq, Nat.reduceAdd, *])
    all_goals try (exfalso; omega)
    all_goals (first
      | (rw [patB_no (k := k) (by omega) (Bool.eq_false_iff.2 fun h => by rcases patAt_iff.1 h with h | h | h <;> (first | omega | (simp_all; done) | (simp_all; omega)))]; done)
      | exact ⟨(k + 1, n + 1), hi.letter (by omega) (inB_iff.2 ⟨by omega, by omega⟩), by dsimp only; omega, by (have hdg := @dig_no (at8 s k) (by omega); simp only [push_cast, ↓reduceIte, Nat.reduceEqDiff, Nat.reduceBEq, Nat.reduceAdd, prevD_succ, hdg]), trivial, rfl⟩
      | exact ⟨(k + 1, n), hi.other (by omega) (patAt_iff.2 (.inr (.inr ⟨by omega, by omega⟩))) (small_no (by omega)), by dsimp only; omega, by (have hdg := @dig_no (at8 s k) (by omega); simp only [push_cast, ↓reduceIte, Nat.reduceEqDiff, Nat.reduceBEq, Nat.reduceAdd, prevD_succ, hdg]; try exact congrArg (fun z => PV.val (Value.int .i64 z)) (by omega)), trivial, rfl⟩
      | exact ⟨(k + 1, n), hi.other (by omega) (patAt_iff.2 (.inr (.inl ⟨by omega, by omega, by simp_all⟩))) (small_no (by omega)), by dsimp only; omega, by (have hdg : digC (at8 s k) = true := inB_iff.2 ⟨by omega, by omega⟩; simp only [push_cast, ↓reduceIte, Nat.reduceEqDiff, Nat.reduceBEq, Nat.reduceAdd, prevD_succ, hdg]), trivial, rfl⟩
      | (rw [hi.done (by omega)]; simp_all; done)
      | (rw [hi.done (by omega)]; simp_all; omega))
def φDig : Fun := F1 dU fun n => some (bv (inB n 48 57))
theorem φDig_ap (n : Int) : φDig [.val (.int .u8 n)] = some (.val (.bool (inB n 48 57))) := rfl
theorem isDigit_ok : Sound Try.prog 73 φDig := by
  refine sound_pq mixed GE_ok Try.func73 rfl 9 rfl [.tmp 2] rfl (by kernel_rfl) fun ps r hr => ?_
  obtain ⟨n, rfl, hr⟩ := F1_some hr
  cases hr
  refine ⟨by simp, ?_⟩
  simp only [dIs, dUs, dSs, dI_e, dU_e, dB_e, dS_e, dFn_e, dL_e, dA2_e, dA3_e, dA4_e, dA5_e]
  repeat' (first | with_reducible apply i_seq | with_reducible apply i_block | ((with_reducible apply i_region); (focus (simp only [List.map_cons, List.map_nil] <;> exact rfl))) | with_reducible apply i_skip | with_reducible apply i_exit | with_reducible apply i_ret | with_reducible apply i_kS | with_reducible apply i_kSx | with_reducible apply i_kSr | with_reducible apply i_kL | with_reducible apply i_kLx | with_reducible apply i_kLr | with_reducible apply i_kB | with_reducible apply i_kBr | with_reducible apply i_kBs | ((with_reducible apply i_kBo); (focus rfl)) | with_reducible apply i_nil | ((with_reducible apply i_V); (focus rfl); (focus (simp (disch := ((try simp only [List.length_map, Int.toNat_natCast, List.length_append, List.length_take, List.length_drop, List.length_replicate, List.length_set, List.length_cons, List.length_nil, fillL_length]); omega)) only [push_cast, ↓reduceIte, Nat.reduceEqDiff, Nat.reduceBEq, Nat.reduceAdd, *] <;> exact rfl))) | ((with_reducible apply i_E); (focus rfl); (focus (simp (disch := ((try simp only [List.length_map, Int.toNat_natCast, List.length_append, List.length_take, List.length_drop, List.length_replicate, List.length_set, List.length_cons, List.length_nil, fillL_length]); omega)) only [push_cast, ↓reduceIte, Nat.reduceEqDiff, Nat.reduceBEq, Nat.reduceAdd, *] <;> exact rfl))) | ((with_reducible apply i_S); (focus rfl); (focus (simp (disch := ((try simp only [List.length_map, Int.toNat_natCast, List.length_append, List.length_take, List.length_drop, List.length_replicate, List.length_set, List.length_cons, List.length_nil, fillL_length]); omega)) only [push_cast, ↓reduceIte, Nat.reduceEqDiff, Nat.reduceBEq, Nat.reduceAdd, *] <;> exact rfl))) | ((with_reducible apply i_Gt); (focus (simp (disch := ((try simp only [List.length_map, Int.toNat_natCast, List.length_append, List.length_take, List.length_drop, List.length_replicate, List.length_set, List.length_cons, List.length_nil, fillL_length]); omega)) only [push_cast, ↓reduceIte, Nat.reduceEqDiff, Nat.reduceBEq, Nat.reduceAdd, *] <;> exact rfl))) | ((with_reducible apply i_Gf); (focus (simp (disch := ((try simp only [List.length_map, Int.toNat_natCast, List.length_append, List.length_take, List.length_drop, List.length_replicate, List.length_set, List.length_cons, List.length_nil, fillL_length]); omega)) only [push_cast, ↓reduceIte, Nat.reduceEqDiff, Nat.reduceBEq, Nat.reduceAdd, *] <;> exact rfl))) | ((with_reducible apply i_condT); (focus (simp (disch := ((try simp only [List.length_map, Int.toNat_natCast, List.length_append, List.length_take, List.length_drop, List.length_replicate, List.length_set, List.length_cons, List.length_nil, fillL_length]); omega)) only [push_cast, ↓reduceIte, Nat.reduceEqDiff, Nat.reduceBEq, Nat.reduceAdd, *] <;> exact rfl))) | ((with_reducible apply i_condF); (focus (simp (disch := ((try simp only [List.length_map, Int.toNat_natCast, List.length_append, List.length_take, List.length_drop, List.length_replicate, List.length_set, List.length_cons, List.length_nil, fillL_length]); omega)) only [push_cast, ↓reduceIte, Nat.reduceEqDiff, Nat.reduceBEq, Nat.reduceAdd, *] <;> exact rfl))) | ((with_reducible apply i_Gb); (focus (simp (disch := ((try simp only [List.length_map, Int.toNat_natCast, List.length_append, List.length_take, List.length_drop, List.length_replicate, List.length_set, List.length_cons, List.length_nil, fillL_length]); omega)) only [push_cast, ↓reduceIte, Nat.reduceEqDiff, Nat.reduceBEq, Nat.reduceAdd, *] <;> exact rfl)); all_goals (intro hX; (try simp only [decide_eq_true_eq, decide_eq_false_iff_not, Bool.not_eq_true', Bool.not_eq_false'] at hX); (try have hXb := inB_iff.1 hX))) | ((with_reducible apply i_cond); (focus (simp (disch := ((try simp only [List.length_map, Int.toNat_natCast, List.length_append, List.length_take, List.length_drop, List.length_replicate, List.length_set, List.length_cons, List.length_nil, fillL_length]); omega)) only [push_cast, ↓reduceIte, Nat.reduceEqDiff, Nat.reduceBEq, Nat.reduceAdd, *] <;> exact rfl)); all_goals (intro hX; (try simp only [decide_eq_true_eq, decide_eq_false_iff_not, Bool.not_eq_true', Bool.not_eq_false'] at hX); (try have hXb := inB_iff.1 hX))))
  all_goals ((first | apply i_end | apply i_endN); simp (disch := ((try simp only [List.length_map, Int.toNat_natCast, List.length_append, List.length_take, List.length_drop, List.length_replicate, List.length_set, List.length_cons, List.length_nil, fillL_length]); omega)) only [push_cast, ↓reduceIte, Nat.reduceEqDiff, Nat.reduceBEq, Nat.reduceAdd, *])
  all_goals (first | (simp_all [inB]; done) | (simp_all [inB]; omega))
noncomputable def GPt : Nat -> Option Fun := fun f => if f = 72 then some φSmall else if f = 73 then some φDig else none
theorem GPt_ok : SoundΓ Try.prog GPt := fun f φ h => by
  unfold GPt at h
  split at h
  · rename_i hf; cases h; subst hf; exact ⟨⟨_, Try.func72, rfl, rfl⟩, isSmall_ok⟩
  split at h
  · rename_i hf; cases h; subst hf; exact ⟨⟨_, Try.func73, rfl, rfl⟩, isDigit_ok⟩
  cases h
theorem GPt_72 (ob : Objs) (ps : List PV) : evCall GPt ob 72 ps = (ps.mapM (reify false 0 ob fuel)).bind φSmall := by
  have h : GPt 72 = some φSmall := by simp [GPt]
  unfold evCall
  rw [h]
  cases ps.mapM (reify false 0 ob fuel) <;> rfl
theorem GPt_73 (ob : Objs) (ps : List PV) : evCall GPt ob 73 ps = (ps.mapM (reify false 0 ob fuel)).bind φDig := by
  have h : GPt 73 = some φDig := by simp [GPt]
  unfold evCall
  rw [h]
  cases ps.mapM (reify false 0 ob fuel) <;> rfl
set_option maxHeartbeats 8000000 in
theorem implPatternValid_ok : Sound Try.prog 62 φPat := by
  refine sound_pq mixed GPt_ok Try.func62 rfl 51 rfl [.tmp 2] rfl (by kernel_rfl) fun ps r hr => ?_
  obtain ⟨s, rfl, hq⟩ := F1_some hr
  clear hr
  split at hq
  case isFalse => cases hq
  case isTrue hlen =>
  cases hq
  refine ⟨by simp, ?_⟩
  simp only [dIs, dUs, dSs, dI_e, dU_e, dB_e, dS_e, dFn_e, dL_e, dA2_e, dA3_e, dA4_e, dA5_e]
  have gpt_c72 := GPt_72; have gpt_c73 := GPt_73; have ap := φSmall_ap; have ap2 := φDig_ap
  repeat' (first | with_reducible apply i_seq | with_reducible apply i_block | ((with_reducible apply i_region); (focus (simp only [List.map_cons, List.map_nil] <;> exact rfl))) | with_reducible apply i_skip | with_reducible apply i_exit | with_reducible apply i_ret | with_reducible apply i_kS | with_reducible apply i_kSx | with_reducible apply i_kSr | with_reducible apply i_kL | with_reducible apply i_kLx | with_reducible apply i_kLr | with_reducible apply i_kB | with_reducible apply i_kBr | with_reducible apply i_kBs | ((with_reducible apply i_kBo); (focus rfl)) | with_reducible apply i_nil | ((with_reducible apply i_V); (focus rfl); (focus (simp (disch := ((try simp only [List.length_map, Int.toNat_natCast, List.length_append, List.length_take, List.length_drop, List.length_replicate, List.length_set, List.length_cons, List.length_nil, fillL_length]); omega)) only [push_cast, ↓reduceIte, Nat.reduceEqDiff, Nat.reduceBEq, Nat.reduceAdd, *] <;> exact rfl))) | ((with_reducible apply i_E); (focus rfl); (focus (simp (disch := ((try simp only [List.length_map, Int.toNat_natCast, List.length_append, List.length_take, List.length_drop, List.length_replicate, List.length_set, List.length_cons, List.length_nil, fillL_length]); omega)) only [push_cast, ↓reduceIte, Nat.reduceEqDiff, Nat.reduceBEq, Nat.reduceAdd, *] <;> exact rfl))) | ((with_reducible apply i_S); (focus rfl); (focus (simp (disch := ((try simp only [List.length_map, Int.toNat_natCast, List.length_append, List.length_take, List.length_drop, List.length_replicate, List.length_set, List.length_cons, List.length_nil, fillL_length]); omega)) only [push_cast, ↓reduceIte, Nat.reduceEqDiff, Nat.reduceBEq, Nat.reduceAdd, *] <;> exact rfl))) | ((with_reducible apply i_Gt); (focus (simp (disch := ((try simp only [List.length_map, Int.toNat_natCast, List.length_append, List.length_take, List.length_drop, List.length_replicate, List.length_set, List.length_cons, List.length_nil, fillL_length]); omega)) only [push_cast, ↓reduceIte, Nat.reduceEqDiff, Nat.reduceBEq, Nat.reduceAdd, *] <;> exact rfl))) | ((with_reducible apply i_Gf); (focus (simp (disch := ((try simp only [List.length_map, Int.toNat_natCast, List.length_append, List.length_take, List.length_drop, List.length_replicate, List.length_set, List.length_cons, List.length_nil, fillL_length]); omega)) only [push_cast, ↓reduceIte, Nat.reduceEqDiff, Nat.reduceBEq, Nat.reduceAdd, *] <;> exact rfl))) | ((with_reducible apply i_condT); (focus (simp (disch := ((try simp only [List.length_map, Int.toNat_natCast, List.length_append, List.length_take, List.length_drop, List.length_replicate, List.length_set, List.length_cons, List.length_nil, fillL_length]); omega)) only [push_cast, ↓reduceIte, Nat.reduceEqDiff, Nat.reduceBEq, Nat.reduceAdd, *] <;> exact rfl))) | ((with_reducible apply i_condF); (focus (simp (disch := ((try simp only [List.length_map, Int.toNat_natCast, List.length_append, List.length_take, List.length_drop, List.length_replicate, List.length_set, List.length_cons, List.length_nil, fillL_length]); omega)) only [push_cast, ↓reduceIte, Nat.reduceEqDiff, Nat.reduceBEq, Nat.reduceAdd, *] <;> exact rfl))) | ((with_reducible apply i_Gb); (focus (simp (disch := ((try simp only [List.length_map, Int.toNat_natCast, List.length_append, List.length_take, List.length_drop, List.length_replicate, List.length_set, List.length_cons, List.length_nil, fillL_length]); omega)) only [push_cast, ↓reduceIte, Nat.reduceEqDiff, Nat.reduceBEq, Nat.reduceAdd, *] <;> exact rfl)); all_goals (intro hX; (try simp only [decide_eq_true_eq, decide_eq_false_iff_not, Bool.not_eq_true', Bool.not_eq_false'] at hX); (try have hXb := inB_iff.1 hX))) | ((with_reducible apply i_cond); (focus (simp (disch := ((try simp only [List.length_map, Int.toNat_natCast, List.length_append, List.length_take, List.length_drop, List.length_replicate, List.length_set, List.length_cons, List.length_nil, fillL_length]); omega)) only [push_cast, ↓reduceIte, Nat.reduceEqDiff, Nat.reduceBEq, Nat.reduceAdd, *] <;> exact rfl)); all_goals (intro hX; (try simp only [decide_eq_true_eq, decide_eq_false_iff_not, Bool.not_eq_true', Bool.not_eq_false'] at hX); (try have hXb := inB_iff.1 hX))))
  refine i_loop (α := Nat × Int) mixed (fun k => [(0, sv s), (3, iv k.2), (7, iv s.size), (8, iv k.1)]) (fun _ => []) (fun _ => 0)
    (fun k => PatI s k.1 k.2) (fun k => s.size - k.1) (by kernel_rfl) (0, 0) (PatI.zero s) ?_ trivial rfl ?_
  · simp only [push_cast, ↓reduceIte, Nat.reduceEqDiff, Nat.reduceBEq, Nat.reduceAdd]
  · rintro ⟨k, n⟩ hi
    dsimp only at hi
    have hk := hi.kk
    have hn0 := hi.n0
    have hn1 := hi.n1
    have hrk := at8_rng s k
    have hpd : prevD s k = (decide (0 < k) && inB (at8 s (k - 1)) 48 57) := rfl
    have hsm : inB (at8 s k) 97 122 = false → (at8 s k < 97 ∨ 122 < at8 s k) := fun h => by
      by_cases hh : 97 ≤ at8 s k ∧ at8 s k ≤ 122
      · rw [inB_iff.2 hh] at h; cases h
      · omega
    have hdgk : inB (at8 s k) 48 57 = false → (at8 s k < 48 ∨ 57 < at8 s k) := fun h => by
      by_cases hh : 48 ≤ at8 s k ∧ at8 s k ≤ 57
      · rw [inB_iff.2 hh] at h; cases h
      · omega
    have hpd := Lib.hid hpd
    have hsm := Lib.hid hsm
    have hdgk := Lib.hid hdgk
    repeat' (first | with_reducible apply i_seq | with_reducible apply i_block | ((with_reducible apply i_region); (focus (simp only [List.map_cons, List.map_nil] <;> exact rfl))) | with_reducible apply i_skip | with_reducible apply i_exit | with_reducible apply i_ret | with_reducible apply i_kS | with_reducible apply i_kSx | with_reducible apply i_kSr | with_reducible apply i_kL | with_reducible apply i_kLx | with_reducible apply i_kLr | with_reducible apply i_kB | with_reducible apply i_kBr | with_reducible apply i_kBs | ((with_reducible apply i_kBo); (focus rfl)) | with_reducible apply i_nil | ((with_reducible apply i_V); (focus rfl); (focus (simp (disch := ((try simp only [List.length_map, Int.toNat_natCast, List.length_append, List.length_take, List.length_drop, List.length_replicate, List.length_set, List.length_cons, List.length_nil, fillL_length]); omega)) only [push_cast, ↓reduceIte, Nat.reduceEqDiff, Nat.reduceBEq, Nat.reduceAdd, *] <;> exact rfl))) | ((with_reducible apply i_E); (focus rfl); (focus (simp (disch := ((try simp only [List.length_map, Int.toNat_natCast, List.length_append, List.length_take, List.length_drop, List.length_replicate, List.length_set, List.length_cons, List.length_nil, fillL_length]); omega)) only [push_cast, ↓reduceIte, Nat.reduceEqDiff, Nat.reduceBEq, Nat.reduceAdd, *] <;> exact rfl))) | ((with_reducible apply i_S); (focus rfl); (focus (simp (disch := ((try simp only [List.length_map, Int.toNat_natCast, List.length_append, List.length_take, List.length_drop, List.length_replicate, List.length_set, List.length_cons, List.length_nil, fillL_length]); omega)) only [push_cast, ↓reduceIte, Nat.reduceEqDiff, Nat.reduceBEq, Nat.reduceAdd, *] <;> exact rfl))) | ((with_reducible apply i_Gt); (focus (simp (disch := ((try simp only [List.length_map, Int.toNat_natCast, List.length_append, List.length_take, List.length_drop, List.length_replicate, List.length_set, List.length_cons, List.length_nil, fillL_length]); omega)) only [push_cast, ↓reduceIte, Nat.reduceEqDiff, Nat.reduceBEq, Nat.reduceAdd, *] <;> exact rfl))) | ((with_reducible apply i_Gf); (focus (simp (disch := ((try simp only [List.length_map, Int.toNat_natCast, List.length_append, List.length_take, List.length_drop, List.length_replicate, List.length_set, List.length_cons, List.length_nil, fillL_length]); omega)) only [push_cast, ↓reduceIte, Nat.reduceEqDiff, Nat.reduceBEq, Nat.reduceAdd, *] <;> exact rfl))) | ((with_reducible apply i_condT); (focus (simp (disch := ((try simp only [List.length_map, Int.toNat_natCast, List.length_append, List.length_take, List.length_drop, List.length_replicate, List.length_set, List.length_cons, List.length_nil, fillL_length]); omega)) only [push_cast, ↓reduceIte, Nat.reduceEqDiff, Nat.reduceBEq, Nat.reduceAdd, *] <;> exact rfl))) | ((with_reducible apply i_condF); (focus (simp (disch := ((try simp only [List.length_map, Int.toNat_natCast, List.length_append, List.length_take, List.length_drop, List.length_replicate, List.length_set, List.length_cons, List.length_nil, fillL_length]); omega)) only [push_cast, ↓reduceIte, Nat.reduceEqDiff, Nat.reduceBEq, Nat.reduceAdd, *] <;> exact rfl))) | ((with_reducible apply i_Gb); (focus (simp (disch := ((try simp only [List.length_map, Int.toNat_natCast, List.length_append, List.length_take, List.length_drop, List.length_replicate, List.length_set, List.length_cons, List.length_nil, fillL_length]); omega)) only [push_cast, ↓reduceIte, Nat.reduceEqDiff, Nat.reduceBEq, Nat.reduceAdd, *] <;> exact rfl)); all_goals (intro hX; (try simp only [decide_eq_true_eq, decide_eq_false_iff_not, Bool.not_eq_true', Bool.not_eq_false'] at hX); (try have hXb := inB_iff.1 hX))) | ((with_reducible apply i_cond); (focus (simp (disch := ((try simp only [List.length_map, Int.toNat_natCast, List.length_append, List.length_take, List.length_drop, List.length_replicate, List.length_set, List.length_cons, List.length_nil, fillL_length]); omega)) only [push_cast, ↓reduceIte, Nat.reduceEqDiff, Nat.reduceBEq, Nat.reduceAdd, *] <;> exact rfl)); all_goals (intro hX; (try simp only [decide_eq_true_eq, decide_eq_false_iff_not, Bool.not_eq_true', Bool.not_eq_false'] at hX); (try have hXb := inB_iff.1 hX))))
    all_goals try ((first | apply i_end | apply i_endN); simp (disch := ((try simp only [List.length_map, Int.toNat_natCast, List.length_append, List.length_take, List.length_drop, List.length_replicate, List.length_set, List.length_cons, List.length_nil, fillL_length]); omega)) only [push_cast, ↓reduceIte, Nat.reduceEqDiff, Nat.reduceBEq, Nat.reduceAdd, *])
    all_goals try (exfalso; omega)
    all_goals (have hpd1 := hpd.out; have hsm1 := hsm.out; have hdgk1 := hdgk.out)
    all_goals (first
      | (rw [patB_no (k := k) (by omega) (Bool.eq_false_iff.2 fun h => by rcases patAt_iff.1 h with h | h | h <;> (first | omega | (simp_all; done) | (simp_all; omega)))]; done)
      | exact ⟨(k + 1, n + 1), hi.letter (by omega) (by assumption), by dsimp only; omega, by simp only [push_cast, ↓reduceIte, Nat.reduceEqDiff, Nat.reduceBEq, Nat.reduceAdd], trivial, rfl⟩
      | exact ⟨(k + 1, n), hi.other (by omega) (patAt_iff.2 (.inr (.inr ⟨by omega, by omega⟩))) (by assumption), by dsimp only; omega, by (simp only [push_cast, ↓reduceIte, Nat.reduceEqDiff, Nat.reduceBEq, Nat.reduceAdd]; try exact congrArg (fun z => PV.val (Value.int .i64 z)) (by omega)), trivial, rfl⟩
      | exact ⟨(k + 1, n), hi.other (by omega) (patAt_iff.2 (.inr (.inl ⟨by omega, by omega, by simp_all⟩))) (by assumption), by dsimp only; omega, by simp only [push_cast, ↓reduceIte, Nat.reduceEqDiff, Nat.reduceBEq, Nat.reduceAdd], trivial, rfl⟩
      | (rw [hi.done (by omega)]; simp_all; done)
      | (rw [hi.done (by omega)]; simp_all; omega))
def allWords (l : LS) : Bool := decide (l.length ≤ 12) && l.all wordB
noncomputable def φWords : Fun := F1 dSs fun l => if okSs l then some (bv (allWords l)) else none
theorem φWords_ap {l : LS} (h : okSs l) : φWords [.lst false 1 (l.map fun s => .val (.string s))] = some (.val (.bool (allWords l))) :=
  (F1_ap (A := dSs) l).trans (if_pos h)
noncomputable def GSWords : Nat -> Option Fun := fun f => if f = 64 then some φWord else none
theorem GSWords_ok : SoundΓ Try.prog GSWords := fun f φ h => by
  unfold GSWords at h
  split at h
  · rename_i hf; cases h; subst hf; exact ⟨⟨_, Try.func64, rfl, rfl⟩, specWordValid_ok⟩
  cases h
theorem GSWords_64 (ob : Objs) (ps : List PV) : evCall GSWords ob 64 ps = (ps.mapM (reify false 0 ob fuel)).bind φWord := by
  have h : GSWords 64 = some φWord := by simp [GSWords]
  unfold evCall
  rw [h]
  cases ps.mapM (reify false 0 ob fuel) <;> rfl
set_option maxHeartbeats 4000000 in
theorem specWordsValid_ok : Sound Try.prog 49 φWords := by
  refine sound_pq mixed GSWords_ok Try.func49 rfl 19 rfl [.tmp 2] rfl (by kernel_rfl) fun ps r hr => ?_
  obtain ⟨l, rfl, hq⟩ := F1_some hr
  clear hr
  split at hq
  case isFalse => cases hq
  case isTrue hok =>
  cases hq
  obtain ⟨hlen, hsz⟩ := hok
  refine ⟨by simp, ?_⟩
  simp only [dIs, dUs, dSs, dI_e, dU_e, dB_e, dS_e, dFn_e, dL_e, dA2_e, dA3_e, dA4_e, dA5_e]
  have gswords_c64 := GSWords_64
  repeat' (first | with_reducible apply i_seq | with_reducible apply i_block | ((with_reducible apply i_region); (focus (simp only [List.map_cons, List.map_nil] <;> exact rfl))) | with_reducible apply i_skip | with_reducible apply i_exit | with_reducible apply i_ret | with_reducible apply i_kS | with_reducible apply i_kSx | with_reducible apply i_kSr | with_reducible apply i_kL | with_reducible apply i_kLx | with_reducible apply i_kLr | with_reducible apply i_kB | with_reducible apply i_kBr | with_reducible apply i_kBs | ((with_reducible apply i_kBo); (focus rfl)) | with_reducible apply i_nil | ((with_reducible apply i_V); (focus rfl); (focus (simp (disch := ((try simp only [List.length_map, Int.toNat_natCast, List.length_append, List.length_take, List.length_drop, List.length_replicate, List.length_set, List.length_cons, List.length_nil, fillL_length]); omega)) only [push_cast, ↓reduceIte, Nat.reduceEqDiff, Nat.reduceBEq, Nat.reduceAdd, *] <;> exact rfl))) | ((with_reducible apply i_E); (focus rfl); (focus (simp (disch := ((try simp only [List.length_map, Int.toNat_natCast, List.length_append, List.length_take, List.length_drop, List.length_replicate, List.length_set, List.length_cons, List.length_nil, fillL_length]); omega)) only [push_cast, ↓reduceIte, Nat.reduceEqDiff, Nat.reduceBEq, Nat.reduceAdd, *] <;> exact rfl))) | ((with_reducible apply i_S); (focus rfl); (focus (simp (disch := ((try simp only [List.length_map, Int.toNat_natCast, List.length_append, List.length_take, List.length_drop, List.length_replicate, List.length_set, List.length_cons, List.length_nil, fillL_length]); omega)) only [push_cast, ↓reduceIte, Nat.reduceEqDiff, Nat.reduceBEq, Nat.reduceAdd, *] <;> exact rfl))) | ((with_reducible apply i_Gt); (focus (simp (disch := ((try simp only [List.length_map, Int.toNat_natCast, List.length_append, List.length_take, List.length_drop, List.length_replicate, List.length_set, List.length_cons, List.length_nil, fillL_length]); omega)) only [push_cast, ↓reduceIte, Nat.reduceEqDiff, Nat.reduceBEq, Nat.reduceAdd, *] <;> exact rfl))) | ((with_reducible apply i_Gf); (focus (simp (disch := ((try simp only [List.length_map, Int.toNat_natCast, List.length_append, List.length_take, List.length_drop, List.length_replicate, List.length_set, List.length_cons, List.length_nil, fillL_length]); omega)) only [push_cast, ↓reduceIte, Nat.reduceEqDiff, Nat.reduceBEq, Nat.reduceAdd, *] <;> exact rfl))) | ((with_reducible apply i_condT); (focus (simp (disch := ((try simp only [List.length_map, Int.toNat_natCast, List.length_append, List.length_take, List.length_drop, List.length_replicate, List.length_set, List.length_cons, List.length_nil, fillL_length]); omega)) only [push_cast, ↓reduceIte, Nat.reduceEqDiff, Nat.reduceBEq, Nat.reduceAdd, *] <;> exact rfl))) | ((with_reducible apply i_condF); (focus (simp (disch := ((try simp only [List.length_map, Int.toNat_natCast, List.length_append, List.length_take, List.length_drop, List.length_replicate, List.length_set, List.length_cons, List.length_nil, fillL_length]); omega)) only [push_cast, ↓reduceIte, Nat.reduceEqDiff, Nat.reduceBEq, Nat.reduceAdd, *] <;> exact rfl))) | ((with_reducible apply i_Gb); (focus (simp (disch := ((try simp only [List.length_map, Int.toNat_natCast, List.length_append, List.length_take, List.length_drop, List.length_replicate, List.length_set, List.length_cons, List.length_nil, fillL_length]); omega)) only [push_cast, ↓reduceIte, Nat.reduceEqDiff, Nat.reduceBEq, Nat.reduceAdd, *] <;> exact rfl)); all_goals (intro hX; (try simp only [decide_eq_true_eq, decide_eq_false_iff_not, Bool.not_eq_true', Bool.not_eq_false'] at hX); (try have hXb := inB_iff.1 hX))) | ((with_reducible apply i_cond); (focus (simp (disch := ((try simp only [List.length_map, Int.toNat_natCast, List.length_append, List.length_take, List.length_drop, List.length_replicate, List.length_set, List.length_cons, List.length_nil, fillL_length]); omega)) only [push_cast, ↓reduceIte, Nat.reduceEqDiff, Nat.reduceBEq, Nat.reduceAdd, *] <;> exact rfl)); all_goals (intro hX; (try simp only [decide_eq_true_eq, decide_eq_false_iff_not, Bool.not_eq_true', Bool.not_eq_false'] at hX); (try have hXb := inB_iff.1 hX))))
  refine i_loop (α := Nat) mixed (fun k => [(0, .lst false 1 (l.map fun s => .val (.string s))), (3, iv k)]) (fun _ => []) (fun _ => 0)
    (fun k => k ≤ l.length ∧ ∀ j, j < k → wordB (l[j]?.getD .empty) = true) (fun k => l.length - k) (by kernel_rfl) 0 ⟨Nat.zero_le _, fun j hj => by omega⟩ ?_ trivial rfl ?_
  · simp only [push_cast, ↓reduceIte, Nat.reduceEqDiff, Nat.reduceBEq, Nat.reduceAdd]
  · intro k ⟨hk, hok⟩
    have ap := @φWord_ap (l[k]?.getD .empty) (by have := hsz k; omega)
    clear hsz
    repeat' (first | with_reducible apply i_seq | with_reducible apply i_block | ((with_reducible apply i_region); (focus (simp only [List.map_cons, List.map_nil] <;> exact rfl))) | with_reducible apply i_skip | with_reducible apply i_exit | with_reducible apply i_ret | with_reducible apply i_kS | with_reducible apply i_kSx | with_reducible apply i_kSr | with_reducible apply i_kL | with_reducible apply i_kLx | with_reducible apply i_kLr | with_reducible apply i_kB | with_reducible apply i_kBr | with_reducible apply i_kBs | ((with_reducible apply i_kBo); (focus rfl)) | with_reducible apply i_nil | ((with_reducible apply i_V); (focus rfl); (focus (simp (disch := ((try simp only [List.length_map, Int.toNat_natCast, List.length_append, List.length_take, List.length_drop, List.length_replicate, List.length_set, List.length_cons, List.length_nil, fillL_length]); omega)) only [push_cast, ↓reduceIte, Nat.reduceEqDiff, Nat.reduceBEq, Nat.reduceAdd, *] <;> exact rfl))) | ((with_reducible apply i_E); (focus rfl); (focus (simp (disch := ((try simp only [List.length_map, Int.toNat_natCast, List.length_append, List.length_take, List.length_drop, List.length_replicate, List.length_set, List.length_cons, List.length_nil, fillL_length]); omega)) only [push_cast, ↓reduceIte, Nat.reduceEqDiff, Nat.reduceBEq, Nat.reduceAdd, *] <;> exact rfl))) | ((with_reducible apply i_S); (focus rfl); (focus (simp (disch := ((try simp only [List.length_map, Int.toNat_natCast, List.length_append, List.length_take, List.length_drop, List.length_replicate, List.length_set, List.length_cons, List.length_nil, fillL_length]); omega)) only [push_cast, ↓reduceIte, Nat.reduceEqDiff, Nat.reduceBEq, Nat.reduceAdd, *] <;> exact rfl))) | ((with_reducible apply i_Gt); (focus (simp (disch := ((try simp only [List.length_map, Int.toNat_natCast, List.length_append, List.length_take, List.length_drop, List.length_replicate, List.length_set, List.length_cons, List.length_nil, fillL_length]); omega)) only [push_cast, ↓reduceIte, Nat.reduceEqDiff, Nat.reduceBEq, Nat.reduceAdd, *] <;> exact rfl))) | ((with_reducible apply i_Gf); (focus (simp (disch := ((try simp only [List.length_map, Int.toNat_natCast, List.length_append, List.length_take, List.length_drop, List.length_replicate, List.length_set, List.length_cons, List.length_nil, fillL_length]); omega)) only [push_cast, ↓reduceIte, Nat.reduceEqDiff, Nat.reduceBEq, Nat.reduceAdd, *] <;> exact rfl))) | ((with_reducible apply i_condT); (focus (simp (disch := ((try simp only [List.length_map, Int.toNat_natCast, List.length_append, List.length_take, List.length_drop, List.length_replicate, List.length_set, List.length_cons, List.length_nil, fillL_length]); omega)) only [push_cast, ↓reduceIte, Nat.reduceEqDiff, Nat.reduceBEq, Nat.reduceAdd, *] <;> exact rfl))) | ((with_reducible apply i_condF); (focus (simp (disch := ((try simp only [List.length_map, Int.toNat_natCast, List.length_append, List.length_take, List.length_drop, List.length_replicate, List.length_set, List.length_cons, List.length_nil, fillL_length]); omega)) only [push_cast, ↓reduceIte, Nat.reduceEqDiff, Nat.reduceBEq, Nat.reduceAdd, *] <;> exact rfl))) | ((with_reducible apply i_Gb); (focus (simp (disch := ((try simp only [List.length_map, Int.toNat_natCast, List.length_append, List.length_take, List.length_drop, List.length_replicate, List.length_set, List.length_cons, List.length_nil, fillL_length]); omega)) only [push_cast, ↓reduceIte, Nat.reduceEqDiff, Nat.reduceBEq, Nat.reduceAdd, *] <;> exact rfl)); all_goals (intro hX; (try simp only [decide_eq_true_eq, decide_eq_false_iff_not, Bool.not_eq_true', Bool.not_eq_false'] at hX); (try have hXb := inB_iff.1 hX))) | ((with_reducible apply i_cond); (focus (simp (disch := ((try simp only [List.length_map, Int.toNat_natCast, List.length_append, List.length_take, List.length_drop, List.length_replicate, List.length_set, List.length_cons, List.length_nil, fillL_length]); omega)) only [push_cast, ↓reduceIte, Nat.reduceEqDiff, Nat.reduceBEq, Nat.reduceAdd, *] <;> exact rfl)); all_goals (intro hX; (try simp only [decide_eq_true_eq, decide_eq_false_iff_not, Bool.not_eq_true', Bool.not_eq_false'] at hX); (try have hXb := inB_iff.1 hX))))
    all_goals try ((first | apply i_end | apply i_endN); simp (disch := ((try simp only [List.length_map, Int.toNat_natCast, List.length_append, List.length_take, List.length_drop, List.length_replicate, List.length_set, List.length_cons, List.length_nil, fillL_length]); omega)) only [push_cast, ↓reduceIte, Nat.reduceEqDiff, Nat.reduceBEq, Nat.reduceAdd, *])
    · rw [show allWords l = false from by (unfold allWords; rw [all_noK (d := .empty) (k := k) (by omega) (by simp_all), Bool.and_false])]
    · refine ⟨k + 1, ⟨by omega, fun j hj => ?_⟩, by dsimp only; omega, by simp only [push_cast, ↓reduceIte, Nat.reduceEqDiff, Nat.reduceBEq, Nat.reduceAdd], trivial, rfl⟩
      by_cases h1 : j < k
      · exact hok j h1
      · have : j = k := by omega
        subst this
        simp_all
    · rw [show allWords l = decide (l.length ≤ 12) from by (unfold allWords; rw [all_yesK (d := .empty) fun j hj => hok j (by omega), Bool.and_true])]
      simp
      omega
noncomputable def GIWords : Nat -> Option Fun := fun f => if f = 66 then some φWord else none
theorem GIWords_ok : SoundΓ Try.prog GIWords := fun f φ h => by
  unfold GIWords at h
  split at h
  · rename_i hf; cases h; subst hf; exact ⟨⟨_, Try.func66, rfl, rfl⟩, implWordValid_ok⟩
  cases h
theorem GIWords_66 (ob : Objs) (ps : List PV) : evCall GIWords ob 66 ps = (ps.mapM (reify false 0 ob fuel)).bind φWord := by
  have h : GIWords 66 = some φWord := by simp [GIWords]
  unfold evCall
  rw [h]
  cases ps.mapM (reify false 0 ob fuel) <;> rfl
set_option maxHeartbeats 4000000 in
theorem implWordsValid_ok : Sound Try.prog 53 φWords := by
  refine sound_pq mixed GIWords_ok Try.func53 rfl 18 rfl [.tmp 2] rfl (by kernel_rfl) fun ps r hr => ?_
  obtain ⟨l, rfl, hq⟩ := F1_some hr
  clear hr
  split at hq
  case isFalse => cases hq
  case isTrue hok =>
  cases hq
  obtain ⟨hlen, hsz⟩ := hok
  refine ⟨by simp, ?_⟩
  simp only [dIs, dUs, dSs, dI_e, dU_e, dB_e, dS_e, dFn_e, dL_e, dA2_e, dA3_e, dA4_e, dA5_e]
  have giwords_c66 := GIWords_66
  repeat' (first | with_reducible apply i_seq | with_reducible apply i_block | ((with_reducible apply i_region); (focus (simp only [List.map_cons, List.map_nil] <;> exact rfl))) | with_reducible apply i_skip | with_reducible apply i_exit | with_reducible apply i_ret | with_reducible apply i_kS | with_reducible apply i_kSx | with_reducible apply i_kSr | with_reducible apply i_kL | with_reducible apply i_kLx | with_reducible apply i_kLr | with_reducible apply i_kB | with_reducible apply i_kBr | with_reducible apply i_kBs | ((with_reducible apply i_kBo); (focus rfl)) | with_reducible apply i_nil | ((with_reducible apply i_V); (focus rfl); (focus (simp (disch := ((try simp only [List.length_map, Int.toNat_natCast, List.length_append, List.length_take, List.length_drop, List.length_replicate, List.length_set, List.length_cons, List.length_nil, fillL_length]); omega)) only [push_cast, ↓reduceIte, Nat.reduceEqDiff, Nat.reduceBEq, Nat.reduceAdd, *] <;> exact rfl))) | ((with_reducible apply i_E); (focus rfl); (focus (simp (disch := ((try simp only [List.length_map, Int.toNat_natCast, List.length_append, List.length_take, List.length_drop, List.length_replicate, List.length_set, List.length_cons, List.length_nil, fillL_length]); omega)) only [push_cast, ↓reduceIte, Nat.reduceEqDiff, Nat.reduceBEq, Nat.reduceAdd, *] <;> exact rfl))) | ((with_reducible apply i_S); (focus rfl); (focus (simp (disch := ((try simp only [List.length_map, Int.toNat_natCast, List.length_append, List.length_take, List.length_drop, List.length_replicate, List.length_set, List.length_cons, List.length_nil, fillL_length]); omega)) only [push_cast, ↓reduceIte, Nat.reduceEqDiff, Nat.reduceBEq, Nat.reduceAdd, *] <;> exact rfl))) | ((with_reducible apply i_Gt); (focus (simp (disch := ((try simp only [List.length_map, Int.toNat_natCast, List.length_append, List.length_take, List.length_drop, List.length_replicate, List.length_set, List.length_cons, List.length_nil, fillL_length]); omega)) only [push_cast, ↓reduceIte, Nat.reduceEqDiff, Nat.reduceBEq, Nat.reduceAdd, *] <;> exact rfl))) | ((with_reducible apply i_Gf); (focus (simp (disch := ((try simp only [List.length_map, Int.toNat_natCast, List.length_append, List.length_take, List.length_drop, List.length_replicate, List.length_set, List.length_cons, List.length_nil, fillL_length]); omega)) only [push_cast, ↓reduceIte, Nat.reduceEqDiff, Nat.reduceBEq, Nat.reduceAdd, *] <;> exact rfl))) | ((with_reducible apply i_condT); (focus (simp (disch := ((try simp only [List.length_map, Int.toNat_natCast, List.length_append, List.length_take, List.length_drop, List.length_replicate, List.length_set, List.length_cons, List.length_nil, fillL_length]); omega)) only [push_cast, ↓reduceIte, Nat.reduceEqDiff, Nat.reduceBEq, Nat.reduceAdd, *] <;> exact rfl))) | ((with_reducible apply i_condF); (focus (simp (disch := ((try simp only [List.length_map, Int.toNat_natCast, List.length_append, List.length_take, List.length_drop, List.length_replicate, List.length_set, List.length_cons, List.length_nil, fillL_length]); omega)) only [push_cast, ↓reduceIte, Nat.reduceEqDiff, Nat.reduceBEq, Nat.reduceAdd, *] <;> exact rfl))) | ((with_reducible apply i_Gb); (focus (simp (disch := ((try simp only [List.length_map, Int.toNat_natCast, List.length_append, List.length_take, List.length_drop, List.length_replicate, List.length_set, List.length_cons, List.length_nil, fillL_length]); omega)) only [push_cast, ↓reduceIte, Nat.reduceEqDiff, Nat.reduceBEq, Nat.reduceAdd, *] <;> exact rfl)); all_goals (intro hX; (try simp only [decide_eq_true_eq, decide_eq_false_iff_not, Bool.not_eq_true', Bool.not_eq_false'] at hX); (try have hXb := inB_iff.1 hX))) | ((with_reducible apply i_cond); (focus (simp (disch := ((try simp only [List.length_map, Int.toNat_natCast, List.length_append, List.length_take, List.length_drop, List.length_replicate, List.length_set, List.length_cons, List.length_nil, fillL_length]); omega)) only [push_cast, ↓reduceIte, Nat.reduceEqDiff, Nat.reduceBEq, Nat.reduceAdd, *] <;> exact rfl)); all_goals (intro hX; (try simp only [decide_eq_true_eq, decide_eq_false_iff_not, Bool.not_eq_true', Bool.not_eq_false'] at hX); (try have hXb := inB_iff.1 hX))))
  refine i_loop (α := Nat) mixed (fun k => [(0, .lst false 1 (l.map fun s => .val (.string s))), (5, .lst false 1 (l.map fun s => .val (.string s))), (6, iv l.length), (7, iv k)]) (fun _ => []) (fun _ => 0)
    (fun k => k ≤ l.length ∧ ∀ j, j < k → wordB (l[j]?.getD .empty) = true) (fun k => l.length - k) (by kernel_rfl) 0 ⟨Nat.zero_le _, fun j hj => by omega⟩ ?_ trivial rfl ?_
  · simp only [push_cast, ↓reduceIte, Nat.reduceEqDiff, Nat.reduceBEq, Nat.reduceAdd]
  · intro k ⟨hk, hok⟩
    have ap := @φWord_ap (l[k]?.getD .empty) (by have := hsz k; omega)
    clear hsz
    repeat' (first | with_reducible apply i_seq | with_reducible apply i_block | ((with_reducible apply i_region); (focus (simp only [List.map_cons, List.map_nil] <;> exact rfl))) | with_reducible apply i_skip | with_reducible apply i_exit | with_reducible apply i_ret | with_reducible apply i_kS | with_reducible apply i_kSx | with_reducible apply i_kSr | with_reducible apply i_kL | with_reducible apply i_kLx | with_reducible apply i_kLr | with_reducible apply i_kB | with_reducible apply i_kBr | with_reducible apply i_kBs | ((with_reducible apply i_kBo); (focus rfl)) | with_reducible apply i_nil | ((with_reducible apply i_V); (focus rfl); (focus (simp (disch := ((try simp only [List.length_map, Int.toNat_natCast, List.length_append, List.length_take, List.length_drop, List.length_replicate, List.length_set, List.length_cons, List.length_nil, fillL_length]); omega)) only [push_cast, ↓reduceIte, Nat.reduceEqDiff, Nat.reduceBEq, Nat.reduceAdd, *] <;> exact rfl))) | ((with_reducible apply i_E); (focus rfl); (focus (simp (disch := ((try simp only [List.length_map, Int.toNat_natCast, List.length_append, List.length_take, List.length_drop, List.length_replicate, List.length_set, List.length_cons, List.length_nil, fillL_length]); omega)) only [push_cast, ↓reduceIte, Nat.reduceEqDiff, Nat.reduceBEq, Nat.reduceAdd, *] <;> exact rfl))) | ((with_reducible apply i_S); (focus rfl); (focus (simp (disch := ((try simp only [List.length_map, Int.toNat_natCast, List.length_append, List.length_take, List.length_drop, List.length_replicate, List.length_set, List.length_cons, List.length_nil, fillL_length]); omega)) only [push_cast, ↓reduceIte, Nat.reduceEqDiff, Nat.reduceBEq, Nat.reduceAdd, *] <;> exact rfl))) | ((with_reducible apply i_Gt); (focus (simp (disch := ((try simp only [List.length_map, Int.toNat_natCast, List.length_append, List.length_take, List.length_drop, List.length_replicate, List.length_set, List.length_cons, List.length_nil, fillL_length]); omega)) only [push_cast, ↓reduceIte, Nat.reduceEqDiff, Nat.reduceBEq, Nat.reduceAdd, *] <;> exact rfl))) | ((with_reducible apply i_Gf); (focus (simp (disch := ((try simp only [List.length_map, Int.toNat_natCast, List.length_append, List.length_take, List.length_drop, List.length_replicate, List.length_set, List.length_cons, List.length_nil, fillL_length]); omega)) only [push_cast, ↓reduceIte, Nat.reduceEqDiff, Nat.reduceBEq, Nat.reduceAdd, *] <;> exact rfl))) | ((with_reducible apply i_condT); (focus (simp (disch := ((try simp only [List.length_map, Int.toNat_natCast, List.length_append, List.length_take, List.length_drop, List.length_replicate, List.length_set, List.length_cons, List.length_nil, fillL_length]); omega)) only [push_cast, ↓reduceIte, Nat.reduceEqDiff, Nat.reduceBEq, Nat.reduceAdd, *] <;> exact rfl))) | ((with_reducible apply i_condF); (focus (simp (disch := ((try simp only [List.length_map, Int.toNat_natCast, List.length_append, List.length_take, List.length_drop, List.length_replicate, List.length_set, List.length_cons, List.length_nil, fillL_length]); omega)) only [push_cast, ↓reduceIte, Nat.reduceEqDiff, Nat.reduceBEq, Nat.reduceAdd, *] <;> exact rfl))) | ((with_reducible apply i_Gb); (focus (simp (disch := ((try simp only [List.length_map, Int.toNat_natCast, List.length_append, List.length_take, List.length_drop, List.length_replicate, List.length_set, List.length_cons, List.length_nil, fillL_length]); omega)) only [push_cast, ↓reduceIte, Nat.reduceEqDiff, Nat.reduceBEq, Nat.reduceAdd, *] <;> exact rfl)); all_goals (intro hX; (try simp only [decide_eq_true_eq, decide_eq_false_iff_not, Bool.not_eq_true', Bool.not_eq_false'] at hX); (try have hXb := inB_iff.1 hX))) | ((with_reducible apply i_cond); (focus (simp (disch := ((try simp only [List.length_map, Int.toNat_natCast, List.length_append, List.length_take, List.length_drop, List.length_replicate, List.length_set, List.length_cons, List.length_nil, fillL_length]); omega)) only [push_cast, ↓reduceIte, Nat.reduceEqDiff, Nat.reduceBEq, Nat.reduceAdd, *] <;> exact rfl)); all_goals (intro hX; (try simp only [decide_eq_true_eq, decide_eq_false_iff_not, Bool.not_eq_true', Bool.not_eq_false'] at hX); (try have hXb := inB_iff.1 hX))))
    all_goals try ((first | apply i_end | apply i_endN); simp (disch := ((try simp only [List.length_map, Int.toNat_natCast, List.length_append, List.length_take, List.length_drop, List.length_replicate, List.length_set, List.length_cons, List.length_nil, fillL_length]); omega)) only [push_cast, ↓reduceIte, Nat.reduceEqDiff, Nat.reduceBEq, Nat.reduceAdd, *])
    · rw [show allWords l = false from by (unfold allWords; rw [all_noK (d := .empty) (k := k) (by omega) (by simp_all), Bool.and_false])]
    · refine ⟨k + 1, ⟨by omega, fun j hj => ?_⟩, by dsimp only; omega, by simp only [push_cast, ↓reduceIte, Nat.reduceEqDiff, Nat.reduceBEq, Nat.reduceAdd], trivial, rfl⟩
      by_cases h1 : j < k
      · exact hok j h1
      · have : j = k := by omega
        subst this
        simp_all
    · rw [show allWords l = decide (l.length ≤ 12) from by (unfold allWords; rw [all_yesK (d := .empty) fun j hj => hok j (by omega), Bool.and_true])]
      simp
      omega
def allPats (l : LS) : Bool := decide (l.length ≤ 20) && l.all patB
noncomputable def φPats : Fun := F1 dSs fun l => if okSs l then some (bv (allPats l)) else none
theorem φPats_ap {l : LS} (h : okSs l) : φPats [.lst false 1 (l.map fun s => .val (.string s))] = some (.val (.bool (allPats l))) :=
  (F1_ap (A := dSs) l).trans (if_pos h)
noncomputable def GSPats : Nat -> Option Fun := fun f => if f = 65 then some φPat else none
theorem GSPats_ok : SoundΓ Try.prog GSPats := fun f φ h => by
  unfold GSPats at h
  split at h
  · rename_i hf; cases h; subst hf; exact ⟨⟨_, Try.func65, rfl, rfl⟩, specPatternValid_ok⟩
  cases h
theorem GSPats_65 (ob : Objs) (ps : List PV) : evCall GSPats ob 65 ps = (ps.mapM (reify false 0 ob fuel)).bind φPat := by
  have h : GSPats 65 = some φPat := by simp [GSPats]
  unfold evCall
  rw [h]
  cases ps.mapM (reify false 0 ob fuel) <;> rfl
set_option maxHeartbeats 4000000 in
theorem specPatternsValid_ok : Sound Try.prog 50 φPats := by
  refine sound_pq mixed GSPats_ok Try.func50 rfl 19 rfl [.tmp 2] rfl (by kernel_rfl) fun ps r hr => ?_
  obtain ⟨l, rfl, hq⟩ := F1_some hr
  clear hr
  split at hq
  case isFalse => cases hq
  case isTrue hok =>
  cases hq
  obtain ⟨hlen, hsz⟩ := hok
  refine ⟨by simp, ?_⟩
  simp only [dIs, dUs, dSs, dI_e, dU_e, dB_e, dS_e, dFn_e, dL_e, dA2_e, dA3_e, dA4_e, dA5_e]
  have gspats_c65 := GSPats_65
  repeat' (first | with_reducible apply i_seq | with_reducible apply i_block | ((with_reducible apply i_region); (focus (simp only [List.map_cons, List.map_nil] <;> exact rfl))) | with_reducible apply i_skip | with_reducible apply i_exit | with_reducible apply i_ret | with_reducible apply i_kS | with_reducible apply i_kSx | with_reducible apply i_kSr | with_reducible apply i_kL | with_reducible apply i_kLx | with_reducible apply i_kLr | with_reducible apply i_kB | with_reducible apply i_kBr | with_reducible apply i_kBs | ((with_reducible apply i_kBo); (focus rfl)) | with_reducible apply i_nil | ((with_reducible apply i_V); (focus rfl); (focus (simp (disch := ((try simp only [List.length_map, Int.toNat_natCast, List.length_append, List.length_take, List.length_drop, List.length_replicate, List.length_set, List.length_cons, List.length_nil, fillL_length]); omega)) only [push_cast, ↓reduceIte, Nat.reduceEqDiff, Nat.reduceBEq, Nat.reduceAdd, *] <;> exact rfl))) | ((with_reducible apply i_E); (focus rfl); (focus (simp (disch := ((try simp only [List.length_map, Int.toNat_natCast, List.length_append, List.length_take, List.length_drop, List.length_replicate, List.length_set, List.length_cons, List.length_nil, fillL_length]); omega)) only [push_cast, ↓reduceIte, Nat.reduceEqDiff, Nat.reduceBEq, Nat.reduceAdd, *] <;> exact rfl))) | ((with_reducible apply i_S); (focus rfl); (focus (simp (disch := ((try simp only [List.length_map, Int.toNat_natCast, List.length_append, List.length_take, List.length_drop, List.length_replicate, List.length_set, List.length_cons, List.length_nil, fillL_length]); omega)) only [push_cast, ↓reduceIte, Nat.reduceEqDiff, Nat.reduceBEq, Nat.reduceAdd, *] <;> exact rfl))) | ((with_reducible apply i_Gt); (focus (simp (disch := ((try simp only [List.length_map, Int.toNat_natCast, List.length_append, List.length_take, List.length_drop, List.length_replicate, List.length_set, List.length_cons, List.length_nil, fillL_length]); omega)) only [push_cast, ↓reduceIte, Nat.reduceEqDiff, Nat.reduceBEq, Nat.reduceAdd, *] <;> exact rfl))) | ((with_reducible apply i_Gf); (focus (simp (disch := ((try simp only [List.length_map, Int.toNat_natCast, List.length_append, List.length_take, List.length_drop, List.length_replicate, List.length_set, List.length_cons, List.length_nil, fillL_length]); omega)) only [push_cast, ↓reduceIte, Nat.reduceEqDiff, Nat.reduceBEq, Nat.reduceAdd, *] <;> exact rfl))) | ((with_reducible apply i_condT); (focus (simp (disch := ((try simp only [List.length_map, Int.toNat_natCast, List.length_append, List.length_take, List.length_drop, List.length_replicate, List.length_set, List.length_cons, List.length_nil, fillL_length]); omega)) only [push_cast, ↓reduceIte, Nat.reduceEqDiff, Nat.reduceBEq, Nat.reduceAdd, *] <;> exact rfl))) | ((with_reducible apply i_condF); (focus (simp (disch := ((try simp only [List.length_map, Int.toNat_natCast, List.length_append, List.length_take, List.length_drop, List.length_replicate, List.length_set, List.length_cons, List.length_nil, fillL_length]); omega)) only [push_cast, ↓reduceIte, Nat.reduceEqDiff, Nat.reduceBEq, Nat.reduceAdd, *] <;> exact rfl))) | ((with_reducible apply i_Gb); (focus (simp (disch := ((try simp only [List.length_map, Int.toNat_natCast, List.length_append, List.length_take, List.length_drop, List.length_replicate, List.length_set, List.length_cons, List.length_nil, fillL_length]); omega)) only [push_cast, ↓reduceIte, Nat.reduceEqDiff, Nat.reduceBEq, Nat.reduceAdd, *] <;> exact rfl)); all_goals (intro hX; (try simp only [decide_eq_true_eq, decide_eq_false_iff_not, Bool.not_eq_true', Bool.not_eq_false'] at hX); (try have hXb := inB_iff.1 hX))) | ((with_reducible apply i_cond); (focus (simp (disch := ((try simp only [List.length_map, Int.toNat_natCast, List.length_append, List.length_take, List.length_drop, List.length_replicate, List.length_set, List.length_cons, List.length_nil, fillL_length]); omega)) only [push_cast, ↓reduceIte, Nat.reduceEqDiff, Nat.reduceBEq, Nat.reduceAdd, *] <;> exact rfl)); all_goals (intro hX; (try simp only [decide_eq_true_eq, decide_eq_false_iff_not, Bool.not_eq_true', Bool.not_eq_false'] at hX); (try have hXb := inB_iff.1 hX))))
  refine i_loop (α := Nat) mixed (fun k => [(0, .lst false 1 (l.map fun s => .val (.string s))), (3, iv k)]) (fun _ => []) (fun _ => 0)
    (fun k => k ≤ l.length ∧ ∀ j, j < k → patB (l[j]?.getD .empty) = true) (fun k => l.length - k) (by kernel_rfl) 0 ⟨Nat.zero_le _, fun j hj => by omega⟩ ?_ trivial rfl ?_
  · simp only [push_cast, ↓reduceIte, Nat.reduceEqDiff, Nat.reduceBEq, Nat.reduceAdd]
  · intro k ⟨hk, hok⟩
    have ap := @φPat_ap (l[k]?.getD .empty) (by have := hsz k; omega)
    clear hsz
    repeat' (first | with_reducible apply i_seq | with_reducible apply i_block | ((with_reducible apply i_region); (focus (simp only [List.map_cons, List.map_nil] <;> exact rfl))) | with_reducible apply i_skip | with_reducible apply i_exit | with_reducible apply i_ret | with_reducible apply i_kS | with_reducible apply i_kSx | with_reducible apply i_kSr | with_reducible apply i_kL | with_reducible apply i_kLx | with_reducible apply i_kLr | with_reducible apply i_kB | with_reducible apply i_kBr | with_reducible apply i_kBs | ((with_reducible apply i_kBo); (focus rfl)) | with_reducible apply i_nil | ((with_reducible apply i_V); (focus rfl); (focus (simp (disch := ((try simp only [List.length_map, Int.toNat_natCast, List.length_append, List.length_take, List.length_drop, List.length_replicate, List.length_set, List.length_cons, List.length_nil, fillL_length]); omega)) only [push_cast, ↓reduceIte, Nat.reduceEqDiff, Nat.reduceBEq, Nat.reduceAdd, *] <;> exact rfl))) | ((with_reducible apply i_E); (focus rfl); (focus (simp (disch := ((try simp only [List.length_map, Int.toNat_natCast, List.length_append, List.length_take, List.length_drop, List.length_replicate, List.length_set, List.length_cons, List.length_nil, fillL_length]); omega)) only [push_cast, ↓reduceIte, Nat.reduceEqDiff, Nat.reduceBEq, Nat.reduceAdd, *] <;> exact rfl))) | ((with_reducible apply i_S); (focus rfl); (focus (simp (disch := ((try simp only [List.length_map, Int.toNat_natCast, List.length_append, List.length_take, List.length_drop, List.length_replicate, List.length_set, List.length_cons, List.length_nil, fillL_length]); omega)) only [push_cast, ↓reduceIte, Nat.reduceEqDiff, Nat.reduceBEq, Nat.reduceAdd, *] <;> exact rfl))) | ((with_reducible apply i_Gt); (focus (simp (disch := ((try simp only [List.length_map, Int.toNat_natCast, List.length_append, List.length_take, List.length_drop, List.length_replicate, List.length_set, List.length_cons, List.length_nil, fillL_length]); omega)) only [push_cast, ↓reduceIte, Nat.reduceEqDiff, Nat.reduceBEq, Nat.reduceAdd, *] <;> exact rfl))) | ((with_reducible apply i_Gf); (focus (simp (disch := ((try simp only [List.length_map, Int.toNat_natCast, List.length_append, List.length_take, List.length_drop, List.length_replicate, List.length_set, List.length_cons, List.length_nil, fillL_length]); omega)) only [push_cast, ↓reduceIte, Nat.reduceEqDiff, Nat.reduceBEq, Nat.reduceAdd, *] <;> exact rfl))) | ((with_reducible apply i_condT); (focus (simp (disch := ((try simp only [List.length_map, Int.toNat_natCast, List.length_append, List.length_take, List.length_drop, List.length_replicate, List.length_set, List.length_cons, List.length_nil, fillL_length]); omega)) only [push_cast, ↓reduceIte, Nat.reduceEqDiff, Nat.reduceBEq, Nat.reduceAdd, *] <;> exact rfl))) | ((with_reducible apply i_condF); (focus (simp (disch := ((try simp only [List.length_map, Int.toNat_natCast, List.length_append, List.length_take, List.length_drop, List.length_replicate, List.length_set, List.length_cons, List.length_nil, fillL_length]); omega)) only [push_cast, ↓reduceIte, Nat.reduceEqDiff, Nat.reduceBEq, Nat.reduceAdd, *] <;> exact rfl))) | ((with_reducible apply i_Gb); (focus (simp (disch := ((try simp only [List.length_map, Int.toNat_natCast, List.length_append, List.length_take, List.length_drop, List.length_replicate, List.length_set, List.length_cons, List.length_nil, fillL_length]); omega)) only [push_cast, ↓reduceIte, Nat.reduceEqDiff, Nat.reduceBEq, Nat.reduceAdd, *] <;> exact rfl)); all_goals (intro hX; (try simp only [decide_eq_true_eq, decide_eq_false_iff_not, Bool.not_eq_true', Bool.not_eq_false'] at hX); (try have hXb := inB_iff.1 hX))) | ((with_reducible apply i_cond); (focus (simp (disch := ((try simp only [List.length_map, Int.toNat_natCast, List.length_append, List.length_take, List.length_drop, List.length_replicate, List.length_set, List.length_cons, List.length_nil, fillL_length]); omega)) only [push_cast, ↓reduceIte, Nat.reduceEqDiff, Nat.reduceBEq, Nat.reduceAdd, *] <;> exact rfl)); all_goals (intro hX; (try simp only [decide_eq_true_eq, decide_eq_false_iff_not, Bool.not_eq_true', Bool.not_eq_false'] at hX); (try have hXb := inB_iff.1 hX))))
    all_goals try ((first | apply i_end | apply i_endN); simp (disch := ((try simp only [List.length_map, Int.toNat_natCast, List.length_append, List.length_take, List.length_drop, List.length_replicate, List.length_set, List.length_cons, List.length_nil, fillL_length]); omega)) only [push_cast, ↓reduceIte, Nat.reduceEqDiff, Nat.reduceBEq, Nat.reduceAdd, *])
    · rw [show allPats l = false from by (unfold allPats; rw [all_noK (d := .empty) (k := k) (by omega) (by simp_all), Bool.and_false])]
    · refine ⟨k + 1, ⟨by omega, fun j hj => ?_⟩, by dsimp only; omega, by simp only [push_cast, ↓reduceIte, Nat.reduceEqDiff, Nat.reduceBEq, Nat.reduceAdd], trivial, rfl⟩
      by_cases h1 : j < k
      · exact hok j h1
      · have : j = k := by omega
        subst this
        simp_all
    · rw [show allPats l = decide (l.length ≤ 20) from by (unfold allPats; rw [all_yesK (d := .empty) fun j hj => hok j (by omega), Bool.and_true])]
      simp
      omega
noncomputable def GIPats : Nat -> Option Fun := fun f => if f = 62 then some φPat else none
theorem GIPats_ok : SoundΓ Try.prog GIPats := fun f φ h => by
  unfold GIPats at h
  split at h
  · rename_i hf; cases h; subst hf; exact ⟨⟨_, Try.func62, rfl, rfl⟩, implPatternValid_ok⟩
  cases h
theorem GIPats_62 (ob : Objs) (ps : List PV) : evCall GIPats ob 62 ps = (ps.mapM (reify false 0 ob fuel)).bind φPat := by
  have h : GIPats 62 = some φPat := by simp [GIPats]
  unfold evCall
  rw [h]
  cases ps.mapM (reify false 0 ob fuel) <;> rfl
set_option maxHeartbeats 4000000 in
theorem implPatternsValid_ok : Sound Try.prog 35 φPats := by
  refine sound_pq mixed GIPats_ok Try.func35 rfl 18 rfl [.tmp 2] rfl (by kernel_rfl) fun ps r hr => ?_
  obtain ⟨l, rfl, hq⟩ := F1_some hr
  clear hr
  split at hq
  case isFalse => cases hq
  case isTrue hok =>
  cases hq
  obtain ⟨hlen, hsz⟩ := hok
  refine ⟨by simp, ?_⟩
  simp only [dIs, dUs, dSs, dI_e, dU_e, dB_e, dS_e, dFn_e, dL_e, dA2_e, dA3_e, dA4_e, dA5_e]
  have gipats_c62 := GIPats_62
  repeat' (first | with_reducible apply i_seq | with_reducible apply i_block | ((with_reducible apply i_region); (focus (simp only [List.map_cons, List.map_nil] <;> exact rfl))) | with_reducible apply i_skip | with_reducible apply i_exit | with_reducible apply i_ret | with_reducible apply i_kS | with_reducible apply i_kSx | with_reducible apply i_kSr | with_reducible apply i_kL | with_reducible apply i_kLx | with_reducible apply i_kLr | with_reducible apply i_kB | with_reducible apply i_kBr | with_reducible apply i_kBs | ((with_reducible apply i_kBo); (focus rfl)) | with_reducible apply i_nil | ((with_reducible apply i_V); (focus rfl); (focus (simp (disch := ((try simp only [List.length_map, Int.toNat_natCast, List.length_append, List.length_take, List.length_drop, List.length_replicate, List.length_set, List.length_cons, List.length_nil, fillL_length]); omega)) only [push_cast, ↓reduceIte, Nat.reduceEqDiff, Nat.reduceBEq, Nat.reduceAdd, *] <;> exact rfl))) | ((with_reducible apply i_E); (focus rfl); (focus (simp (disch := ((try simp only [List.length_map, Int.toNat_natCast, List.length_append, List.length_take, List.length_drop, List.length_replicate, List.length_set, List.length_cons, List.length_nil, fillL_length]); omega)) only [push_cast, ↓reduceIte, Nat.reduceEqDiff, Nat.reduceBEq, Nat.reduceAdd, *] <;> exact rfl))) | ((with_reducible apply i_S); (focus rfl); (focus (simp (disch := ((try simp only [List.length_map, Int.toNat_natCast, List.length_append, List.length_take, List.length_drop, List.length_replicate, List.length_set, List.length_cons, List.length_nil, fillL_length]); omega)) only [push_cast, ↓reduceIte, Nat.reduceEqDiff, Nat.reduceBEq, Nat.reduceAdd, *] <;> exact rfl))) | ((with_reducible apply i_Gt); (focus (simp (disch := ((try simp only [List.length_map, Int.toNat_natCast, List.length_append, List.length_take, List.length_drop, List.length_replicate, List.length_set, List.length_cons, List.length_nil, fillL_length]); omega)) only [push_cast, ↓reduceIte, Nat.reduceEqDiff, Nat.reduceBEq, Nat.reduceAdd, *] <;> exact rfl))) | ((with_reducible apply i_Gf); (focus (simp (disch := ((try simp only [List.length_map, Int.toNat_natCast, List.length_append, List.length_take, List.length_drop, List.length_replicate, List.length_set, List.length_cons, List.length_nil, fillL_length]); omega)) only [push_cast, ↓reduceIte, Nat.reduceEqDiff, Nat.reduceBEq, Nat.reduceAdd, *] <;> exact rfl))) | ((with_reducible apply i_condT); (focus (simp (disch := ((try simp only [List.length_map, Int.toNat_natCast, List.length_append, List.length_take, List.length_drop, List.length_replicate, List.length_set, List.length_cons, List.length_nil, fillL_length]); omega)) only [push_cast, ↓reduceIte, Nat.reduceEqDiff, Nat.reduceBEq, Nat.reduceAdd, *] <;> exact rfl))) | ((with_reducible apply i_condF); (focus (simp (disch := ((try simp only [List.length_map, Int.toNat_natCast, List.length_append, List.length_take, List.length_drop, List.length_replicate, List.length_set, List.length_cons, List.length_nil, fillL_length]); omega)) only [push_cast, ↓reduceIte, Nat.reduceEqDiff, Nat.reduceBEq, Nat.reduceAdd, *] <;> exact rfl))) | ((with_reducible apply i_Gb); (focus (simp (disch := ((try simp only [List.length_map, Int.toNat_natCast, List.length_append, List.length_take, List.length_drop, List.length_replicate, List.length_set, List.length_cons, List.length_nil, fillL_length]); omega)) only [push_cast, ↓reduceIte, Nat.reduceEqDiff, Nat.reduceBEq, Nat.reduceAdd, *] <;> exact rfl)); all_goals (intro hX; (try simp only [decide_eq_true_eq, decide_eq_false_iff_not, Bool.not_eq_true', Bool.not_eq_false'] at hX); (try have hXb := inB_iff.1 hX))) | ((with_reducible apply i_cond); (focus (simp (disch := ((try simp only [List.length_map, Int.toNat_natCast, List.length_append, List.length_take, List.length_drop, List.length_replicate, List.length_set, List.length_cons, List.length_nil, fillL_length]); omega)) only [push_cast, ↓reduceIte, Nat.reduceEqDiff, Nat.reduceBEq, Nat.reduceAdd, *] <;> exact rfl)); all_goals (intro hX; (try simp only [decide_eq_true_eq, decide_eq_false_iff_not, Bool.not_eq_true', Bool.not_eq_false'] at hX); (try have hXb := inB_iff.1 hX))))
  refine i_loop (α := Nat) mixed (fun k => [(0, .lst false 1 (l.map fun s => .val (.string s))), (5, .lst false 1 (l.map fun s => .val (.string s))), (6, iv l.length), (7, iv k)]) (fun _ => []) (fun _ => 0)
    (fun k => k ≤ l.length ∧ ∀ j, j < k → patB (l[j]?.getD .empty) = true) (fun k => l.length - k) (by kernel_rfl) 0 ⟨Nat.zero_le _, fun j hj => by omega⟩ ?_ trivial rfl ?_
  · simp only [push_cast, ↓reduceIte, Nat.reduceEqDiff, Nat.reduceBEq, Nat.reduceAdd]
  · intro k ⟨hk, hok⟩
    have ap := @φPat_ap (l[k]?.getD .empty) (by have := hsz k; omega)
    clear hsz
    repeat' (first | with_reducible apply i_seq | with_reducible apply i_block | ((with_reducible apply i_region); (focus (simp only [List.map_cons, List.map_nil] <;> exact rfl))) | with_reducible apply i_skip | with_reducible apply i_exit | with_reducible apply i_ret | with_reducible apply i_kS | with_reducible apply i_kSx | with_reducible apply i_kSr | with_reducible apply i_kL | with_reducible apply i_kLx | with_reducible apply i_kLr | with_reducible apply i_kB | with_reducible apply i_kBr | with_reducible apply i_kBs | ((with_reducible apply i_kBo); (focus rfl)) | with_reducible apply i_nil | ((with_reducible apply i_V); (focus rfl); (focus (simp (disch := ((try simp only [List.length_map, Int.toNat_natCast, List.length_append, List.length_take, List.length_drop, List.length_replicate, List.length_set, List.length_cons, List.length_nil, fillL_length]); omega)) only [push_cast, ↓reduceIte, Nat.reduceEqDiff, Nat.reduceBEq, Nat.reduceAdd, *] <;> exact rfl))) | ((with_reducible apply i_E); (focus rfl); (focus (simp (disch := ((try simp only [List.length_map, Int.toNat_natCast, List.length_append, List.length_take, List.length_drop, List.length_replicate, List.length_set, List.length_cons, List.length_nil, fillL_length]); omega)) only [push_cast, ↓reduceIte, Nat.reduceEqDiff, Nat.reduceBEq, Nat.reduceAdd, *] <;> exact rfl))) | ((with_reducible apply i_S); (focus rfl); (focus (simp (disch := ((try simp only [List.length_map, Int.toNat_natCast, List.length_append, List.length_take, List.length_drop, List.length_replicate, List.length_set, List.length_cons, List.length_nil, fillL_length]); omega)) only [push_cast, ↓reduceIte, Nat.reduceEqDiff, Nat.reduceBEq, Nat.reduceAdd, *] <;> exact rfl))) | ((with_reducible apply i_Gt); (focus (simp (disch := ((try simp only [List.length_map, Int.toNat_natCast, List.length_append, List.length_take, List.length_drop, List.length_replicate, List.length_set, List.length_cons, List.length_nil, fillL_length]); omega)) only [push_cast, ↓reduceIte, Nat.reduceEqDiff, Nat.reduceBEq, Nat.reduceAdd, *] <;> exact rfl))) | ((with_reducible apply i_Gf); (focus (simp (disch := ((try simp only [List.length_map, Int.toNat_natCast, List.length_append, List.length_take, List.length_drop, List.length_replicate, List.length_set, List.length_cons, List.length_nil, fillL_length]); omega)) only [push_cast, ↓reduceIte, Nat.reduceEqDiff, Nat.reduceBEq, Nat.reduceAdd, *] <;> exact rfl))) | ((with_reducible apply i_condT); (focus (simp (disch := ((try simp only [List.length_map, Int.toNat_natCast, List.length_append, List.length_take, List.length_drop, List.length_replicate, List.length_set, List.length_cons, List.length_nil, fillL_length]); omega)) only [push_cast, ↓reduceIte, Nat.reduceEqDiff, Nat.reduceBEq, Nat.reduceAdd, *] <;> exact rfl))) | ((with_reducible apply i_condF); (focus (simp (disch := ((try simp only [List.length_map, Int.toNat_natCast, List.length_append, List.length_take, List.length_drop, List.length_replicate, List.length_set, List.length_cons, List.length_nil, fillL_length]); omega)) only [push_cast, ↓reduceIte, Nat.reduceEqDiff, Nat.reduceBEq, Nat.reduceAdd, *] <;> exact rfl))) | ((with_reducible apply i_Gb); (focus (simp (disch := ((try simp only [List.length_map, Int.toNat_natCast, List.length_append, List.length_take, List.length_drop, List.length_replicate, List.length_set, List.length_cons, List.length_nil, fillL_length]); omega)) only [push_cast, ↓reduceIte, Nat.reduceEqDiff, Nat.reduceBEq, Nat.reduceAdd, *] <;> exact rfl)); all_goals (intro hX; (try simp only [decide_eq_true_eq, decide_eq_false_iff_not, Bool.not_eq_true', Bool.not_eq_false'] at hX); (try have hXb := inB_iff.1 hX))) | ((with_reducible apply i_cond); (focus (simp (disch := ((try simp only [List.length_map, Int.toNat_natCast, List.length_append, List.length_take, List.length_drop, List.length_replicate, List.length_set, List.length_cons, List.length_nil, fillL_length]); omega)) only [push_cast, ↓reduceIte, Nat.reduceEqDiff, Nat.reduceBEq, Nat.reduceAdd, *] <;> exact rfl)); all_goals (intro hX; (try simp only [decide_eq_true_eq, decide_eq_false_iff_not, Bool.not_eq_true', Bool.not_eq_false'] at hX); (try have hXb := inB_iff.1 hX))))
    all_goals try ((first | apply i_end | apply i_endN); simp (disch := ((try simp only [List.length_map, Int.toNat_natCast, List.length_append, List.length_take, List.length_drop, List.length_replicate, List.length_set, List.length_cons, List.length_nil, fillL_length]); omega)) only [push_cast, ↓reduceIte, Nat.reduceEqDiff, Nat.reduceBEq, Nat.reduceAdd, *])
    · rw [show allPats l = false from by (unfold allPats; rw [all_noK (d := .empty) (k := k) (by omega) (by simp_all), Bool.and_false])]
    · refine ⟨k + 1, ⟨by omega, fun j hj => ?_⟩, by dsimp only; omega, by simp only [push_cast, ↓reduceIte, Nat.reduceEqDiff, Nat.reduceBEq, Nat.reduceAdd], trivial, rfl⟩
      by_cases h1 : j < k
      · exact hok j h1
      · have : j = k := by omega
        subst this
        simp_all
    · rw [show allPats l = decide (l.length ≤ 20) from by (unfold allPats; rw [all_yesK (d := .empty) fun j hj => hok j (by omega), Bool.and_true])]
      simp
      omega
def szS (left : Int) (l : LS) : Int := if left - l.length < 0 then -1 else takeOff (left - l.length) (l.map (·.size))
theorem takeOff_le : ∀ {l : List Nat} {left : Int}, 0 ≤ left → takeOff left l ≤ left
  | [], left, h => by simp [takeOff]
  | n :: l, left, h => by
    unfold takeOff
    split
    · omega
    · rename_i h1
      have := takeOff_le (l := l) (left := left - n) (by omega)
      omega
theorem szS_le {l : LS} {left : Int} (h : 0 ≤ left) : szS left l ≤ left := by
  unfold szS
  split
  · omega
  · rename_i h1
    have := takeOff_le (l := l.map (·.size)) (left := left - l.length) (by omega)
    omega
theorem szS_ok {l : LS} {left : Int} (h : 0 ≤ szS left l) (h0 : 0 ≤ left) (h1 : left ≤ 1048576) : okSs l := by
  unfold szS at h
  split at h
  · omega
  · rename_i h2
    have h3 := takeOff_pos h (by omega)
    refine ⟨by omega, fun i => ?_⟩
    by_cases hi : i < l.length
    · have := h3 (l[i].size) (List.mem_map.2 ⟨l[i], List.getElem_mem hi, rfl⟩)
      simp only [hi, List.getElem?_eq_getElem, Option.getD_some]
      omega
    · rw [List.getElem?_eq_none (by omega)]
      simp
abbrev okSL (l : LS) : Prop := l.length ≤ 9223372036854775807 ∧ ∀ i : Nat, (l[i]?.getD .empty).size ≤ 9223372036854775807
noncomputable instance (l : LS) : Decidable (okSL l) := Classical.propDecidable _
noncomputable def φSzS : Fun := F2 dSs dI fun l left => if okSL l ∧ 0 ≤ left ∧ left ≤ 1048576 then some (iv (szS left l)) else none
theorem φSzS_ap {l : LS} {left : Int} (h : okSL l) (h0 : 0 ≤ left) (h1 : left ≤ 1048576) : φSzS [.lst false 1 (l.map fun s => .val (.string s)), .val (.int .i64 left)] = some (.val (.int .i64 (szS left l))) :=
  (F2_ap (A := dSs) (B := dI) l left).trans (if_pos ⟨h, h0, h1⟩)
set_option maxHeartbeats 4000000 in
theorem szStringS_ok : Sound Try.prog 48 φSzS := by
  refine sound_pq mixed GE_ok Try.func48 rfl 28 rfl [.tmp 4] rfl (by kernel_rfl) fun ps r hr => ?_
  obtain ⟨l, left0, rfl, hq⟩ := F2_some hr
  clear hr
  split at hq
  case isFalse => cases hq
  case isTrue hok =>
  cases hq
  obtain ⟨⟨hlen, hsz⟩, hl0, hl1⟩ := hok
  refine ⟨by simp, ?_⟩
  simp only [dIs, dUs, dSs, dI_e, dU_e, dB_e, dS_e, dFn_e, dL_e, dA2_e, dA3_e, dA4_e, dA5_e]
  repeat' (first | with_reducible apply i_seq | with_reducible apply i_block | ((with_reducible apply i_region); (focus (simp only [List.map_cons, List.map_nil] <;> exact rfl))) | with_reducible apply i_skip | with_reducible apply i_exit | with_reducible apply i_ret | with_reducible apply i_kS | with_reducible apply i_kSx | with_reducible apply i_kSr | with_reducible apply i_kL | with_reducible apply i_kLx | with_reducible apply i_kLr | with_reducible apply i_kB | with_reducible apply i_kBr | with_reducible apply i_kBs | ((with_reducible apply i_kBo); (focus rfl)) | with_reducible apply i_nil | ((with_reducible apply i_V); (focus rfl); (focus (simp (disch := ((try simp only [List.length_map, Int.toNat_natCast, List.length_append, List.length_take, List.length_drop, List.length_replicate, List.length_set, List.length_cons, List.length_nil, fillL_length]); omega)) only [push_cast, ↓reduceIte, Nat.reduceEqDiff, Nat.reduceBEq, Nat.reduceAdd, *] <;> exact rfl))) | ((with_reducible apply i_E); (focus rfl); (focus (simp (disch := ((try simp only [List.length_map, Int.toNat_natCast, List.length_append, List.length_take, List.length_drop, List.length_replicate, List.length_set, List.length_cons, List.length_nil, fillL_length]); omega)) only [push_cast, ↓reduceIte, Nat.reduceEqDiff, Nat.reduceBEq, Nat.reduceAdd, *] <;> exact rfl))) | ((with_reducible apply i_S); (focus rfl); (focus (simp (disch := ((try simp only [List.length_map, Int.toNat_natCast, List.length_append, List.length_take, List.length_drop, List.length_replicate, List.length_set, List.length_cons, List.length_nil, fillL_length]); omega)) only [push_cast, ↓reduceIte, Nat.reduceEqDiff, Nat.reduceBEq, Nat.reduceAdd, *] <;> exact rfl))) | ((with_reducible apply i_Gt); (focus (simp (disch := ((try simp only [List.length_map, Int.toNat_natCast, List.length_append, List.length_take, List.length_drop, List.length_replicate, List.length_set, List.length_cons, List.length_nil, fillL_length]); omega)) only [push_cast, ↓reduceIte, Nat.reduceEqDiff, Nat.reduceBEq, Nat.reduceAdd, *] <;> exact rfl))) | ((with_reducible apply i_Gf); (focus (simp (disch := ((try simp only [List.length_map, Int.toNat_natCast, List.length_append, List.length_take, List.length_drop, List.length_replicate, List.length_set, List.length_cons, List.length_nil, fillL_length]); omega)) only [push_cast, ↓reduceIte, Nat.reduceEqDiff, Nat.reduceBEq, Nat.reduceAdd, *] <;> exact rfl))) | ((with_reducible apply i_condT); (focus (simp (disch := ((try simp only [List.length_map, Int.toNat_natCast, List.length_append, List.length_take, List.length_drop, List.length_replicate, List.length_set, List.length_cons, List.length_nil, fillL_length]); omega)) only [push_cast, ↓reduceIte, Nat.reduceEqDiff, Nat.reduceBEq, Nat.reduceAdd, *] <;> exact rfl))) | ((with_reducible apply i_condF); (focus (simp (disch := ((try simp only [List.length_map, Int.toNat_natCast, List.length_append, List.length_take, List.length_drop, List.length_replicate, List.length_set, List.length_cons, List.length_nil, fillL_length]); omega)) only [push_cast, ↓reduceIte, Nat.reduceEqDiff, Nat.reduceBEq, Nat.reduceAdd, *] <;> exact rfl))) | ((with_reducible apply i_Gb); (focus (simp (disch := ((try simp only [List.length_map, Int.toNat_natCast, List.length_append, List.length_take, List.length_drop, List.length_replicate, List.length_set, List.length_cons, List.length_nil, fillL_length]); omega)) only [push_cast, ↓reduceIte, Nat.reduceEqDiff, Nat.reduceBEq, Nat.reduceAdd, *] <;> exact rfl)); all_goals (intro hX; (try simp only [decide_eq_true_eq, decide_eq_false_iff_not, Bool.not_eq_true', Bool.not_eq_false'] at hX); (try have hXb := inB_iff.1 hX))) | ((with_reducible apply i_cond); (focus (simp (disch := ((try simp only [List.length_map, Int.toNat_natCast, List.length_append, List.length_take, List.length_drop, List.length_replicate, List.length_set, List.length_cons, List.length_nil, fillL_length]); omega)) only [push_cast, ↓reduceIte, Nat.reduceEqDiff, Nat.reduceBEq, Nat.reduceAdd, *] <;> exact rfl)); all_goals (intro hX; (try simp only [decide_eq_true_eq, decide_eq_false_iff_not, Bool.not_eq_true', Bool.not_eq_false'] at hX); (try have hXb := inB_iff.1 hX))))
  · ((first | apply i_end | apply i_endN); simp (disch := ((try simp only [List.length_map, Int.toNat_natCast, List.length_append, List.length_take, List.length_drop, List.length_replicate, List.length_set, List.length_cons, List.length_nil, fillL_length]); omega)) only [push_cast, ↓reduceIte, Nat.reduceEqDiff, Nat.reduceBEq, Nat.reduceAdd, *])
    simp [szS, *]
  generalize hR : szS left0 l = R
  refine i_loop (α := Nat × Int) mixed (fun k => [(0, .lst false 1 (l.map fun s => .val (.string s))), (1, iv k.2), (5, iv k.1)]) (fun k => []) (fun _ => 0)
    (fun k => k.1 ≤ l.length ∧ 0 ≤ k.2 ∧ k.2 ≤ 1048576 ∧ R = takeOff k.2 ((l.drop k.1).map (·.size))) (fun k => l.length - k.1) (by kernel_rfl) (0, left0 - l.length) ⟨Nat.zero_le _, by dsimp only; omega, by dsimp only; omega, ?_⟩ ?_ trivial rfl ?_
  · subst hR
    simp [szS, *]
  · simp only [push_cast, ↓reduceIte, Nat.reduceEqDiff, Nat.reduceBEq, Nat.reduceAdd]
  · rintro ⟨k, left⟩ ⟨hk, hp0, hp1, hok⟩
    dsimp only at hk hp0 hp1 hok
    have hs := hsz k
    have h1 : k < l.length → R = if left - ((l[k]?.getD .empty).size : Int) < 0 then -1 else takeOff (left - (l[k]?.getD .empty).size) ((l.drop (k + 1)).map (·.size)) := by
      intro hkn
      have hd : l.drop k = l[k]?.getD .empty :: l.drop (k + 1) := by rw [List.drop_eq_getElem_cons hkn]; simp [hkn]
      rw [hd, List.map_cons] at hok
      exact hok
    have h2 : ¬ k < l.length → R = left := by
      intro hkn
      rw [List.drop_eq_nil_of_le (by omega)] at hok
      simpa [takeOff] using hok
    clear hsz hok hR
    have hh1 := Lib.hid h1
    have hh2 := Lib.hid h2
    clear h1 h2
    repeat' (first | with_reducible apply i_seq | with_reducible apply i_block | ((with_reducible apply i_region); (focus (simp only [List.map_cons, List.map_nil] <;> exact rfl))) | with_reducible apply i_skip | with_reducible apply i_exit | with_reducible apply i_ret | with_reducible apply i_kS | with_reducible apply i_kSx | with_reducible apply i_kSr | with_reducible apply i_kL | with_reducible apply i_kLx | with_reducible apply i_kLr | with_reducible apply i_kB | with_reducible apply i_kBr | with_reducible apply i_kBs | ((with_reducible apply i_kBo); (focus rfl)) | with_reducible apply i_nil | ((with_reducible apply i_V); (focus rfl); (focus (simp (disch := ((try simp only [List.length_map, Int.toNat_natCast, List.length_append, List.length_take, List.length_drop, List.length_replicate, List.length_set, List.length_cons, List.length_nil, fillL_length]); omega)) only [push_cast, ↓reduceIte, Nat.reduceEqDiff, Nat.reduceBEq, Nat.reduceAdd, *] <;> exact rfl))) | ((with_reducible apply i_E); (focus rfl); (focus (simp (disch := ((try simp only [List.length_map, Int.toNat_natCast, List.length_append, List.length_take, List.length_drop, List.length_replicate, List.length_set, List.length_cons, List.length_nil, fillL_length]); omega)) only [push_cast, ↓reduceIte, Nat.reduceEqDiff, Nat.reduceBEq, Nat.reduceAdd, *] <;> exact rfl))) | ((with_reducible apply i_S); (focus rfl); (focus (simp (disch := ((try simp only [List.length_map, Int.toNat_natCast, List.length_append, List.length_take, List.length_drop, List.length_replicate, List.length_set, List.length_cons, List.length_nil, fillL_length]); omega)) only [push_cast, ↓reduceIte, Nat.reduceEqDiff, Nat.reduceBEq, Nat.reduceAdd, *] <;> exact rfl))) | ((with_reducible apply i_Gt); (focus (simp (disch := ((try simp only [List.length_map, Int.toNat_natCast, List.length_append, List.length_take, List.length_drop, List.length_replicate, List.length_set, List.length_cons, List.length_nil, fillL_length]); omega)) only [push_cast, ↓reduceIte, Nat.reduceEqDiff, Nat.reduceBEq, Nat.reduceAdd, *] <;> exact rfl))) | ((with_reducible apply i_Gf); (focus (simp (disch := ((try simp only [List.length_map, Int.toNat_natCast, List.length_append, List.length_take, List.length_drop, List.length_replicate, List.length_set, List.length_cons, List.length_nil, fillL_length]); omega)) only [push_cast, ↓reduceIte, Nat.reduceEqDiff, Nat.reduceBEq, Nat.reduceAdd, *] <;> exact rfl))) | ((with_reducible apply i_condT); (focus (simp (disch := ((try simp only [List.length_map, Int.toNat_natCast, List.length_append, List.length_take, List.length_drop, List.length_replicate, List.length_set, List.length_cons, List.length_nil, fillL_length]); omega)) only [push_cast, ↓reduceIte, Nat.reduceEqDiff, Nat.reduceBEq, Nat.reduceAdd, *] <;> exact rfl))) | ((with_reducible apply i_condF); (focus (simp (disch := ((try simp only [List.length_map, Int.toNat_natCast, List.length_append, List.length_take, List.length_drop, List.length_replicate, List.length_set, List.length_cons, List.length_nil, fillL_length]); omega)) only [push_cast, ↓reduceIte, Nat.reduceEqDiff, Nat.reduceBEq, Nat.reduceAdd, *] <;> exact rfl))) | ((with_reducible apply i_Gb); (focus (simp (disch := ((try simp only [List.length_map, Int.toNat_natCast, List.length_append, List.length_take, List.length_drop, List.length_replicate, List.length_set, List.length_cons, List.length_nil, fillL_length]); omega)) only [push_cast, ↓reduceIte, Nat.reduceEqDiff, Nat.reduceBEq, Nat.reduceAdd, *] <;> exact rfl)); all_goals (intro hX; (try simp only [decide_eq_true_eq, decide_eq_false_iff_not, Bool.not_eq_true', Bool.not_eq_false'] at hX); (try have hXb := inB_iff.1 hX))) | ((with_reducible apply i_cond); (focus (simp (disch := ((try simp only [List.length_map, Int.toNat_natCast, List.length_append, List.length_take, List.length_drop, List.length_replicate, List.length_set, List.length_cons, List.length_nil, fillL_length]); omega)) only [push_cast, ↓reduceIte, Nat.reduceEqDiff, Nat.reduceBEq, Nat.reduceAdd, *] <;> exact rfl)); all_goals (intro hX; (try simp only [decide_eq_true_eq, decide_eq_false_iff_not, Bool.not_eq_true', Bool.not_eq_false'] at hX); (try have hXb := inB_iff.1 hX))))
    all_goals try ((first | apply i_end | apply i_endN); simp (disch := ((try simp only [List.length_map, Int.toNat_natCast, List.length_append, List.length_take, List.length_drop, List.length_replicate, List.length_set, List.length_cons, List.length_nil, fillL_length]); omega)) only [push_cast, ↓reduceIte, Nat.reduceEqDiff, Nat.reduceBEq, Nat.reduceAdd, *])
    · rw [hh1.out (by omega), if_pos (by assumption)]
    · have := hh1.out (by omega)
      rw [if_neg (by assumption)] at this
      exact ⟨(k + 1, left - (l[k]?.getD .empty).size), ⟨by dsimp only; omega, by dsimp only; omega, by dsimp only; omega, this⟩, by dsimp only; omega, by simp only [push_cast, ↓reduceIte, Nat.reduceEqDiff, Nat.reduceBEq, Nat.reduceAdd], trivial, rfl⟩
    · rw [hh2.out (by omega)]
def φToS : Fun := F1 dSs fun l => if l.length ≤ 1048576 then some (.lst true 1 (l.map fun s => .val (.string s))) else none
theorem φToS_ap {l : LS} (h : l.length ≤ 1048576) : φToS [.lst false 1 (l.map fun s => .val (.string s))] = some (.lst true 1 (l.map fun s => .val (.string s))) :=
  (F1_ap (A := dSs) l).trans (if_pos h)
set_option maxHeartbeats 4000000 in
theorem toStringS_ok : Sound Try.prog 52 φToS := by
  refine sound_pq mixed GE_ok Try.func52 rfl 22 rfl [.tmp 2] rfl (by kernel_rfl) fun ps r hr => ?_
  obtain ⟨l, rfl, hq⟩ := F1_some hr
  clear hr
  split at hq
  case isFalse => cases hq
  case isTrue hlen =>
  cases hq
  refine ⟨by simp, ?_⟩
  simp only [dIs, dUs, dSs, dI_e, dU_e, dB_e, dS_e, dFn_e, dL_e, dA2_e, dA3_e, dA4_e, dA5_e]
  repeat' (first | with_reducible apply i_seq | with_reducible apply i_block | ((with_reducible apply i_region); (focus (simp only [List.map_cons, List.map_nil] <;> exact rfl))) | with_reducible apply i_skip | with_reducible apply i_exit | with_reducible apply i_ret | with_reducible apply i_kS | with_reducible apply i_kSx | with_reducible apply i_kSr | with_reducible apply i_kL | with_reducible apply i_kLx | with_reducible apply i_kLr | with_reducible apply i_kB | with_reducible apply i_kBr | with_reducible apply i_kBs | ((with_reducible apply i_kBo); (focus rfl)) | with_reducible apply i_nil | ((with_reducible apply i_V); (focus rfl); (focus (simp (disch := ((try simp only [List.length_map, Int.toNat_natCast, List.length_append, List.length_take, List.length_drop, List.length_replicate, List.length_set, List.length_cons, List.length_nil, fillL_length]); omega)) only [push_cast, ↓reduceIte, Nat.reduceEqDiff, Nat.reduceBEq, Nat.reduceAdd, *] <;> exact rfl))) | ((with_reducible apply i_E); (focus rfl); (focus (simp (disch := ((try simp only [List.length_map, Int.toNat_natCast, List.length_append, List.length_take, List.length_drop, List.length_replicate, List.length_set, List.length_cons, List.length_nil, fillL_length]); omega)) only [push_cast, ↓reduceIte, Nat.reduceEqDiff, Nat.reduceBEq, Nat.reduceAdd, *] <;> exact rfl))) | ((with_reducible apply i_S); (focus rfl); (focus (simp (disch := ((try simp only [List.length_map, Int.toNat_natCast, List.length_append, List.length_take, List.length_drop, List.length_replicate, List.length_set, List.length_cons, List.length_nil, fillL_length]); omega)) only [push_cast, ↓reduceIte, Nat.reduceEqDiff, Nat.reduceBEq, Nat.reduceAdd, *] <;> exact rfl))) | ((with_reducible apply i_Gt); (focus (simp (disch := ((try simp only [List.length_map, Int.toNat_natCast, List.length_append, List.length_take, List.length_drop, List.length_replicate, List.length_set, List.length_cons, List.length_nil, fillL_length]); omega)) only [push_cast, ↓reduceIte, Nat.reduceEqDiff, Nat.reduceBEq, Nat.reduceAdd, *] <;> exact rfl))) | ((with_reducible apply i_Gf); (focus (simp (disch := ((try simp only [List.length_map, Int.toNat_natCast, List.length_append, List.length_take, List.length_drop, List.length_replicate, List.length_set, List.length_cons, List.length_nil, fillL_length]); omega)) only [push_cast, ↓reduceIte, Nat.reduceEqDiff, Nat.reduceBEq, Nat.reduceAdd, *] <;> exact rfl))) | ((with_reducible apply i_condT); (focus (simp (disch := ((try simp only [List.length_map, Int.toNat_natCast, List.length_append, List.length_take, List.length_drop, List.length_replicate, List.length_set, List.length_cons, List.length_nil, fillL_length]); omega)) only [push_cast, ↓reduceIte, Nat.reduceEqDiff, Nat.reduceBEq, Nat.reduceAdd, *] <;> exact rfl))) | ((with_reducible apply i_condF); (focus (simp (disch := ((try simp only [List.length_map, Int.toNat_natCast, List.length_append, List.length_take, List.length_drop, List.length_replicate, List.length_set, List.length_cons, List.length_nil, fillL_length]); omega)) only [push_cast, ↓reduceIte, Nat.reduceEqDiff, Nat.reduceBEq, Nat.reduceAdd, *] <;> exact rfl))) | ((with_reducible apply i_Gb); (focus (simp (disch := ((try simp only [List.length_map, Int.toNat_natCast, List.length_append, List.length_take, List.length_drop, List.length_replicate, List.length_set, List.length_cons, List.length_nil, fillL_length]); omega)) only [push_cast, ↓reduceIte, Nat.reduceEqDiff, Nat.reduceBEq, Nat.reduceAdd, *] <;> exact rfl)); all_goals (intro hX; (try simp only [decide_eq_true_eq, decide_eq_false_iff_not, Bool.not_eq_true', Bool.not_eq_false'] at hX); (try have hXb := inB_iff.1 hX))) | ((with_reducible apply i_cond); (focus (simp (disch := ((try simp only [List.length_map, Int.toNat_natCast, List.length_append, List.length_take, List.length_drop, List.length_replicate, List.length_set, List.length_cons, List.length_nil, fillL_length]); omega)) only [push_cast, ↓reduceIte, Nat.reduceEqDiff, Nat.reduceBEq, Nat.reduceAdd, *] <;> exact rfl)); all_goals (intro hX; (try simp only [decide_eq_true_eq, decide_eq_false_iff_not, Bool.not_eq_true', Bool.not_eq_false'] at hX); (try have hXb := inB_iff.1 hX))))
  refine i_loop (α := Nat) mixed (fun k => [(0, .lst false 1 (l.map fun s => .val (.string s))), (3, .row 0 1 0 l.length), (4, iv k)]) (fun k => [(0, 9, 1, (fillZ l .empty k).map fun s => .val (.string s))]) (fun _ => 1)
    (fun k => k ≤ l.length) (fun k => l.length - k) (by kernel_rfl) 0 (Nat.zero_le _) ?_ ?_ ?_ ?_
  · simp only [push_cast, ↓reduceIte, Nat.reduceEqDiff, Nat.reduceBEq, Nat.reduceAdd]
  · simp only [push_cast, ↓reduceIte, Nat.reduceEqDiff, Nat.reduceBEq, Nat.reduceAdd, fillZ_zero, List.map_replicate]
  · simp only [push_cast, ↓reduceIte, Nat.reduceEqDiff, Nat.reduceBEq, Nat.reduceAdd]
  · intro k hk
    have hfl : (fillZ l .empty k).length = l.length := fillZ_length
    repeat' (first | with_reducible apply i_seq | with_reducible apply i_block | ((with_reducible apply i_region); (focus (simp only [List.map_cons, List.map_nil] <;> exact rfl))) | with_reducible apply i_skip | with_reducible apply i_exit | with_reducible apply i_ret | with_reducible apply i_kS | with_reducible apply i_kSx | with_reducible apply i_kSr | with_reducible apply i_kL | with_reducible apply i_kLx | with_reducible apply i_kLr | with_reducible apply i_kB | with_reducible apply i_kBr | with_reducible apply i_kBs | ((with_reducible apply i_kBo); (focus rfl)) | with_reducible apply i_nil | ((with_reducible apply i_V); (focus rfl); (focus (simp (disch := ((try simp only [List.length_map, Int.toNat_natCast, List.length_append, List.length_take, List.length_drop, List.length_replicate, List.length_set, List.length_cons, List.length_nil, fillL_length]); omega)) only [push_cast, ↓reduceIte, Nat.reduceEqDiff, Nat.reduceBEq, Nat.reduceAdd, *] <;> exact rfl))) | ((with_reducible apply i_E); (focus rfl); (focus (simp (disch := ((try simp only [List.length_map, Int.toNat_natCast, List.length_append, List.length_take, List.length_drop, List.length_replicate, List.length_set, List.length_cons, List.length_nil, fillL_length]); omega)) only [push_cast, ↓reduceIte, Nat.reduceEqDiff, Nat.reduceBEq, Nat.reduceAdd, *] <;> exact rfl))) | ((with_reducible apply i_S); (focus rfl); (focus (simp (disch := ((try simp only [List.length_map, Int.toNat_natCast, List.length_append, List.length_take, List.length_drop, List.length_replicate, List.length_set, List.length_cons, List.length_nil, fillL_length]); omega)) only [push_cast, ↓reduceIte, Nat.reduceEqDiff, Nat.reduceBEq, Nat.reduceAdd, *] <;> exact rfl))) | ((with_reducible apply i_Gt); (focus (simp (disch := ((try simp only [List.length_map, Int.toNat_natCast, List.length_append, List.length_take, List.length_drop, List.length_replicate, List.length_set, List.length_cons, List.length_nil, fillL_length]); omega)) only [push_cast, ↓reduceIte, Nat.reduceEqDiff, Nat.reduceBEq, Nat.reduceAdd, *] <;> exact rfl))) | ((with_reducible apply i_Gf); (focus (simp (disch := ((try simp only [List.length_map, Int.toNat_natCast, List.length_append, List.length_take, List.length_drop, List.length_replicate, List.length_set, List.length_cons, List.length_nil, fillL_length]); omega)) only [push_cast, ↓reduceIte, Nat.reduceEqDiff, Nat.reduceBEq, Nat.reduceAdd, *] <;> exact rfl))) | ((with_reducible apply i_condT); (focus (simp (disch := ((try simp only [List.length_map, Int.toNat_natCast, List.length_append, List.length_take, List.length_drop, List.length_replicate, List.length_set, List.length_cons, List.length_nil, fillL_length]); omega)) only [push_cast, ↓reduceIte, Nat.reduceEqDiff, Nat.reduceBEq, Nat.reduceAdd, *] <;> exact rfl))) | ((with_reducible apply i_condF); (focus (simp (disch := ((try simp only [List.length_map, Int.toNat_natCast, List.length_append, List.length_take, List.length_drop, List.length_replicate, List.length_set, List.length_cons, List.length_nil, fillL_length]); omega)) only [push_cast, ↓reduceIte, Nat.reduceEqDiff, Nat.reduceBEq, Nat.reduceAdd, *] <;> exact rfl))) | ((with_reducible apply i_Gb); (focus (simp (disch := ((try simp only [List.length_map, Int.toNat_natCast, List.length_append, List.length_take, List.length_drop, List.length_replicate, List.length_set, List.length_cons, List.length_nil, fillL_length]); omega)) only [push_cast, ↓reduceIte, Nat.reduceEqDiff, Nat.reduceBEq, Nat.reduceAdd, *] <;> exact rfl)); all_goals (intro hX; (try simp only [decide_eq_true_eq, decide_eq_false_iff_not, Bool.not_eq_true', Bool.not_eq_false'] at hX); (try have hXb := inB_iff.1 hX))) | ((with_reducible apply i_cond); (focus (simp (disch := ((try simp only [List.length_map, Int.toNat_natCast, List.length_append, List.length_take, List.length_drop, List.length_replicate, List.length_set, List.length_cons, List.length_nil, fillL_length]); omega)) only [push_cast, ↓reduceIte, Nat.reduceEqDiff, Nat.reduceBEq, Nat.reduceAdd, *] <;> exact rfl)); all_goals (intro hX; (try simp only [decide_eq_true_eq, decide_eq_false_iff_not, Bool.not_eq_true', Bool.not_eq_false'] at hX); (try have hXb := inB_iff.1 hX))))
    all_goals try ((first | apply i_end | apply i_endN); simp (disch := ((try simp only [List.length_map, Int.toNat_natCast, List.length_append, List.length_take, List.length_drop, List.length_replicate, List.length_set, List.length_cons, List.length_nil, fillL_length]); omega)) only [push_cast, ↓reduceIte, Nat.reduceEqDiff, Nat.reduceBEq, Nat.reduceAdd, *])
    · refine ⟨k + 1, by omega, by dsimp only; omega, by simp only [push_cast, ↓reduceIte, Nat.reduceEqDiff, Nat.reduceBEq, Nat.reduceAdd], ?_, rfl⟩
      simp only [push_cast, ↓reduceIte, Nat.reduceEqDiff, Nat.reduceBEq, Nat.reduceAdd]
      have h : k < l.length := by omega
      rw [← fillZ_set (y := l[k]?.getD .empty) h (by simp [h])]
    · rw [fillZ_full (by omega)]
def φToSS : Fun := F1 dSS fun l => if l.length ≤ 1048576 ∧ l.all (fun p => decide (p.length ≤ 1048576)) = true then some (.lst true 1 (l.map fun p => .lst true 1 (p.map fun s => .val (.string s)))) else none
theorem φToSS_ap {l : List LS} (h : l.length ≤ 1048576) (h2 : l.all (fun p => decide (p.length ≤ 1048576)) = true) : φToSS [.lst false 1 (l.map fun p => .lst false 1 (p.map fun s => .val (.string s)))] = some (.lst true 1 (l.map fun p => .lst true 1 (p.map fun s => .val (.string s)))) :=
  (F1_ap (A := dSS) l).trans (if_pos ⟨h, h2⟩)
noncomputable def GTs : Nat -> Option Fun := fun f => if f = 52 then some φToS else none
theorem GTs_ok : SoundΓ Try.prog GTs := fun f φ h => by
  unfold GTs at h
  split at h
  · rename_i hf; cases h; subst hf; exact ⟨⟨_, Try.func52, rfl, rfl⟩, toStringS_ok⟩
  cases h
theorem GTs_52 (ob : Objs) (ps : List PV) : evCall GTs ob 52 ps = (ps.mapM (reify false 0 ob fuel)).bind φToS := by
  have h : GTs 52 = some φToS := by simp [GTs]
  unfold evCall
  rw [h]
  cases ps.mapM (reify false 0 ob fuel) <;> rfl
set_option maxHeartbeats 4000000 in
theorem toStringSS_ok : Sound Try.prog 51 φToSS := by
  refine sound_pq mixed GTs_ok Try.func51 rfl 23 rfl [.tmp 2] rfl (by kernel_rfl) fun ps r hr => ?_
  obtain ⟨l, rfl, hq⟩ := F1_some hr
  clear hr
  split at hq
  case isFalse => cases hq
  case isTrue hlen =>
  cases hq
  obtain ⟨hlen, hall⟩ := hlen
  have hat : ∀ k, (l[k]?.getD []).length ≤ 1048576 := fun k => by
    by_cases h : k < l.length
    · have := List.all_eq_true.1 hall _ (List.getElem_mem h)
      rw [List.getElem?_eq_getElem h, Option.getD_some]
      exact of_decide_eq_true this
    · rw [List.getElem?_eq_none (by omega)]
      exact Nat.zero_le _
  clear hall
  refine ⟨by simp, ?_⟩
  simp only [dIs, dUs, dSs, dI_e, dU_e, dB_e, dS_e, dFn_e, dL_e, dA2_e, dA3_e, dA4_e, dA5_e]
  have gts_c52 := GTs_52
  repeat' (first | with_reducible apply i_seq | with_reducible apply i_block | ((with_reducible apply i_region); (focus (simp only [List.map_cons, List.map_nil] <;> exact rfl))) | with_reducible apply i_skip | with_reducible apply i_exit | with_reducible apply i_ret | with_reducible apply i_kS | with_reducible apply i_kSx | with_reducible apply i_kSr | with_reducible apply i_kL | with_reducible apply i_kLx | with_reducible apply i_kLr | with_reducible apply i_kB | with_reducible apply i_kBr | with_reducible apply i_kBs | ((with_reducible apply i_kBo); (focus rfl)) | with_reducible apply i_nil | ((with_reducible apply i_V); (focus rfl); (focus (simp (disch := ((try simp only [List.length_map, Int.toNat_natCast, List.length_append, List.length_take, List.length_drop, List.length_replicate, List.length_set, List.length_cons, List.length_nil, fillL_length]); omega)) only [push_cast, ↓reduceIte, Nat.reduceEqDiff, Nat.reduceBEq, Nat.reduceAdd, *] <;> exact rfl))) | ((with_reducible apply i_E); (focus rfl); (focus (simp (disch := ((try simp only [List.length_map, Int.toNat_natCast, List.length_append, List.length_take, List.length_drop, List.length_replicate, List.length_set, List.length_cons, List.length_nil, fillL_length]); omega)) only [push_cast, ↓reduceIte, Nat.reduceEqDiff, Nat.reduceBEq, Nat.reduceAdd, *] <;> exact rfl))) | ((with_reducible apply i_S); (focus rfl); (focus (simp (disch := ((try simp only [List.length_map, Int.toNat_natCast, List.length_append, List.length_take, List.length_drop, List.length_replicate, List.length_set, List.length_cons, List.length_nil, fillL_length]); omega)) only [push_cast, ↓reduceIte, Nat.reduceEqDiff, Nat.reduceBEq, Nat.reduceAdd, *] <;> exact rfl))) | ((with_reducible apply i_Gt); (focus (simp (disch := ((try simp only [List.length_map, Int.toNat_natCast, List.length_append, List.length_take, List.length_drop, List.length_replicate, List.length_set, List.length_cons, List.length_nil, fillL_length]); omega)) only [push_cast, ↓reduceIte, Nat.reduceEqDiff, Nat.reduceBEq, Nat.reduceAdd, *] <;> exact rfl))) | ((with_reducible apply i_Gf); (focus (simp (disch := ((try simp only [List.length_map, Int.toNat_natCast, List.length_append, List.length_take, List.length_drop, List.length_replicate, List.length_set, List.length_cons, List.length_nil, fillL_length]); omega)) only [push_cast, ↓reduceIte, Nat.reduceEqDiff, Nat.reduceBEq, Nat.reduceAdd, *] <;> exact rfl))) | ((with_reducible apply i_condT); (focus (simp (disch := ((try simp only [List.length_map, Int.toNat_natCast, List.length_append, List.length_take, List.length_drop, List.length_replicate, List.length_set, List.length_cons, List.length_nil, fillL_length]); omega)) only [push_cast, ↓reduceIte, Nat.reduceEqDiff, Nat.reduceBEq, Nat.reduceAdd, *] <;> exact rfl))) | ((with_reducible apply i_condF); (focus (simp (disch := ((try simp only [List.length_map, Int.toNat_natCast, List.length_append, List.length_take, List.length_drop, List.length_replicate, List.length_set, List.length_cons, List.length_nil, fillL_length]); omega)) only [push_cast, ↓reduceIte, Nat.reduceEqDiff, Nat.reduceBEq, Nat.reduceAdd, *] <;> exact rfl))) | ((with_reducible apply i_Gb); (focus (simp (disch := ((try simp only [List.length_map, Int.toNat_natCast, List.length_append, List.length_take, List.length_drop, List.length_replicate, List.length_set, List.length_cons, List.length_nil, fillL_length]); omega)) only [push_cast, ↓reduceIte, Nat.reduceEqDiff, Nat.reduceBEq, Nat.reduceAdd, *] <;> exact rfl)); all_goals (intro hX; (try simp only [decide_eq_true_eq, decide_eq_false_iff_not, Bool.not_eq_true', Bool.not_eq_false'] at hX); (try have hXb := inB_iff.1 hX))) | ((with_reducible apply i_cond); (focus (simp (disch := ((try simp only [List.length_map, Int.toNat_natCast, List.length_append, List.length_take, List.length_drop, List.length_replicate, List.length_set, List.length_cons, List.length_nil, fillL_length]); omega)) only [push_cast, ↓reduceIte, Nat.reduceEqDiff, Nat.reduceBEq, Nat.reduceAdd, *] <;> exact rfl)); all_goals (intro hX; (try simp only [decide_eq_true_eq, decide_eq_false_iff_not, Bool.not_eq_true', Bool.not_eq_false'] at hX); (try have hXb := inB_iff.1 hX))))
  refine i_loop (α := Nat) mixed (fun k => [(0, .lst false 1 (l.map fun p => .lst false 1 (p.map fun s => .val (.string s)))), (3, .row 0 1 0 l.length), (4, iv k)]) (fun k => [(0, 41, 1, fillZ (l.map fun p => .lst true 1 (p.map fun s => .val (.string s))) (.val (.slice none 0 0)) k)]) (fun _ => 1)
    (fun k => k ≤ l.length) (fun k => l.length - k) (by kernel_rfl) 0 (Nat.zero_le _) ?_ ?_ ?_ ?_
  · simp only [push_cast, ↓reduceIte, Nat.reduceEqDiff, Nat.reduceBEq, Nat.reduceAdd]
  · simp only [push_cast, ↓reduceIte, Nat.reduceEqDiff, Nat.reduceBEq, Nat.reduceAdd, fillZ_zero]
  · simp only [push_cast, ↓reduceIte, Nat.reduceEqDiff, Nat.reduceBEq, Nat.reduceAdd]
  · intro k hk
    have ap := φToS_ap (hat k)
    clear hat
    have hfl : (fillZ (l.map fun p => PV.lst true 1 (p.map fun s => .val (.string s))) (.val (.slice none 0 0)) k).length = l.length := by rw [fillZ_length, List.length_map]
    repeat' (first | with_reducible apply i_seq | with_reducible apply i_block | ((with_reducible apply i_region); (focus (simp only [List.map_cons, List.map_nil] <;> exact rfl))) | with_reducible apply i_skip | with_reducible apply i_exit | with_reducible apply i_ret | with_reducible apply i_kS | with_reducible apply i_kSx | with_reducible apply i_kSr | with_reducible apply i_kL | with_reducible apply i_kLx | with_reducible apply i_kLr | with_reducible apply i_kB | with_reducible apply i_kBr | with_reducible apply i_kBs | ((with_reducible apply i_kBo); (focus rfl)) | with_reducible apply i_nil | ((with_reducible apply i_V); (focus rfl); (focus (simp (disch := ((try simp only [List.length_map, Int.toNat_natCast, List.length_append, List.length_take, List.length_drop, List.length_replicate, List.length_set, List.length_cons, List.length_nil, fillL_length]); omega)) only [push_cast, ↓reduceIte, Nat.reduceEqDiff, Nat.reduceBEq, Nat.reduceAdd, *] <;> exact rfl))) | ((with_reducible apply i_E); (focus rfl); (focus (simp (disch := ((try simp only [List.length_map, Int.toNat_natCast, List.length_append, List.length_take, List.length_drop, List.length_replicate, List.length_set, List.length_cons, List.length_nil, fillL_length]); omega)) only [push_cast, ↓reduceIte, Nat.reduceEqDiff, Nat.reduceBEq, Nat.reduceAdd, *] <;> exact rfl))) | ((with_reducible apply i_S); (focus rfl); (focus (simp (disch := ((try simp only [List.length_map, Int.toNat_natCast, List.length_append, List.length_take, List.length_drop, List.length_replicate, List.length_set, List.length_cons, List.length_nil, fillL_length]); omega)) only [push_cast, ↓reduceIte, Nat.reduceEqDiff, Nat.reduceBEq, Nat.reduceAdd, *] <;> exact rfl))) | ((with_reducible apply i_Gt); (focus (simp (disch := ((try simp only [List.length_map, Int.toNat_natCast, List.length_append, List.length_take, List.length_drop, List.length_replicate, List.length_set, List.length_cons, List.length_nil, fillL_length]); omega)) only [push_cast, ↓reduceIte, Nat.reduceEqDiff, Nat.reduceBEq, Nat.reduceAdd, *] <;> exact rfl))) | ((with_reducible apply i_Gf); (focus (simp (disch := ((try simp only [List.length_map, Int.toNat_natCast, List.length_append, List.length_take, List.length_drop, List.length_replicate, List.length_set, List.length_cons, List.length_nil, fillL_length]); omega)) only [push_cast, ↓reduceIte, Nat.reduceEqDiff, Nat.reduceBEq, Nat.reduceAdd, *] <;> exact rfl))) | ((with_reducible apply i_condT); (focus (simp (disch := ((try simp only [List.length_map, Int.toNat_natCast, List.length_append, List.length_take, List.length_drop, List.length_replicate, List.length_set, List.length_cons, List.length_nil, fillL_length]); omega)) only [push_cast, ↓reduceIte, Nat.reduceEqDiff, Nat.reduceBEq, Nat.reduceAdd, *] <;> exact rfl))) | ((with_reducible apply i_condF); (focus (simp (disch := ((try simp only [List.length_map, Int.toNat_natCast, List.length_append, List.length_take, List.length_drop, List.length_replicate, List.length_set, List.length_cons, List.length_nil, fillL_length]); omega)) only [push_cast, ↓reduceIte, Nat.reduceEqDiff, Nat.reduceBEq, Nat.reduceAdd, *] <;> exact rfl))) | ((with_reducible apply i_Gb); (focus (simp (disch := ((try simp only [List.length_map, Int.toNat_natCast, List.length_append, List.length_take, List.length_drop, List.length_replicate, List.length_set, List.length_cons, List.length_nil, fillL_length]); omega)) only [push_cast, ↓reduceIte, Nat.reduceEqDiff, Nat.reduceBEq, Nat.reduceAdd, *] <;> exact rfl)); all_goals (intro hX; (try simp only [decide_eq_true_eq, decide_eq_false_iff_not, Bool.not_eq_true', Bool.not_eq_false'] at hX); (try have hXb := inB_iff.1 hX))) | ((with_reducible apply i_cond); (focus (simp (disch := ((try simp only [List.length_map, Int.toNat_natCast, List.length_append, List.length_take, List.length_drop, List.length_replicate, List.length_set, List.length_cons, List.length_nil, fillL_length]); omega)) only [push_cast, ↓reduceIte, Nat.reduceEqDiff, Nat.reduceBEq, Nat.reduceAdd, *] <;> exact rfl)); all_goals (intro hX; (try simp only [decide_eq_true_eq, decide_eq_false_iff_not, Bool.not_eq_true', Bool.not_eq_false'] at hX); (try have hXb := inB_iff.1 hX))))
    all_goals try ((first | apply i_end | apply i_endN); simp (disch := ((try simp only [List.length_map, Int.toNat_natCast, List.length_append, List.length_take, List.length_drop, List.length_replicate, List.length_set, List.length_cons, List.length_nil, fillL_length]); omega)) only [push_cast, ↓reduceIte, Nat.reduceEqDiff, Nat.reduceBEq, Nat.reduceAdd, *])
    · refine ⟨k + 1, by omega, by dsimp only; omega, by simp only [push_cast, ↓reduceIte, Nat.reduceEqDiff, Nat.reduceBEq, Nat.reduceAdd], ?_, rfl⟩
      simp only [push_cast, ↓reduceIte, Nat.reduceEqDiff, Nat.reduceBEq, Nat.reduceAdd]
      have h : k < l.length := by omega
      rw [← fillZ_set (y := PV.lst true 1 ((l[k]?.getD []).map fun s => .val (.string s))) (by simpa using h) (by simp [h])]
    · rw [fillZ_full (by simp; omega), rowRe_lsts rfl]
def φEqS : Fun := F2 dSs dSs fun a b => if a.length ≤ 1048576 ∧ b.length ≤ 1048576 then some (bv (decide (a = b))) else none
theorem φEqS_ap {a b : LS} (h : a.length ≤ 1048576) (h2 : b.length ≤ 1048576) : φEqS [.lst false 1 (a.map fun s => .val (.string s)), .lst false 1 (b.map fun s => .val (.string s))] = some (.val (.bool (decide (a = b)))) :=
  (F2_ap (A := dSs) (B := dSs) a b).trans (if_pos ⟨h, h2⟩)
set_option maxHeartbeats 4000000 in
theorem eqStringS_ok : Sound Try.prog 56 φEqS := by
  refine sound_pq mixed GE_ok Try.func56 rfl 26 rfl [.tmp 4] rfl (by kernel_rfl) fun ps r hr => ?_
  obtain ⟨xs, ys, rfl, hq⟩ := F2_some hr
  clear hr
  split at hq
  case isFalse => cases hq
  case isTrue hlen =>
  cases hq
  obtain ⟨hl1, hl2⟩ := hlen
  refine ⟨by simp, ?_⟩
  simp only [dIs, dUs, dSs, dI_e, dU_e, dB_e, dS_e, dFn_e, dL_e, dA2_e, dA3_e, dA4_e, dA5_e]
  repeat' (first | with_reducible apply i_seq | with_reducible apply i_block | ((with_reducible apply i_region); (focus (simp only [List.map_cons, List.map_nil] <;> exact rfl))) | with_reducible apply i_skip | with_reducible apply i_exit | with_reducible apply i_ret | with_reducible apply i_kS | with_reducible apply i_kSx | with_reducible apply i_kSr | with_reducible apply i_kL | with_reducible apply i_kLx | with_reducible apply i_kLr | with_reducible apply i_kB | with_reducible apply i_kBr | with_reducible apply i_kBs | ((with_reducible apply i_kBo); (focus rfl)) | with_reducible apply i_nil | ((with_reducible apply i_V); (focus rfl); (focus (simp (disch := ((try simp only [List.length_map, Int.toNat_natCast, List.length_append, List.length_take, List.length_drop, List.length_replicate, List.length_set, List.length_cons, List.length_nil, fillL_length]); omega)) only [push_cast, ↓reduceIte, Nat.reduceEqDiff, Nat.reduceBEq, Nat.reduceAdd, *] <;> exact rfl))) | ((with_reducible apply i_E); (focus rfl); (focus (simp (disch := ((try simp only [List.length_map, Int.toNat_natCast, List.length_append, List.length_take, List.length_drop, List.length_replicate, List.length_set, List.length_cons, List.length_nil, fillL_length]); omega)) only [push_cast, ↓reduceIte, Nat.reduceEqDiff, Nat.reduceBEq, Nat.reduceAdd, *] <;> exact rfl))) | ((with_reducible apply i_S); (focus rfl); (focus (simp (disch := ((try simp only [List.length_map, Int.toNat_natCast, List.length_append, List.length_take, List.length_drop, List.length_replicate, List.length_set, List.length_cons, List.length_nil, fillL_length]); omega)) only [push_cast, ↓reduceIte, Nat.reduceEqDiff, Nat.reduceBEq, Nat.reduceAdd, *] <;> exact rfl))) | ((with_reducible apply i_Gt); (focus (simp (disch := ((try simp only [List.length_map, Int.toNat_natCast, List.length_append, List.length_take, List.length_drop, List.length_replicate, List.length_set, List.length_cons, List.length_nil, fillL_length]); omega)) only [push_cast, ↓reduceIte, Nat.reduceEqDiff, Nat.reduceBEq, Nat.reduceAdd, *] <;> exact rfl))) | ((with_reducible apply i_Gf); (focus (simp (disch := ((try simp only [List.length_map, Int.toNat_natCast, List.length_append, List.length_take, List.length_drop, List.length_replicate, List.length_set, List.length_cons, List.length_nil, fillL_length]); omega)) only [push_cast, ↓reduceIte, Nat.reduceEqDiff, Nat.reduceBEq, Nat.reduceAdd, *] <;> exact rfl))) | ((with_reducible apply i_condT); (focus (simp (disch := ((try simp only [List.length_map, Int.toNat_natCast, List.length_append, List.length_take, List.length_drop, List.length_replicate, List.length_set, List.length_cons, List.length_nil, fillL_length]); omega)) only [push_cast, ↓reduceIte, Nat.reduceEqDiff, Nat.reduceBEq, Nat.reduceAdd, *] <;> exact rfl))) | ((with_reducible apply i_condF); (focus (simp (disch := ((try simp only [List.length_map, Int.toNat_natCast, List.length_append, List.length_take, List.length_drop, List.length_replicate, List.length_set, List.length_cons, List.length_nil, fillL_length]); omega)) only [push_cast, ↓reduceIte, Nat.reduceEqDiff, Nat.reduceBEq, Nat.reduceAdd, *] <;> exact rfl))) | ((with_reducible apply i_Gb); (focus (simp (disch := ((try simp only [List.length_map, Int.toNat_natCast, List.length_append, List.length_take, List.length_drop, List.length_replicate, List.length_set, List.length_cons, List.length_nil, fillL_length]); omega)) only [push_cast, ↓reduceIte, Nat.reduceEqDiff, Nat.reduceBEq, Nat.reduceAdd, *] <;> exact rfl)); all_goals (intro hX; (try simp only [decide_eq_true_eq, decide_eq_false_iff_not, Bool.not_eq_true', Bool.not_eq_false'] at hX); (try have hXb := inB_iff.1 hX))) | ((with_reducible apply i_cond); (focus (simp (disch := ((try simp only [List.length_map, Int.toNat_natCast, List.length_append, List.length_take, List.length_drop, List.length_replicate, List.length_set, List.length_cons, List.length_nil, fillL_length]); omega)) only [push_cast, ↓reduceIte, Nat.reduceEqDiff, Nat.reduceBEq, Nat.reduceAdd, *] <;> exact rfl)); all_goals (intro hX; (try simp only [decide_eq_true_eq, decide_eq_false_iff_not, Bool.not_eq_true', Bool.not_eq_false'] at hX); (try have hXb := inB_iff.1 hX))))
  · ((first | apply i_end | apply i_endN); simp (disch := ((try simp only [List.length_map, Int.toNat_natCast, List.length_append, List.length_take, List.length_drop, List.length_replicate, List.length_set, List.length_cons, List.length_nil, fillL_length]); omega)) only [push_cast, ↓reduceIte, Nat.reduceEqDiff, Nat.reduceBEq, Nat.reduceAdd, *])
    have : ¬ xs = ys := fun h => by subst h; simp_all
    simp [this]
  refine i_loop (α := Nat) mixed (fun k => [(0, .lst false 1 (xs.map fun s => .val (.string s))), (1, .lst false 1 (ys.map fun s => .val (.string s))), (5, iv k)]) (fun k => []) (fun _ => 0)
    (fun k => k ≤ xs.length ∧ ∀ j, j < k → xs[j]?.getD .empty = ys[j]?.getD .empty) (fun k => xs.length - k) (by kernel_rfl) 0 ⟨Nat.zero_le _, fun j hj => by omega⟩ ?_ trivial rfl ?_
  · simp only [push_cast, ↓reduceIte, Nat.reduceEqDiff, Nat.reduceBEq, Nat.reduceAdd]
  · intro k ⟨hk, hok⟩
    repeat' (first | with_reducible apply i_seq | with_reducible apply i_block | ((with_reducible apply i_region); (focus (simp only [List.map_cons, List.map_nil] <;> exact rfl))) | with_reducible apply i_skip | with_reducible apply i_exit | with_reducible apply i_ret | with_reducible apply i_kS | with_reducible apply i_kSx | with_reducible apply i_kSr | with_reducible apply i_kL | with_reducible apply i_kLx | with_reducible apply i_kLr | with_reducible apply i_kB | with_reducible apply i_kBr | with_reducible apply i_kBs | ((with_reducible apply i_kBo); (focus rfl)) | with_reducible apply i_nil | ((with_reducible apply i_V); (focus rfl); (focus (simp (disch := ((try simp only [List.length_map, Int.toNat_natCast, List.length_append, List.length_take, List.length_drop, List.length_replicate, List.length_set, List.length_cons, List.length_nil, fillL_length]); omega)) only [push_cast, ↓reduceIte, Nat.reduceEqDiff, Nat.reduceBEq, Nat.reduceAdd, *] <;> exact rfl))) | ((with_reducible apply i_E); (focus rfl); (focus (simp (disch := ((try simp only [List.length_map, Int.toNat_natCast, List.length_append, List.length_take, List.length_drop, List.length_replicate, List.length_set, List.length_cons, List.length_nil, fillL_length]); omega)) only [push_cast, ↓reduceIte, Nat.reduceEqDiff, Nat.reduceBEq, Nat.reduceAdd, *] <;> exact rfl))) | ((with_reducible apply i_S); (focus rfl); (focus (simp (disch := ((try simp only [List.length_map, Int.toNat_natCast, List.length_append, List.length_take, List.length_drop, List.length_replicate, List.length_set, List.length_cons, List.length_nil, fillL_length]); omega)) only [push_cast, ↓reduceIte, Nat.reduceEqDiff, Nat.reduceBEq, Nat.reduceAdd, *] <;> exact rfl))) | ((with_reducible apply i_Gt); (focus (simp (disch := ((try simp only [List.length_map, Int.toNat_natCast, List.length_append, List.length_take, List.length_drop, List.length_replicate, List.length_set, List.length_cons, List.length_nil, fillL_length]); omega)) only [push_cast, ↓reduceIte, Nat.reduceEqDiff, Nat.reduceBEq, Nat.reduceAdd, *] <;> exact rfl))) | ((with_reducible apply i_Gf); (focus (simp (disch := ((try simp only [List.length_map, Int.toNat_natCast, List.length_append, List.length_take, List.length_drop, List.length_replicate, List.length_set, List.length_cons, List.length_nil, fillL_length]); omega)) only [push_cast, ↓reduceIte, Nat.reduceEqDiff, Nat.reduceBEq, Nat.reduceAdd, *] <;> exact rfl))) | ((with_reducible apply i_condT); (focus (simp (disch := ((try simp only [List.length_map, Int.toNat_natCast, List.length_append, List.length_take, List.length_drop, List.length_replicate, List.length_set, List.length_cons, List.length_nil, fillL_length]); omega)) only [push_cast, ↓reduceIte, Nat.reduceEqDiff, Nat.reduceBEq, Nat.reduceAdd, *] <;> exact rfl))) | ((with_reducible apply i_condF); (focus (simp (disch := ((try simp only [List.length_map, Int.toNat_natCast, List.length_append, List.length_take, List.length_drop, List.length_replicate, List.length_set, List.length_cons, List.length_nil, fillL_length]); omega)) only [push_cast, ↓reduceIte, Nat.reduceEqDiff, Nat.reduceBEq, Nat.reduceAdd, *] <;> exact rfl))) | ((with_reducible apply i_Gb); (focus (simp (disch := ((try simp only [List.length_map, Int.toNat_natCast, List.length_append, List.length_take, List.length_drop, List.length_replicate, List.length_set, List.length_cons, List.length_nil, fillL_length]); omega)) only [push_cast, ↓reduceIte, Nat.reduceEqDiff, Nat.reduceBEq, Nat.reduceAdd, *] <;> exact rfl)); all_goals (intro hX; (try simp only [decide_eq_true_eq, decide_eq_false_iff_not, Bool.not_eq_true', Bool.not_eq_false'] at hX); (try have hXb := inB_iff.1 hX))) | ((with_reducible apply i_cond); (focus (simp (disch := ((try simp only [List.length_map, Int.toNat_natCast, List.length_append, List.length_take, List.length_drop, List.length_replicate, List.length_set, List.length_cons, List.length_nil, fillL_length]); omega)) only [push_cast, ↓reduceIte, Nat.reduceEqDiff, Nat.reduceBEq, Nat.reduceAdd, *] <;> exact rfl)); all_goals (intro hX; (try simp only [decide_eq_true_eq, decide_eq_false_iff_not, Bool.not_eq_true', Bool.not_eq_false'] at hX); (try have hXb := inB_iff.1 hX))))
    all_goals try ((first | apply i_end | apply i_endN); simp (disch := ((try simp only [List.length_map, Int.toNat_natCast, List.length_append, List.length_take, List.length_drop, List.length_replicate, List.length_set, List.length_cons, List.length_nil, fillL_length]); omega)) only [push_cast, ↓reduceIte, Nat.reduceEqDiff, Nat.reduceBEq, Nat.reduceAdd, *])
    · have : ¬ xs = ys := fun h => by subst h; simp_all
      simp [this]
    · refine ⟨k + 1, ⟨by omega, fun j hj => ?_⟩, by dsimp only; omega, by simp only [push_cast, ↓reduceIte, Nat.reduceEqDiff, Nat.reduceBEq, Nat.reduceAdd], trivial, rfl⟩
      by_cases h1 : j < k
      · exact hok j h1
      · have : j = k := by omega
        subst this
        assumption
    · have : xs = ys := eq_of_getDK (d := .empty) (by omega) fun j hj => hok j (by omega)
      simp [this]
def φEqSS : Fun := F2 dSS dSS fun a b => if a = b ∧ a.length ≤ 1048576 ∧ a.all (fun p => decide (p.length ≤ 1048576)) = true then some (bv true) else none
theorem φEqSS_ap {a : List LS} (h : a.length ≤ 1048576) (h2 : a.all (fun p => decide (p.length ≤ 1048576)) = true) : φEqSS [(.lst false 1 (a.map fun p => .lst false 1 (p.map fun s => .val (.string s)))), (.lst false 1 (a.map fun p => .lst false 1 (p.map fun s => .val (.string s))))] = some (.val (.bool true)) :=
  (F2_ap (A := dSS) (B := dSS) a a).trans (if_pos ⟨rfl, h, h2⟩)
noncomputable def GEs : Nat -> Option Fun := fun f => if f = 56 then some φEqS else none
theorem GEs_ok : SoundΓ Try.prog GEs := fun f φ h => by
  unfold GEs at h
  split at h
  · rename_i hf; cases h; subst hf; exact ⟨⟨_, Try.func56, rfl, rfl⟩, eqStringS_ok⟩
  cases h
theorem GEs_56 (ob : Objs) (ps : List PV) : evCall GEs ob 56 ps = (ps.mapM (reify false 0 ob fuel)).bind φEqS := by
  have h : GEs 56 = some φEqS := by simp [GEs]
  unfold evCall
  rw [h]
  cases ps.mapM (reify false 0 ob fuel) <;> rfl
set_option maxHeartbeats 4000000 in
theorem eqStringSS_ok : Sound Try.prog 55 φEqSS := by
  refine sound_pq mixed GEs_ok Try.func55 rfl 27 rfl [.tmp 4] rfl (by kernel_rfl) fun ps r hr => ?_
  obtain ⟨l, ys, rfl, hq⟩ := F2_some hr
  clear hr
  split at hq
  case isFalse => cases hq
  case isTrue hlen =>
  cases hq
  obtain ⟨rfl, hlen, hall⟩ := hlen
  have hat : ∀ k, (l[k]?.getD []).length ≤ 1048576 := fun k => by
    by_cases h : k < l.length
    · have := List.all_eq_true.1 hall _ (List.getElem_mem h)
      rw [List.getElem?_eq_getElem h, Option.getD_some]
      exact of_decide_eq_true this
    · rw [List.getElem?_eq_none (by omega)]
      exact Nat.zero_le _
  clear hall
  refine ⟨by simp, ?_⟩
  simp only [dIs, dUs, dSs, dI_e, dU_e, dB_e, dS_e, dFn_e, dL_e, dA2_e, dA3_e, dA4_e, dA5_e]
  have ges_c56 := GEs_56
  repeat' (first | with_reducible apply i_seq | with_reducible apply i_block | ((with_reducible apply i_region); (focus (simp only [List.map_cons, List.map_nil] <;> exact rfl))) | with_reducible apply i_skip | with_reducible apply i_exit | with_reducible apply i_ret | with_reducible apply i_kS | with_reducible apply i_kSx | with_reducible apply i_kSr | with_reducible apply i_kL | with_reducible apply i_kLx | with_reducible apply i_kLr | with_reducible apply i_kB | with_reducible apply i_kBr | with_reducible apply i_kBs | ((with_reducible apply i_kBo); (focus rfl)) | with_reducible apply i_nil | ((with_reducible apply i_V); (focus rfl); (focus (simp (disch := ((try simp only [List.length_map, Int.toNat_natCast, List.length_append, List.length_take, List.length_drop, List.length_replicate, List.length_set, List.length_cons, List.length_nil, fillL_length]); omega)) only [push_cast, ↓reduceIte, Nat.reduceEqDiff, Nat.reduceBEq, Nat.reduceAdd, *] <;> exact rfl))) | ((with_reducible apply i_E); (focus rfl); (focus (simp (disch := ((try simp only [List.length_map, Int.toNat_natCast, List.length_append, List.length_take, List.length_drop, List.length_replicate, List.length_set, List.length_cons, List.length_nil, fillL_length]); omega)) only [push_cast, ↓reduceIte, Nat.reduceEqDiff, Nat.reduceBEq, Nat.reduceAdd, *] <;> exact rfl))) | ((with_reducible apply i_S); (focus rfl); (focus (simp (disch := ((try simp only [List.length_map, Int.toNat_natCast, List.length_append, List.length_take, List.length_drop, List.length_replicate, List.length_set, List.length_cons, List.length_nil, fillL_length]); omega)) only [push_cast, ↓reduceIte, Nat.reduceEqDiff, Nat.reduceBEq, Nat.reduceAdd, *] <;> exact rfl))) | ((with_reducible apply i_Gt); (focus (simp (disch := ((try simp only [List.length_map, Int.toNat_natCast, List.length_append, List.length_take, List.length_drop, List.length_replicate, List.length_set, List.length_cons, List.length_nil, fillL_length]); omega)) only [push_cast, ↓reduceIte, Nat.reduceEqDiff, Nat.reduceBEq, Nat.reduceAdd, *] <;> exact rfl))) | ((with_reducible apply i_Gf); (focus (simp (disch := ((try simp only [List.length_map, Int.toNat_natCast, List.length_append, List.length_take, List.length_drop, List.length_replicate, List.length_set, List.length_cons, List.length_nil, fillL_length]); omega)) only [push_cast, ↓reduceIte, Nat.reduceEqDiff, Nat.reduceBEq, Nat.reduceAdd, *] <;> exact rfl))) | ((with_reducible apply i_condT); (focus (simp (disch := ((try simp only [List.length_map, Int.toNat_natCast, List.length_append, List.length_take, List.length_drop, List.length_replicate, List.length_set, List.length_cons, List.length_nil, fillL_length]); omega)) only [push_cast, ↓reduceIte, Nat.reduceEqDiff, Nat.reduceBEq, Nat.reduceAdd, *] <;> exact rfl))) | ((with_reducible apply i_condF); (focus (simp (disch := ((try simp only [List.length_map, Int.toNat_natCast, List.length_append, List.length_take, List.length_drop, List.length_replicate, List.length_set, List.length_cons, List.length_nil, fillL_length]); omega)) only [push_cast, ↓reduceIte, Nat.reduceEqDiff, Nat.reduceBEq, Nat.reduceAdd, *] <;> exact rfl))) | ((with_reducible apply i_Gb); (focus (simp (disch := ((try simp only [List.length_map, Int.toNat_natCast, List.length_append, List.length_take, List.length_drop, List.length_replicate, List.length_set, List.length_cons, List.length_nil, fillL_length]); omega)) only [push_cast, ↓reduceIte, Nat.reduceEqDiff, Nat.reduceBEq, Nat.reduceAdd, *] <;> exact rfl)); all_goals (intro hX; (try simp only [decide_eq_true_eq, decide_eq_false_iff_not, Bool.not_eq_true', Bool.not_eq_false'] at hX); (try have hXb := inB_iff.1 hX))) | ((with_reducible apply i_cond); (focus (simp (disch := ((try simp only [List.length_map, Int.toNat_natCast, List.length_append, List.length_take, List.length_drop, List.length_replicate, List.length_set, List.length_cons, List.length_nil, fillL_length]); omega)) only [push_cast, ↓reduceIte, Nat.reduceEqDiff, Nat.reduceBEq, Nat.reduceAdd, *] <;> exact rfl)); all_goals (intro hX; (try simp only [decide_eq_true_eq, decide_eq_false_iff_not, Bool.not_eq_true', Bool.not_eq_false'] at hX); (try have hXb := inB_iff.1 hX))))
  refine i_loop (α := Nat) mixed (fun k => [(0, .lst false 1 (l.map fun p => .lst false 1 (p.map fun s => .val (.string s)))), (1, .lst false 1 (l.map fun p => .lst false 1 (p.map fun s => .val (.string s)))), (5, iv k)]) (fun k => []) (fun _ => 0)
    (fun k => k ≤ l.length) (fun k => l.length - k) (by kernel_rfl) 0 (Nat.zero_le _) ?_ trivial rfl ?_
  · simp only [push_cast, ↓reduceIte, Nat.reduceEqDiff, Nat.reduceBEq, Nat.reduceAdd]
  · intro k hk
    have ap := φEqS_ap (hat k) (hat k)
    rw [decide_eq_true rfl] at ap
    clear hat
    repeat' (first | with_reducible apply i_seq | with_reducible apply i_block | ((with_reducible apply i_region); (focus (simp only [List.map_cons, List.map_nil] <;> exact rfl))) | with_reducible apply i_skip | with_reducible apply i_exit | with_reducible apply i_ret | with_reducible apply i_kS | with_reducible apply i_kSx | with_reducible apply i_kSr | with_reducible apply i_kL | with_reducible apply i_kLx | with_reducible apply i_kLr | with_reducible apply i_kB | with_reducible apply i_kBr | with_reducible apply i_kBs | ((with_reducible apply i_kBo); (focus rfl)) | with_reducible apply i_nil | ((with_reducible apply i_V); (focus rfl); (focus (simp (disch := ((try simp only [List.length_map, Int.toNat_natCast, List.length_append, List.length_take, List.length_drop, List.length_replicate, List.length_set, List.length_cons, List.length_nil, fillL_length]); omega)) only [push_cast, ↓reduceIte, Nat.reduceEqDiff, Nat.reduceBEq, Nat.reduceAdd, *] <;> exact rfl))) | ((with_reducible apply i_E); (focus rfl); (focus (simp (disch := ((try simp only [List.length_map, Int.toNat_natCast, List.length_append, List.length_take, List.length_drop, List.length_replicate, List.length_set, List.length_cons, List.length_nil, fillL_length]); omega)) only [push_cast, ↓reduceIte, Nat.reduceEqDiff, Nat.reduceBEq, Nat.reduceAdd, *] <;> exact rfl))) | ((with_reducible apply i_S); (focus rfl); (focus (simp (disch := ((try simp only [List.length_map, Int.toNat_natCast, List.length_append, List.length_take, List.length_drop, List.length_replicate, List.length_set, List.length_cons, List.length_nil, fillL_length]); omega)) only [push_cast, ↓reduceIte, Nat.reduceEqDiff, Nat.reduceBEq, Nat.reduceAdd, *] <;> exact rfl))) | ((with_reducible apply i_Gt); (focus (simp (disch := ((try simp only [List.length_map, Int.toNat_natCast, List.length_append, List.length_take, List.length_drop, List.length_replicate, List.length_set, List.length_cons, List.length_nil, fillL_length]); omega)) only [push_cast, ↓reduceIte, Nat.reduceEqDiff, Nat.reduceBEq, Nat.reduceAdd, *] <;> exact rfl))) | ((with_reducible apply i_Gf); (focus (simp (disch := ((try simp only [List.length_map, Int.toNat_natCast, List.length_append, List.length_take, List.length_drop, List.length_replicate, List.length_set, List.length_cons, List.length_nil, fillL_length]); omega)) only [push_cast, ↓reduceIte, Nat.reduceEqDiff, Nat.reduceBEq, Nat.reduceAdd, *] <;> exact rfl))) | ((with_reducible apply i_condT); (focus (simp (disch := ((try simp only [List.length_map, Int.toNat_natCast, List.length_append, List.length_take, List.length_drop, List.length_replicate, List.length_set, List.length_cons, List.length_nil, fillL_length]); omega)) only [push_cast, ↓reduceIte, Nat.reduceEqDiff, Nat.reduceBEq, Nat.reduceAdd, *] <;> exact rfl))) | ((with_reducible apply i_condF); (focus (simp (disch := ((try simp only [List.length_map, Int.toNat_natCast, List.length_append, List.length_take, List.length_drop, List.length_replicate, List.length_set, List.length_cons, List.length_nil, fillL_length]); omega)) only [push_cast, ↓reduceIte, Nat.reduceEqDiff, Nat.reduceBEq, Nat.reduceAdd, *] <;> exact rfl))) | ((with_reducible apply i_Gb); (focus (simp (disch := ((try simp only [List.length_map, Int.toNat_natCast, List.length_append, List.length_take, List.length_drop, List.length_replicate, List.length_set, List.length_cons, List.length_nil, fillL_length]); omega)) only [push_cast, ↓reduceIte, Nat.reduceEqDiff, Nat.reduceBEq, Nat.reduceAdd, *] <;> exact rfl)); all_goals (intro hX; (try simp only [decide_eq_true_eq, decide_eq_false_iff_not, Bool.not_eq_true', Bool.not_eq_false'] at hX); (try have hXb := inB_iff.1 hX))) | ((with_reducible apply i_cond); (focus (simp (disch := ((try simp only [List.length_map, Int.toNat_natCast, List.length_append, List.length_take, List.length_drop, List.length_replicate, List.length_set, List.length_cons, List.length_nil, fillL_length]); omega)) only [push_cast, ↓reduceIte, Nat.reduceEqDiff, Nat.reduceBEq, Nat.reduceAdd, *] <;> exact rfl)); all_goals (intro hX; (try simp only [decide_eq_true_eq, decide_eq_false_iff_not, Bool.not_eq_true', Bool.not_eq_false'] at hX); (try have hXb := inB_iff.1 hX))))
    all_goals try ((first | apply i_end | apply i_endN); simp (disch := ((try simp only [List.length_map, Int.toNat_natCast, List.length_append, List.length_take, List.length_drop, List.length_replicate, List.length_set, List.length_cons, List.length_nil, fillL_length]); omega)) only [push_cast, ↓reduceIte, Nat.reduceEqDiff, Nat.reduceBEq, Nat.reduceAdd, *])
    all_goals try (exfalso; omega)
    all_goals exact ⟨k + 1, by omega, by dsimp only; omega, by simp only [push_cast, ↓reduceIte, Nat.reduceEqDiff, Nat.reduceBEq, Nat.reduceAdd], trivial, rfl⟩
/-- A book's fields. -/
abbrev BK := List LS × LS × Int × Int × Int
abbrev dBook : Dec BK := dA5 dSS dSs dI dI dI
abbrev shortSS (l : List LS) : Prop := l.length ≤ 1048576 ∧ l.all (fun p => decide (p.length ≤ 1048576)) = true
def φToBook : Fun := F1 dBook fun b => if shortSS b.1 ∧ b.2.1.length ≤ 1048576 then some (.agg [.lst true 1 (b.1.map fun p => .lst true 1 (p.map fun s => .val (.string s))), .lst true 1 (b.2.1.map fun s => .val (.string s)), .val (.int .i64 b.2.2.1), .val (.int .i64 b.2.2.2.1), .val (.int .i64 b.2.2.2.2)]) else none
theorem φToBook_ap {p : List LS} {q : LS} {x y z : Int} (h : shortSS p) (h2 : q.length ≤ 1048576) : φToBook [.agg [.lst false 1 (p.map fun p => .lst false 1 (p.map fun s => .val (.string s))), .lst false 1 (q.map fun s => .val (.string s)), .val (.int .i64 x), .val (.int .i64 y), .val (.int .i64 z)]] = some (.agg [.lst true 1 (p.map fun p => .lst true 1 (p.map fun s => .val (.string s))), .lst true 1 (q.map fun s => .val (.string s)), .val (.int .i64 x), .val (.int .i64 y), .val (.int .i64 z)]) :=
  (F1_ap (A := dBook) (p, q, x, y, z)).trans (if_pos ⟨h, h2⟩)
noncomputable def GTk : Nat -> Option Fun := fun f => if f = 51 then some φToSS else if f = 52 then some φToS else none
theorem GTk_ok : SoundΓ Try.prog GTk := fun f φ h => by
  unfold GTk at h
  split at h
  · rename_i hf; cases h; subst hf; exact ⟨⟨_, Try.func51, rfl, rfl⟩, toStringSS_ok⟩
  split at h
  · rename_i hf; cases h; subst hf; exact ⟨⟨_, Try.func52, rfl, rfl⟩, toStringS_ok⟩
  cases h
theorem GTk_51 (ob : Objs) (ps : List PV) : evCall GTk ob 51 ps = (ps.mapM (reify false 0 ob fuel)).bind φToSS := by
  have h : GTk 51 = some φToSS := by simp [GTk]
  unfold evCall
  rw [h]
  cases ps.mapM (reify false 0 ob fuel) <;> rfl
theorem GTk_52 (ob : Objs) (ps : List PV) : evCall GTk ob 52 ps = (ps.mapM (reify false 0 ob fuel)).bind φToS := by
  have h : GTk 52 = some φToS := by simp [GTk]
  unfold evCall
  rw [h]
  cases ps.mapM (reify false 0 ob fuel) <;> rfl
set_option maxHeartbeats 4000000 in
theorem toBook_ok : Sound Try.prog 26 φToBook := by
  refine sound_pq mixed GTk_ok Try.func26 rfl 22 rfl [.cell 2 46] rfl (by kernel_rfl) fun ps r hr => ?_
  obtain ⟨⟨p, q, x, y, z⟩, rfl, hq⟩ := F1_some hr
  clear hr
  split at hq
  case isFalse => cases hq
  case isTrue hlen =>
  cases hq
  dsimp only at hlen
  have ap := φToSS_ap hlen.1.1 hlen.1.2
  have ap2 := φToS_ap hlen.2
  clear hlen
  refine ⟨by simp, ?_⟩
  simp only [dIs, dUs, dSs, dI_e, dU_e, dB_e, dS_e, dFn_e, dL_e, dA2_e, dA3_e, dA4_e, dA5_e]
  have gtk_c51 := GTk_51; have gtk_c52 := GTk_52
  repeat' (first | with_reducible apply i_seq | with_reducible apply i_block | ((with_reducible apply i_region); (focus (simp only [List.map_cons, List.map_nil] <;> exact rfl))) | with_reducible apply i_skip | with_reducible apply i_exit | with_reducible apply i_ret | with_reducible apply i_kS | with_reducible apply i_kSx | with_reducible apply i_kSr | with_reducible apply i_kL | with_reducible apply i_kLx | with_reducible apply i_kLr | with_reducible apply i_kB | with_reducible apply i_kBr | with_reducible apply i_kBs | ((with_reducible apply i_kBo); (focus rfl)) | with_reducible apply i_nil | ((with_reducible apply i_V); (focus rfl); (focus (simp (disch := ((try simp only [List.length_map, Int.toNat_natCast, List.length_append, List.length_take, List.length_drop, List.length_replicate, List.length_set, List.length_cons, List.length_nil, fillL_length]); omega)) only [push_cast, ↓reduceIte, Nat.reduceEqDiff, Nat.reduceBEq, Nat.reduceAdd, *] <;> exact rfl))) | ((with_reducible apply i_E); (focus rfl); (focus (simp (disch := ((try simp only [List.length_map, Int.toNat_natCast, List.length_append, List.length_take, List.length_drop, List.length_replicate, List.length_set, List.length_cons, List.length_nil, fillL_length]); omega)) only [push_cast, ↓reduceIte, Nat.reduceEqDiff, Nat.reduceBEq, Nat.reduceAdd, *] <;> exact rfl))) | ((with_reducible apply i_S); (focus rfl); (focus (simp (disch := ((try simp only [List.length_map, Int.toNat_natCast, List.length_append, List.length_take, List.length_drop, List.length_replicate, List.length_set, List.length_cons, List.length_nil, fillL_length]); omega)) only [push_cast, ↓reduceIte, Nat.reduceEqDiff, Nat.reduceBEq, Nat.reduceAdd, *] <;> exact rfl))) | ((with_reducible apply i_Gt); (focus (simp (disch := ((try simp only [List.length_map, Int.toNat_natCast, List.length_append, List.length_take, List.length_drop, List.length_replicate, List.length_set, List.length_cons, List.length_nil, fillL_length]); omega)) only [push_cast, ↓reduceIte, Nat.reduceEqDiff, Nat.reduceBEq, Nat.reduceAdd, *] <;> exact rfl))) | ((with_reducible apply i_Gf); (focus (simp (disch := ((try simp only [List.length_map, Int.toNat_natCast, List.length_append, List.length_take, List.length_drop, List.length_replicate, List.length_set, List.length_cons, List.length_nil, fillL_length]); omega)) only [push_cast, ↓reduceIte, Nat.reduceEqDiff, Nat.reduceBEq, Nat.reduceAdd, *] <;> exact rfl))) | ((with_reducible apply i_condT); (focus (simp (disch := ((try simp only [List.length_map, Int.toNat_natCast, List.length_append, List.length_take, List.length_drop, List.length_replicate, List.length_set, List.length_cons, List.length_nil, fillL_length]); omega)) only [push_cast, ↓reduceIte, Nat.reduceEqDiff, Nat.reduceBEq, Nat.reduceAdd, *] <;> exact rfl))) | ((with_reducible apply i_condF); (focus (simp (disch := ((try simp only [List.length_map, Int.toNat_natCast, List.length_append, List.length_take, List.length_drop, List.length_replicate, List.length_set, List.length_cons, List.length_nil, fillL_length]); omega)) only [push_cast, ↓reduceIte, Nat.reduceEqDiff, Nat.reduceBEq, Nat.reduceAdd, *] <;> exact rfl))) | ((with_reducible apply i_Gb); (focus (simp (disch := ((try simp only [List.length_map, Int.toNat_natCast, List.length_append, List.length_take, List.length_drop, List.length_replicate, List.length_set, List.length_cons, List.length_nil, fillL_length]); omega)) only [push_cast, ↓reduceIte, Nat.reduceEqDiff, Nat.reduceBEq, Nat.reduceAdd, *] <;> exact rfl)); all_goals (intro hX; (try simp only [decide_eq_true_eq, decide_eq_false_iff_not, Bool.not_eq_true', Bool.not_eq_false'] at hX); (try have hXb := inB_iff.1 hX))) | ((with_reducible apply i_cond); (focus (simp (disch := ((try simp only [List.length_map, Int.toNat_natCast, List.length_append, List.length_take, List.length_drop, List.length_replicate, List.length_set, List.length_cons, List.length_nil, fillL_length]); omega)) only [push_cast, ↓reduceIte, Nat.reduceEqDiff, Nat.reduceBEq, Nat.reduceAdd, *] <;> exact rfl)); all_goals (intro hX; (try simp only [decide_eq_true_eq, decide_eq_false_iff_not, Bool.not_eq_true', Bool.not_eq_false'] at hX); (try have hXb := inB_iff.1 hX))))
  all_goals ((first | apply i_end | apply i_endN); simp (disch := ((try simp only [List.length_map, Int.toNat_natCast, List.length_append, List.length_take, List.length_drop, List.length_replicate, List.length_set, List.length_cons, List.length_nil, fillL_length]); omega)) only [push_cast, ↓reduceIte, Nat.reduceEqDiff, Nat.reduceBEq, Nat.reduceAdd, *])
def φEqBook : Fun := F2 dBook dBook fun a b => if a = b ∧ shortSS a.1 ∧ a.2.1.length ≤ 1048576 then some (bv true) else none
theorem φEqBook_ap {p : List LS} {q : LS} {x y z : Int} (h : shortSS p) (h2 : q.length ≤ 1048576) : φEqBook [.agg [.lst false 1 (p.map fun p => .lst false 1 (p.map fun s => .val (.string s))), .lst false 1 (q.map fun s => .val (.string s)), .val (.int .i64 x), .val (.int .i64 y), .val (.int .i64 z)], .agg [.lst false 1 (p.map fun p => .lst false 1 (p.map fun s => .val (.string s))), .lst false 1 (q.map fun s => .val (.string s)), .val (.int .i64 x), .val (.int .i64 y), .val (.int .i64 z)]] = some (.val (.bool true)) :=
  (F2_ap (A := dBook) (B := dBook) (p, q, x, y, z) (p, q, x, y, z)).trans (if_pos ⟨rfl, h, h2⟩)
noncomputable def GEk : Nat -> Option Fun := fun f => if f = 55 then some φEqSS else if f = 56 then some φEqS else none
theorem GEk_ok : SoundΓ Try.prog GEk := fun f φ h => by
  unfold GEk at h
  split at h
  · rename_i hf; cases h; subst hf; exact ⟨⟨_, Try.func55, rfl, rfl⟩, eqStringSS_ok⟩
  split at h
  · rename_i hf; cases h; subst hf; exact ⟨⟨_, Try.func56, rfl, rfl⟩, eqStringS_ok⟩
  cases h
theorem GEk_55 (ob : Objs) (ps : List PV) : evCall GEk ob 55 ps = (ps.mapM (reify false 0 ob fuel)).bind φEqSS := by
  have h : GEk 55 = some φEqSS := by simp [GEk]
  unfold evCall
  rw [h]
  cases ps.mapM (reify false 0 ob fuel) <;> rfl
theorem GEk_56 (ob : Objs) (ps : List PV) : evCall GEk ob 56 ps = (ps.mapM (reify false 0 ob fuel)).bind φEqS := by
  have h : GEk 56 = some φEqS := by simp [GEk]
  unfold evCall
  rw [h]
  cases ps.mapM (reify false 0 ob fuel) <;> rfl
set_option maxHeartbeats 4000000 in
theorem eqBook_ok : Sound Try.prog 28 φEqBook := by
  refine sound_pq mixed GEk_ok Try.func28 rfl 32 rfl [.tmp 4] rfl (by kernel_rfl) fun ps r hr => ?_
  obtain ⟨⟨p, q, x, y, z⟩, b, rfl, hq⟩ := F2_some hr
  clear hr
  split at hq
  case isFalse => cases hq
  case isTrue hlen =>
  cases hq
  obtain ⟨rfl, hlen⟩ := hlen
  dsimp only at hlen
  have ap := φEqSS_ap hlen.1.1 hlen.1.2
  have ap2 := φEqS_ap hlen.2 hlen.2
  rw [decide_eq_true rfl] at ap2
  clear hlen
  refine ⟨by simp, ?_⟩
  simp only [dIs, dUs, dSs, dI_e, dU_e, dB_e, dS_e, dFn_e, dL_e, dA2_e, dA3_e, dA4_e, dA5_e]
  have gek_c55 := GEk_55; have gek_c56 := GEk_56
  repeat' (first | with_reducible apply i_seq | with_reducible apply i_block | ((with_reducible apply i_region); (focus (simp only [List.map_cons, List.map_nil] <;> exact rfl))) | with_reducible apply i_skip | with_reducible apply i_exit | with_reducible apply i_ret | with_reducible apply i_kS | with_reducible apply i_kSx | with_reducible apply i_kSr | with_reducible apply i_kL | with_reducible apply i_kLx | with_reducible apply i_kLr | with_reducible apply i_kB | with_reducible apply i_kBr | with_reducible apply i_kBs | ((with_reducible apply i_kBo); (focus rfl)) | with_reducible apply i_nil | ((with_reducible apply i_V); (focus rfl); (focus (simp (disch := ((try simp only [List.length_map, Int.toNat_natCast, List.length_append, List.length_take, List.length_drop, List.length_replicate, List.length_set, List.length_cons, List.length_nil, fillL_length]); omega)) only [push_cast, ↓reduceIte, Nat.reduceEqDiff, Nat.reduceBEq, Nat.reduceAdd, *] <;> exact rfl))) | ((with_reducible apply i_E); (focus rfl); (focus (simp (disch := ((try simp only [List.length_map, Int.toNat_natCast, List.length_append, List.length_take, List.length_drop, List.length_replicate, List.length_set, List.length_cons, List.length_nil, fillL_length]); omega)) only [push_cast, ↓reduceIte, Nat.reduceEqDiff, Nat.reduceBEq, Nat.reduceAdd, *] <;> exact rfl))) | ((with_reducible apply i_S); (focus rfl); (focus (simp (disch := ((try simp only [List.length_map, Int.toNat_natCast, List.length_append, List.length_take, List.length_drop, List.length_replicate, List.length_set, List.length_cons, List.length_nil, fillL_length]); omega)) only [push_cast, ↓reduceIte, Nat.reduceEqDiff, Nat.reduceBEq, Nat.reduceAdd, *] <;> exact rfl))) | ((with_reducible apply i_Gt); (focus (simp (disch := ((try simp only [List.length_map, Int.toNat_natCast, List.length_append, List.length_take, List.length_drop, List.length_replicate, List.length_set, List.length_cons, List.length_nil, fillL_length]); omega)) only [push_cast, ↓reduceIte, Nat.reduceEqDiff, Nat.reduceBEq, Nat.reduceAdd, *] <;> exact rfl))) | ((with_reducible apply i_Gf); (focus (simp (disch := ((try simp only [List.length_map, Int.toNat_natCast, List.length_append, List.length_take, List.length_drop, List.length_replicate, List.length_set, List.length_cons, List.length_nil, fillL_length]); omega)) only [push_cast, ↓reduceIte, Nat.reduceEqDiff, Nat.reduceBEq, Nat.reduceAdd, *] <;> exact rfl))) | ((with_reducible apply i_condT); (focus (simp (disch := ((try simp only [List.length_map, Int.toNat_natCast, List.length_append, List.length_take, List.length_drop, List.length_replicate, List.length_set, List.length_cons, List.length_nil, fillL_length]); omega)) only [push_cast, ↓reduceIte, Nat.reduceEqDiff, Nat.reduceBEq, Nat.reduceAdd, *] <;> exact rfl))) | ((with_reducible apply i_condF); (focus (simp (disch := ((try simp only [List.length_map, Int.toNat_natCast, List.length_append, List.length_take, List.length_drop, List.length_replicate, List.length_set, List.length_cons, List.length_nil, fillL_length]); omega)) only [push_cast, ↓reduceIte, Nat.reduceEqDiff, Nat.reduceBEq, Nat.reduceAdd, *] <;> exact rfl))) | ((with_reducible apply i_Gb); (focus (simp (disch := ((try simp only [List.length_map, Int.toNat_natCast, List.length_append, List.length_take, List.length_drop, List.length_replicate, List.length_set, List.length_cons, List.length_nil, fillL_length]); omega)) only [push_cast, ↓reduceIte, Nat.reduceEqDiff, Nat.reduceBEq, Nat.reduceAdd, *] <;> exact rfl)); all_goals (intro hX; (try simp only [decide_eq_true_eq, decide_eq_false_iff_not, Bool.not_eq_true', Bool.not_eq_false'] at hX); (try have hXb := inB_iff.1 hX))) | ((with_reducible apply i_cond); (focus (simp (disch := ((try simp only [List.length_map, Int.toNat_natCast, List.length_append, List.length_take, List.length_drop, List.length_replicate, List.length_set, List.length_cons, List.length_nil, fillL_length]); omega)) only [push_cast, ↓reduceIte, Nat.reduceEqDiff, Nat.reduceBEq, Nat.reduceAdd, *] <;> exact rfl)); all_goals (intro hX; (try simp only [decide_eq_true_eq, decide_eq_false_iff_not, Bool.not_eq_true', Bool.not_eq_false'] at hX); (try have hXb := inB_iff.1 hX))))
  all_goals ((first | apply i_end | apply i_endN); simp (disch := ((try simp only [List.length_map, Int.toNat_natCast, List.length_append, List.length_take, List.length_drop, List.length_replicate, List.length_set, List.length_cons, List.length_nil, fillL_length]); omega)) only [push_cast, ↓reduceIte, Nat.reduceEqDiff, Nat.reduceBEq, Nat.reduceAdd, *])
def takeS : Int → List LS → Int
  | left, [] => left
  | left, p :: t => if szS left p < 0 then -1 else takeS (szS left p) t
def szSS (left : Int) (l : List LS) : Int := if left - l.length < 0 then -1 else takeS (left - l.length) l
theorem takeS_le : ∀ {l : List LS} {left : Int}, 0 ≤ left → takeS left l ≤ left
  | [], left, h => by simp [takeS]
  | p :: l, left, h => by
    unfold takeS
    split
    · omega
    · rename_i h1
      have := takeS_le (l := l) (left := szS left p) (by omega)
      have := szS_le (l := p) h
      omega
theorem takeS_ok : ∀ {l : List LS} {left : Int}, 0 ≤ takeS left l → 0 ≤ left → left ≤ 1048576 → ∀ p ∈ l, okSs p
  | [], left, h, h0, h1, p, hp => by simp at hp
  | q :: l, left, h, h0, h1, p, hp => by
    unfold takeS at h
    split at h
    · omega
    · rename_i h2
      rcases List.mem_cons.1 hp with rfl | h3
      · exact szS_ok (by omega) h0 h1
      · have := szS_le (l := q) h0
        exact takeS_ok h (by omega) (by omega) p h3
abbrev okSSL (l : List LS) : Prop := l.length ≤ 9223372036854775807 ∧ ∀ i : Nat, okSL (l[i]?.getD [])
noncomputable instance (l : List LS) : Decidable (okSSL l) := Classical.propDecidable _
noncomputable def φSzSS : Fun := F2 dSS dI fun l left => if okSSL l ∧ left = 1048576 then some (iv (szSS left l)) else none
theorem φSzSS_ap {l : List LS} (h : okSSL l) : φSzSS [.lst false 1 (l.map fun p => .lst false 1 (p.map fun s => .val (.string s))), .val (.int .i64 1048576)] = some (.val (.int .i64 (szSS 1048576 l))) :=
  (F2_ap (A := dSS) (B := dI) l 1048576).trans (if_pos ⟨h, rfl⟩)
noncomputable def GSs : Nat -> Option Fun := fun f => if f = 48 then some φSzS else none
theorem GSs_ok : SoundΓ Try.prog GSs := fun f φ h => by
  unfold GSs at h
  split at h
  · rename_i hf; cases h; subst hf; exact ⟨⟨_, Try.func48, rfl, rfl⟩, szStringS_ok⟩
  cases h
theorem GSs_48 (ob : Objs) (ps : List PV) : evCall GSs ob 48 ps = (ps.mapM (reify false 0 ob fuel)).bind φSzS := by
  have h : GSs 48 = some φSzS := by simp [GSs]
  unfold evCall
  rw [h]
  cases ps.mapM (reify false 0 ob fuel) <;> rfl
set_option maxHeartbeats 4000000 in
theorem szStringSS_ok : Sound Try.prog 47 φSzSS := by
  refine sound_pq mixed GSs_ok Try.func47 rfl 27 rfl [.tmp 4] rfl (by kernel_rfl) fun ps r hr => ?_
  obtain ⟨l, left0, rfl, hq⟩ := F2_some hr
  clear hr
  split at hq
  case isFalse => cases hq
  case isTrue hok =>
  cases hq
  obtain ⟨⟨hlen, hsz⟩, rfl⟩ := hok
  refine ⟨by simp, ?_⟩
  simp only [dIs, dUs, dSs, dI_e, dU_e, dB_e, dS_e, dFn_e, dL_e, dA2_e, dA3_e, dA4_e, dA5_e]
  have gss_c48 := GSs_48
  repeat' (first | with_reducible apply i_seq | with_reducible apply i_block | ((with_reducible apply i_region); (focus (simp only [List.map_cons, List.map_nil] <;> exact rfl))) | with_reducible apply i_skip | with_reducible apply i_exit | with_reducible apply i_ret | with_reducible apply i_kS | with_reducible apply i_kSx | with_reducible apply i_kSr | with_reducible apply i_kL | with_reducible apply i_kLx | with_reducible apply i_kLr | with_reducible apply i_kB | with_reducible apply i_kBr | with_reducible apply i_kBs | ((with_reducible apply i_kBo); (focus rfl)) | with_reducible apply i_nil | ((with_reducible apply i_V); (focus rfl); (focus (simp (disch := ((try simp only [List.length_map, Int.toNat_natCast, List.length_append, List.length_take, List.length_drop, List.length_replicate, List.length_set, List.length_cons, List.length_nil, fillL_length]); omega)) only [push_cast, ↓reduceIte, Nat.reduceEqDiff, Nat.reduceBEq, Nat.reduceAdd, *] <;> exact rfl))) | ((with_reducible apply i_E); (focus rfl); (focus (simp (disch := ((try simp only [List.length_map, Int.toNat_natCast, List.length_append, List.length_take, List.length_drop, List.length_replicate, List.length_set, List.length_cons, List.length_nil, fillL_length]); omega)) only [push_cast, ↓reduceIte, Nat.reduceEqDiff, Nat.reduceBEq, Nat.reduceAdd, *] <;> exact rfl))) | ((with_reducible apply i_S); (focus rfl); (focus (simp (disch := ((try simp only [List.length_map, Int.toNat_natCast, List.length_append, List.length_take, List.length_drop, List.length_replicate, List.length_set, List.length_cons, List.length_nil, fillL_length]); omega)) only [push_cast, ↓reduceIte, Nat.reduceEqDiff, Nat.reduceBEq, Nat.reduceAdd, *] <;> exact rfl))) | ((with_reducible apply i_Gt); (focus (simp (disch := ((try simp only [List.length_map, Int.toNat_natCast, List.length_append, List.length_take, List.length_drop, List.length_replicate, List.length_set, List.length_cons, List.length_nil, fillL_length]); omega)) only [push_cast, ↓reduceIte, Nat.reduceEqDiff, Nat.reduceBEq, Nat.reduceAdd, *] <;> exact rfl))) | ((with_reducible apply i_Gf); (focus (simp (disch := ((try simp only [List.length_map, Int.toNat_natCast, List.length_append, List.length_take, List.length_drop, List.length_replicate, List.length_set, List.length_cons, List.length_nil, fillL_length]); omega)) only [push_cast, ↓reduceIte, Nat.reduceEqDiff, Nat.reduceBEq, Nat.reduceAdd, *] <;> exact rfl))) | ((with_reducible apply i_condT); (focus (simp (disch := ((try simp only [List.length_map, Int.toNat_natCast, List.length_append, List.length_take, List.length_drop, List.length_replicate, List.length_set, List.length_cons, List.length_nil, fillL_length]); omega)) only [push_cast, ↓reduceIte, Nat.reduceEqDiff, Nat.reduceBEq, Nat.reduceAdd, *] <;> exact rfl))) | ((with_reducible apply i_condF); (focus (simp (disch := ((try simp only [List.length_map, Int.toNat_natCast, List.length_append, List.length_take, List.length_drop, List.length_replicate, List.length_set, List.length_cons, List.length_nil, fillL_length]); omega)) only [push_cast, ↓reduceIte, Nat.reduceEqDiff, Nat.reduceBEq, Nat.reduceAdd, *] <;> exact rfl))) | ((with_reducible apply i_Gb); (focus (simp (disch := ((try simp only [List.length_map, Int.toNat_natCast, List.length_append, List.length_take, List.length_drop, List.length_replicate, List.length_set, List.length_cons, List.length_nil, fillL_length]); omega)) only [push_cast, ↓reduceIte, Nat.reduceEqDiff, Nat.reduceBEq, Nat.reduceAdd, *] <;> exact rfl)); all_goals (intro hX; (try simp only [decide_eq_true_eq, decide_eq_false_iff_not, Bool.not_eq_true', Bool.not_eq_false'] at hX); (try have hXb := inB_iff.1 hX))) | ((with_reducible apply i_cond); (focus (simp (disch := ((try simp only [List.length_map, Int.toNat_natCast, List.length_append, List.length_take, List.length_drop, List.length_replicate, List.length_set, List.length_cons, List.length_nil, fillL_length]); omega)) only [push_cast, ↓reduceIte, Nat.reduceEqDiff, Nat.reduceBEq, Nat.reduceAdd, *] <;> exact rfl)); all_goals (intro hX; (try simp only [decide_eq_true_eq, decide_eq_false_iff_not, Bool.not_eq_true', Bool.not_eq_false'] at hX); (try have hXb := inB_iff.1 hX))))
  · ((first | apply i_end | apply i_endN); simp (disch := ((try simp only [List.length_map, Int.toNat_natCast, List.length_append, List.length_take, List.length_drop, List.length_replicate, List.length_set, List.length_cons, List.length_nil, fillL_length]); omega)) only [push_cast, ↓reduceIte, Nat.reduceEqDiff, Nat.reduceBEq, Nat.reduceAdd, *])
    simp [szSS, *]
  generalize hR : szSS 1048576 l = R
  refine i_loop (α := Nat × Int) mixed (fun k => [(0, .lst false 1 (l.map fun p => .lst false 1 (p.map fun s => .val (.string s)))), (1, iv k.2), (5, iv k.1)]) (fun k => []) (fun _ => 0)
    (fun k => k.1 ≤ l.length ∧ 0 ≤ k.2 ∧ k.2 ≤ 1048576 ∧ R = takeS k.2 (l.drop k.1)) (fun k => l.length - k.1) (by kernel_rfl) (0, 1048576 - l.length) ⟨Nat.zero_le _, by dsimp only; omega, by dsimp only; omega, ?_⟩ ?_ trivial rfl ?_
  · subst hR
    simp [szSS, *]
  · simp only [push_cast, ↓reduceIte, Nat.reduceEqDiff, Nat.reduceBEq, Nat.reduceAdd]
  · rintro ⟨k, left⟩ ⟨hk, hp0, hp1, hok⟩
    dsimp only at hk hp0 hp1 hok
    have ap := φSzS_ap (hsz k) hp0 hp1
    have hle := szS_le (l := l[k]?.getD []) hp0
    have h1 : k < l.length → R = if szS left (l[k]?.getD []) < 0 then -1 else takeS (szS left (l[k]?.getD [])) (l.drop (k + 1)) := by
      intro hkn
      have hd : l.drop k = l[k]?.getD [] :: l.drop (k + 1) := by rw [List.drop_eq_getElem_cons hkn]; simp [hkn]
      rw [hd] at hok
      exact hok
    have h2 : ¬ k < l.length → R = left := by
      intro hkn
      rw [List.drop_eq_nil_of_le (by omega)] at hok
      simpa [takeS] using hok
    clear hsz hok hR
    have hh1 := Lib.hid h1
    have hh2 := Lib.hid h2
    clear h1 h2
    repeat' (first | with_reducible apply i_seq | with_reducible apply i_block | ((with_reducible apply i_region); (focus (simp only [List.map_cons, List.map_nil] <;> exact rfl))) | with_reducible apply i_skip | with_reducible apply i_exit | with_reducible apply i_ret | with_reducible apply i_kS | with_reducible apply i_kSx | with_reducible apply i_kSr | with_reducible apply i_kL | with_reducible apply i_kLx | with_reducible apply i_kLr | with_reducible apply i_kB | with_reducible apply i_kBr | with_reducible apply i_kBs | ((with_reducible apply i_kBo); (focus rfl)) | with_reducible apply i_nil | ((with_reducible apply i_V); (focus rfl); (focus (simp (disch := ((try simp only [List.length_map, Int.toNat_natCast, List.length_append, List.length_take, List.length_drop, List.length_replicate, List.length_set, List.length_cons, List.length_nil, fillL_length]); omega)) only [push_cast, ↓reduceIte, Nat.reduceEqDiff, Nat.reduceBEq, Nat.reduceAdd, *] <;> exact rfl))) | ((with_reducible apply i_E); (focus rfl); (focus (simp (disch := ((try simp only [List.length_map, Int.toNat_natCast, List.length_append, List.length_take, List.length_drop, List.length_replicate, List.length_set, List.length_cons, List.length_nil, fillL_length]); omega)) only [push_cast, ↓reduceIte, Nat.reduceEqDiff, Nat.reduceBEq, Nat.reduceAdd, *] <;> exact rfl))) | ((with_reducible apply i_S); (focus rfl); (focus (simp (disch := ((try simp only [List.length_map, Int.toNat_natCast, List.length_append, List.length_take, List.length_drop, List.length_replicate, List.length_set, List.length_cons, List.length_nil, fillL_length]); omega)) only [push_cast, ↓reduceIte, Nat.reduceEqDiff, Nat.reduceBEq, Nat.reduceAdd, *] <;> exact rfl))) | ((with_reducible apply i_Gt); (focus (simp (disch := ((try simp only [List.length_map, Int.toNat_natCast, List.length_append, List.length_take, List.length_drop, List.length_replicate, List.length_set, List.length_cons, List.length_nil, fillL_length]); omega)) only [push_cast, ↓reduceIte, Nat.reduceEqDiff, Nat.reduceBEq, Nat.reduceAdd, *] <;> exact rfl))) | ((with_reducible apply i_Gf); (focus (simp (disch := ((try simp only [List.length_map, Int.toNat_natCast, List.length_append, List.length_take, List.length_drop, List.length_replicate, List.length_set, List.length_cons, List.length_nil, fillL_length]); omega)) only [push_cast, ↓reduceIte, Nat.reduceEqDiff, Nat.reduceBEq, Nat.reduceAdd, *] <;> exact rfl))) | ((with_reducible apply i_condT); (focus (simp (disch := ((try simp only [List.length_map, Int.toNat_natCast, List.length_append, List.length_take, List.length_drop, List.length_replicate, List.length_set, List.length_cons, List.length_nil, fillL_length]); omega)) only [push_cast, ↓reduceIte, Nat.reduceEqDiff, Nat.reduceBEq, Nat.reduceAdd, *] <;> exact rfl))) | ((with_reducible apply i_condF); (focus (simp (disch := ((try simp only [List.length_map, Int.toNat_natCast, List.length_append, List.length_take, List.length_drop, List.length_replicate, List.length_set, List.length_cons, List.length_nil, fillL_length]); omega)) only [push_cast, ↓reduceIte, Nat.reduceEqDiff, Nat.reduceBEq, Nat.reduceAdd, *] <;> exact rfl))) | ((with_reducible apply i_Gb); (focus (simp (disch := ((try simp only [List.length_map, Int.toNat_natCast, List.length_append, List.length_take, List.length_drop, List.length_replicate, List.length_set, List.length_cons, List.length_nil, fillL_length]); omega)) only [push_cast, ↓reduceIte, Nat.reduceEqDiff, Nat.reduceBEq, Nat.reduceAdd, *] <;> exact rfl)); all_goals (intro hX; (try simp only [decide_eq_true_eq, decide_eq_false_iff_not, Bool.not_eq_true', Bool.not_eq_false'] at hX); (try have hXb := inB_iff.1 hX))) | ((with_reducible apply i_cond); (focus (simp (disch := ((try simp only [List.length_map, Int.toNat_natCast, List.length_append, List.length_take, List.length_drop, List.length_replicate, List.length_set, List.length_cons, List.length_nil, fillL_length]); omega)) only [push_cast, ↓reduceIte, Nat.reduceEqDiff, Nat.reduceBEq, Nat.reduceAdd, *] <;> exact rfl)); all_goals (intro hX; (try simp only [decide_eq_true_eq, decide_eq_false_iff_not, Bool.not_eq_true', Bool.not_eq_false'] at hX); (try have hXb := inB_iff.1 hX))))
    all_goals try ((first | apply i_end | apply i_endN); simp (disch := ((try simp only [List.length_map, Int.toNat_natCast, List.length_append, List.length_take, List.length_drop, List.length_replicate, List.length_set, List.length_cons, List.length_nil, fillL_length]); omega)) only [push_cast, ↓reduceIte, Nat.reduceEqDiff, Nat.reduceBEq, Nat.reduceAdd, *])
    · rw [hh1.out (by omega), if_pos (by assumption)]
    · have := hh1.out (by omega)
      rw [if_neg (by assumption)] at this
      exact ⟨(k + 1, szS left (l[k]?.getD [])), ⟨by dsimp only; omega, by dsimp only; omega, by dsimp only; omega, this⟩, by dsimp only; omega, by simp only [push_cast, ↓reduceIte, Nat.reduceEqDiff, Nat.reduceBEq, Nat.reduceAdd], trivial, rfl⟩
    · rw [hh2.out (by omega)]
def szBk (p : List LS) (q : LS) : Int := if szSS 1048576 p < 0 then -1 else if szS (szSS 1048576 p) q < 0 then -1 else szS (szSS 1048576 p) q
theorem szSS_le {l : List LS} : szSS 1048576 l ≤ 1048576 := by
  unfold szSS
  split
  · omega
  · have := takeS_le (l := l) (left := 1048576 - l.length) (by omega)
    omega
noncomputable def φSzBook : Fun := F2 dBook dI fun b left => if okSSL b.1 ∧ okSL b.2.1 ∧ left = 1048576 then some (iv (szBk b.1 b.2.1)) else none
theorem φSzBook_ap {p : List LS} {q : LS} {x y z : Int} (h : okSSL p) (h2 : okSL q) : φSzBook [.agg [.lst false 1 (p.map fun p => .lst false 1 (p.map fun s => .val (.string s))), .lst false 1 (q.map fun s => .val (.string s)), .val (.int .i64 x), .val (.int .i64 y), .val (.int .i64 z)], .val (.int .i64 1048576)] = some (.val (.int .i64 (szBk p q))) :=
  (F2_ap (A := dBook) (B := dI) (p, q, x, y, z) 1048576).trans (if_pos ⟨h, h2, rfl⟩)
noncomputable def GSk : Nat -> Option Fun := fun f => if f = 48 then some φSzS else if f = 47 then some φSzSS else none
theorem GSk_ok : SoundΓ Try.prog GSk := fun f φ h => by
  unfold GSk at h
  split at h
  · rename_i hf; cases h; subst hf; exact ⟨⟨_, Try.func48, rfl, rfl⟩, szStringS_ok⟩
  split at h
  · rename_i hf; cases h; subst hf; exact ⟨⟨_, Try.func47, rfl, rfl⟩, szStringSS_ok⟩
  cases h
theorem GSk_48 (ob : Objs) (ps : List PV) : evCall GSk ob 48 ps = (ps.mapM (reify false 0 ob fuel)).bind φSzS := by
  have h : GSk 48 = some φSzS := by simp [GSk]
  unfold evCall
  rw [h]
  cases ps.mapM (reify false 0 ob fuel) <;> rfl
theorem GSk_47 (ob : Objs) (ps : List PV) : evCall GSk ob 47 ps = (ps.mapM (reify false 0 ob fuel)).bind φSzSS := by
  have h : GSk 47 = some φSzSS := by simp [GSk]
  unfold evCall
  rw [h]
  cases ps.mapM (reify false 0 ob fuel) <;> rfl
set_option maxHeartbeats 4000000 in
theorem szBook_ok : Sound Try.prog 24 φSzBook := by
  refine sound_pq mixed GSk_ok Try.func24 rfl 18 rfl [.tmp 4] rfl (by kernel_rfl) fun ps r hr => ?_
  obtain ⟨⟨p, q, x, y, z⟩, left, rfl, hq⟩ := F2_some hr
  clear hr
  split at hq
  case isFalse => cases hq
  case isTrue hok =>
  cases hq
  obtain ⟨hok1, hok2, rfl⟩ := hok
  dsimp only at hok1 hok2
  have ap := φSzSS_ap hok1
  have hle := szSS_le (l := p)
  have ap2 : 0 ≤ szSS 1048576 p → _ := fun h => φSzS_ap hok2 h hle
  clear hok1 hok2
  refine ⟨by simp, ?_⟩
  simp only [dIs, dUs, dSs, dI_e, dU_e, dB_e, dS_e, dFn_e, dL_e, dA2_e, dA3_e, dA4_e, dA5_e]
  by_cases hn : szSS 1048576 p < 0
  · clear ap2
    have gsk_c48 := GSk_48; have gsk_c47 := GSk_47
    repeat' (first | with_reducible apply i_seq | with_reducible apply i_block | ((with_reducible apply i_region); (focus (simp only [List.map_cons, List.map_nil] <;> exact rfl))) | with_reducible apply i_skip | with_reducible apply i_exit | with_reducible apply i_ret | with_reducible apply i_kS | with_reducible apply i_kSx | with_reducible apply i_kSr | with_reducible apply i_kL | with_reducible apply i_kLx | with_reducible apply i_kLr | with_reducible apply i_kB | with_reducible apply i_kBr | with_reducible apply i_kBs | ((with_reducible apply i_kBo); (focus rfl)) | with_reducible apply i_nil | ((with_reducible apply i_V); (focus rfl); (focus (simp (disch := ((try simp only [List.length_map, Int.toNat_natCast, List.length_append, List.length_take, List.length_drop, List.length_replicate, List.length_set, List.length_cons, List.length_nil, fillL_length]); omega)) only [push_cast, ↓reduceIte, Nat.reduceEqDiff, Nat.reduceBEq, Nat.reduceAdd, *] <;> exact rfl))) | ((with_reducible apply i_E); (focus rfl); (focus (simp (disch := ((try simp only [List.length_map, Int.toNat_natCast, List.length_append, List.length_take, List.length_drop, List.length_replicate, List.length_set, List.length_cons, List.length_nil, fillL_length]); omega)) only [push_cast, ↓reduceIte, Nat.reduceEqDiff, Nat.reduceBEq, Nat.reduceAdd, *] <;> exact rfl))) | ((with_reducible apply i_S); (focus rfl); (focus (simp (disch := ((try simp only [List.length_map, Int.toNat_natCast, List.length_append, List.length_take, List.length_drop, List.length_replicate, List.length_set, List.length_cons, List.length_nil, fillL_length]); omega)) only [push_cast, ↓reduceIte, Nat.reduceEqDiff, Nat.reduceBEq, Nat.reduceAdd, *] <;> exact rfl))) | ((with_reducible apply i_Gt); (focus (simp (disch := ((try simp only [List.length_map, Int.toNat_natCast, List.length_append, List.length_take, List.length_drop, List.length_replicate, List.length_set, List.length_cons, List.length_nil, fillL_length]); omega)) only [push_cast, ↓reduceIte, Nat.reduceEqDiff, Nat.reduceBEq, Nat.reduceAdd, *] <;> exact rfl))) | ((with_reducible apply i_Gf); (focus (simp (disch := ((try simp only [List.length_map, Int.toNat_natCast, List.length_append, List.length_take, List.length_drop, List.length_replicate, List.length_set, List.length_cons, List.length_nil, fillL_length]); omega)) only [push_cast, ↓reduceIte, Nat.reduceEqDiff, Nat.reduceBEq, Nat.reduceAdd, *] <;> exact rfl))) | ((with_reducible apply i_condT); (focus (simp (disch := ((try simp only [List.length_map, Int.toNat_natCast, List.length_append, List.length_take, List.length_drop, List.length_replicate, List.length_set, List.length_cons, List.length_nil, fillL_length]); omega)) only [push_cast, ↓reduceIte, Nat.reduceEqDiff, Nat.reduceBEq, Nat.reduceAdd, *] <;> exact rfl))) | ((with_reducible apply i_condF); (focus (simp (disch := ((try simp only [List.length_map, Int.toNat_natCast, List.length_append, List.length_take, List.length_drop, List.length_replicate, List.length_set, List.length_cons, List.length_nil, fillL_length]); omega)) only [push_cast, ↓reduceIte, Nat.reduceEqDiff, Nat.reduceBEq, Nat.reduceAdd, *] <;> exact rfl))) | ((with_reducible apply i_Gb); (focus (simp (disch := ((try simp only [List.length_map, Int.toNat_natCast, List.length_append, List.length_take, List.length_drop, List.length_replicate, List.length_set, List.length_cons, List.length_nil, fillL_length]); omega)) only [push_cast, ↓reduceIte, Nat.reduceEqDiff, Nat.reduceBEq, Nat.reduceAdd, *] <;> exact rfl)); all_goals (intro hX; (try simp only [decide_eq_true_eq, decide_eq_false_iff_not, Bool.not_eq_true', Bool.not_eq_false'] at hX); (try have hXb := inB_iff.1 hX))) | ((with_reducible apply i_cond); (focus (simp (disch := ((try simp only [List.length_map, Int.toNat_natCast, List.length_append, List.length_take, List.length_drop, List.length_replicate, List.length_set, List.length_cons, List.length_nil, fillL_length]); omega)) only [push_cast, ↓reduceIte, Nat.reduceEqDiff, Nat.reduceBEq, Nat.reduceAdd, *] <;> exact rfl)); all_goals (intro hX; (try simp only [decide_eq_true_eq, decide_eq_false_iff_not, Bool.not_eq_true', Bool.not_eq_false'] at hX); (try have hXb := inB_iff.1 hX))))
    all_goals ((first | apply i_end | apply i_endN); simp (disch := ((try simp only [List.length_map, Int.toNat_natCast, List.length_append, List.length_take, List.length_drop, List.length_replicate, List.length_set, List.length_cons, List.length_nil, fillL_length]); omega)) only [push_cast, ↓reduceIte, Nat.reduceEqDiff, Nat.reduceBEq, Nat.reduceAdd, *])
    all_goals simp [szBk, hn]
  · have ap3 := ap2 (by omega)
    clear ap2
    have gsk_c48 := GSk_48; have gsk_c47 := GSk_47
    repeat' (first | with_reducible apply i_seq | with_reducible apply i_block | ((with_reducible apply i_region); (focus (simp only [List.map_cons, List.map_nil] <;> exact rfl))) | with_reducible apply i_skip | with_reducible apply i_exit | with_reducible apply i_ret | with_reducible apply i_kS | with_reducible apply i_kSx | with_reducible apply i_kSr | with_reducible apply i_kL | with_reducible apply i_kLx | with_reducible apply i_kLr | with_reducible apply i_kB | with_reducible apply i_kBr | with_reducible apply i_kBs | ((with_reducible apply i_kBo); (focus rfl)) | with_reducible apply i_nil | ((with_reducible apply i_V); (focus rfl); (focus (simp (disch := ((try simp only [List.length_map, Int.toNat_natCast, List.length_append, List.length_take, List.length_drop, List.length_replicate, List.length_set, List.length_cons, List.length_nil, fillL_length]); omega)) only [push_cast, ↓reduceIte, Nat.reduceEqDiff, Nat.reduceBEq, Nat.reduceAdd, *] <;> exact rfl))) | ((with_reducible apply i_E); (focus rfl); (focus (simp (disch := ((try simp only [List.length_map, Int.toNat_natCast, List.length_append, List.length_take, List.length_drop, List.length_replicate, List.length_set, List.length_cons, List.length_nil, fillL_length]); omega)) only [push_cast, ↓reduceIte, Nat.reduceEqDiff, Nat.reduceBEq, Nat.reduceAdd, *] <;> exact rfl))) | ((with_reducible apply i_S); (focus rfl); (focus (simp (disch := ((try simp only [List.length_map, Int.toNat_natCast, List.length_append, List.length_take, List.length_drop, List.length_replicate, List.length_set, List.length_cons, List.length_nil, fillL_length]); omega)) only [push_cast, ↓reduceIte, Nat.reduceEqDiff, Nat.reduceBEq, Nat.reduceAdd, *] <;> exact rfl))) | ((with_reducible apply i_Gt); (focus (simp (disch := ((try simp only [List.length_map, Int.toNat_natCast, List.length_append, List.length_take, List.length_drop, List.length_replicate, List.length_set, List.length_cons, List.length_nil, fillL_length]); omega)) only [push_cast, ↓reduceIte, Nat.reduceEqDiff, Nat.reduceBEq, Nat.reduceAdd, *] <;> exact rfl))) | ((with_reducible apply i_Gf); (focus (simp (disch := ((try simp only [List.length_map, Int.toNat_natCast, List.length_append, List.length_take, List.length_drop, List.length_replicate, List.length_set, List.length_cons, List.length_nil, fillL_length]); omega)) only [push_cast, ↓reduceIte, Nat.reduceEqDiff, Nat.reduceBEq, Nat.reduceAdd, *] <;> exact rfl))) | ((with_reducible apply i_condT); (focus (simp (disch := ((try simp only [List.length_map, Int.toNat_natCast, List.length_append, List.length_take, List.length_drop, List.length_replicate, List.length_set, List.length_cons, List.length_nil, fillL_length]); omega)) only [push_cast, ↓reduceIte, Nat.reduceEqDiff, Nat.reduceBEq, Nat.reduceAdd, *] <;> exact rfl))) | ((with_reducible apply i_condF); (focus (simp (disch := ((try simp only [List.length_map, Int.toNat_natCast, List.length_append, List.length_take, List.length_drop, List.length_replicate, List.length_set, List.length_cons, List.length_nil, fillL_length]); omega)) only [push_cast, ↓reduceIte, Nat.reduceEqDiff, Nat.reduceBEq, Nat.reduceAdd, *] <;> exact rfl))) | ((with_reducible apply i_Gb); (focus (simp (disch := ((try simp only [List.length_map, Int.toNat_natCast, List.length_append, List.length_take, List.length_drop, List.length_replicate, List.length_set, List.length_cons, List.length_nil, fillL_length]); omega)) only [push_cast, ↓reduceIte, Nat.reduceEqDiff, Nat.reduceBEq, Nat.reduceAdd, *] <;> exact rfl)); all_goals (intro hX; (try simp only [decide_eq_true_eq, decide_eq_false_iff_not, Bool.not_eq_true', Bool.not_eq_false'] at hX); (try have hXb := inB_iff.1 hX))) | ((with_reducible apply i_cond); (focus (simp (disch := ((try simp only [List.length_map, Int.toNat_natCast, List.length_append, List.length_take, List.length_drop, List.length_replicate, List.length_set, List.length_cons, List.length_nil, fillL_length]); omega)) only [push_cast, ↓reduceIte, Nat.reduceEqDiff, Nat.reduceBEq, Nat.reduceAdd, *] <;> exact rfl)); all_goals (intro hX; (try simp only [decide_eq_true_eq, decide_eq_false_iff_not, Bool.not_eq_true', Bool.not_eq_false'] at hX); (try have hXb := inB_iff.1 hX))))
    all_goals ((first | apply i_end | apply i_endN); simp (disch := ((try simp only [List.length_map, Int.toNat_natCast, List.length_append, List.length_take, List.length_drop, List.length_replicate, List.length_set, List.length_cons, List.length_nil, fillL_length]); omega)) only [push_cast, ↓reduceIte, Nat.reduceEqDiff, Nat.reduceBEq, Nat.reduceAdd, *])
    all_goals simp [szBk, *]
def parB (w : LS) : Bool := allWords w && !decide (w.length = 0)
/-- What BookValid answers. -/
def bookB (p : List LS) (q : LS) (x y z : Int) : Bool := p.all parB && (decide (p.length ≤ 6) && (allPats q && (inB x 0 1000 && (inB y 0 10000 && inB z 1 30))))
abbrev okBk (p : List LS) (q : LS) : Prop := p.length ≤ 1048576 ∧ (∀ i : Nat, okSs (p[i]?.getD [])) ∧ okSs q
noncomputable instance (p : List LS) (q : LS) : Decidable (okBk p q) := Classical.propDecidable _
noncomputable def φBookV : Fun := F1 dBook fun b => if okBk b.1 b.2.1 then some (bv (bookB b.1 b.2.1 b.2.2.1 b.2.2.2.1 b.2.2.2.2)) else none
theorem φBookV_ap {p : List LS} {q : LS} {x y z : Int} (h : okBk p q) : φBookV [.agg [.lst false 1 (p.map fun p => .lst false 1 (p.map fun s => .val (.string s))), .lst false 1 (q.map fun s => .val (.string s)), .val (.int .i64 x), .val (.int .i64 y), .val (.int .i64 z)]] = some (.val (.bool (bookB p q x y z))) :=
  (F1_ap (A := dBook) (p, q, x, y, z)).trans (if_pos h)
def φBad : Fun := F1 dI fun n => some (bv (inB n 0 10000))
theorem φBad_ap (n : Int) : φBad [.val (.int .i64 n)] = some (.val (.bool (inB n 0 10000))) := rfl
noncomputable def GBd : Nat -> Option Fun := fun f => if f = 43 then some φIn else none
theorem GBd_ok : SoundΓ Try.prog GBd := fun f φ h => by
  unfold GBd at h
  split at h
  · rename_i hf; cases h; subst hf; exact ⟨⟨_, Try.func43, rfl, rfl⟩, in_ok⟩
  cases h
theorem GBd_43 (ob : Objs) (ps : List PV) : evCall GBd ob 43 ps = (ps.mapM (reify false 0 ob fuel)).bind φIn := by
  have h : GBd 43 = some φIn := by simp [GBd]
  unfold evCall
  rw [h]
  cases ps.mapM (reify false 0 ob fuel) <;> rfl
theorem isBad_ok : Sound Try.prog 54 φBad := by
  refine sound_pq mixed GBd_ok Try.func54 rfl 5 rfl [.tmp 2] rfl (by kernel_rfl) fun ps r hr => ?_
  obtain ⟨n, rfl, hr⟩ := F1_some hr
  cases hr
  refine ⟨by simp, ?_⟩
  simp only [dIs, dUs, dSs, dI_e, dU_e, dB_e, dS_e, dFn_e, dL_e, dA2_e, dA3_e, dA4_e, dA5_e]
  have gbd_c43 := GBd_43; have ap := φIn_ap
  repeat' (first | with_reducible apply i_seq | with_reducible apply i_block | ((with_reducible apply i_region); (focus (simp only [List.map_cons, List.map_nil] <;> exact rfl))) | with_reducible apply i_skip | with_reducible apply i_exit | with_reducible apply i_ret | with_reducible apply i_kS | with_reducible apply i_kSx | with_reducible apply i_kSr | with_reducible apply i_kL | with_reducible apply i_kLx | with_reducible apply i_kLr | with_reducible apply i_kB | with_reducible apply i_kBr | with_reducible apply i_kBs | ((with_reducible apply i_kBo); (focus rfl)) | with_reducible apply i_nil | ((with_reducible apply i_V); (focus rfl); (focus (simp (disch := ((try simp only [List.length_map, Int.toNat_natCast, List.length_append, List.length_take, List.length_drop, List.length_replicate, List.length_set, List.length_cons, List.length_nil, fillL_length]); omega)) only [push_cast, ↓reduceIte, Nat.reduceEqDiff, Nat.reduceBEq, Nat.reduceAdd, *] <;> exact rfl))) | ((with_reducible apply i_E); (focus rfl); (focus (simp (disch := ((try simp only [List.length_map, Int.toNat_natCast, List.length_append, List.length_take, List.length_drop, List.length_replicate, List.length_set, List.length_cons, List.length_nil, fillL_length]); omega)) only [push_cast, ↓reduceIte, Nat.reduceEqDiff, Nat.reduceBEq, Nat.reduceAdd, *] <;> exact rfl))) | ((with_reducible apply i_S); (focus rfl); (focus (simp (disch := ((try simp only [List.length_map, Int.toNat_natCast, List.length_append, List.length_take, List.length_drop, List.length_replicate, List.length_set, List.length_cons, List.length_nil, fillL_length]); omega)) only [push_cast, ↓reduceIte, Nat.reduceEqDiff, Nat.reduceBEq, Nat.reduceAdd, *] <;> exact rfl))) | ((with_reducible apply i_Gt); (focus (simp (disch := ((try simp only [List.length_map, Int.toNat_natCast, List.length_append, List.length_take, List.length_drop, List.length_replicate, List.length_set, List.length_cons, List.length_nil, fillL_length]); omega)) only [push_cast, ↓reduceIte, Nat.reduceEqDiff, Nat.reduceBEq, Nat.reduceAdd, *] <;> exact rfl))) | ((with_reducible apply i_Gf); (focus (simp (disch := ((try simp only [List.length_map, Int.toNat_natCast, List.length_append, List.length_take, List.length_drop, List.length_replicate, List.length_set, List.length_cons, List.length_nil, fillL_length]); omega)) only [push_cast, ↓reduceIte, Nat.reduceEqDiff, Nat.reduceBEq, Nat.reduceAdd, *] <;> exact rfl))) | ((with_reducible apply i_condT); (focus (simp (disch := ((try simp only [List.length_map, Int.toNat_natCast, List.length_append, List.length_take, List.length_drop, List.length_replicate, List.length_set, List.length_cons, List.length_nil, fillL_length]); omega)) only [push_cast, ↓reduceIte, Nat.reduceEqDiff, Nat.reduceBEq, Nat.reduceAdd, *] <;> exact rfl))) | ((with_reducible apply i_condF); (focus (simp (disch := ((try simp only [List.length_map, Int.toNat_natCast, List.length_append, List.length_take, List.length_drop, List.length_replicate, List.length_set, List.length_cons, List.length_nil, fillL_length]); omega)) only [push_cast, ↓reduceIte, Nat.reduceEqDiff, Nat.reduceBEq, Nat.reduceAdd, *] <;> exact rfl))) | ((with_reducible apply i_Gb); (focus (simp (disch := ((try simp only [List.length_map, Int.toNat_natCast, List.length_append, List.length_take, List.length_drop, List.length_replicate, List.length_set, List.length_cons, List.length_nil, fillL_length]); omega)) only [push_cast, ↓reduceIte, Nat.reduceEqDiff, Nat.reduceBEq, Nat.reduceAdd, *] <;> exact rfl)); all_goals (intro hX; (try simp only [decide_eq_true_eq, decide_eq_false_iff_not, Bool.not_eq_true', Bool.not_eq_false'] at hX); (try have hXb := inB_iff.1 hX))) | ((with_reducible apply i_cond); (focus (simp (disch := ((try simp only [List.length_map, Int.toNat_natCast, List.length_append, List.length_take, List.length_drop, List.length_replicate, List.length_set, List.length_cons, List.length_nil, fillL_length]); omega)) only [push_cast, ↓reduceIte, Nat.reduceEqDiff, Nat.reduceBEq, Nat.reduceAdd, *] <;> exact rfl)); all_goals (intro hX; (try simp only [decide_eq_true_eq, decide_eq_false_iff_not, Bool.not_eq_true', Bool.not_eq_false'] at hX); (try have hXb := inB_iff.1 hX))))
  all_goals ((first | apply i_end | apply i_endN); simp (disch := ((try simp only [List.length_map, Int.toNat_natCast, List.length_append, List.length_take, List.length_drop, List.length_replicate, List.length_set, List.length_cons, List.length_nil, fillL_length]); omega)) only [push_cast, ↓reduceIte, Nat.reduceEqDiff, Nat.reduceBEq, Nat.reduceAdd, *])
noncomputable def GKs : Nat -> Option Fun := fun f => if f = 49 then some φWords else if f = 50 then some φPats else if f = 41 then some φIn else none
theorem GKs_ok : SoundΓ Try.prog GKs := fun f φ h => by
  unfold GKs at h
  split at h
  · rename_i hf; cases h; subst hf; exact ⟨⟨_, Try.func49, rfl, rfl⟩, specWordsValid_ok⟩
  split at h
  · rename_i hf; cases h; subst hf; exact ⟨⟨_, Try.func50, rfl, rfl⟩, specPatternsValid_ok⟩
  split at h
  · rename_i hf; cases h; subst hf; exact ⟨⟨_, Try.func41, rfl, rfl⟩, l1In_ok⟩
  cases h
theorem GKs_49 (ob : Objs) (ps : List PV) : evCall GKs ob 49 ps = (ps.mapM (reify false 0 ob fuel)).bind φWords := by
  have h : GKs 49 = some φWords := by simp [GKs]
  unfold evCall
  rw [h]
  cases ps.mapM (reify false 0 ob fuel) <;> rfl
theorem GKs_50 (ob : Objs) (ps : List PV) : evCall GKs ob 50 ps = (ps.mapM (reify false 0 ob fuel)).bind φPats := by
  have h : GKs 50 = some φPats := by simp [GKs]
  unfold evCall
  rw [h]
  cases ps.mapM (reify false 0 ob fuel) <;> rfl
theorem GKs_41 (ob : Objs) (ps : List PV) : evCall GKs ob 41 ps = (ps.mapM (reify false 0 ob fuel)).bind φIn := by
  have h : GKs 41 = some φIn := by simp [GKs]
  unfold evCall
  rw [h]
  cases ps.mapM (reify false 0 ob fuel) <;> rfl
set_option maxHeartbeats 8000000 in
theorem specBookValid_ok : Sound Try.prog 25 φBookV := by
  refine sound_pq mixed GKs_ok Try.func25 rfl 51 rfl [.tmp 2] rfl (by kernel_rfl) fun ps r hr => ?_
  obtain ⟨⟨p, q, x, y, z⟩, rfl, hq⟩ := F1_some hr
  clear hr
  split at hq
  case isFalse => cases hq
  case isTrue hok =>
  cases hq
  dsimp only at hok
  obtain ⟨hlen, hall, hoq⟩ := hok
  have ap2 := φPats_ap hoq
  clear hoq
  refine ⟨by simp, ?_⟩
  simp only [dIs, dUs, dSs, dI_e, dU_e, dB_e, dS_e, dFn_e, dL_e, dA2_e, dA3_e, dA4_e, dA5_e]
  have gks_c49 := GKs_49; have gks_c50 := GKs_50; have gks_c41 := GKs_41; have ap3 := φIn_ap; have ap4 := φBad_ap
  repeat' (first | with_reducible apply i_seq | with_reducible apply i_block | ((with_reducible apply i_region); (focus (simp only [List.map_cons, List.map_nil] <;> exact rfl))) | with_reducible apply i_skip | with_reducible apply i_exit | with_reducible apply i_ret | with_reducible apply i_kS | with_reducible apply i_kSx | with_reducible apply i_kSr | with_reducible apply i_kL | with_reducible apply i_kLx | with_reducible apply i_kLr | with_reducible apply i_kB | with_reducible apply i_kBr | with_reducible apply i_kBs | ((with_reducible apply i_kBo); (focus rfl)) | with_reducible apply i_nil | ((with_reducible apply i_V); (focus rfl); (focus (simp (disch := ((try simp only [List.length_map, Int.toNat_natCast, List.length_append, List.length_take, List.length_drop, List.length_replicate, List.length_set, List.length_cons, List.length_nil, fillL_length]); omega)) only [push_cast, ↓reduceIte, Nat.reduceEqDiff, Nat.reduceBEq, Nat.reduceAdd, *] <;> exact rfl))) | ((with_reducible apply i_E); (focus rfl); (focus (simp (disch := ((try simp only [List.length_map, Int.toNat_natCast, List.length_append, List.length_take, List.length_drop, List.length_replicate, List.length_set, List.length_cons, List.length_nil, fillL_length]); omega)) only [push_cast, ↓reduceIte, Nat.reduceEqDiff, Nat.reduceBEq, Nat.reduceAdd, *] <;> exact rfl))) | ((with_reducible apply i_S); (focus rfl); (focus (simp (disch := ((try simp only [List.length_map, Int.toNat_natCast, List.length_append, List.length_take, List.length_drop, List.length_replicate, List.length_set, List.length_cons, List.length_nil, fillL_length]); omega)) only [push_cast, ↓reduceIte, Nat.reduceEqDiff, Nat.reduceBEq, Nat.reduceAdd, *] <;> exact rfl))) | ((with_reducible apply i_Gt); (focus (simp (disch := ((try simp only [List.length_map, Int.toNat_natCast, List.length_append, List.length_take, List.length_drop, List.length_replicate, List.length_set, List.length_cons, List.length_nil, fillL_length]); omega)) only [push_cast, ↓reduceIte, Nat.reduceEqDiff, Nat.reduceBEq, Nat.reduceAdd, *] <;> exact rfl))) | ((with_reducible apply i_Gf); (focus (simp (disch := ((try simp only [List.length_map, Int.toNat_natCast, List.length_append, List.length_take, List.length_drop, List.length_replicate, List.length_set, List.length_cons, List.length_nil, fillL_length]); omega)) only [push_cast, ↓reduceIte, Nat.reduceEqDiff, Nat.reduceBEq, Nat.reduceAdd, *] <;> exact rfl))) | ((with_reducible apply i_condT); (focus (simp (disch := ((try simp only [List.length_map, Int.toNat_natCast, List.length_append, List.length_take, List.length_drop, List.length_replicate, List.length_set, List.length_cons, List.length_nil, fillL_length]); omega)) only [push_cast, ↓reduceIte, Nat.reduceEqDiff, Nat.reduceBEq, Nat.reduceAdd, *] <;> exact rfl))) | ((with_reducible apply i_condF); (focus (simp (disch := ((try simp only [List.length_map, Int.toNat_natCast, List.length_append, List.length_take, List.length_drop, List.length_replicate, List.length_set, List.length_cons, List.length_nil, fillL_length]); omega)) only [push_cast, ↓reduceIte, Nat.reduceEqDiff, Nat.reduceBEq, Nat.reduceAdd, *] <;> exact rfl))) | ((with_reducible apply i_Gb); (focus (simp (disch := ((try simp only [List.length_map, Int.toNat_natCast, List.length_append, List.length_take, List.length_drop, List.length_replicate, List.length_set, List.length_cons, List.length_nil, fillL_length]); omega)) only [push_cast, ↓reduceIte, Nat.reduceEqDiff, Nat.reduceBEq, Nat.reduceAdd, *] <;> exact rfl)); all_goals (intro hX; (try simp only [decide_eq_true_eq, decide_eq_false_iff_not, Bool.not_eq_true', Bool.not_eq_false'] at hX); (try have hXb := inB_iff.1 hX))) | ((with_reducible apply i_cond); (focus (simp (disch := ((try simp only [List.length_map, Int.toNat_natCast, List.length_append, List.length_take, List.length_drop, List.length_replicate, List.length_set, List.length_cons, List.length_nil, fillL_length]); omega)) only [push_cast, ↓reduceIte, Nat.reduceEqDiff, Nat.reduceBEq, Nat.reduceAdd, *] <;> exact rfl)); all_goals (intro hX; (try simp only [decide_eq_true_eq, decide_eq_false_iff_not, Bool.not_eq_true', Bool.not_eq_false'] at hX); (try have hXb := inB_iff.1 hX))))
  refine i_loop (α := Nat) mixed (fun k => [(1, .own 0 5 0 0), (3, iv k)]) (fun _ => [(0, 46, 5, [.agg [.lst false 1 (p.map fun p => .lst false 1 (p.map fun s => .val (.string s))), .lst false 1 (q.map fun s => .val (.string s)), .val (.int .i64 x), .val (.int .i64 y), .val (.int .i64 z)]])]) (fun _ => 1)
    (fun k => k ≤ p.length ∧ ∀ j, j < k → parB (p[j]?.getD []) = true) (fun k => p.length - k) (by kernel_rfl) 0 ⟨Nat.zero_le _, fun j hj => by omega⟩ ?_ ?_ ?_ ?_
  · simp only [push_cast, ↓reduceIte, Nat.reduceEqDiff, Nat.reduceBEq, Nat.reduceAdd]
  · simp only [push_cast, ↓reduceIte, Nat.reduceEqDiff, Nat.reduceBEq, Nat.reduceAdd]
  · simp only [push_cast, ↓reduceIte, Nat.reduceEqDiff, Nat.reduceBEq, Nat.reduceAdd]
  · intro k ⟨hk, hok⟩
    have ap := φWords_ap (hall k)
    have hpl := (hall k).1
    clear hall
    have hpb : parB (p[k]?.getD []) = (allWords (p[k]?.getD []) && !decide ((p[k]?.getD []).length = 0)) := rfl
    have hpb := Lib.hid hpb
    have hok := Lib.hid hok
    repeat' (first | with_reducible apply i_seq | with_reducible apply i_block | ((with_reducible apply i_region); (focus (simp only [List.map_cons, List.map_nil] <;> exact rfl))) | with_reducible apply i_skip | with_reducible apply i_exit | with_reducible apply i_ret | with_reducible apply i_kS | with_reducible apply i_kSx | with_reducible apply i_kSr | with_reducible apply i_kL | with_reducible apply i_kLx | with_reducible apply i_kLr | with_reducible apply i_kB | with_reducible apply i_kBr | with_reducible apply i_kBs | ((with_reducible apply i_kBo); (focus rfl)) | with_reducible apply i_nil | ((with_reducible apply i_V); (focus rfl); (focus (simp (disch := ((try simp only [List.length_map, Int.toNat_natCast, List.length_append, List.length_take, List.length_drop, List.length_replicate, List.length_set, List.length_cons, List.length_nil, fillL_length]); omega)) only [push_cast, ↓reduceIte, Nat.reduceEqDiff, Nat.reduceBEq, Nat.reduceAdd, *] <;> exact rfl))) | ((with_reducible apply i_E); (focus rfl); (focus (simp (disch := ((try simp only [List.length_map, Int.toNat_natCast, List.length_append, List.length_take, List.length_drop, List.length_replicate, List.length_set, List.length_cons, List.length_nil, fillL_length]); omega)) only [push_cast, ↓reduceIte, Nat.reduceEqDiff, Nat.reduceBEq, Nat.reduceAdd, *] <;> exact rfl))) | ((with_reducible apply i_S); (focus rfl); (focus (simp (disch := ((try simp only [List.length_map, Int.toNat_natCast, List.length_append, List.length_take, List.length_drop, List.length_replicate, List.length_set, List.length_cons, List.length_nil, fillL_length]); omega)) only [push_cast, ↓reduceIte, Nat.reduceEqDiff, Nat.reduceBEq, Nat.reduceAdd, *] <;> exact rfl))) | ((with_reducible apply i_Gt); (focus (simp (disch := ((try simp only [List.length_map, Int.toNat_natCast, List.length_append, List.length_take, List.length_drop, List.length_replicate, List.length_set, List.length_cons, List.length_nil, fillL_length]); omega)) only [push_cast, ↓reduceIte, Nat.reduceEqDiff, Nat.reduceBEq, Nat.reduceAdd, *] <;> exact rfl))) | ((with_reducible apply i_Gf); (focus (simp (disch := ((try simp only [List.length_map, Int.toNat_natCast, List.length_append, List.length_take, List.length_drop, List.length_replicate, List.length_set, List.length_cons, List.length_nil, fillL_length]); omega)) only [push_cast, ↓reduceIte, Nat.reduceEqDiff, Nat.reduceBEq, Nat.reduceAdd, *] <;> exact rfl))) | ((with_reducible apply i_condT); (focus (simp (disch := ((try simp only [List.length_map, Int.toNat_natCast, List.length_append, List.length_take, List.length_drop, List.length_replicate, List.length_set, List.length_cons, List.length_nil, fillL_length]); omega)) only [push_cast, ↓reduceIte, Nat.reduceEqDiff, Nat.reduceBEq, Nat.reduceAdd, *] <;> exact rfl))) | ((with_reducible apply i_condF); (focus (simp (disch := ((try simp only [List.length_map, Int.toNat_natCast, List.length_append, List.length_take, List.length_drop, List.length_replicate, List.length_set, List.length_cons, List.length_nil, fillL_length]); omega)) only [push_cast, ↓reduceIte, Nat.reduceEqDiff, Nat.reduceBEq, Nat.reduceAdd, *] <;> exact rfl))) | ((with_reducible apply i_Gb); (focus (simp (disch := ((try simp only [List.length_map, Int.toNat_natCast, List.length_append, List.length_take, List.length_drop, List.length_replicate, List.length_set, List.length_cons, List.length_nil, fillL_length]); omega)) only [push_cast, ↓reduceIte, Nat.reduceEqDiff, Nat.reduceBEq, Nat.reduceAdd, *] <;> exact rfl)); all_goals (intro hX; (try simp only [decide_eq_true_eq, decide_eq_false_iff_not, Bool.not_eq_true', Bool.not_eq_false'] at hX); (try have hXb := inB_iff.1 hX))) | ((with_reducible apply i_cond); (focus (simp (disch := ((try simp only [List.length_map, Int.toNat_natCast, List.length_append, List.length_take, List.length_drop, List.length_replicate, List.length_set, List.length_cons, List.length_nil, fillL_length]); omega)) only [push_cast, ↓reduceIte, Nat.reduceEqDiff, Nat.reduceBEq, Nat.reduceAdd, *] <;> exact rfl)); all_goals (intro hX; (try simp only [decide_eq_true_eq, decide_eq_false_iff_not, Bool.not_eq_true', Bool.not_eq_false'] at hX); (try have hXb := inB_iff.1 hX))))
    all_goals try ((first | apply i_end | apply i_endN); simp (disch := ((try simp only [List.length_map, Int.toNat_natCast, List.length_append, List.length_take, List.length_drop, List.length_replicate, List.length_set, List.length_cons, List.length_nil, fillL_length]); omega)) only [push_cast, ↓reduceIte, Nat.reduceEqDiff, Nat.reduceBEq, Nat.reduceAdd, *])
    all_goals try (exfalso; omega)
    all_goals have hpb1 := hpb.out
    all_goals (first
      | (rw [show bookB p q x y z = false from by (unfold bookB; rw [all_noK (d := []) (k := k) (by omega) (by simp_all), Bool.false_and])]; done)
      | (rw [show bookB p q x y z = (decide (p.length ≤ 6) && (allPats q && (inB x 0 1000 && (inB y 0 10000 && inB z 1 30)))) from by (unfold bookB; rw [all_yesK (d := []) fun j hj => hok.out j (by omega), Bool.true_and])]; simp_all; done)
      | (rw [show bookB p q x y z = (decide (p.length ≤ 6) && (allPats q && (inB x 0 1000 && (inB y 0 10000 && inB z 1 30)))) from by (unfold bookB; rw [all_yesK (d := []) fun j hj => hok.out j (by omega), Bool.true_and])]; simp_all; omega)
      | (refine ⟨k + 1, ⟨by omega, fun j hj => ?_⟩, by dsimp only; omega, by simp only [push_cast, ↓reduceIte, Nat.reduceEqDiff, Nat.reduceBEq, Nat.reduceAdd], by simp only [push_cast, ↓reduceIte, Nat.reduceEqDiff, Nat.reduceBEq, Nat.reduceAdd], rfl⟩
         by_cases h1 : j < k
         · exact hok.out j h1
         · have : j = k := by omega
           subst this
           simp_all
           try omega))
noncomputable def GKi : Nat -> Option Fun := fun f => if f = 53 then some φWords else if f = 35 then some φPats else if f = 43 then some φIn else if f = 54 then some φBad else none
theorem GKi_ok : SoundΓ Try.prog GKi := fun f φ h => by
  unfold GKi at h
  split at h
  · rename_i hf; cases h; subst hf; exact ⟨⟨_, Try.func53, rfl, rfl⟩, implWordsValid_ok⟩
  split at h
  · rename_i hf; cases h; subst hf; exact ⟨⟨_, Try.func35, rfl, rfl⟩, implPatternsValid_ok⟩
  split at h
  · rename_i hf; cases h; subst hf; exact ⟨⟨_, Try.func43, rfl, rfl⟩, in_ok⟩
  split at h
  · rename_i hf; cases h; subst hf; exact ⟨⟨_, Try.func54, rfl, rfl⟩, isBad_ok⟩
  cases h
theorem GKi_53 (ob : Objs) (ps : List PV) : evCall GKi ob 53 ps = (ps.mapM (reify false 0 ob fuel)).bind φWords := by
  have h : GKi 53 = some φWords := by simp [GKi]
  unfold evCall
  rw [h]
  cases ps.mapM (reify false 0 ob fuel) <;> rfl
theorem GKi_35 (ob : Objs) (ps : List PV) : evCall GKi ob 35 ps = (ps.mapM (reify false 0 ob fuel)).bind φPats := by
  have h : GKi 35 = some φPats := by simp [GKi]
  unfold evCall
  rw [h]
  cases ps.mapM (reify false 0 ob fuel) <;> rfl
theorem GKi_43 (ob : Objs) (ps : List PV) : evCall GKi ob 43 ps = (ps.mapM (reify false 0 ob fuel)).bind φIn := by
  have h : GKi 43 = some φIn := by simp [GKi]
  unfold evCall
  rw [h]
  cases ps.mapM (reify false 0 ob fuel) <;> rfl
theorem GKi_54 (ob : Objs) (ps : List PV) : evCall GKi ob 54 ps = (ps.mapM (reify false 0 ob fuel)).bind φBad := by
  have h : GKi 54 = some φBad := by simp [GKi]
  unfold evCall
  rw [h]
  cases ps.mapM (reify false 0 ob fuel) <;> rfl
set_option maxHeartbeats 8000000 in
theorem implBookValid_ok : Sound Try.prog 27 φBookV := by
  refine sound_pq mixed GKi_ok Try.func27 rfl 45 rfl [.tmp 2] rfl (by kernel_rfl) fun ps r hr => ?_
  obtain ⟨⟨p, q, x, y, z⟩, rfl, hq⟩ := F1_some hr
  clear hr
  split at hq
  case isFalse => cases hq
  case isTrue hok =>
  cases hq
  dsimp only at hok
  obtain ⟨hlen, hall, hoq⟩ := hok
  have ap2 := φPats_ap hoq
  clear hoq
  refine ⟨by simp, ?_⟩
  simp only [dIs, dUs, dSs, dI_e, dU_e, dB_e, dS_e, dFn_e, dL_e, dA2_e, dA3_e, dA4_e, dA5_e]
  have gki_c53 := GKi_53; have gki_c35 := GKi_35; have gki_c43 := GKi_43; have gki_c54 := GKi_54; have ap3 := φIn_ap; have ap4 := φBad_ap
  repeat' (first | with_reducible apply i_seq | with_reducible apply i_block | ((with_reducible apply i_region); (focus (simp only [List.map_cons, List.map_nil] <;> exact rfl))) | with_reducible apply i_skip | with_reducible apply i_exit | with_reducible apply i_ret | with_reducible apply i_kS | with_reducible apply i_kSx | with_reducible apply i_kSr | with_reducible apply i_kL | with_reducible apply i_kLx | with_reducible apply i_kLr | with_reducible apply i_kB | with_reducible apply i_kBr | with_reducible apply i_kBs | ((with_reducible apply i_kBo); (focus rfl)) | with_reducible apply i_nil | ((with_reducible apply i_V); (focus rfl); (focus (simp (disch := ((try simp only [List.length_map, Int.toNat_natCast, List.length_append, List.length_take, List.length_drop, List.length_replicate, List.length_set, List.length_cons, List.length_nil, fillL_length]); omega)) only [push_cast, ↓reduceIte, Nat.reduceEqDiff, Nat.reduceBEq, Nat.reduceAdd, *] <;> exact rfl))) | ((with_reducible apply i_E); (focus rfl); (focus (simp (disch := ((try simp only [List.length_map, Int.toNat_natCast, List.length_append, List.length_take, List.length_drop, List.length_replicate, List.length_set, List.length_cons, List.length_nil, fillL_length]); omega)) only [push_cast, ↓reduceIte, Nat.reduceEqDiff, Nat.reduceBEq, Nat.reduceAdd, *] <;> exact rfl))) | ((with_reducible apply i_S); (focus rfl); (focus (simp (disch := ((try simp only [List.length_map, Int.toNat_natCast, List.length_append, List.length_take, List.length_drop, List.length_replicate, List.length_set, List.length_cons, List.length_nil, fillL_length]); omega)) only [push_cast, ↓reduceIte, Nat.reduceEqDiff, Nat.reduceBEq, Nat.reduceAdd, *] <;> exact rfl))) | ((with_reducible apply i_Gt); (focus (simp (disch := ((try simp only [List.length_map, Int.toNat_natCast, List.length_append, List.length_take, List.length_drop, List.length_replicate, List.length_set, List.length_cons, List.length_nil, fillL_length]); omega)) only [push_cast, ↓reduceIte, Nat.reduceEqDiff, Nat.reduceBEq, Nat.reduceAdd, *] <;> exact rfl))) | ((with_reducible apply i_Gf); (focus (simp (disch := ((try simp only [List.length_map, Int.toNat_natCast, List.length_append, List.length_take, List.length_drop, List.length_replicate, List.length_set, List.length_cons, List.length_nil, fillL_length]); omega)) only [push_cast, ↓reduceIte, Nat.reduceEqDiff, Nat.reduceBEq, Nat.reduceAdd, *] <;> exact rfl))) | ((with_reducible apply i_condT); (focus (simp (disch := ((try simp only [List.length_map, Int.toNat_natCast, List.length_append, List.length_take, List.length_drop, List.length_replicate, List.length_set, List.length_cons, List.length_nil, fillL_length]); omega)) only [push_cast, ↓reduceIte, Nat.reduceEqDiff, Nat.reduceBEq, Nat.reduceAdd, *] <;> exact rfl))) | ((with_reducible apply i_condF); (focus (simp (disch := ((try simp only [List.length_map, Int.toNat_natCast, List.length_append, List.length_take, List.length_drop, List.length_replicate, List.length_set, List.length_cons, List.length_nil, fillL_length]); omega)) only [push_cast, ↓reduceIte, Nat.reduceEqDiff, Nat.reduceBEq, Nat.reduceAdd, *] <;> exact rfl))) | ((with_reducible apply i_Gb); (focus (simp (disch := ((try simp only [List.length_map, Int.toNat_natCast, List.length_append, List.length_take, List.length_drop, List.length_replicate, List.length_set, List.length_cons, List.length_nil, fillL_length]); omega)) only [push_cast, ↓reduceIte, Nat.reduceEqDiff, Nat.reduceBEq, Nat.reduceAdd, *] <;> exact rfl)); all_goals (intro hX; (try simp only [decide_eq_true_eq, decide_eq_false_iff_not, Bool.not_eq_true', Bool.not_eq_false'] at hX); (try have hXb := inB_iff.1 hX))) | ((with_reducible apply i_cond); (focus (simp (disch := ((try simp only [List.length_map, Int.toNat_natCast, List.length_append, List.length_take, List.length_drop, List.length_replicate, List.length_set, List.length_cons, List.length_nil, fillL_length]); omega)) only [push_cast, ↓reduceIte, Nat.reduceEqDiff, Nat.reduceBEq, Nat.reduceAdd, *] <;> exact rfl)); all_goals (intro hX; (try simp only [decide_eq_true_eq, decide_eq_false_iff_not, Bool.not_eq_true', Bool.not_eq_false'] at hX); (try have hXb := inB_iff.1 hX))))
  refine i_loop (α := Nat) mixed (fun k => [(1, .own 0 5 0 0), (6, .lst false 1 (p.map fun p => .lst false 1 (p.map fun s => .val (.string s)))), (7, iv p.length), (8, iv k)]) (fun _ => [(0, 46, 5, [.agg [.lst false 1 (p.map fun p => .lst false 1 (p.map fun s => .val (.string s))), .lst false 1 (q.map fun s => .val (.string s)), .val (.int .i64 x), .val (.int .i64 y), .val (.int .i64 z)]])]) (fun _ => 1)
    (fun k => k ≤ p.length ∧ ∀ j, j < k → parB (p[j]?.getD []) = true) (fun k => p.length - k) (by kernel_rfl) 0 ⟨Nat.zero_le _, fun j hj => by omega⟩ ?_ ?_ ?_ ?_
  · simp only [push_cast, ↓reduceIte, Nat.reduceEqDiff, Nat.reduceBEq, Nat.reduceAdd]
  · simp only [push_cast, ↓reduceIte, Nat.reduceEqDiff, Nat.reduceBEq, Nat.reduceAdd]
  · simp only [push_cast, ↓reduceIte, Nat.reduceEqDiff, Nat.reduceBEq, Nat.reduceAdd]
  · intro k ⟨hk, hok⟩
    have ap := φWords_ap (hall k)
    have hpl := (hall k).1
    clear hall
    have hpb : parB (p[k]?.getD []) = (allWords (p[k]?.getD []) && !decide ((p[k]?.getD []).length = 0)) := rfl
    have hpb := Lib.hid hpb
    have hok := Lib.hid hok
    repeat' (first | with_reducible apply i_seq | with_reducible apply i_block | ((with_reducible apply i_region); (focus (simp only [List.map_cons, List.map_nil] <;> exact rfl))) | with_reducible apply i_skip | with_reducible apply i_exit | with_reducible apply i_ret | with_reducible apply i_kS | with_reducible apply i_kSx | with_reducible apply i_kSr | with_reducible apply i_kL | with_reducible apply i_kLx | with_reducible apply i_kLr | with_reducible apply i_kB | with_reducible apply i_kBr | with_reducible apply i_kBs | ((with_reducible apply i_kBo); (focus rfl)) | with_reducible apply i_nil | ((with_reducible apply i_V); (focus rfl); (focus (simp (disch := ((try simp only [List.length_map, Int.toNat_natCast, List.length_append, List.length_take, List.length_drop, List.length_replicate, List.length_set, List.length_cons, List.length_nil, fillL_length]); omega)) only [push_cast, ↓reduceIte, Nat.reduceEqDiff, Nat.reduceBEq, Nat.reduceAdd, *] <;> exact rfl))) | ((with_reducible apply i_E); (focus rfl); (focus (simp (disch := ((try simp only [List.length_map, Int.toNat_natCast, List.length_append, List.length_take, List.length_drop, List.length_replicate, List.length_set, List.length_cons, List.length_nil, fillL_length]); omega)) only [push_cast, ↓reduceIte, Nat.reduceEqDiff, Nat.reduceBEq, Nat.reduceAdd, *] <;> exact rfl))) | ((with_reducible apply i_S); (focus rfl); (focus (simp (disch := ((try simp only [List.length_map, Int.toNat_natCast, List.length_append, List.length_take, List.length_drop, List.length_replicate, List.length_set, List.length_cons, List.length_nil, fillL_length]); omega)) only [push_cast, ↓reduceIte, Nat.reduceEqDiff, Nat.reduceBEq, Nat.reduceAdd, *] <;> exact rfl))) | ((with_reducible apply i_Gt); (focus (simp (disch := ((try simp only [List.length_map, Int.toNat_natCast, List.length_append, List.length_take, List.length_drop, List.length_replicate, List.length_set, List.length_cons, List.length_nil, fillL_length]); omega)) only [push_cast, ↓reduceIte, Nat.reduceEqDiff, Nat.reduceBEq, Nat.reduceAdd, *] <;> exact rfl))) | ((with_reducible apply i_Gf); (focus (simp (disch := ((try simp only [List.length_map, Int.toNat_natCast, List.length_append, List.length_take, List.length_drop, List.length_replicate, List.length_set, List.length_cons, List.length_nil, fillL_length]); omega)) only [push_cast, ↓reduceIte, Nat.reduceEqDiff, Nat.reduceBEq, Nat.reduceAdd, *] <;> exact rfl))) | ((with_reducible apply i_condT); (focus (simp (disch := ((try simp only [List.length_map, Int.toNat_natCast, List.length_append, List.length_take, List.length_drop, List.length_replicate, List.length_set, List.length_cons, List.length_nil, fillL_length]); omega)) only [push_cast, ↓reduceIte, Nat.reduceEqDiff, Nat.reduceBEq, Nat.reduceAdd, *] <;> exact rfl))) | ((with_reducible apply i_condF); (focus (simp (disch := ((try simp only [List.length_map, Int.toNat_natCast, List.length_append, List.length_take, List.length_drop, List.length_replicate, List.length_set, List.length_cons, List.length_nil, fillL_length]); omega)) only [push_cast, ↓reduceIte, Nat.reduceEqDiff, Nat.reduceBEq, Nat.reduceAdd, *] <;> exact rfl))) | ((with_reducible apply i_Gb); (focus (simp (disch := ((try simp only [List.length_map, Int.toNat_natCast, List.length_append, List.length_take, List.length_drop, List.length_replicate, List.length_set, List.length_cons, List.length_nil, fillL_length]); omega)) only [push_cast, ↓reduceIte, Nat.reduceEqDiff, Nat.reduceBEq, Nat.reduceAdd, *] <;> exact rfl)); all_goals (intro hX; (try simp only [decide_eq_true_eq, decide_eq_false_iff_not, Bool.not_eq_true', Bool.not_eq_false'] at hX); (try have hXb := inB_iff.1 hX))) | ((with_reducible apply i_cond); (focus (simp (disch := ((try simp only [List.length_map, Int.toNat_natCast, List.length_append, List.length_take, List.length_drop, List.length_replicate, List.length_set, List.length_cons, List.length_nil, fillL_length]); omega)) only [push_cast, ↓reduceIte, Nat.reduceEqDiff, Nat.reduceBEq, Nat.reduceAdd, *] <;> exact rfl)); all_goals (intro hX; (try simp only [decide_eq_true_eq, decide_eq_false_iff_not, Bool.not_eq_true', Bool.not_eq_false'] at hX); (try have hXb := inB_iff.1 hX))))
    all_goals try ((first | apply i_end | apply i_endN); simp (disch := ((try simp only [List.length_map, Int.toNat_natCast, List.length_append, List.length_take, List.length_drop, List.length_replicate, List.length_set, List.length_cons, List.length_nil, fillL_length]); omega)) only [push_cast, ↓reduceIte, Nat.reduceEqDiff, Nat.reduceBEq, Nat.reduceAdd, *])
    all_goals try (exfalso; omega)
    all_goals have hpb1 := hpb.out
    all_goals (first
      | (rw [show bookB p q x y z = false from by (unfold bookB; rw [all_noK (d := []) (k := k) (by omega) (by simp_all), Bool.false_and])]; done)
      | (rw [show bookB p q x y z = (decide (p.length ≤ 6) && (allPats q && (inB x 0 1000 && (inB y 0 10000 && inB z 1 30)))) from by (unfold bookB; rw [all_yesK (d := []) fun j hj => hok.out j (by omega), Bool.true_and])]; simp_all; done)
      | (rw [show bookB p q x y z = (decide (p.length ≤ 6) && (allPats q && (inB x 0 1000 && (inB y 0 10000 && inB z 1 30)))) from by (unfold bookB; rw [all_yesK (d := []) fun j hj => hok.out j (by omega), Bool.true_and])]; simp_all; omega)
      | (refine ⟨k + 1, ⟨by omega, fun j hj => ?_⟩, by dsimp only; omega, by simp only [push_cast, ↓reduceIte, Nat.reduceEqDiff, Nat.reduceBEq, Nat.reduceAdd], by simp only [push_cast, ↓reduceIte, Nat.reduceEqDiff, Nat.reduceBEq, Nat.reduceAdd], rfl⟩
         by_cases h1 : j < k
         · exact hok.out j h1
         · have : j = k := by omega
           subst this
           simp_all
           try omega))
noncomputable def φLawBook : Fun := F1 dBook fun b => if okSSL b.1 ∧ okSL b.2.1 then some (bv true) else none
theorem szBk_ok {p : List LS} {q : LS} (h : 0 ≤ szBk p q) : shortSS p ∧ okBk p q := by
  unfold szBk at h
  split at h
  · omega
  · split at h
    · omega
    · rename_i h1 h2
      have h3 := szSS_le (l := p)
      have hq : okSs q := szS_ok (by omega) (by omega) h3
      have h4 : p.length ≤ 1048576 ∧ 0 ≤ takeS (1048576 - p.length) p := by
        unfold szSS at h1
        split at h1
        · omega
        · exact ⟨by omega, by omega⟩
      have h5 := takeS_ok h4.2 (by omega) (by omega)
      have h6 : ∀ i : Nat, okSs (p[i]?.getD []) := fun i => by
        by_cases hi : i < p.length
        · rw [List.getElem?_eq_getElem hi, Option.getD_some]
          exact h5 _ (List.getElem_mem hi)
        · rw [List.getElem?_eq_none (by omega)]
          exact ⟨Nat.zero_le _, fun i => by simp⟩
      exact ⟨⟨h4.1, List.all_eq_true.2 fun w hw => decide_eq_true (h5 w hw).1⟩, h4.1, h6, hq⟩
noncomputable def GLk : Nat -> Option Fun := fun f => if f = 24 then some φSzBook else if f = 26 then some φToBook else if f = 25 then some φBookV else if f = 27 then some φBookV else if f = 28 then some φEqBook else none
theorem GLk_ok : SoundΓ Try.prog GLk := fun f φ h => by
  unfold GLk at h
  split at h
  · rename_i hf; cases h; subst hf; exact ⟨⟨_, Try.func24, rfl, rfl⟩, szBook_ok⟩
  split at h
  · rename_i hf; cases h; subst hf; exact ⟨⟨_, Try.func26, rfl, rfl⟩, toBook_ok⟩
  split at h
  · rename_i hf; cases h; subst hf; exact ⟨⟨_, Try.func25, rfl, rfl⟩, specBookValid_ok⟩
  split at h
  · rename_i hf; cases h; subst hf; exact ⟨⟨_, Try.func27, rfl, rfl⟩, implBookValid_ok⟩
  split at h
  · rename_i hf; cases h; subst hf; exact ⟨⟨_, Try.func28, rfl, rfl⟩, eqBook_ok⟩
  cases h
theorem GLk_24 (ob : Objs) (ps : List PV) : evCall GLk ob 24 ps = (ps.mapM (reify false 0 ob fuel)).bind φSzBook := by
  have h : GLk 24 = some φSzBook := by simp [GLk]
  unfold evCall
  rw [h]
  cases ps.mapM (reify false 0 ob fuel) <;> rfl
theorem GLk_26 (ob : Objs) (ps : List PV) : evCall GLk ob 26 ps = (ps.mapM (reify false 0 ob fuel)).bind φToBook := by
  have h : GLk 26 = some φToBook := by simp [GLk]
  unfold evCall
  rw [h]
  cases ps.mapM (reify false 0 ob fuel) <;> rfl
theorem GLk_25 (ob : Objs) (ps : List PV) : evCall GLk ob 25 ps = (ps.mapM (reify false 0 ob fuel)).bind φBookV := by
  have h : GLk 25 = some φBookV := by simp [GLk]
  unfold evCall
  rw [h]
  cases ps.mapM (reify false 0 ob fuel) <;> rfl
theorem GLk_27 (ob : Objs) (ps : List PV) : evCall GLk ob 27 ps = (ps.mapM (reify false 0 ob fuel)).bind φBookV := by
  have h : GLk 27 = some φBookV := by simp [GLk]
  unfold evCall
  rw [h]
  cases ps.mapM (reify false 0 ob fuel) <;> rfl
theorem GLk_28 (ob : Objs) (ps : List PV) : evCall GLk ob 28 ps = (ps.mapM (reify false 0 ob fuel)).bind φEqBook := by
  have h : GLk 28 = some φEqBook := by simp [GLk]
  unfold evCall
  rw [h]
  cases ps.mapM (reify false 0 ob fuel) <;> rfl
set_option maxHeartbeats 8000000 in
theorem lawBook_ok : Sound Try.prog 6 φLawBook := by
  refine sound_pq mixed GLk_ok Try.func6 rfl 27 rfl [.tmp 2] rfl (by kernel_rfl) fun ps r hr => ?_
  obtain ⟨⟨p, q, x, y, z⟩, rfl, hq⟩ := F1_some hr
  clear hr
  split at hq
  case isFalse => cases hq
  case isTrue hok =>
  cases hq
  dsimp only at hok
  have ap1 := @φSzBook_ap p q x y z hok.1 hok.2
  clear hok
  refine ⟨by simp, ?_⟩
  simp only [dIs, dUs, dSs, dI_e, dU_e, dB_e, dS_e, dFn_e, dL_e, dA2_e, dA3_e, dA4_e, dA5_e]
  by_cases hneg : szBk p q < 0
  · have glk_c24 := GLk_24; have glk_c26 := GLk_26; have glk_c25 := GLk_25; have glk_c27 := GLk_27; have glk_c28 := GLk_28
    repeat' (first | with_reducible apply i_seq | with_reducible apply i_block | ((with_reducible apply i_region); (focus (simp only [List.map_cons, List.map_nil] <;> exact rfl))) | with_reducible apply i_skip | with_reducible apply i_exit | with_reducible apply i_ret | with_reducible apply i_kS | with_reducible apply i_kSx | with_reducible apply i_kSr | with_reducible apply i_kL | with_reducible apply i_kLx | with_reducible apply i_kLr | with_reducible apply i_kB | with_reducible apply i_kBr | with_reducible apply i_kBs | ((with_reducible apply i_kBo); (focus rfl)) | with_reducible apply i_nil | ((with_reducible apply i_V); (focus rfl); (focus (simp (disch := ((try simp only [List.length_map, Int.toNat_natCast, List.length_append, List.length_take, List.length_drop, List.length_replicate, List.length_set, List.length_cons, List.length_nil, fillL_length]); omega)) only [push_cast, ↓reduceIte, Nat.reduceEqDiff, Nat.reduceBEq, Nat.reduceAdd, *] <;> exact rfl))) | ((with_reducible apply i_E); (focus rfl); (focus (simp (disch := ((try simp only [List.length_map, Int.toNat_natCast, List.length_append, List.length_take, List.length_drop, List.length_replicate, List.length_set, List.length_cons, List.length_nil, fillL_length]); omega)) only [push_cast, ↓reduceIte, Nat.reduceEqDiff, Nat.reduceBEq, Nat.reduceAdd, *] <;> exact rfl))) | ((with_reducible apply i_S); (focus rfl); (focus (simp (disch := ((try simp only [List.length_map, Int.toNat_natCast, List.length_append, List.length_take, List.length_drop, List.length_replicate, List.length_set, List.length_cons, List.length_nil, fillL_length]); omega)) only [push_cast, ↓reduceIte, Nat.reduceEqDiff, Nat.reduceBEq, Nat.reduceAdd, *] <;> exact rfl))) | ((with_reducible apply i_Gt); (focus (simp (disch := ((try simp only [List.length_map, Int.toNat_natCast, List.length_append, List.length_take, List.length_drop, List.length_replicate, List.length_set, List.length_cons, List.length_nil, fillL_length]); omega)) only [push_cast, ↓reduceIte, Nat.reduceEqDiff, Nat.reduceBEq, Nat.reduceAdd, *] <;> exact rfl))) | ((with_reducible apply i_Gf); (focus (simp (disch := ((try simp only [List.length_map, Int.toNat_natCast, List.length_append, List.length_take, List.length_drop, List.length_replicate, List.length_set, List.length_cons, List.length_nil, fillL_length]); omega)) only [push_cast, ↓reduceIte, Nat.reduceEqDiff, Nat.reduceBEq, Nat.reduceAdd, *] <;> exact rfl))) | ((with_reducible apply i_condT); (focus (simp (disch := ((try simp only [List.length_map, Int.toNat_natCast, List.length_append, List.length_take, List.length_drop, List.length_replicate, List.length_set, List.length_cons, List.length_nil, fillL_length]); omega)) only [push_cast, ↓reduceIte, Nat.reduceEqDiff, Nat.reduceBEq, Nat.reduceAdd, *] <;> exact rfl))) | ((with_reducible apply i_condF); (focus (simp (disch := ((try simp only [List.length_map, Int.toNat_natCast, List.length_append, List.length_take, List.length_drop, List.length_replicate, List.length_set, List.length_cons, List.length_nil, fillL_length]); omega)) only [push_cast, ↓reduceIte, Nat.reduceEqDiff, Nat.reduceBEq, Nat.reduceAdd, *] <;> exact rfl))) | ((with_reducible apply i_Gb); (focus (simp (disch := ((try simp only [List.length_map, Int.toNat_natCast, List.length_append, List.length_take, List.length_drop, List.length_replicate, List.length_set, List.length_cons, List.length_nil, fillL_length]); omega)) only [push_cast, ↓reduceIte, Nat.reduceEqDiff, Nat.reduceBEq, Nat.reduceAdd, *] <;> exact rfl)); all_goals (intro hX; (try simp only [decide_eq_true_eq, decide_eq_false_iff_not, Bool.not_eq_true', Bool.not_eq_false'] at hX); (try have hXb := inB_iff.1 hX))) | ((with_reducible apply i_cond); (focus (simp (disch := ((try simp only [List.length_map, Int.toNat_natCast, List.length_append, List.length_take, List.length_drop, List.length_replicate, List.length_set, List.length_cons, List.length_nil, fillL_length]); omega)) only [push_cast, ↓reduceIte, Nat.reduceEqDiff, Nat.reduceBEq, Nat.reduceAdd, *] <;> exact rfl)); all_goals (intro hX; (try simp only [decide_eq_true_eq, decide_eq_false_iff_not, Bool.not_eq_true', Bool.not_eq_false'] at hX); (try have hXb := inB_iff.1 hX))))
    all_goals ((first | apply i_end | apply i_endN); simp (disch := ((try simp only [List.length_map, Int.toNat_natCast, List.length_append, List.length_take, List.length_drop, List.length_replicate, List.length_set, List.length_cons, List.length_nil, fillL_length]); omega)) only [push_cast, ↓reduceIte, Nat.reduceEqDiff, Nat.reduceBEq, Nat.reduceAdd, *])
  · obtain ⟨hs, hb⟩ := szBk_ok (p := p) (q := q) (by omega)
    have ap2 := @φToBook_ap p q x y z hs hb.2.2.1
    have ap3 := @φBookV_ap p q x y z hb
    have ap4 := @φEqBook_ap p q x y z hs hb.2.2.1
    clear hs hb
    have glk_c24 := GLk_24; have glk_c26 := GLk_26; have glk_c25 := GLk_25; have glk_c27 := GLk_27; have glk_c28 := GLk_28
    repeat' (first | with_reducible apply i_seq | with_reducible apply i_block | ((with_reducible apply i_region); (focus (simp only [List.map_cons, List.map_nil] <;> exact rfl))) | with_reducible apply i_skip | with_reducible apply i_exit | with_reducible apply i_ret | with_reducible apply i_kS | with_reducible apply i_kSx | with_reducible apply i_kSr | with_reducible apply i_kL | with_reducible apply i_kLx | with_reducible apply i_kLr | with_reducible apply i_kB | with_reducible apply i_kBr | with_reducible apply i_kBs | ((with_reducible apply i_kBo); (focus rfl)) | with_reducible apply i_nil | ((with_reducible apply i_V); (focus rfl); (focus (simp (disch := ((try simp only [List.length_map, Int.toNat_natCast, List.length_append, List.length_take, List.length_drop, List.length_replicate, List.length_set, List.length_cons, List.length_nil, fillL_length]); omega)) only [push_cast, ↓reduceIte, Nat.reduceEqDiff, Nat.reduceBEq, Nat.reduceAdd, *] <;> exact rfl))) | ((with_reducible apply i_E); (focus rfl); (focus (simp (disch := ((try simp only [List.length_map, Int.toNat_natCast, List.length_append, List.length_take, List.length_drop, List.length_replicate, List.length_set, List.length_cons, List.length_nil, fillL_length]); omega)) only [push_cast, ↓reduceIte, Nat.reduceEqDiff, Nat.reduceBEq, Nat.reduceAdd, *] <;> exact rfl))) | ((with_reducible apply i_S); (focus rfl); (focus (simp (disch := ((try simp only [List.length_map, Int.toNat_natCast, List.length_append, List.length_take, List.length_drop, List.length_replicate, List.length_set, List.length_cons, List.length_nil, fillL_length]); omega)) only [push_cast, ↓reduceIte, Nat.reduceEqDiff, Nat.reduceBEq, Nat.reduceAdd, *] <;> exact rfl))) | ((with_reducible apply i_Gt); (focus (simp (disch := ((try simp only [List.length_map, Int.toNat_natCast, List.length_append, List.length_take, List.length_drop, List.length_replicate, List.length_set, List.length_cons, List.length_nil, fillL_length]); omega)) only [push_cast, ↓reduceIte, Nat.reduceEqDiff, Nat.reduceBEq, Nat.reduceAdd, *] <;> exact rfl))) | ((with_reducible apply i_Gf); (focus (simp (disch := ((try simp only [List.length_map, Int.toNat_natCast, List.length_append, List.length_take, List.length_drop, List.length_replicate, List.length_set, List.length_cons, List.length_nil, fillL_length]); omega)) only [push_cast, ↓reduceIte, Nat.reduceEqDiff, Nat.reduceBEq, Nat.reduceAdd, *] <;> exact rfl))) | ((with_reducible apply i_condT); (focus (simp (disch := ((try simp only [List.length_map, Int.toNat_natCast, List.length_append, List.length_take, List.length_drop, List.length_replicate, List.length_set, List.length_cons, List.length_nil, fillL_length]); omega)) only [push_cast, ↓reduceIte, Nat.reduceEqDiff, Nat.reduceBEq, Nat.reduceAdd, *] <;> exact rfl))) | ((with_reducible apply i_condF); (focus (simp (disch := ((try simp only [List.length_map, Int.toNat_natCast, List.length_append, List.length_take, List.length_drop, List.length_replicate, List.length_set, List.length_cons, List.length_nil, fillL_length]); omega)) only [push_cast, ↓reduceIte, Nat.reduceEqDiff, Nat.reduceBEq, Nat.reduceAdd, *] <;> exact rfl))) | ((with_reducible apply i_Gb); (focus (simp (disch := ((try simp only [List.length_map, Int.toNat_natCast, List.length_append, List.length_take, List.length_drop, List.length_replicate, List.length_set, List.length_cons, List.length_nil, fillL_length]); omega)) only [push_cast, ↓reduceIte, Nat.reduceEqDiff, Nat.reduceBEq, Nat.reduceAdd, *] <;> exact rfl)); all_goals (intro hX; (try simp only [decide_eq_true_eq, decide_eq_false_iff_not, Bool.not_eq_true', Bool.not_eq_false'] at hX); (try have hXb := inB_iff.1 hX))) | ((with_reducible apply i_cond); (focus (simp (disch := ((try simp only [List.length_map, Int.toNat_natCast, List.length_append, List.length_take, List.length_drop, List.length_replicate, List.length_set, List.length_cons, List.length_nil, fillL_length]); omega)) only [push_cast, ↓reduceIte, Nat.reduceEqDiff, Nat.reduceBEq, Nat.reduceAdd, *] <;> exact rfl)); all_goals (intro hX; (try simp only [decide_eq_true_eq, decide_eq_false_iff_not, Bool.not_eq_true', Bool.not_eq_false'] at hX); (try have hXb := inB_iff.1 hX))))
    all_goals ((first | apply i_end | apply i_endN); simp (disch := ((try simp only [List.length_map, Int.toNat_natCast, List.length_append, List.length_take, List.length_drop, List.length_replicate, List.length_set, List.length_cons, List.length_nil, fillL_length]); omega)) only [push_cast, ↓reduceIte, Nat.reduceEqDiff, Nat.reduceBEq, Nat.reduceAdd, *])
    all_goals simp_all
end Go.Proofs.Ytnblbgdencdgjaa
