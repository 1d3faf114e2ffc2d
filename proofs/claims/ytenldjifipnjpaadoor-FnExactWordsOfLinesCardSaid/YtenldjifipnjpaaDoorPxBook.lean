/- Books (BookValid) by the engine. -/
import Derived.Test.YtenldjifipnjpaaDoorPxTy
import Derived.Test.YtenldjifipnjpaaDoorPlain
import Derived.Test.YtenldjifipnjpaaDoorPxGrid
import Derived.Test.YtenldjifipnjpaaDoorPxIndex
namespace Go.Proofs.YtenldjifipnjpaaDoor
open Go.RowKit
set_option linter.all false
abbrev LS := List ByteArray
abbrev dSS : Dec (List LS) := dL 1 dSs
section
variable {α β : Type} {n sz sz' f i : Nat} {ob : Objs} {k k' fr : Bool} {l : List LS}
theorem get_ss {g : LS → PV} (h : i < l.length) : ((l[i]?).map g).getD .dead = g ((l[i]?).getD []) := by simp [h]
theorem omg_ss {g : LS → β} (h : i < l.length) : Option.map g l[i]? = some (g ((l[i]?).getD [])) := by simp [h]
theorem mapM_maps {F : PV → Option PV} {g g' : α → PV} (h : ∀ x, F (g x) = some (g' x)) : ∀ {l : List α}, (l.map g).mapM F = some (l.map g')
  | [] => rfl
  | x :: l => by rw [List.map_cons, List.mapM_cons, h x, mapM_maps h]; rfl
theorem reify_strs {m : Nat} {p : LS} : reify false m ob (f + 2) (.lst k sz (p.map fun s => .val (.string s))) = some (.lst false sz (p.map fun s => .val (.string s))) := reifyS_vals
theorem reify_strsT {m : Nat} {p : LS} : reify fr m ob (f + 2) (.lst true sz (p.map fun s => .val (.string s))) = some (.lst fr sz (p.map fun s => .val (.string s))) := by
  cases fr
  · exact reifyS_vals
  · exact reifyT_vals
theorem reifyS_lsts : reify false n ob (f + 3) (.lst k sz (l.map fun p => .lst k' sz' (p.map fun s => .val (.string s)))) = some (.lst false sz (l.map fun p => .lst false sz' (p.map fun s => .val (.string s)))) := by
  show (if false = true ∧ k = false ∧ (l.map fun p => PV.lst k' sz' (p.map fun s => PV.val (.string s))) ≠ [] then none else ((l.map fun p => PV.lst k' sz' (p.map fun s => PV.val (.string s))).mapM (reify false n ob (f + 2))).map (PV.lst false sz)) = _
  rw [mapM_maps (g' := fun p => PV.lst false sz' (p.map fun s => PV.val (.string s))) fun p => reify_strs]
  simp
theorem reifyT_lsts : reify true n ob (f + 3) (.lst true sz (l.map fun p => .lst true sz' (p.map fun s => .val (.string s)))) = some (.lst true sz (l.map fun p => .lst true sz' (p.map fun s => .val (.string s)))) := by
  show (if true = true ∧ true = false ∧ (l.map fun p => PV.lst true sz' (p.map fun s => PV.val (.string s))) ≠ [] then none else ((l.map fun p => PV.lst true sz' (p.map fun s => PV.val (.string s))).mapM (reify true n ob (f + 2))).map (PV.lst true sz)) = _
  rw [mapM_maps (g' := fun p => PV.lst true sz' (p.map fun s => PV.val (.string s))) fun p => reify_strsT]
  simp
theorem rowRe_lsts {m T : Nat} (hm : m = l.length) : rowRe fr (f + 2) ob sz 0 m (some (T, sz, l.map fun p => .lst true sz' (p.map fun s => .val (.string s)))) = some (.lst fr sz (l.map fun p => .lst fr sz' (p.map fun s => .val (.string s)))) := by
  subst hm
  have e : ((l.map fun p => PV.lst true sz' (p.map fun s => PV.val (.string s))).drop 0).take l.length = l.map fun p => PV.lst true sz' (p.map fun s => PV.val (.string s)) := by
    rw [List.drop_zero, List.take_of_length_le (by simp)]
  have e2 := mapM_maps (l := l) (F := reify fr 0 ob (f + 2)) (g := fun p => PV.lst true sz' (p.map fun s => PV.val (.string s))) (g' := fun p => PV.lst fr sz' (p.map fun s => PV.val (.string s))) fun p => reify_strsT
  simp only [rowRe, e, e2, Nat.zero_add, List.length_map, Nat.le_refl, and_self, if_true, Option.map_some]
theorem fillZ_get {xs : List α} {z : α} {j : Nat} (h : j < xs.length) : (fillZ xs z j)[j]? = some z := by
  unfold fillZ
  have hl : (xs.take j).length = j := by simp; omega
  rw [List.getElem?_append_right (by omega), hl, Nat.sub_self, List.getElem?_replicate, if_pos (by omega)]
end
attribute [push_cast]
  get_ss omg_ss reifyS_lsts reifyT_lsts rowRe_lsts fillZ_get
theorem eq_of_getDK {α : Type} {d : α} {xs ys : List α} (hl : xs.length = ys.length) (h : ∀ j, j < xs.length → xs[j]?.getD d = ys[j]?.getD d) : xs = ys := by
  apply List.ext_getElem hl
  intro i h1 h2
  have := h i h1
  simpa [h1, h2] using this
/-- All of the strings are short. -/
abbrev okSs (l : LS) : Prop := l.length ≤ 1048576 ∧ ∀ i : Nat, (l[i]?.getD .empty).size ≤ 1048576
noncomputable instance (l : LS) : Decidable (okSs l) := Classical.propDecidable _
theorem all_noK {α : Type} {d : α} {p : α → Bool} {l : List α} {k : Nat} (h : k < l.length) (hb : p (l[k]?.getD d) = false) : l.all p = false := by
  rw [List.all_eq_false]
  exact ⟨l[k], List.getElem_mem h, by simp [h] at hb; simp [hb]⟩
theorem all_yesK {α : Type} {d : α} {p : α → Bool} {l : List α} (h : ∀ j, j < l.length → p (l[j]?.getD d) = true) : l.all p = true := by
  rw [List.all_eq_true]
  intro x hx
  obtain ⟨j, hj, rfl⟩ := List.getElem_of_mem hx
  simpa [hj] using h j hj
def smallC (c : Int) : Bool := inB c 97 122
def digC (c : Int) : Bool := inB c 48 57
def prevD (s : ByteArray) (k : Nat) : Bool := decide (0 < k) && digC (at8 s (k - 1))
def patAt (s : ByteArray) (k : Nat) : Bool := smallC (at8 s k) || (digC (at8 s k) && !prevD s k) || (decide (at8 s k = 46) && (decide (k = 0) || decide (k + 1 = s.size)))
def anyS (s : ByteArray) (k : Nat) : Bool := (List.range k).any fun j => smallC (at8 s j)
theorem anyS_succ (s : ByteArray) (k : Nat) : anyS s (k + 1) = (anyS s k || smallC (at8 s k)) := by
  simp [anyS, List.range_succ, List.any_append]
/-- What PatternValid answers. -/
def patB (s : ByteArray) : Bool := (List.range s.size).all (patAt s) && (anyS s s.size && decide (s.size ≤ 12))
theorem patB_no {s : ByteArray} {k : Nat} (h : k < s.size) (hb : patAt s k = false) : patB s = false := by
  have : (List.range s.size).all (patAt s) = false := by
    rw [List.all_eq_false]
    exact ⟨k, List.mem_range.2 h, by simp [hb]⟩
  simp [patB, this]
theorem patB_yes {s : ByteArray} (h : ∀ j, j < s.size → patAt s j = true) : patB s = (anyS s s.size && decide (s.size ≤ 12)) := by
  have : (List.range s.size).all (patAt s) = true := by
    rw [List.all_eq_true]
    exact fun k hk => h k (List.mem_range.1 hk)
  simp [patB, this]
def φPat : Fun := F1 dS fun s => if s.size ≤ 1099511627776 then some (bv (patB s)) else none
theorem φPat_ap {s : ByteArray} (h : s.size ≤ 1099511627776) : φPat [.val (.string s)] = some (.val (.bool (patB s))) :=
  (F1_ap (A := dS) s).trans (if_pos h)
theorem patAt_iff {s : ByteArray} {k : Nat} : patAt s k = true ↔ (97 ≤ at8 s k ∧ at8 s k ≤ 122) ∨ (48 ≤ at8 s k ∧ at8 s k ≤ 57 ∧ prevD s k = false) ∨ (at8 s k = 46 ∧ (k = 0 ∨ k + 1 = s.size)) := by
  simp [patAt, smallC, digC, inB, or_assoc, and_assoc]
theorem small_no {c : Int} (h : c < 97 ∨ 122 < c) : smallC c = false := Bool.eq_false_iff.2 fun h2 => by have := inB_iff.1 h2; omega
theorem dig_no {c : Int} (h : c < 48 ∨ 57 < c) : digC c = false := Bool.eq_false_iff.2 fun h2 => by have := inB_iff.1 h2; omega
structure PatI (s : ByteArray) (k : Nat) (n : Int) : Prop where
  kk : k ≤ s.size
  n0 : 0 ≤ n
  n1 : n ≤ k
  all : ∀ j, j < k → patAt s j = true
  any : decide (0 < n) = anyS s k
theorem PatI.zero (s : ByteArray) : PatI s 0 0 := ⟨Nat.zero_le _, by omega, by omega, fun j hj => by omega, rfl⟩
theorem PatI.letter {s : ByteArray} {k : Nat} {n : Int} (h : PatI s k n) (hk : k < s.size) (hs : smallC (at8 s k) = true) : PatI s (k + 1) (n + 1) :=
  ⟨by omega, by have := h.n0; omega, by have := h.n1; omega, fun j hj => by
    by_cases h1 : j < k
    · exact h.all j h1
    · have : j = k := by omega
      subst this
      simp [patAt, hs], by
    rw [anyS_succ, hs, Bool.or_true]
    have := h.n0
    simp; omega⟩
theorem PatI.other {s : ByteArray} {k : Nat} {n : Int} (h : PatI s k n) (hk : k < s.size) (hp : patAt s k = true) (hs : smallC (at8 s k) = false) : PatI s (k + 1) n :=
  ⟨by omega, h.n0, by have := h.n1; omega, fun j hj => by
    by_cases h1 : j < k
    · exact h.all j h1
    · have : j = k := by omega
      subst this
      exact hp, by rw [anyS_succ, hs, Bool.or_false]; exact h.any⟩
theorem PatI.done {s : ByteArray} {k : Nat} {n : Int} (h : PatI s k n) (hk : ¬ k < s.size) : patB s = (decide (0 < n) && decide (s.size ≤ 12)) := by
  have hk2 := h.kk
  have : k = s.size := by omega
  subst this
  rw [patB_yes h.all, h.any]
def φDig : Fun := F1 dU fun n => some (bv (inB n 48 57))
theorem φDig_ap (n : Int) : φDig [.val (.int .u8 n)] = some (.val (.bool (inB n 48 57))) := rfl
def allWords (l : LS) : Bool := decide (l.length ≤ 12) && l.all wordB
noncomputable def φWords : Fun := F1 dSs fun l => if okSs l then some (bv (allWords l)) else none
theorem φWords_ap {l : LS} (h : okSs l) : φWords [.lst false 1 (l.map fun s => .val (.string s))] = some (.val (.bool (allWords l))) :=
  (F1_ap (A := dSs) l).trans (if_pos h)
noncomputable def GSWords : Ctx := ⟨fun f => if f = 100 then some φWord else none, fun f => none⟩
theorem GSWords_ok : SoundΓ Tryd.prog GSWords := ⟨(fun f φ h => by
  unfold GSWords at h
  dsimp only at h
  split at h
  · rename_i hf; cases h; subst hf; exact ⟨⟨_, Tryd.func100, rfl, rfl⟩, specWordValid_ok⟩
  cases h), (fun f φ h => by
  unfold GSWords at h
  dsimp only at h
  cases h)⟩
theorem GSWords_100 (ob : Objs) (ps : List PV) : evCall GSWords ob 100 ps = (ps.mapM (reify false 0 ob fuel)).bind φWord := by
  have h : GSWords.fn 100 = some φWord := by simp [GSWords]
  unfold evCall
  rw [h]
  cases ps.mapM (reify false 0 ob fuel) <;> rfl
set_option maxHeartbeats 4000000 in
theorem specWordsValid_ok : Sound Tryd.prog 80 φWords := by
  refine sound_pq mixed GSWords_ok Tryd.func80 rfl 19 rfl [.tmp 2] rfl (by kernel_rfl) fun ps r hr => ?_
  obtain ⟨l, rfl, hq⟩ := F1_some hr
  clear hr
  split at hq
  case isFalse => cases hq
  case isTrue hok =>
  cases hq
  obtain ⟨hlen, hsz⟩ := hok
  refine ⟨by simp, ?_⟩
  simp only [dIs, dUs, dSs, dI_e, dU_e, dB_e, dS_e, dFn_e, dL_e, dA2_e, dA3_e, dA4_e, dA5_e]
  have gswords_c100 := GSWords_100
  repeat' (first | (with_reducible first | apply i_seq | apply i_block | apply i_skip | apply i_exit | apply i_ret | apply i_kS | apply i_kSx | apply i_kSr | apply i_kL | apply i_kLx | apply i_kLr | apply i_kB | apply i_kBr | apply i_kBs | apply i_nil) | ((with_reducible apply i_region); (focus (simp only [List.map_cons, List.map_nil] <;> exact rfl))) | ((with_reducible apply i_draw); (focus (simp only [List.map_cons, List.map_nil] <;> exact rfl)); (focus (decide +kernel))) | ((with_reducible apply i_kBo); (focus rfl)) | ((first | ((with_reducible apply i_V); (focus rfl); (focus rfl); (focus rfl)) | ((with_reducible apply i_E); (focus rfl); (focus (first | rfl | (simp only [push_cast, ↓reduceIte, effOk, touch, refsOf, List.flatMap_cons, List.flatMap_nil])))) | ((with_reducible apply i_S); (focus rfl); (focus (first | rfl | (simp only [push_cast, ↓reduceIte, effOk, touch, refsOf, List.flatMap_cons, List.flatMap_nil])))) | ((with_reducible apply i_Vq); (focus rfl); (focus rfl)) | ((with_reducible apply i_Vp); (focus rfl); (focus rfl); (focus rfl))); (focus (simp (disch := (first | omega | (simp only [push_cast]; done) | (simp only [push_cast]; omega) | ((try simp only [push_cast]); (with_reducible first | apply sel_lt | apply sel_ge); (focus decide); (focus (simp only [push_cast]; omega))))) only [push_cast, ↓reduceIte, Nat.reduceEqDiff, Nat.reduceBEq, Nat.reduceAdd, Nat.reduceSub, Int.reduceToNat, *] <;> with_reducible exact rfl))) | ((with_reducible first | apply i_Gb | apply i_cond); (focus (simp (disch := (first | omega | (simp only [push_cast]; done) | (simp only [push_cast]; omega) | ((try simp only [push_cast]); (with_reducible first | apply sel_lt | apply sel_ge); (focus decide); (focus (simp only [push_cast]; omega))))) only [push_cast, ↓reduceIte, Nat.reduceEqDiff, Nat.reduceBEq, Nat.reduceAdd, Nat.reduceSub, Int.reduceToNat, *] <;> with_reducible exact rfl)); all_goals (intro hX; first | (cases hX; done) | ((with_reducible first | have hX0 : true = true := hX | have hX0 : false = false := hX); clear hX0 hX) | ((try simp only [decide_eq_true_eq, decide_eq_false_iff_not, Bool.not_eq_true', Bool.not_eq_false'] at hX); (try have hXb := inB_iff.1 hX)))))
  refine i_loop (α := Nat) mixed (fun k => [(0, .lst false 1 (l.map fun s => .val (.string s))), (3, iv k)]) (fun _ => []) (fun _ => 0)
    (fun k => k ≤ l.length ∧ ∀ j, j < k → wordB (l[j]?.getD .empty) = true) (fun k => l.length - k) (by kernel_rfl) 0 ⟨Nat.zero_le _, fun j hj => by omega⟩ ?_ trivial rfl ?_
  · simp only [push_cast, ↓reduceIte, Nat.reduceEqDiff, Nat.reduceBEq, Nat.reduceAdd, Nat.reduceSub, Int.reduceToNat]
  · intro k ⟨hk, hok⟩
    have ap := @φWord_ap (l[k]?.getD .empty) (by have := hsz k; omega)
    clear hsz
    repeat' (first | (with_reducible first | apply i_seq | apply i_block | apply i_skip | apply i_exit | apply i_ret | apply i_kS | apply i_kSx | apply i_kSr | apply i_kL | apply i_kLx | apply i_kLr | apply i_kB | apply i_kBr | apply i_kBs | apply i_nil) | ((with_reducible apply i_region); (focus (simp only [List.map_cons, List.map_nil] <;> exact rfl))) | ((with_reducible apply i_draw); (focus (simp only [List.map_cons, List.map_nil] <;> exact rfl)); (focus (decide +kernel))) | ((with_reducible apply i_kBo); (focus rfl)) | ((first | ((with_reducible apply i_V); (focus rfl); (focus rfl); (focus rfl)) | ((with_reducible apply i_E); (focus rfl); (focus (first | rfl | (simp only [push_cast, ↓reduceIte, effOk, touch, refsOf, List.flatMap_cons, List.flatMap_nil])))) | ((with_reducible apply i_S); (focus rfl); (focus (first | rfl | (simp only [push_cast, ↓reduceIte, effOk, touch, refsOf, List.flatMap_cons, List.flatMap_nil])))) | ((with_reducible apply i_Vq); (focus rfl); (focus rfl)) | ((with_reducible apply i_Vp); (focus rfl); (focus rfl); (focus rfl))); (focus (simp (disch := (first | omega | (simp only [push_cast]; done) | (simp only [push_cast]; omega) | ((try simp only [push_cast]); (with_reducible first | apply sel_lt | apply sel_ge); (focus decide); (focus (simp only [push_cast]; omega))))) only [push_cast, ↓reduceIte, Nat.reduceEqDiff, Nat.reduceBEq, Nat.reduceAdd, Nat.reduceSub, Int.reduceToNat, *] <;> with_reducible exact rfl))) | ((with_reducible first | apply i_Gb | apply i_cond); (focus (simp (disch := (first | omega | (simp only [push_cast]; done) | (simp only [push_cast]; omega) | ((try simp only [push_cast]); (with_reducible first | apply sel_lt | apply sel_ge); (focus decide); (focus (simp only [push_cast]; omega))))) only [push_cast, ↓reduceIte, Nat.reduceEqDiff, Nat.reduceBEq, Nat.reduceAdd, Nat.reduceSub, Int.reduceToNat, *] <;> with_reducible exact rfl)); all_goals (intro hX; first | (cases hX; done) | ((with_reducible first | have hX0 : true = true := hX | have hX0 : false = false := hX); clear hX0 hX) | ((try simp only [decide_eq_true_eq, decide_eq_false_iff_not, Bool.not_eq_true', Bool.not_eq_false'] at hX); (try have hXb := inB_iff.1 hX)))))
    all_goals try ((first | apply i_end | apply i_endN); simp (disch := (first | omega | (simp only [push_cast]; done) | (simp only [push_cast]; omega) | ((try simp only [push_cast]); (with_reducible first | apply sel_lt | apply sel_ge); (focus decide); (focus (simp only [push_cast]; omega))))) only [push_cast, ↓reduceIte, Nat.reduceEqDiff, Nat.reduceBEq, Nat.reduceAdd, Nat.reduceSub, Int.reduceToNat, *])
    · rw [show allWords l = false from by (unfold allWords; rw [all_noK (d := .empty) (k := k) (by omega) (by simp_all), Bool.and_false])]
    · refine ⟨k + 1, ⟨by omega, fun j hj => ?_⟩, by dsimp only; omega, by simp only [push_cast, ↓reduceIte, Nat.reduceEqDiff, Nat.reduceBEq, Nat.reduceAdd, Nat.reduceSub, Int.reduceToNat], trivial, rfl⟩
      by_cases h1 : j < k
      · exact hok j h1
      · have : j = k := by omega
        subst this
        simp_all
    · rw [show allWords l = decide (l.length ≤ 12) from by (unfold allWords; rw [all_yesK (d := .empty) fun j hj => hok j (by omega), Bool.and_true])]
      simp
      omega
noncomputable def GIWords : Ctx := ⟨fun f => if f = 99 then some φWord else none, fun f => none⟩
theorem GIWords_ok : SoundΓ Tryd.prog GIWords := ⟨(fun f φ h => by
  unfold GIWords at h
  dsimp only at h
  split at h
  · rename_i hf; cases h; subst hf; exact ⟨⟨_, Tryd.func99, rfl, rfl⟩, implWordValid_ok⟩
  cases h), (fun f φ h => by
  unfold GIWords at h
  dsimp only at h
  cases h)⟩
theorem GIWords_99 (ob : Objs) (ps : List PV) : evCall GIWords ob 99 ps = (ps.mapM (reify false 0 ob fuel)).bind φWord := by
  have h : GIWords.fn 99 = some φWord := by simp [GIWords]
  unfold evCall
  rw [h]
  cases ps.mapM (reify false 0 ob fuel) <;> rfl
set_option maxHeartbeats 4000000 in
theorem implWordsValid_ok : Sound Tryd.prog 76 φWords := by
  refine sound_pq mixed GIWords_ok Tryd.func76 rfl 18 rfl [.tmp 2] rfl (by kernel_rfl) fun ps r hr => ?_
  obtain ⟨l, rfl, hq⟩ := F1_some hr
  clear hr
  split at hq
  case isFalse => cases hq
  case isTrue hok =>
  cases hq
  obtain ⟨hlen, hsz⟩ := hok
  refine ⟨by simp, ?_⟩
  simp only [dIs, dUs, dSs, dI_e, dU_e, dB_e, dS_e, dFn_e, dL_e, dA2_e, dA3_e, dA4_e, dA5_e]
  have giwords_c99 := GIWords_99
  repeat' (first | (with_reducible first | apply i_seq | apply i_block | apply i_skip | apply i_exit | apply i_ret | apply i_kS | apply i_kSx | apply i_kSr | apply i_kL | apply i_kLx | apply i_kLr | apply i_kB | apply i_kBr | apply i_kBs | apply i_nil) | ((with_reducible apply i_region); (focus (simp only [List.map_cons, List.map_nil] <;> exact rfl))) | ((with_reducible apply i_draw); (focus (simp only [List.map_cons, List.map_nil] <;> exact rfl)); (focus (decide +kernel))) | ((with_reducible apply i_kBo); (focus rfl)) | ((first | ((with_reducible apply i_V); (focus rfl); (focus rfl); (focus rfl)) | ((with_reducible apply i_E); (focus rfl); (focus (first | rfl | (simp only [push_cast, ↓reduceIte, effOk, touch, refsOf, List.flatMap_cons, List.flatMap_nil])))) | ((with_reducible apply i_S); (focus rfl); (focus (first | rfl | (simp only [push_cast, ↓reduceIte, effOk, touch, refsOf, List.flatMap_cons, List.flatMap_nil])))) | ((with_reducible apply i_Vq); (focus rfl); (focus rfl)) | ((with_reducible apply i_Vp); (focus rfl); (focus rfl); (focus rfl))); (focus (simp (disch := (first | omega | (simp only [push_cast]; done) | (simp only [push_cast]; omega) | ((try simp only [push_cast]); (with_reducible first | apply sel_lt | apply sel_ge); (focus decide); (focus (simp only [push_cast]; omega))))) only [push_cast, ↓reduceIte, Nat.reduceEqDiff, Nat.reduceBEq, Nat.reduceAdd, Nat.reduceSub, Int.reduceToNat, *] <;> with_reducible exact rfl))) | ((with_reducible first | apply i_Gb | apply i_cond); (focus (simp (disch := (first | omega | (simp only [push_cast]; done) | (simp only [push_cast]; omega) | ((try simp only [push_cast]); (with_reducible first | apply sel_lt | apply sel_ge); (focus decide); (focus (simp only [push_cast]; omega))))) only [push_cast, ↓reduceIte, Nat.reduceEqDiff, Nat.reduceBEq, Nat.reduceAdd, Nat.reduceSub, Int.reduceToNat, *] <;> with_reducible exact rfl)); all_goals (intro hX; first | (cases hX; done) | ((with_reducible first | have hX0 : true = true := hX | have hX0 : false = false := hX); clear hX0 hX) | ((try simp only [decide_eq_true_eq, decide_eq_false_iff_not, Bool.not_eq_true', Bool.not_eq_false'] at hX); (try have hXb := inB_iff.1 hX)))))
  refine i_loop (α := Nat) mixed (fun k => [(0, .lst false 1 (l.map fun s => .val (.string s))), (5, .lst false 1 (l.map fun s => .val (.string s))), (6, iv l.length), (7, iv k)]) (fun _ => []) (fun _ => 0)
    (fun k => k ≤ l.length ∧ ∀ j, j < k → wordB (l[j]?.getD .empty) = true) (fun k => l.length - k) (by kernel_rfl) 0 ⟨Nat.zero_le _, fun j hj => by omega⟩ ?_ trivial rfl ?_
  · simp only [push_cast, ↓reduceIte, Nat.reduceEqDiff, Nat.reduceBEq, Nat.reduceAdd, Nat.reduceSub, Int.reduceToNat]
  · intro k ⟨hk, hok⟩
    have ap := @φWord_ap (l[k]?.getD .empty) (by have := hsz k; omega)
    clear hsz
    repeat' (first | (with_reducible first | apply i_seq | apply i_block | apply i_skip | apply i_exit | apply i_ret | apply i_kS | apply i_kSx | apply i_kSr | apply i_kL | apply i_kLx | apply i_kLr | apply i_kB | apply i_kBr | apply i_kBs | apply i_nil) | ((with_reducible apply i_region); (focus (simp only [List.map_cons, List.map_nil] <;> exact rfl))) | ((with_reducible apply i_draw); (focus (simp only [List.map_cons, List.map_nil] <;> exact rfl)); (focus (decide +kernel))) | ((with_reducible apply i_kBo); (focus rfl)) | ((first | ((with_reducible apply i_V); (focus rfl); (focus rfl); (focus rfl)) | ((with_reducible apply i_E); (focus rfl); (focus (first | rfl | (simp only [push_cast, ↓reduceIte, effOk, touch, refsOf, List.flatMap_cons, List.flatMap_nil])))) | ((with_reducible apply i_S); (focus rfl); (focus (first | rfl | (simp only [push_cast, ↓reduceIte, effOk, touch, refsOf, List.flatMap_cons, List.flatMap_nil])))) | ((with_reducible apply i_Vq); (focus rfl); (focus rfl)) | ((with_reducible apply i_Vp); (focus rfl); (focus rfl); (focus rfl))); (focus (simp (disch := (first | omega | (simp only [push_cast]; done) | (simp only [push_cast]; omega) | ((try simp only [push_cast]); (with_reducible first | apply sel_lt | apply sel_ge); (focus decide); (focus (simp only [push_cast]; omega))))) only [push_cast, ↓reduceIte, Nat.reduceEqDiff, Nat.reduceBEq, Nat.reduceAdd, Nat.reduceSub, Int.reduceToNat, *] <;> with_reducible exact rfl))) | ((with_reducible first | apply i_Gb | apply i_cond); (focus (simp (disch := (first | omega | (simp only [push_cast]; done) | (simp only [push_cast]; omega) | ((try simp only [push_cast]); (with_reducible first | apply sel_lt | apply sel_ge); (focus decide); (focus (simp only [push_cast]; omega))))) only [push_cast, ↓reduceIte, Nat.reduceEqDiff, Nat.reduceBEq, Nat.reduceAdd, Nat.reduceSub, Int.reduceToNat, *] <;> with_reducible exact rfl)); all_goals (intro hX; first | (cases hX; done) | ((with_reducible first | have hX0 : true = true := hX | have hX0 : false = false := hX); clear hX0 hX) | ((try simp only [decide_eq_true_eq, decide_eq_false_iff_not, Bool.not_eq_true', Bool.not_eq_false'] at hX); (try have hXb := inB_iff.1 hX)))))
    all_goals try ((first | apply i_end | apply i_endN); simp (disch := (first | omega | (simp only [push_cast]; done) | (simp only [push_cast]; omega) | ((try simp only [push_cast]); (with_reducible first | apply sel_lt | apply sel_ge); (focus decide); (focus (simp only [push_cast]; omega))))) only [push_cast, ↓reduceIte, Nat.reduceEqDiff, Nat.reduceBEq, Nat.reduceAdd, Nat.reduceSub, Int.reduceToNat, *])
    · rw [show allWords l = false from by (unfold allWords; rw [all_noK (d := .empty) (k := k) (by omega) (by simp_all), Bool.and_false])]
    · refine ⟨k + 1, ⟨by omega, fun j hj => ?_⟩, by dsimp only; omega, by simp only [push_cast, ↓reduceIte, Nat.reduceEqDiff, Nat.reduceBEq, Nat.reduceAdd, Nat.reduceSub, Int.reduceToNat], trivial, rfl⟩
      by_cases h1 : j < k
      · exact hok j h1
      · have : j = k := by omega
        subst this
        simp_all
    · rw [show allWords l = decide (l.length ≤ 12) from by (unfold allWords; rw [all_yesK (d := .empty) fun j hj => hok j (by omega), Bool.and_true])]
      simp
      omega
def allPats (l : LS) : Bool := decide (l.length ≤ 20) && l.all patB
noncomputable def φPats : Fun := F1 dSs fun l => if okSs l then some (bv (allPats l)) else none
theorem φPats_ap {l : LS} (h : okSs l) : φPats [.lst false 1 (l.map fun s => .val (.string s))] = some (.val (.bool (allPats l))) :=
  (F1_ap (A := dSs) l).trans (if_pos h)
def szS (left : Int) (l : LS) : Int := if left - l.length < 0 then -1 else takeOff (left - l.length) (l.map (·.size))
theorem takeOff_le : ∀ {l : List Nat} {left : Int}, 0 ≤ left → takeOff left l ≤ left
  | [], left, h => by simp [takeOff]
  | n :: l, left, h => by
    unfold takeOff
    split
    · omega
    · rename_i h1
      have := takeOff_le (l := l) (left := left - n) (by omega)
      omega
theorem szS_le {l : LS} {left : Int} (h : 0 ≤ left) : szS left l ≤ left := by
  unfold szS
  split
  · omega
  · rename_i h1
    have := takeOff_le (l := l.map (·.size)) (left := left - l.length) (by omega)
    omega
theorem szS_ok {l : LS} {left : Int} (h : 0 ≤ szS left l) (h0 : 0 ≤ left) (h1 : left ≤ 1048576) : okSs l := by
  unfold szS at h
  split at h
  · omega
  · rename_i h2
    have h3 := takeOff_pos h (by omega)
    refine ⟨by omega, fun i => ?_⟩
    by_cases hi : i < l.length
    · have := h3 (l[i].size) (List.mem_map.2 ⟨l[i], List.getElem_mem hi, rfl⟩)
      simp only [hi, List.getElem?_eq_getElem, Option.getD_some]
      omega
    · rw [List.getElem?_eq_none (by omega)]
      simp
abbrev okSL (l : LS) : Prop := l.length ≤ 9223372036854775807 ∧ ∀ i : Nat, (l[i]?.getD .empty).size ≤ 9223372036854775807
noncomputable instance (l : LS) : Decidable (okSL l) := Classical.propDecidable _
noncomputable def φSzS : Fun := F2 dSs dI fun l left => if okSL l ∧ 0 ≤ left ∧ left ≤ 1048576 then some (iv (szS left l)) else none
theorem φSzS_ap {l : LS} {left : Int} (h : okSL l) (h0 : 0 ≤ left) (h1 : left ≤ 1048576) : φSzS [.lst false 1 (l.map fun s => .val (.string s)), .val (.int .i64 left)] = some (.val (.int .i64 (szS left l))) :=
  (F2_ap (A := dSs) (B := dI) l left).trans (if_pos ⟨h, h0, h1⟩)
set_option maxHeartbeats 4000000 in
theorem szStringS_ok : Sound Tryd.prog 11 φSzS := by
  refine sound_pq mixed GE_ok Tryd.func11 rfl 28 rfl [.tmp 4] rfl (by kernel_rfl) fun ps r hr => ?_
  obtain ⟨l, left0, rfl, hq⟩ := F2_some hr
  clear hr
  split at hq
  case isFalse => cases hq
  case isTrue hok =>
  cases hq
  obtain ⟨⟨hlen, hsz⟩, hl0, hl1⟩ := hok
  refine ⟨by simp, ?_⟩
  simp only [dIs, dUs, dSs, dI_e, dU_e, dB_e, dS_e, dFn_e, dL_e, dA2_e, dA3_e, dA4_e, dA5_e]
  repeat' (first | (with_reducible first | apply i_seq | apply i_block | apply i_skip | apply i_exit | apply i_ret | apply i_kS | apply i_kSx | apply i_kSr | apply i_kL | apply i_kLx | apply i_kLr | apply i_kB | apply i_kBr | apply i_kBs | apply i_nil) | ((with_reducible apply i_region); (focus (simp only [List.map_cons, List.map_nil] <;> exact rfl))) | ((with_reducible apply i_draw); (focus (simp only [List.map_cons, List.map_nil] <;> exact rfl)); (focus (decide +kernel))) | ((with_reducible apply i_kBo); (focus rfl)) | ((first | ((with_reducible apply i_V); (focus rfl); (focus rfl); (focus rfl)) | ((with_reducible apply i_E); (focus rfl); (focus (first | rfl | (simp only [push_cast, ↓reduceIte, effOk, touch, refsOf, List.flatMap_cons, List.flatMap_nil])))) | ((with_reducible apply i_S); (focus rfl); (focus (first | rfl | (simp only [push_cast, ↓reduceIte, effOk, touch, refsOf, List.flatMap_cons, List.flatMap_nil])))) | ((with_reducible apply i_Vq); (focus rfl); (focus rfl)) | ((with_reducible apply i_Vp); (focus rfl); (focus rfl); (focus rfl))); (focus (simp (disch := (first | omega | (simp only [push_cast]; done) | (simp only [push_cast]; omega) | ((try simp only [push_cast]); (with_reducible first | apply sel_lt | apply sel_ge); (focus decide); (focus (simp only [push_cast]; omega))))) only [push_cast, ↓reduceIte, Nat.reduceEqDiff, Nat.reduceBEq, Nat.reduceAdd, Nat.reduceSub, Int.reduceToNat, *] <;> with_reducible exact rfl))) | ((with_reducible first | apply i_Gb | apply i_cond); (focus (simp (disch := (first | omega | (simp only [push_cast]; done) | (simp only [push_cast]; omega) | ((try simp only [push_cast]); (with_reducible first | apply sel_lt | apply sel_ge); (focus decide); (focus (simp only [push_cast]; omega))))) only [push_cast, ↓reduceIte, Nat.reduceEqDiff, Nat.reduceBEq, Nat.reduceAdd, Nat.reduceSub, Int.reduceToNat, *] <;> with_reducible exact rfl)); all_goals (intro hX; first | (cases hX; done) | ((with_reducible first | have hX0 : true = true := hX | have hX0 : false = false := hX); clear hX0 hX) | ((try simp only [decide_eq_true_eq, decide_eq_false_iff_not, Bool.not_eq_true', Bool.not_eq_false'] at hX); (try have hXb := inB_iff.1 hX)))))
  · ((first | apply i_end | apply i_endN); simp (disch := (first | omega | (simp only [push_cast]; done) | (simp only [push_cast]; omega) | ((try simp only [push_cast]); (with_reducible first | apply sel_lt | apply sel_ge); (focus decide); (focus (simp only [push_cast]; omega))))) only [push_cast, ↓reduceIte, Nat.reduceEqDiff, Nat.reduceBEq, Nat.reduceAdd, Nat.reduceSub, Int.reduceToNat, *])
    simp [szS, *]
  generalize hR : szS left0 l = R
  refine i_loop (α := Nat × Int) mixed (fun k => [(0, .lst false 1 (l.map fun s => .val (.string s))), (1, iv k.2), (5, iv k.1)]) (fun k => []) (fun _ => 0)
    (fun k => k.1 ≤ l.length ∧ 0 ≤ k.2 ∧ k.2 ≤ 1048576 ∧ R = takeOff k.2 ((l.drop k.1).map (·.size))) (fun k => l.length - k.1) (by kernel_rfl) (0, left0 - l.length) ⟨Nat.zero_le _, by dsimp only; omega, by dsimp only; omega, ?_⟩ ?_ trivial rfl ?_
  · subst hR
    simp [szS, *]
  · simp only [push_cast, ↓reduceIte, Nat.reduceEqDiff, Nat.reduceBEq, Nat.reduceAdd, Nat.reduceSub, Int.reduceToNat]
  · rintro ⟨k, left⟩ ⟨hk, hp0, hp1, hok⟩
    dsimp only at hk hp0 hp1 hok
    have hs := hsz k
    have h1 : k < l.length → R = if left - ((l[k]?.getD .empty).size : Int) < 0 then -1 else takeOff (left - (l[k]?.getD .empty).size) ((l.drop (k + 1)).map (·.size)) := by
      intro hkn
      have hd : l.drop k = l[k]?.getD .empty :: l.drop (k + 1) := by rw [List.drop_eq_getElem_cons hkn]; simp [hkn]
      rw [hd, List.map_cons] at hok
      exact hok
    have h2 : ¬ k < l.length → R = left := by
      intro hkn
      rw [List.drop_eq_nil_of_le (by omega)] at hok
      simpa [takeOff] using hok
    clear hsz hok hR
    have hh1 := Lib.hid h1
    have hh2 := Lib.hid h2
    clear h1 h2
    repeat' (first | (with_reducible first | apply i_seq | apply i_block | apply i_skip | apply i_exit | apply i_ret | apply i_kS | apply i_kSx | apply i_kSr | apply i_kL | apply i_kLx | apply i_kLr | apply i_kB | apply i_kBr | apply i_kBs | apply i_nil) | ((with_reducible apply i_region); (focus (simp only [List.map_cons, List.map_nil] <;> exact rfl))) | ((with_reducible apply i_draw); (focus (simp only [List.map_cons, List.map_nil] <;> exact rfl)); (focus (decide +kernel))) | ((with_reducible apply i_kBo); (focus rfl)) | ((first | ((with_reducible apply i_V); (focus rfl); (focus rfl); (focus rfl)) | ((with_reducible apply i_E); (focus rfl); (focus (first | rfl | (simp only [push_cast, ↓reduceIte, effOk, touch, refsOf, List.flatMap_cons, List.flatMap_nil])))) | ((with_reducible apply i_S); (focus rfl); (focus (first | rfl | (simp only [push_cast, ↓reduceIte, effOk, touch, refsOf, List.flatMap_cons, List.flatMap_nil])))) | ((with_reducible apply i_Vq); (focus rfl); (focus rfl)) | ((with_reducible apply i_Vp); (focus rfl); (focus rfl); (focus rfl))); (focus (simp (disch := (first | omega | (simp only [push_cast]; done) | (simp only [push_cast]; omega) | ((try simp only [push_cast]); (with_reducible first | apply sel_lt | apply sel_ge); (focus decide); (focus (simp only [push_cast]; omega))))) only [push_cast, ↓reduceIte, Nat.reduceEqDiff, Nat.reduceBEq, Nat.reduceAdd, Nat.reduceSub, Int.reduceToNat, *] <;> with_reducible exact rfl))) | ((with_reducible first | apply i_Gb | apply i_cond); (focus (simp (disch := (first | omega | (simp only [push_cast]; done) | (simp only [push_cast]; omega) | ((try simp only [push_cast]); (with_reducible first | apply sel_lt | apply sel_ge); (focus decide); (focus (simp only [push_cast]; omega))))) only [push_cast, ↓reduceIte, Nat.reduceEqDiff, Nat.reduceBEq, Nat.reduceAdd, Nat.reduceSub, Int.reduceToNat, *] <;> with_reducible exact rfl)); all_goals (intro hX; first | (cases hX; done) | ((with_reducible first | have hX0 : true = true := hX | have hX0 : false = false := hX); clear hX0 hX) | ((try simp only [decide_eq_true_eq, decide_eq_false_iff_not, Bool.not_eq_true', Bool.not_eq_false'] at hX); (try have hXb := inB_iff.1 hX)))))
    all_goals try ((first | apply i_end | apply i_endN); simp (disch := (first | omega | (simp only [push_cast]; done) | (simp only [push_cast]; omega) | ((try simp only [push_cast]); (with_reducible first | apply sel_lt | apply sel_ge); (focus decide); (focus (simp only [push_cast]; omega))))) only [push_cast, ↓reduceIte, Nat.reduceEqDiff, Nat.reduceBEq, Nat.reduceAdd, Nat.reduceSub, Int.reduceToNat, *])
    · rw [hh1.out (by omega), if_pos (by assumption)]
    · have := hh1.out (by omega)
      rw [if_neg (by assumption)] at this
      exact ⟨(k + 1, left - (l[k]?.getD .empty).size), ⟨by dsimp only; omega, by dsimp only; omega, by dsimp only; omega, this⟩, by dsimp only; omega, by simp only [push_cast, ↓reduceIte, Nat.reduceEqDiff, Nat.reduceBEq, Nat.reduceAdd, Nat.reduceSub, Int.reduceToNat], trivial, rfl⟩
    · rw [hh2.out (by omega)]
def φToS : Fun := F1 dSs fun l => if l.length ≤ 1048576 then some (.lst true 1 (l.map fun s => .val (.string s))) else none
theorem φToS_ap {l : LS} (h : l.length ≤ 1048576) : φToS [.lst false 1 (l.map fun s => .val (.string s))] = some (.lst true 1 (l.map fun s => .val (.string s))) :=
  (F1_ap (A := dSs) l).trans (if_pos h)
set_option maxHeartbeats 4000000 in
theorem toStringS_ok : Sound Tryd.prog 13 φToS := by
  refine sound_pq mixed GE_ok Tryd.func13 rfl 22 rfl [.tmp 2] rfl (by kernel_rfl) fun ps r hr => ?_
  obtain ⟨l, rfl, hq⟩ := F1_some hr
  clear hr
  split at hq
  case isFalse => cases hq
  case isTrue hlen =>
  cases hq
  refine ⟨by simp, ?_⟩
  simp only [dIs, dUs, dSs, dI_e, dU_e, dB_e, dS_e, dFn_e, dL_e, dA2_e, dA3_e, dA4_e, dA5_e]
  repeat' (first | (with_reducible first | apply i_seq | apply i_block | apply i_skip | apply i_exit | apply i_ret | apply i_kS | apply i_kSx | apply i_kSr | apply i_kL | apply i_kLx | apply i_kLr | apply i_kB | apply i_kBr | apply i_kBs | apply i_nil) | ((with_reducible apply i_region); (focus (simp only [List.map_cons, List.map_nil] <;> exact rfl))) | ((with_reducible apply i_draw); (focus (simp only [List.map_cons, List.map_nil] <;> exact rfl)); (focus (decide +kernel))) | ((with_reducible apply i_kBo); (focus rfl)) | ((first | ((with_reducible apply i_V); (focus rfl); (focus rfl); (focus rfl)) | ((with_reducible apply i_E); (focus rfl); (focus (first | rfl | (simp only [push_cast, ↓reduceIte, effOk, touch, refsOf, List.flatMap_cons, List.flatMap_nil])))) | ((with_reducible apply i_S); (focus rfl); (focus (first | rfl | (simp only [push_cast, ↓reduceIte, effOk, touch, refsOf, List.flatMap_cons, List.flatMap_nil])))) | ((with_reducible apply i_Vq); (focus rfl); (focus rfl)) | ((with_reducible apply i_Vp); (focus rfl); (focus rfl); (focus rfl))); (focus (simp (disch := (first | omega | (simp only [push_cast]; done) | (simp only [push_cast]; omega) | ((try simp only [push_cast]); (with_reducible first | apply sel_lt | apply sel_ge); (focus decide); (focus (simp only [push_cast]; omega))))) only [push_cast, ↓reduceIte, Nat.reduceEqDiff, Nat.reduceBEq, Nat.reduceAdd, Nat.reduceSub, Int.reduceToNat, *] <;> with_reducible exact rfl))) | ((with_reducible first | apply i_Gb | apply i_cond); (focus (simp (disch := (first | omega | (simp only [push_cast]; done) | (simp only [push_cast]; omega) | ((try simp only [push_cast]); (with_reducible first | apply sel_lt | apply sel_ge); (focus decide); (focus (simp only [push_cast]; omega))))) only [push_cast, ↓reduceIte, Nat.reduceEqDiff, Nat.reduceBEq, Nat.reduceAdd, Nat.reduceSub, Int.reduceToNat, *] <;> with_reducible exact rfl)); all_goals (intro hX; first | (cases hX; done) | ((with_reducible first | have hX0 : true = true := hX | have hX0 : false = false := hX); clear hX0 hX) | ((try simp only [decide_eq_true_eq, decide_eq_false_iff_not, Bool.not_eq_true', Bool.not_eq_false'] at hX); (try have hXb := inB_iff.1 hX)))))
  refine i_loop (α := Nat) mixed (fun k => [(0, .lst false 1 (l.map fun s => .val (.string s))), (3, .row 0 1 0 l.length), (4, iv k)]) (fun k => [(0, 9, 1, (fillZ l .empty k).map fun s => .val (.string s))]) (fun _ => 1)
    (fun k => k ≤ l.length) (fun k => l.length - k) (by kernel_rfl) 0 (Nat.zero_le _) ?_ ?_ ?_ ?_
  · simp only [push_cast, ↓reduceIte, Nat.reduceEqDiff, Nat.reduceBEq, Nat.reduceAdd, Nat.reduceSub, Int.reduceToNat]
  · simp only [push_cast, ↓reduceIte, Nat.reduceEqDiff, Nat.reduceBEq, Nat.reduceAdd, Nat.reduceSub, Int.reduceToNat, fillZ_zero, List.map_replicate]
  · simp only [push_cast, ↓reduceIte, Nat.reduceEqDiff, Nat.reduceBEq, Nat.reduceAdd, Nat.reduceSub, Int.reduceToNat]
  · intro k hk
    have hfl : (fillZ l .empty k).length = l.length := fillZ_length
    repeat' (first | (with_reducible first | apply i_seq | apply i_block | apply i_skip | apply i_exit | apply i_ret | apply i_kS | apply i_kSx | apply i_kSr | apply i_kL | apply i_kLx | apply i_kLr | apply i_kB | apply i_kBr | apply i_kBs | apply i_nil) | ((with_reducible apply i_region); (focus (simp only [List.map_cons, List.map_nil] <;> exact rfl))) | ((with_reducible apply i_draw); (focus (simp only [List.map_cons, List.map_nil] <;> exact rfl)); (focus (decide +kernel))) | ((with_reducible apply i_kBo); (focus rfl)) | ((first | ((with_reducible apply i_V); (focus rfl); (focus rfl); (focus rfl)) | ((with_reducible apply i_E); (focus rfl); (focus (first | rfl | (simp only [push_cast, ↓reduceIte, effOk, touch, refsOf, List.flatMap_cons, List.flatMap_nil])))) | ((with_reducible apply i_S); (focus rfl); (focus (first | rfl | (simp only [push_cast, ↓reduceIte, effOk, touch, refsOf, List.flatMap_cons, List.flatMap_nil])))) | ((with_reducible apply i_Vq); (focus rfl); (focus rfl)) | ((with_reducible apply i_Vp); (focus rfl); (focus rfl); (focus rfl))); (focus (simp (disch := (first | omega | (simp only [push_cast]; done) | (simp only [push_cast]; omega) | ((try simp only [push_cast]); (with_reducible first | apply sel_lt | apply sel_ge); (focus decide); (focus (simp only [push_cast]; omega))))) only [push_cast, ↓reduceIte, Nat.reduceEqDiff, Nat.reduceBEq, Nat.reduceAdd, Nat.reduceSub, Int.reduceToNat, *] <;> with_reducible exact rfl))) | ((with_reducible first | apply i_Gb | apply i_cond); (focus (simp (disch := (first | omega | (simp only [push_cast]; done) | (simp only [push_cast]; omega) | ((try simp only [push_cast]); (with_reducible first | apply sel_lt | apply sel_ge); (focus decide); (focus (simp only [push_cast]; omega))))) only [push_cast, ↓reduceIte, Nat.reduceEqDiff, Nat.reduceBEq, Nat.reduceAdd, Nat.reduceSub, Int.reduceToNat, *] <;> with_reducible exact rfl)); all_goals (intro hX; first | (cases hX; done) | ((with_reducible first | have hX0 : true = true := hX | have hX0 : false = false := hX); clear hX0 hX) | ((try simp only [decide_eq_true_eq, decide_eq_false_iff_not, Bool.not_eq_true', Bool.not_eq_false'] at hX); (try have hXb := inB_iff.1 hX)))))
    all_goals try ((first | apply i_end | apply i_endN); simp (disch := (first | omega | (simp only [push_cast]; done) | (simp only [push_cast]; omega) | ((try simp only [push_cast]); (with_reducible first | apply sel_lt | apply sel_ge); (focus decide); (focus (simp only [push_cast]; omega))))) only [push_cast, ↓reduceIte, Nat.reduceEqDiff, Nat.reduceBEq, Nat.reduceAdd, Nat.reduceSub, Int.reduceToNat, *])
    · refine ⟨k + 1, by omega, by dsimp only; omega, by simp only [push_cast, ↓reduceIte, Nat.reduceEqDiff, Nat.reduceBEq, Nat.reduceAdd, Nat.reduceSub, Int.reduceToNat], ?_, rfl⟩
      simp only [push_cast, ↓reduceIte, Nat.reduceEqDiff, Nat.reduceBEq, Nat.reduceAdd, Nat.reduceSub, Int.reduceToNat]
      have h : k < l.length := by omega
      rw [← fillZ_set (y := l[k]?.getD .empty) h (by simp [h])]
    · rw [fillZ_full (by omega)]
def φEqS : Fun := F2 dSs dSs fun a b => if a.length ≤ 1048576 ∧ b.length ≤ 1048576 then some (bv (decide (a = b))) else none
theorem φEqS_ap {a b : LS} (h : a.length ≤ 1048576) (h2 : b.length ≤ 1048576) : φEqS [.lst false 1 (a.map fun s => .val (.string s)), .lst false 1 (b.map fun s => .val (.string s))] = some (.val (.bool (decide (a = b)))) :=
  (F2_ap (A := dSs) (B := dSs) a b).trans (if_pos ⟨h, h2⟩)
set_option maxHeartbeats 4000000 in
theorem eqStringS_ok : Sound Tryd.prog 15 φEqS := by
  refine sound_pq mixed GE_ok Tryd.func15 rfl 26 rfl [.tmp 4] rfl (by kernel_rfl) fun ps r hr => ?_
  obtain ⟨xs, ys, rfl, hq⟩ := F2_some hr
  clear hr
  split at hq
  case isFalse => cases hq
  case isTrue hlen =>
  cases hq
  obtain ⟨hl1, hl2⟩ := hlen
  refine ⟨by simp, ?_⟩
  simp only [dIs, dUs, dSs, dI_e, dU_e, dB_e, dS_e, dFn_e, dL_e, dA2_e, dA3_e, dA4_e, dA5_e]
  repeat' (first | (with_reducible first | apply i_seq | apply i_block | apply i_skip | apply i_exit | apply i_ret | apply i_kS | apply i_kSx | apply i_kSr | apply i_kL | apply i_kLx | apply i_kLr | apply i_kB | apply i_kBr | apply i_kBs | apply i_nil) | ((with_reducible apply i_region); (focus (simp only [List.map_cons, List.map_nil] <;> exact rfl))) | ((with_reducible apply i_draw); (focus (simp only [List.map_cons, List.map_nil] <;> exact rfl)); (focus (decide +kernel))) | ((with_reducible apply i_kBo); (focus rfl)) | ((first | ((with_reducible apply i_V); (focus rfl); (focus rfl); (focus rfl)) | ((with_reducible apply i_E); (focus rfl); (focus (first | rfl | (simp only [push_cast, ↓reduceIte, effOk, touch, refsOf, List.flatMap_cons, List.flatMap_nil])))) | ((with_reducible apply i_S); (focus rfl); (focus (first | rfl | (simp only [push_cast, ↓reduceIte, effOk, touch, refsOf, List.flatMap_cons, List.flatMap_nil])))) | ((with_reducible apply i_Vq); (focus rfl); (focus rfl)) | ((with_reducible apply i_Vp); (focus rfl); (focus rfl); (focus rfl))); (focus (simp (disch := (first | omega | (simp only [push_cast]; done) | (simp only [push_cast]; omega) | ((try simp only [push_cast]); (with_reducible first | apply sel_lt | apply sel_ge); (focus decide); (focus (simp only [push_cast]; omega))))) only [push_cast, ↓reduceIte, Nat.reduceEqDiff, Nat.reduceBEq, Nat.reduceAdd, Nat.reduceSub, Int.reduceToNat, *] <;> with_reducible exact rfl))) | ((with_reducible first | apply i_Gb | apply i_cond); (focus (simp (disch := (first | omega | (simp only [push_cast]; done) | (simp only [push_cast]; omega) | ((try simp only [push_cast]); (with_reducible first | apply sel_lt | apply sel_ge); (focus decide); (focus (simp only [push_cast]; omega))))) only [push_cast, ↓reduceIte, Nat.reduceEqDiff, Nat.reduceBEq, Nat.reduceAdd, Nat.reduceSub, Int.reduceToNat, *] <;> with_reducible exact rfl)); all_goals (intro hX; first | (cases hX; done) | ((with_reducible first | have hX0 : true = true := hX | have hX0 : false = false := hX); clear hX0 hX) | ((try simp only [decide_eq_true_eq, decide_eq_false_iff_not, Bool.not_eq_true', Bool.not_eq_false'] at hX); (try have hXb := inB_iff.1 hX)))))
  · ((first | apply i_end | apply i_endN); simp (disch := (first | omega | (simp only [push_cast]; done) | (simp only [push_cast]; omega) | ((try simp only [push_cast]); (with_reducible first | apply sel_lt | apply sel_ge); (focus decide); (focus (simp only [push_cast]; omega))))) only [push_cast, ↓reduceIte, Nat.reduceEqDiff, Nat.reduceBEq, Nat.reduceAdd, Nat.reduceSub, Int.reduceToNat, *])
    have : ¬ xs = ys := fun h => by subst h; simp_all
    simp [this]
  refine i_loop (α := Nat) mixed (fun k => [(0, .lst false 1 (xs.map fun s => .val (.string s))), (1, .lst false 1 (ys.map fun s => .val (.string s))), (5, iv k)]) (fun k => []) (fun _ => 0)
    (fun k => k ≤ xs.length ∧ ∀ j, j < k → xs[j]?.getD .empty = ys[j]?.getD .empty) (fun k => xs.length - k) (by kernel_rfl) 0 ⟨Nat.zero_le _, fun j hj => by omega⟩ ?_ trivial rfl ?_
  · simp only [push_cast, ↓reduceIte, Nat.reduceEqDiff, Nat.reduceBEq, Nat.reduceAdd, Nat.reduceSub, Int.reduceToNat]
  · intro k ⟨hk, hok⟩
    repeat' (first | (with_reducible first | apply i_seq | apply i_block | apply i_skip | apply i_exit | apply i_ret | apply i_kS | apply i_kSx | apply i_kSr | apply i_kL | apply i_kLx | apply i_kLr | apply i_kB | apply i_kBr | apply i_kBs | apply i_nil) | ((with_reducible apply i_region); (focus (simp only [List.map_cons, List.map_nil] <;> exact rfl))) | ((with_reducible apply i_draw); (focus (simp only [List.map_cons, List.map_nil] <;> exact rfl)); (focus (decide +kernel))) | ((with_reducible apply i_kBo); (focus rfl)) | ((first | ((with_reducible apply i_V); (focus rfl); (focus rfl); (focus rfl)) | ((with_reducible apply i_E); (focus rfl); (focus (first | rfl | (simp only [push_cast, ↓reduceIte, effOk, touch, refsOf, List.flatMap_cons, List.flatMap_nil])))) | ((with_reducible apply i_S); (focus rfl); (focus (first | rfl | (simp only [push_cast, ↓reduceIte, effOk, touch, refsOf, List.flatMap_cons, List.flatMap_nil])))) | ((with_reducible apply i_Vq); (focus rfl); (focus rfl)) | ((with_reducible apply i_Vp); (focus rfl); (focus rfl); (focus rfl))); (focus (simp (disch := (first | omega | (simp only [push_cast]; done) | (simp only [push_cast]; omega) | ((try simp only [push_cast]); (with_reducible first | apply sel_lt | apply sel_ge); (focus decide); (focus (simp only [push_cast]; omega))))) only [push_cast, ↓reduceIte, Nat.reduceEqDiff, Nat.reduceBEq, Nat.reduceAdd, Nat.reduceSub, Int.reduceToNat, *] <;> with_reducible exact rfl))) | ((with_reducible first | apply i_Gb | apply i_cond); (focus (simp (disch := (first | omega | (simp only [push_cast]; done) | (simp only [push_cast]; omega) | ((try simp only [push_cast]); (with_reducible first | apply sel_lt | apply sel_ge); (focus decide); (focus (simp only [push_cast]; omega))))) only [push_cast, ↓reduceIte, Nat.reduceEqDiff, Nat.reduceBEq, Nat.reduceAdd, Nat.reduceSub, Int.reduceToNat, *] <;> with_reducible exact rfl)); all_goals (intro hX; first | (cases hX; done) | ((with_reducible first | have hX0 : true = true := hX | have hX0 : false = false := hX); clear hX0 hX) | ((try simp only [decide_eq_true_eq, decide_eq_false_iff_not, Bool.not_eq_true', Bool.not_eq_false'] at hX); (try have hXb := inB_iff.1 hX)))))
    all_goals try ((first | apply i_end | apply i_endN); simp (disch := (first | omega | (simp only [push_cast]; done) | (simp only [push_cast]; omega) | ((try simp only [push_cast]); (with_reducible first | apply sel_lt | apply sel_ge); (focus decide); (focus (simp only [push_cast]; omega))))) only [push_cast, ↓reduceIte, Nat.reduceEqDiff, Nat.reduceBEq, Nat.reduceAdd, Nat.reduceSub, Int.reduceToNat, *])
    · have : ¬ xs = ys := fun h => by subst h; simp_all
      simp [this]
    · refine ⟨k + 1, ⟨by omega, fun j hj => ?_⟩, by dsimp only; omega, by simp only [push_cast, ↓reduceIte, Nat.reduceEqDiff, Nat.reduceBEq, Nat.reduceAdd, Nat.reduceSub, Int.reduceToNat], trivial, rfl⟩
      by_cases h1 : j < k
      · exact hok j h1
      · have : j = k := by omega
        subst this
        assumption
    · have : xs = ys := eq_of_getDK (d := .empty) (by omega) fun j hj => hok j (by omega)
      simp [this]
/-- A book's fields. -/
abbrev BK := List LS × LS × Int × Int × Int
abbrev dBook : Dec BK := dA5 dSS dSs dI dI dI
abbrev shortSS (l : List LS) : Prop := l.length ≤ 1048576 ∧ l.all (fun p => decide (p.length ≤ 1048576)) = true
def takeS : Int → List LS → Int
  | left, [] => left
  | left, p :: t => if szS left p < 0 then -1 else takeS (szS left p) t
def szSS (left : Int) (l : List LS) : Int := if left - l.length < 0 then -1 else takeS (left - l.length) l
theorem takeS_le : ∀ {l : List LS} {left : Int}, 0 ≤ left → takeS left l ≤ left
  | [], left, h => by simp [takeS]
  | p :: l, left, h => by
    unfold takeS
    split
    · omega
    · rename_i h1
      have := takeS_le (l := l) (left := szS left p) (by omega)
      have := szS_le (l := p) h
      omega
theorem takeS_ok : ∀ {l : List LS} {left : Int}, 0 ≤ takeS left l → 0 ≤ left → left ≤ 1048576 → ∀ p ∈ l, okSs p
  | [], left, h, h0, h1, p, hp => by simp at hp
  | q :: l, left, h, h0, h1, p, hp => by
    unfold takeS at h
    split at h
    · omega
    · rename_i h2
      rcases List.mem_cons.1 hp with rfl | h3
      · exact szS_ok (by omega) h0 h1
      · have := szS_le (l := q) h0
        exact takeS_ok h (by omega) (by omega) p h3
abbrev okSSL (l : List LS) : Prop := l.length ≤ 9223372036854775807 ∧ ∀ i : Nat, okSL (l[i]?.getD [])
noncomputable instance (l : List LS) : Decidable (okSSL l) := Classical.propDecidable _
def parB (w : LS) : Bool := allWords w && !decide (w.length = 0)
/-- What BookValid answers. -/
def bookB (p : List LS) (q : LS) (x y z : Int) : Bool := p.all parB && (decide (p.length ≤ 6) && (allPats q && (inB x 0 1000 && (inB y 0 10000 && inB z 1 30))))
abbrev okBk (p : List LS) (q : LS) : Prop := p.length ≤ 1048576 ∧ (∀ i : Nat, okSs (p[i]?.getD [])) ∧ okSs q
noncomputable instance (p : List LS) (q : LS) : Decidable (okBk p q) := Classical.propDecidable _
noncomputable def φBookV : Fun := F1 dBook fun b => if okBk b.1 b.2.1 then some (bv (bookB b.1 b.2.1 b.2.2.1 b.2.2.2.1 b.2.2.2.2)) else none
theorem φBookV_ap {p : List LS} {q : LS} {x y z : Int} (h : okBk p q) : φBookV [.agg [.lst false 1 (p.map fun p => .lst false 1 (p.map fun s => .val (.string s))), .lst false 1 (q.map fun s => .val (.string s)), .val (.int .i64 x), .val (.int .i64 y), .val (.int .i64 z)]] = some (.val (.bool (bookB p q x y z))) :=
  (F1_ap (A := dBook) (p, q, x, y, z)).trans (if_pos h)
def φBad : Fun := F1 dI fun n => some (bv (inB n 0 10000))
theorem φBad_ap (n : Int) : φBad [.val (.int .i64 n)] = some (.val (.bool (inB n 0 10000))) := rfl
end Go.Proofs.YtenldjifipnjpaaDoor
