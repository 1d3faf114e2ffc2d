/- Books (BookValid) by the engine. -/
import Derived.Test.YtghhlakfbgcmkaaDoorPxTy
import Derived.Test.YtghhlakfbgcmkaaDoorPlain
import Derived.Test.YtghhlakfbgcmkaaDoorPxGrid
import Derived.Test.YtghhlakfbgcmkaaDoorPxIndex
namespace Go.Proofs.YtghhlakfbgcmkaaDoor
open Go.RowKit
set_option linter.all false
abbrev LS := List ByteArray
abbrev dSS : Dec (List LS) := dL 1 dSs
section
variable {α β : Type} {n sz sz' f i : Nat} {ob : Objs} {k k' fr : Bool} {l : List LS}
theorem get_ss {g : LS → PV} (h : i < l.length) : ((l[i]?).map g).getD .dead = g ((l[i]?).getD []) := by simp [h]
theorem omg_ss {g : LS → β} (h : i < l.length) : Option.map g l[i]? = some (g ((l[i]?).getD [])) := by simp [h]
theorem mapM_maps {F : PV → Option PV} {g g' : α → PV} (h : ∀ x, F (g x) = some (g' x)) : ∀ {l : List α}, (l.map g).mapM F = some (l.map g')
  | [] => rfl
  | x :: l => by rw [List.map_cons, List.mapM_cons, h x, mapM_maps h]; rfl
theorem reify_strs {m : Nat} {p : LS} : reify false m ob (f + 2) (.lst k sz (p.map fun s => .val (.string s))) = some (.lst false sz (p.map fun s => .val (.string s))) := reifyS_vals
theorem reify_strsT {m : Nat} {p : LS} : reify fr m ob (f + 2) (.lst true sz (p.map fun s => .val (.string s))) = some (.lst fr sz (p.map fun s => .val (.string s))) := by
  cases fr
  · exact reifyS_vals
  · exact reifyT_vals
theorem reifyS_lsts : reify false n ob (f + 3) (.lst k sz (l.map fun p => .lst k' sz' (p.map fun s => .val (.string s)))) = some (.lst false sz (l.map fun p => .lst false sz' (p.map fun s => .val (.string s)))) := by
  show (if false = true ∧ k = false ∧ (l.map fun p => PV.lst k' sz' (p.map fun s => PV.val (.string s))) ≠ [] then none else ((l.map fun p => PV.lst k' sz' (p.map fun s => PV.val (.string s))).mapM (reify false n ob (f + 2))).map (PV.lst false sz)) = _
  rw [mapM_maps (g' := fun p => PV.lst false sz' (p.map fun s => PV.val (.string s))) fun p => reify_strs]
  simp
theorem reifyT_lsts : reify true n ob (f + 3) (.lst true sz (l.map fun p => .lst true sz' (p.map fun s => .val (.string s)))) = some (.lst true sz (l.map fun p => .lst true sz' (p.map fun s => .val (.string s)))) := by
  show (if true = true ∧ true = false ∧ (l.map fun p => PV.lst true sz' (p.map fun s => PV.val (.string s))) ≠ [] then none else ((l.map fun p => PV.lst true sz' (p.map fun s => PV.val (.string s))).mapM (reify true n ob (f + 2))).map (PV.lst true sz)) = _
  rw [mapM_maps (g' := fun p => PV.lst true sz' (p.map fun s => PV.val (.string s))) fun p => reify_strsT]
  simp
theorem rowRe_lsts {m T : Nat} (hm : m = l.length) : rowRe fr (f + 2) ob sz 0 m (some (T, sz, l.map fun p => .lst true sz' (p.map fun s => .val (.string s)))) = some (.lst fr sz (l.map fun p => .lst fr sz' (p.map fun s => .val (.string s)))) := by
  subst hm
  have e : ((l.map fun p => PV.lst true sz' (p.map fun s => PV.val (.string s))).drop 0).take l.length = l.map fun p => PV.lst true sz' (p.map fun s => PV.val (.string s)) := by
    rw [List.drop_zero, List.take_of_length_le (by simp)]
  have e2 := mapM_maps (l := l) (F := reify fr 0 ob (f + 2)) (g := fun p => PV.lst true sz' (p.map fun s => PV.val (.string s))) (g' := fun p => PV.lst fr sz' (p.map fun s => PV.val (.string s))) fun p => reify_strsT
  simp only [rowRe, e, e2, Nat.zero_add, List.length_map, Nat.le_refl, and_self, if_true, Option.map_some]
theorem fillZ_get {xs : List α} {z : α} {j : Nat} (h : j < xs.length) : (fillZ xs z j)[j]? = some z := by
  unfold fillZ
  have hl : (xs.take j).length = j := by simp; omega
  rw [List.getElem?_append_right (by omega), hl, Nat.sub_self, List.getElem?_replicate, if_pos (by omega)]
end
attribute [push_cast]
  get_ss omg_ss reifyS_lsts reifyT_lsts rowRe_lsts fillZ_get
theorem eq_of_getDK {α : Type} {d : α} {xs ys : List α} (hl : xs.length = ys.length) (h : ∀ j, j < xs.length → xs[j]?.getD d = ys[j]?.getD d) : xs = ys := by
  apply List.ext_getElem hl
  intro i h1 h2
  have := h i h1
  simpa [h1, h2] using this
/-- All of the strings are short. -/
abbrev okSs (l : LS) : Prop := l.length ≤ 1048576 ∧ ∀ i : Nat, (l[i]?.getD .empty).size ≤ 1048576
noncomputable instance (l : LS) : Decidable (okSs l) := Classical.propDecidable _
theorem all_noK {α : Type} {d : α} {p : α → Bool} {l : List α} {k : Nat} (h : k < l.length) (hb : p (l[k]?.getD d) = false) : l.all p = false := by
  rw [List.all_eq_false]
  exact ⟨l[k], List.getElem_mem h, by simp [h] at hb; simp [hb]⟩
theorem all_yesK {α : Type} {d : α} {p : α → Bool} {l : List α} (h : ∀ j, j < l.length → p (l[j]?.getD d) = true) : l.all p = true := by
  rw [List.all_eq_true]
  intro x hx
  obtain ⟨j, hj, rfl⟩ := List.getElem_of_mem hx
  simpa [hj] using h j hj
def smallC (c : Int) : Bool := inB c 97 122
def digC (c : Int) : Bool := inB c 48 57
def prevD (s : ByteArray) (k : Nat) : Bool := decide (0 < k) && digC (at8 s (k - 1))
def patAt (s : ByteArray) (k : Nat) : Bool := smallC (at8 s k) || (digC (at8 s k) && !prevD s k) || (decide (at8 s k = 46) && (decide (k = 0) || decide (k + 1 = s.size)))
def anyS (s : ByteArray) (k : Nat) : Bool := (List.range k).any fun j => smallC (at8 s j)
theorem anyS_succ (s : ByteArray) (k : Nat) : anyS s (k + 1) = (anyS s k || smallC (at8 s k)) := by
  simp [anyS, List.range_succ, List.any_append]
/-- What PatternValid answers. -/
def patB (s : ByteArray) : Bool := (List.range s.size).all (patAt s) && (anyS s s.size && decide (s.size ≤ 12))
theorem patB_no {s : ByteArray} {k : Nat} (h : k < s.size) (hb : patAt s k = false) : patB s = false := by
  have : (List.range s.size).all (patAt s) = false := by
    rw [List.all_eq_false]
    exact ⟨k, List.mem_range.2 h, by simp [hb]⟩
  simp [patB, this]
theorem patB_yes {s : ByteArray} (h : ∀ j, j < s.size → patAt s j = true) : patB s = (anyS s s.size && decide (s.size ≤ 12)) := by
  have : (List.range s.size).all (patAt s) = true := by
    rw [List.all_eq_true]
    exact fun k hk => h k (List.mem_range.1 hk)
  simp [patB, this]
def φPat : Fun := F1 dS fun s => if s.size ≤ 1099511627776 then some (bv (patB s)) else none
theorem φPat_ap {s : ByteArray} (h : s.size ≤ 1099511627776) : φPat [.val (.string s)] = some (.val (.bool (patB s))) :=
  (F1_ap (A := dS) s).trans (if_pos h)
theorem patAt_iff {s : ByteArray} {k : Nat} : patAt s k = true ↔ (97 ≤ at8 s k ∧ at8 s k ≤ 122) ∨ (48 ≤ at8 s k ∧ at8 s k ≤ 57 ∧ prevD s k = false) ∨ (at8 s k = 46 ∧ (k = 0 ∨ k + 1 = s.size)) := by
  simp [patAt, smallC, digC, inB, or_assoc, and_assoc]
theorem small_no {c : Int} (h : c < 97 ∨ 122 < c) : smallC c = false := Bool.eq_false_iff.2 fun h2 => by have := inB_iff.1 h2; omega
theorem dig_no {c : Int} (h : c < 48 ∨ 57 < c) : digC c = false := Bool.eq_false_iff.2 fun h2 => by have := inB_iff.1 h2; omega
structure PatI (s : ByteArray) (k : Nat) (n : Int) : Prop where
  kk : k ≤ s.size
  n0 : 0 ≤ n
  n1 : n ≤ k
  all : ∀ j, j < k → patAt s j = true
  any : decide (0 < n) = anyS s k
theorem PatI.zero (s : ByteArray) : PatI s 0 0 := ⟨Nat.zero_le _, by omega, by omega, fun j hj => by omega, rfl⟩
theorem PatI.letter {s : ByteArray} {k : Nat} {n : Int} (h : PatI s k n) (hk : k < s.size) (hs : smallC (at8 s k) = true) : PatI s (k + 1) (n + 1) :=
  ⟨by omega, by have := h.n0; omega, by have := h.n1; omega, fun j hj => by
    by_cases h1 : j < k
    · exact h.all j h1
    · have : j = k := by omega
      subst this
      simp [patAt, hs], by
    rw [anyS_succ, hs, Bool.or_true]
    have := h.n0
    simp; omega⟩
theorem PatI.other {s : ByteArray} {k : Nat} {n : Int} (h : PatI s k n) (hk : k < s.size) (hp : patAt s k = true) (hs : smallC (at8 s k) = false) : PatI s (k + 1) n :=
  ⟨by omega, h.n0, by have := h.n1; omega, fun j hj => by
    by_cases h1 : j < k
    · exact h.all j h1
    · have : j = k := by omega
      subst this
      exact hp, by rw [anyS_succ, hs, Bool.or_false]; exact h.any⟩
theorem PatI.done {s : ByteArray} {k : Nat} {n : Int} (h : PatI s k n) (hk : ¬ k < s.size) : patB s = (decide (0 < n) && decide (s.size ≤ 12)) := by
  have hk2 := h.kk
  have : k = s.size := by omega
  subst this
  rw [patB_yes h.all, h.any]
def φDig : Fun := F1 dU fun n => some (bv (inB n 48 57))
theorem φDig_ap (n : Int) : φDig [.val (.int .u8 n)] = some (.val (.bool (inB n 48 57))) := rfl
def allWords (l : LS) : Bool := decide (l.length ≤ 12) && l.all wordB
noncomputable def φWords : Fun := F1 dSs fun l => if okSs l then some (bv (allWords l)) else none
theorem φWords_ap {l : LS} (h : okSs l) : φWords [.lst false 1 (l.map fun s => .val (.string s))] = some (.val (.bool (allWords l))) :=
  (F1_ap (A := dSs) l).trans (if_pos h)
def allPats (l : LS) : Bool := decide (l.length ≤ 20) && l.all patB
noncomputable def φPats : Fun := F1 dSs fun l => if okSs l then some (bv (allPats l)) else none
theorem φPats_ap {l : LS} (h : okSs l) : φPats [.lst false 1 (l.map fun s => .val (.string s))] = some (.val (.bool (allPats l))) :=
  (F1_ap (A := dSs) l).trans (if_pos h)
def szS (left : Int) (l : LS) : Int := if left - l.length < 0 then -1 else takeOff (left - l.length) (l.map (·.size))
theorem takeOff_le : ∀ {l : List Nat} {left : Int}, 0 ≤ left → takeOff left l ≤ left
  | [], left, h => by simp [takeOff]
  | n :: l, left, h => by
    unfold takeOff
    split
    · omega
    · rename_i h1
      have := takeOff_le (l := l) (left := left - n) (by omega)
      omega
theorem szS_le {l : LS} {left : Int} (h : 0 ≤ left) : szS left l ≤ left := by
  unfold szS
  split
  · omega
  · rename_i h1
    have := takeOff_le (l := l.map (·.size)) (left := left - l.length) (by omega)
    omega
theorem szS_ok {l : LS} {left : Int} (h : 0 ≤ szS left l) (h0 : 0 ≤ left) (h1 : left ≤ 1048576) : okSs l := by
  unfold szS at h
  split at h
  · omega
  · rename_i h2
    have h3 := takeOff_pos h (by omega)
    refine ⟨by omega, fun i => ?_⟩
    by_cases hi : i < l.length
    · have := h3 (l[i].size) (List.mem_map.2 ⟨l[i], List.getElem_mem hi, rfl⟩)
      simp only [hi, List.getElem?_eq_getElem, Option.getD_some]
      omega
    · rw [List.getElem?_eq_none (by omega)]
      simp
abbrev okSL (l : LS) : Prop := l.length ≤ 9223372036854775807 ∧ ∀ i : Nat, (l[i]?.getD .empty).size ≤ 9223372036854775807
noncomputable instance (l : LS) : Decidable (okSL l) := Classical.propDecidable _
/-- A book's fields. -/
abbrev BK := List LS × LS × Int × Int × Int
abbrev dBook : Dec BK := dA5 dSS dSs dI dI dI
abbrev shortSS (l : List LS) : Prop := l.length ≤ 1048576 ∧ l.all (fun p => decide (p.length ≤ 1048576)) = true
def takeS : Int → List LS → Int
  | left, [] => left
  | left, p :: t => if szS left p < 0 then -1 else takeS (szS left p) t
def szSS (left : Int) (l : List LS) : Int := if left - l.length < 0 then -1 else takeS (left - l.length) l
theorem takeS_le : ∀ {l : List LS} {left : Int}, 0 ≤ left → takeS left l ≤ left
  | [], left, h => by simp [takeS]
  | p :: l, left, h => by
    unfold takeS
    split
    · omega
    · rename_i h1
      have := takeS_le (l := l) (left := szS left p) (by omega)
      have := szS_le (l := p) h
      omega
theorem takeS_ok : ∀ {l : List LS} {left : Int}, 0 ≤ takeS left l → 0 ≤ left → left ≤ 1048576 → ∀ p ∈ l, okSs p
  | [], left, h, h0, h1, p, hp => by simp at hp
  | q :: l, left, h, h0, h1, p, hp => by
    unfold takeS at h
    split at h
    · omega
    · rename_i h2
      rcases List.mem_cons.1 hp with rfl | h3
      · exact szS_ok (by omega) h0 h1
      · have := szS_le (l := q) h0
        exact takeS_ok h (by omega) (by omega) p h3
abbrev okSSL (l : List LS) : Prop := l.length ≤ 9223372036854775807 ∧ ∀ i : Nat, okSL (l[i]?.getD [])
noncomputable instance (l : List LS) : Decidable (okSSL l) := Classical.propDecidable _
def parB (w : LS) : Bool := allWords w && !decide (w.length = 0)
/-- What BookValid answers. -/
def bookB (p : List LS) (q : LS) (x y z : Int) : Bool := p.all parB && (decide (p.length ≤ 6) && (allPats q && (inB x 0 1000 && (inB y 0 10000 && inB z 1 30))))
abbrev okBk (p : List LS) (q : LS) : Prop := p.length ≤ 1048576 ∧ (∀ i : Nat, okSs (p[i]?.getD [])) ∧ okSs q
noncomputable instance (p : List LS) (q : LS) : Decidable (okBk p q) := Classical.propDecidable _
noncomputable def φBookV : Fun := F1 dBook fun b => if okBk b.1 b.2.1 then some (bv (bookB b.1 b.2.1 b.2.2.1 b.2.2.2.1 b.2.2.2.2)) else none
theorem φBookV_ap {p : List LS} {q : LS} {x y z : Int} (h : okBk p q) : φBookV [.agg [.lst false 1 (p.map fun p => .lst false 1 (p.map fun s => .val (.string s))), .lst false 1 (q.map fun s => .val (.string s)), .val (.int .i64 x), .val (.int .i64 y), .val (.int .i64 z)]] = some (.val (.bool (bookB p q x y z))) :=
  (F1_ap (A := dBook) (p, q, x, y, z)).trans (if_pos h)
def φBad : Fun := F1 dI fun n => some (bv (inB n 0 10000))
theorem φBad_ap (n : Int) : φBad [.val (.int .i64 n)] = some (.val (.bool (inB n 0 10000))) := rfl
end Go.Proofs.YtghhlakfbgcmkaaDoor
