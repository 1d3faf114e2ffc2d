/- What the proof rests on, part 9: contracts of functions. No condition beyond what each states. -/
import Derived.Test.YtngcedklbinhjaaGreatDoorZBw8
namespace Go.Proofs.YtngcedklbinhjaaGreatDoor
open Go.RowKit
set_option linter.all false
abbrev LS := List ByteArray
abbrev dSS : Dec (List LS) := dL 1 dSs
section
variable {α β : Type} {n sz sz' f i : Nat} {ob : aF} {k k' fr : Bool} {l : List LS}
theorem awg {g : LS → PV} (h : i < l.length) : ((l[i]?).map g).getD .dead = g ((l[i]?).getD []) := by simp [h]
theorem ayN {g : LS → β} (h : i < l.length) : Option.map g l[i]? = some (g ((l[i]?).getD [])) := by simp [h]
theorem jg {F : PV → Option PV} {g g' : α → PV} (h : ∀ x, F (g x) = some (g' x)) : ∀ {l : List α}, (l.map g).mapM F = some (l.map g')
 | [] => rfl
 | x :: l => by rw [List.map_cons, List.mapM_cons, h x, jg h]; rfl
theorem wo {m : Nat} {p : LS} : reify false m ob (f + 2) (.lst k sz (p.map fun s => .val (.string s))) = some (.lst false sz (p.map fun s => .val (.string s))) := nS
theorem sZ {m : Nat} {p : LS} : reify fr m ob (f + 2) (.lst true sz (p.map fun s => .val (.string s))) = some (.lst fr sz (p.map fun s => .val (.string s))) := by
 cases fr
 ·exact nS
 ·exact tK
theorem ab9 : reify false n ob (f + 3) (.lst k sz (l.map fun p => .lst k' sz' (p.map fun s => .val (.string s)))) = some (.lst false sz (l.map fun p => .lst false sz' (p.map fun s => .val (.string s)))) := by
 show (if false = true ∧ k = false ∧ (l.map fun p => PV.lst k' sz' (p.map fun s => PV.val (.string s))) ≠ [] then none else ((l.map fun p => PV.lst k' sz' (p.map fun s => PV.val (.string s))).mapM (reify false n ob (f + 2))).map (PV.lst false sz)) = _
 rw [jg (g' := fun p => PV.lst false sz' (p.map fun s => PV.val (.string s))) fun p => wo]
 simp
theorem acV : reify true n ob (f + 3) (.lst true sz (l.map fun p => .lst true sz' (p.map fun s => .val (.string s)))) = some (.lst true sz (l.map fun p => .lst true sz' (p.map fun s => .val (.string s)))) := by
 show (if true = true ∧ true = false ∧ (l.map fun p => PV.lst true sz' (p.map fun s => PV.val (.string s))) ≠ [] then none else ((l.map fun p => PV.lst true sz' (p.map fun s => PV.val (.string s))).mapM (reify true n ob (f + 2))).map (PV.lst true sz)) = _
 rw [jg (g' := fun p => PV.lst true sz' (p.map fun s => PV.val (.string s))) fun p => sZ]
 simp
theorem ae6 {m T : Nat} (hm : m = l.length) : om fr (f + 2) ob sz 0 m (some (T, sz, l.map fun p => .lst true sz' (p.map fun s => .val (.string s)))) = some (.lst fr sz (l.map fun p => .lst fr sz' (p.map fun s => .val (.string s)))) := by
 subst hm
 have e : ((l.map fun p => PV.lst true sz' (p.map fun s => PV.val (.string s))).drop 0).take l.length = l.map fun p => PV.lst true sz' (p.map fun s => PV.val (.string s)) := by
  rw [List.drop_zero, List.take_of_length_le (by simp)]
 have e2 := jg (l := l) (F := reify fr 0 ob (f + 2)) (g := fun p => PV.lst true sz' (p.map fun s => PV.val (.string s))) (g' := fun p => PV.lst fr sz' (p.map fun s => PV.val (.string s))) fun p => sZ
 simp only [om, e, e2, Nat.zero_add, List.length_map, Nat.le_refl, and_self, if_true, Option.map_some]
end
attribute [push_cast]
 awg ayN ab9 acV ae6
theorem uY {α : Type} {d : α} {xs ys : List α} (hl : xs.length = ys.length) (h : ∀ j, j < xs.length → xs[j]?.getD d = ys[j]?.getD d) : xs = ys := by
 apply List.ext_getElem hl
 intro i h1 h2
 have := h i h1
 simpa [h1, h2] using this
abbrev qF (l : LS) : Prop := l.length ≤ 1048576 ∧ ∀ i : Nat, (l[i]?.getD .empty).size ≤ 1048576
noncomputable instance (l : LS) : Decidable (qF l) := Classical.propDecidable _
theorem jN {α : Type} {d : α} {p : α → Bool} {l : List α} {k : Nat} (h : k < l.length) (hb : p (l[k]?.getD d) = false) : l.all p = false := by
 rw [List.all_eq_false]
 exact ⟨l[k], List.getElem_mem h, by simp [h] at hb; simp [hb]⟩
theorem gL {α : Type} {d : α} {p : α → Bool} {l : List α} (h : ∀ j, j < l.length → p (l[j]?.getD d) = true) : l.all p = true := by
 rw [List.all_eq_true]
 intro x hx
 obtain ⟨j, hj, rfl⟩ := List.getElem_of_mem hx
 simpa [hj] using h j hj
def uG (c : Int) : Bool := inB c 97 122
def ab2 (c : Int) : Bool := inB c 48 57
def aa7 (s : ByteArray) (k : Nat) : Bool := decide (0 < k) && ab2 (at8 s (k - 1))
def vL (s : ByteArray) (k : Nat) : Bool := uG (at8 s k) || (ab2 (at8 s k) && !aa7 s k) || (decide (at8 s k = 46) && (decide (k = 0) || decide (k + 1 = s.size)))
def anyS (s : ByteArray) (k : Nat) : Bool := (List.range k).any fun j => uG (at8 s j)
theorem aaq (s : ByteArray) (k : Nat) : anyS s (k + 1) = (anyS s k || uG (at8 s k)) := by
 simp [anyS, List.range_succ, List.any_append]
def aaC (s : ByteArray) : Bool := (List.range s.size).all (vL s) && (anyS s s.size && decide (s.size ≤ 12))
theorem ahi {s : ByteArray} {k : Nat} (h : k < s.size) (hb : vL s k = false) : aaC s = false := by
 have : (List.range s.size).all (vL s) = false := by
  rw [List.all_eq_false]
  exact ⟨k, List.mem_range.2 h, by simp [hb]⟩
 simp [aaC, this]
theorem ane {s : ByteArray} (h : ∀ j, j < s.size → vL s j = true) : aaC s = (anyS s s.size && decide (s.size ≤ 12)) := by
 have : (List.range s.size).all (vL s) = true := by
  rw [List.all_eq_true]
  exact fun k hk => h k (List.mem_range.1 hk)
 simp [aaC, this]
def rD : Fun := F1 dS fun s => if s.size ≤ 1099511627776 then some (bv (aaC s)) else none
theorem r9 {s : ByteArray} (h : s.size ≤ 1099511627776) : rD [.val (.string s)] = some (.val (.bool (aaC s))) :=
 (jM (A := dS) s).trans (if_pos h)
theorem jW {s : ByteArray} {k : Nat} : vL s k = true ↔ (97 ≤ at8 s k ∧ at8 s k ≤ 122) ∨ (48 ≤ at8 s k ∧ at8 s k ≤ 57 ∧ aa7 s k = false) ∨ (at8 s k = 46 ∧ (k = 0 ∨ k + 1 = s.size)) := by
 simp [vL, uG, ab2, inB, or_assoc, and_assoc]
theorem aeb {c : Int} (h : c < 97 ∨ 122 < c) : uG c = false := Bool.eq_false_iff.2 fun h2 => by have := aj.1 h2; omega
theorem anq {c : Int} (h : c < 48 ∨ 57 < c) : ab2 c = false := Bool.eq_false_iff.2 fun h2 => by have := aj.1 h2; omega
structure aed (s : ByteArray) (k : Nat) (n : Int) : Prop where
 kk : k ≤ s.size
 n0 : 0 ≤ n
 n1 : n ≤ k
 all : ∀ j, j < k → vL s j = true
 any : decide (0 < n) = anyS s k
theorem aed.zero (s : ByteArray) : aed s 0 0 := ⟨Nat.zero_le _, by omega, by omega, fun j hj => by omega, rfl⟩
theorem aed.letter {s : ByteArray} {k : Nat} {n : Int} (h : aed s k n) (hk : k < s.size) (hs : uG (at8 s k) = true) : aed s (k + 1) (n + 1) :=
 ⟨by omega, by have := h.n0; omega, by have := h.n1; omega, fun j hj => by
  by_cases h1 : j < k
  ·exact h.all j h1
  ·have : j = k := by omega
   subst this
   simp [vL, hs], by
  rw [aaq, hs, Bool.or_true]
  have := h.n0
  simp; omega⟩
theorem aed.other {s : ByteArray} {k : Nat} {n : Int} (h : aed s k n) (hk : k < s.size) (hp : vL s k = true) (hs : uG (at8 s k) = false) : aed s (k + 1) n :=
 ⟨by omega, h.n0, by have := h.n1; omega, fun j hj => by
  by_cases h1 : j < k
  ·exact h.all j h1
  ·have : j = k := by omega
   subst this
   exact hp, by rw [aaq, hs, Bool.or_false]; exact h.any⟩
theorem aed.done {s : ByteArray} {k : Nat} {n : Int} (h : aed s k n) (hk : ¬ k < s.size) : aaC s = (decide (0 < n) && decide (s.size ≤ 12)) := by
 have hk2 := h.kk
 have : k = s.size := by omega
 subst this
 rw [ane h.all, h.any]
theorem qd (s : ByteArray) (k : Nat) : aa7 s (k + 1) = ab2 (at8 s k) := by simp [aa7]
set_option maxHeartbeats 8000000 in
theorem jf : Sound Tryz.prog 76 rD := by
 refine ay mixed jQ Tryz.func76 rfl 57 rfl [.tmp 2] rfl (by kernel_rfl) fun ps r hr => ?_
 obtain ⟨s, rfl, hq⟩ := bY hr
 clear hr
 split at hq
 case isFalse => cases hq
 case isTrue hlen =>
 cases hq
 refine ⟨by simp, ?_⟩
 simp only [dIs, dUs, dSs, eX, fq, eT, fE, bS, fA, bO, bP, bR, bQ]
 (refine wlkX ?_; intros)
 refine aT (α := Nat × Int) mixed (fun k => [(0, sv s), (3, iv k.2), (4, bv (aa7 s k.1)), (5, iv k.1)]) (fun _ => []) (fun _ => 0)
  (fun k => aed s k.1 k.2) (fun k => s.size - k.1) (by kernel_rfl) (0, 0) (aed.zero s) ?_ trivial rfl ?_
 ·simp only [push_cast, ↓reduceIte, Nat.reduceEqDiff, Nat.reduceBEq, Nat.reduceAdd, Nat.reduceSub, Int.reduceToNat]
  rfl
 ·rintro ⟨k, n⟩ hi
  dsimp only at hi
  have hk := hi.kk
  have hn0 := hi.n0
  have hn1 := hi.n1
  have hrk := iM s k
  generalize hd : aa7 s k = d
  repeat' (first | (with_reducible first | apply bF | apply av | apply aO | apply aJ | apply bC | apply dY | apply bA | apply bH | apply d9 | apply bE | apply bJ | apply dX | apply bI | apply bG | apply bD) | ((with_reducible apply au); (simp only [List.map_cons, List.map_nil] <;> exact rfl)) | ((with_reducible apply aI); (simp only [List.map_cons, List.map_nil] <;> exact rfl); decide +kernel) | ((with_reducible apply bB); rfl) | ((first | ((with_reducible apply i_V); rfl; rfl; rfl) | ((first | ((with_reducible apply i_E); rfl) | ((with_reducible apply i_S); rfl)); first | rfl | (simp only [push_cast, ↓reduceIte])) | ((with_reducible apply dW); rfl; rfl) | ((with_reducible apply dZ); rfl; rfl; rfl) | (with_reducible first | apply dV | apply aL)); (simp (disch := (first | omega | (simp only [push_cast]; first | done | omega))) only [push_cast, ↓reduceIte, Nat.reduceEqDiff, Nat.reduceBEq, Nat.reduceAdd, Nat.reduceSub, Int.reduceToNat, *] <;> with_reducible exact rfl); all_goals try (first | (with_reducible first | refine hyT ?_ | refine hyF ?_ | exact hyA | exact hyB) | (intro hX; first | (cases hX; done) | ((try simp only [decide_eq_true_eq, decide_eq_false_iff_not, Bool.not_eq_true', Bool.not_eq_false'] at hX); (try have hXb := aj.1 hX))))))
  all_goals try ((first | apply dw | apply bK); simp (disch := (first | omega | (simp only [push_cast]; first | done | omega))) only [push_cast, ↓reduceIte, Nat.reduceEqDiff, Nat.reduceBEq, Nat.reduceAdd, Nat.reduceSub, Int.reduceToNat, *])
  all_goals try (exfalso; omega)
  all_goals (first
    | (rw [ahi (k := k) (by omega) (Bool.eq_false_iff.2 fun h => by rcases jW.1 h with h | h | h <;> (first | omega | (simp_all; done) | (simp_all; omega)))]; done)
    | exact ⟨(k + 1, n + 1), hi.letter (by omega) (aj.2 ⟨by omega, by omega⟩), by dsimp only; omega, by (have hdg := @anq (at8 s k) (by omega); simp only [push_cast, ↓reduceIte, Nat.reduceEqDiff, Nat.reduceBEq, Nat.reduceAdd, Nat.reduceSub, Int.reduceToNat, qd, hdg]), trivial, rfl⟩
    | exact ⟨(k + 1, n), hi.other (by omega) (jW.2 (.inr (.inr ⟨by omega, by omega⟩))) (aeb (by omega)), by dsimp only; omega, by (have hdg := @anq (at8 s k) (by omega); simp only [push_cast, ↓reduceIte, Nat.reduceEqDiff, Nat.reduceBEq, Nat.reduceAdd, Nat.reduceSub, Int.reduceToNat, qd, hdg]; try exact congrArg (fun z => PV.val (Value.int .i64 z)) (by omega)), trivial, rfl⟩
    | exact ⟨(k + 1, n), hi.other (by omega) (jW.2 (.inr (.inl ⟨by omega, by omega, by simp_all⟩))) (aeb (by omega)), by dsimp only; omega, by (have hdg : ab2 (at8 s k) = true := aj.2 ⟨by omega, by omega⟩; simp only [push_cast, ↓reduceIte, Nat.reduceEqDiff, Nat.reduceBEq, Nat.reduceAdd, Nat.reduceSub, Int.reduceToNat, qd, hdg]), trivial, rfl⟩
    | (rw [hi.done (by omega)]; simp_all; done)
    | (rw [hi.done (by omega)]; simp_all; omega))
def aaA : Fun := F1 dU fun n => some (bv (inB n 48 57))
theorem adG (n : Int) : aaA [.val (.int .u8 n)] = some (.val (.bool (inB n 48 57))) := rfl
theorem wz : Sound Tryz.prog 94 aaA := by
 refine ay mixed jQ Tryz.func94 rfl 9 rfl [.tmp 2] rfl (by kernel_rfl) fun ps r hr => ?_
 obtain ⟨n, rfl, hr⟩ := bY hr
 cases hr
 refine ⟨by simp, ?_⟩
 simp only [dIs, dUs, dSs, eX, fq, eT, fE, bS, fA, bO, bP, bR, bQ]
 repeat' (first | (with_reducible first | apply bF | apply av | apply aO | apply aJ | apply bC | apply dY | apply bA | apply bH | apply d9 | apply bE | apply bJ | apply dX | apply bI | apply bG | apply bD) | ((with_reducible apply au); (simp only [List.map_cons, List.map_nil] <;> exact rfl)) | ((with_reducible apply aI); (simp only [List.map_cons, List.map_nil] <;> exact rfl); decide +kernel) | ((with_reducible apply bB); rfl) | ((first | ((with_reducible apply i_V); rfl; rfl; rfl) | ((first | ((with_reducible apply i_E); rfl) | ((with_reducible apply i_S); rfl)); first | rfl | (simp only [push_cast, ↓reduceIte])) | ((with_reducible apply dW); rfl; rfl) | ((with_reducible apply dZ); rfl; rfl; rfl) | (with_reducible first | apply dV | apply aL)); (simp (disch := (first | omega | (simp only [push_cast]; first | done | omega))) only [push_cast, ↓reduceIte, Nat.reduceEqDiff, Nat.reduceBEq, Nat.reduceAdd, Nat.reduceSub, Int.reduceToNat, *] <;> with_reducible exact rfl); all_goals try (first | (with_reducible first | refine hyT ?_ | refine hyF ?_ | exact hyA | exact hyB) | (intro hX; first | (cases hX; done) | ((try simp only [decide_eq_true_eq, decide_eq_false_iff_not, Bool.not_eq_true', Bool.not_eq_false'] at hX); (try have hXb := aj.1 hX))))))
 all_goals ((first | apply dw | apply bK); simp (disch := (first | omega | (simp only [push_cast]; first | done | omega))) only [push_cast, ↓reduceIte, Nat.reduceEqDiff, Nat.reduceBEq, Nat.reduceAdd, Nat.reduceSub, Int.reduceToNat, *])
 all_goals (first | (simp_all [inB]; done) | (simp_all [inB]; omega))
noncomputable def GPt : Ctx := { fn := fun f => if f = 93 then some jr else if f = 94 then some aaA else none, io := fun f => none }
theorem atW : aA Tryz.prog GPt := ⟨(fun f φ h => by
 unfold GPt at h
 dsimp only at h
 split at h
 ·rename_i hf; cases h; subst hf; exact ⟨⟨_, Tryz.func93, rfl, rfl⟩, ql⟩
 split at h
 ·rename_i hf; cases h; subst hf; exact ⟨⟨_, Tryz.func94, rfl, rfl⟩, wz⟩
 cases h), (fun f φ h => by
 unfold GPt at h
 dsimp only at h
 cases h), rfl⟩
theorem aww (ob : aF) (ps : List PV) : ah GPt ob 93 ps = (ps.mapM (reify false 0 ob fuel)).bind jr := by
 have h : GPt.fn 93 = some jr := by simp [GPt]
 unfold ah
 rw [h]
 cases ps.mapM (reify false 0 ob fuel) <;> rfl
theorem auZ (ob : aF) (ps : List PV) : ah GPt ob 94 ps = (ps.mapM (reify false 0 ob fuel)).bind aaA := by
 have h : GPt.fn 94 = some aaA := by simp [GPt]
 unfold ah
 rw [h]
 cases ps.mapM (reify false 0 ob fuel) <;> rfl
set_option maxHeartbeats 8000000 in
theorem nV : Sound Tryz.prog 68 rD := by
 refine ay mixed atW Tryz.func68 rfl 51 rfl [.tmp 2] rfl (by kernel_rfl) fun ps r hr => ?_
 obtain ⟨s, rfl, hq⟩ := bY hr
 clear hr
 split at hq
 case isFalse => cases hq
 case isTrue hlen =>
 cases hq
 refine ⟨by simp, ?_⟩
 simp only [dIs, dUs, dSs, eX, fq, eT, fE, bS, fA, bO, bP, bR, bQ]
 have gpt_c93 := aww; have gpt_c94 := auZ; have ap := qK; have ap2 := adG
 (refine wlkX ?_; intros)
 refine aT (α := Nat × Int) mixed (fun k => [(0, sv s), (3, iv k.2), (7, iv s.size), (8, iv k.1)]) (fun _ => []) (fun _ => 0)
  (fun k => aed s k.1 k.2) (fun k => s.size - k.1) (by kernel_rfl) (0, 0) (aed.zero s) ?_ trivial rfl ?_
 ·simp only [push_cast, ↓reduceIte, Nat.reduceEqDiff, Nat.reduceBEq, Nat.reduceAdd, Nat.reduceSub, Int.reduceToNat]
 ·rintro ⟨k, n⟩ hi
  dsimp only at hi
  have hk := hi.kk
  have hn0 := hi.n0
  have hn1 := hi.n1
  have hrk := iM s k
  have hpd : aa7 s k = (decide (0 < k) && inB (at8 s (k - 1)) 48 57) := rfl
  have hsm : inB (at8 s k) 97 122 = false → (at8 s k < 97 ∨ 122 < at8 s k) := fun h => by
   by_cases hh : 97 ≤ at8 s k ∧ at8 s k ≤ 122
   ·rw [aj.2 hh] at h; cases h
   ·omega
  have hdgk : inB (at8 s k) 48 57 = false → (at8 s k < 48 ∨ 57 < at8 s k) := fun h => by
   by_cases hh : 48 ≤ at8 s k ∧ at8 s k ≤ 57
   ·rw [aj.2 hh] at h; cases h
   ·omega
  have hpd := Lib.hid hpd
  have hsm := Lib.hid hsm
  have hdgk := Lib.hid hdgk
  repeat' (first | (with_reducible first | apply bF | apply av | apply aO | apply aJ | apply bC | apply dY | apply bA | apply bH | apply d9 | apply bE | apply bJ | apply dX | apply bI | apply bG | apply bD) | ((with_reducible apply au); (simp only [List.map_cons, List.map_nil] <;> exact rfl)) | ((with_reducible apply aI); (simp only [List.map_cons, List.map_nil] <;> exact rfl); decide +kernel) | ((with_reducible apply bB); rfl) | ((first | ((with_reducible apply i_V); rfl; rfl; rfl) | ((first | ((with_reducible apply i_E); rfl) | ((with_reducible apply i_S); rfl)); first | rfl | (simp only [push_cast, ↓reduceIte])) | ((with_reducible apply dW); rfl; rfl) | ((with_reducible apply dZ); rfl; rfl; rfl) | (with_reducible first | apply dV | apply aL)); (simp (disch := (first | omega | (simp only [push_cast]; first | done | omega))) only [push_cast, ↓reduceIte, Nat.reduceEqDiff, Nat.reduceBEq, Nat.reduceAdd, Nat.reduceSub, Int.reduceToNat, *] <;> with_reducible exact rfl); all_goals try (first | (with_reducible first | refine hyT ?_ | refine hyF ?_ | exact hyA | exact hyB) | (intro hX; first | (cases hX; done) | ((try simp only [decide_eq_true_eq, decide_eq_false_iff_not, Bool.not_eq_true', Bool.not_eq_false'] at hX); (try have hXb := aj.1 hX))))))
  all_goals try ((first | apply dw | apply bK); simp (disch := (first | omega | (simp only [push_cast]; first | done | omega))) only [push_cast, ↓reduceIte, Nat.reduceEqDiff, Nat.reduceBEq, Nat.reduceAdd, Nat.reduceSub, Int.reduceToNat, *])
  all_goals try (exfalso; omega)
  all_goals (have hpd1 := hpd.out; have hsm1 := hsm.out; have hdgk1 := hdgk.out)
  all_goals (first
    | (rw [ahi (k := k) (by omega) (Bool.eq_false_iff.2 fun h => by rcases jW.1 h with h | h | h <;> (first | omega | (simp_all; done) | (simp_all; omega)))]; done)
    | exact ⟨(k + 1, n + 1), hi.letter (by omega) (by assumption), by dsimp only; omega, by simp only [push_cast, ↓reduceIte, Nat.reduceEqDiff, Nat.reduceBEq, Nat.reduceAdd, Nat.reduceSub, Int.reduceToNat], trivial, rfl⟩
    | exact ⟨(k + 1, n), hi.other (by omega) (jW.2 (.inr (.inr ⟨by omega, by omega⟩))) (by assumption), by dsimp only; omega, by (simp only [push_cast, ↓reduceIte, Nat.reduceEqDiff, Nat.reduceBEq, Nat.reduceAdd, Nat.reduceSub, Int.reduceToNat]; try exact congrArg (fun z => PV.val (Value.int .i64 z)) (by omega)), trivial, rfl⟩
    | exact ⟨(k + 1, n), hi.other (by omega) (jW.2 (.inr (.inl ⟨by omega, by omega, by simp_all⟩))) (by assumption), by dsimp only; omega, by simp only [push_cast, ↓reduceIte, Nat.reduceEqDiff, Nat.reduceBEq, Nat.reduceAdd, Nat.reduceSub, Int.reduceToNat], trivial, rfl⟩
    | (rw [hi.done (by omega)]; simp_all; done)
    | (rw [hi.done (by omega)]; simp_all; omega))
def bX (l : LS) : Bool := decide (l.length ≤ 12) && l.all eB
noncomputable def gQ : Fun := F1 dSs fun l => if qF l then some (bv (bX l)) else none
theorem mW {l : LS} (h : qF l) : gQ [.lst false 1 (l.map fun s => .val (.string s))] = some (.val (.bool (bX l))) :=
 (jM (A := dSs) l).trans (if_pos h)
noncomputable def qc : Ctx := { fn := fun f => if f = 58 then some fF else none, io := fun f => none }
theorem afa : aA Tryz.prog qc := ⟨(fun f φ h => by
 unfold qc at h
 dsimp only at h
 split at h
 ·rename_i hf; cases h; subst hf; exact ⟨⟨_, Tryz.func58, rfl, rfl⟩, gN⟩
 cases h), (fun f φ h => by
 unfold qc at h
 dsimp only at h
 cases h), rfl⟩
theorem aeU (ob : aF) (ps : List PV) : ah qc ob 58 ps = (ps.mapM (reify false 0 ob fuel)).bind fF := by
 have h : qc.fn 58 = some fF := by simp [qc]
 unfold ah
 rw [h]
 cases ps.mapM (reify false 0 ob fuel) <;> rfl
set_option maxHeartbeats 4000000 in
theorem j4 : Sound Tryz.prog 47 gQ := by
 refine ay mixed afa Tryz.func47 rfl 19 rfl [.tmp 2] rfl (by kernel_rfl) fun ps r hr => ?_
 obtain ⟨l, rfl, hq⟩ := bY hr
 clear hr
 split at hq
 case isFalse => cases hq
 case isTrue hok =>
 cases hq
 obtain ⟨hlen, hsz⟩ := hok
 refine ⟨by simp, ?_⟩
 simp only [dIs, dUs, dSs, eX, fq, eT, fE, bS, fA, bO, bP, bR, bQ]
 have gswords_c58 := aeU
 repeat' (first | (with_reducible first | apply bF | apply av | apply aO | apply aJ | apply bC | apply dY | apply bA | apply bH | apply d9 | apply bE | apply bJ | apply dX | apply bI | apply bG | apply bD) | ((with_reducible apply au); (simp only [List.map_cons, List.map_nil] <;> exact rfl)) | ((with_reducible apply aI); (simp only [List.map_cons, List.map_nil] <;> exact rfl); decide +kernel) | ((with_reducible apply bB); rfl) | ((first | ((with_reducible apply i_V); rfl; rfl; rfl) | ((first | ((with_reducible apply i_E); rfl) | ((with_reducible apply i_S); rfl)); first | rfl | (simp only [push_cast, ↓reduceIte])) | ((with_reducible apply dW); rfl; rfl) | ((with_reducible apply dZ); rfl; rfl; rfl) | (with_reducible first | apply dV | apply aL)); (simp (disch := (first | omega | (simp only [push_cast]; first | done | omega))) only [push_cast, ↓reduceIte, Nat.reduceEqDiff, Nat.reduceBEq, Nat.reduceAdd, Nat.reduceSub, Int.reduceToNat, *] <;> with_reducible exact rfl); all_goals try (first | (with_reducible first | refine hyT ?_ | refine hyF ?_ | exact hyA | exact hyB) | (intro hX; first | (cases hX; done) | ((try simp only [decide_eq_true_eq, decide_eq_false_iff_not, Bool.not_eq_true', Bool.not_eq_false'] at hX); (try have hXb := aj.1 hX))))))
 refine aT (α := Nat) mixed (fun k => [(0, .lst false 1 (l.map fun s => .val (.string s))), (3, iv k)]) (fun _ => []) (fun _ => 0)
  (fun k => k ≤ l.length ∧ ∀ j, j < k → eB (l[j]?.getD .empty) = true) (fun k => l.length - k) (by kernel_rfl) 0 ⟨Nat.zero_le _, fun j hj => by omega⟩ ?_ trivial rfl ?_
 ·simp only [push_cast, ↓reduceIte, Nat.reduceEqDiff, Nat.reduceBEq, Nat.reduceAdd, Nat.reduceSub, Int.reduceToNat]
 ·intro k ⟨hk, hok⟩
  have ap := @iG (l[k]?.getD .empty) (by have := hsz k; omega)
  clear hsz
  repeat' (first | (with_reducible first | apply bF | apply av | apply aO | apply aJ | apply bC | apply dY | apply bA | apply bH | apply d9 | apply bE | apply bJ | apply dX | apply bI | apply bG | apply bD) | ((with_reducible apply au); (simp only [List.map_cons, List.map_nil] <;> exact rfl)) | ((with_reducible apply aI); (simp only [List.map_cons, List.map_nil] <;> exact rfl); decide +kernel) | ((with_reducible apply bB); rfl) | ((first | ((with_reducible apply i_V); rfl; rfl; rfl) | ((first | ((with_reducible apply i_E); rfl) | ((with_reducible apply i_S); rfl)); first | rfl | (simp only [push_cast, ↓reduceIte])) | ((with_reducible apply dW); rfl; rfl) | ((with_reducible apply dZ); rfl; rfl; rfl) | (with_reducible first | apply dV | apply aL)); (simp (disch := (first | omega | (simp only [push_cast]; first | done | omega))) only [push_cast, ↓reduceIte, Nat.reduceEqDiff, Nat.reduceBEq, Nat.reduceAdd, Nat.reduceSub, Int.reduceToNat, *] <;> with_reducible exact rfl); all_goals try (first | (with_reducible first | refine hyT ?_ | refine hyF ?_ | exact hyA | exact hyB) | (intro hX; first | (cases hX; done) | ((try simp only [decide_eq_true_eq, decide_eq_false_iff_not, Bool.not_eq_true', Bool.not_eq_false'] at hX); (try have hXb := aj.1 hX))))))
  all_goals try ((first | apply dw | apply bK); simp (disch := (first | omega | (simp only [push_cast]; first | done | omega))) only [push_cast, ↓reduceIte, Nat.reduceEqDiff, Nat.reduceBEq, Nat.reduceAdd, Nat.reduceSub, Int.reduceToNat, *])
  ·rw [show bX l = false from by (unfold bX; rw [jN (d := .empty) (k := k) (by omega) (by simp_all), Bool.and_false])]
  ·refine ⟨k + 1, ⟨by omega, fun j hj => ?_⟩, by dsimp only; omega, by simp only [push_cast, ↓reduceIte, Nat.reduceEqDiff, Nat.reduceBEq, Nat.reduceAdd, Nat.reduceSub, Int.reduceToNat], trivial, rfl⟩
   by_cases h1 : j < k
   ·exact hok j h1
   ·have : j = k := by omega
    subst this
    simp_all
  ·rw [show bX l = decide (l.length ≤ 12) from by (unfold bX; rw [gL (d := .empty) fun j hj => hok j (by omega), Bool.and_true])]
   simp
   omega
noncomputable def qy : Ctx := { fn := fun f => if f = 67 then some fF else none, io := fun f => none }
theorem afA : aA Tryz.prog qy := ⟨(fun f φ h => by
 unfold qy at h
 dsimp only at h
 split at h
 ·rename_i hf; cases h; subst hf; exact ⟨⟨_, Tryz.func67, rfl, rfl⟩, gM⟩
 cases h), (fun f φ h => by
 unfold qy at h
 dsimp only at h
 cases h), rfl⟩
theorem afI (ob : aF) (ps : List PV) : ah qy ob 67 ps = (ps.mapM (reify false 0 ob fuel)).bind fF := by
 have h : qy.fn 67 = some fF := by simp [qy]
 unfold ah
 rw [h]
 cases ps.mapM (reify false 0 ob fuel) <;> rfl
set_option maxHeartbeats 4000000 in
theorem j5 : Sound Tryz.prog 42 gQ := by
 refine ay mixed afA Tryz.func42 rfl 18 rfl [.tmp 2] rfl (by kernel_rfl) fun ps r hr => ?_
 obtain ⟨l, rfl, hq⟩ := bY hr
 clear hr
 split at hq
 case isFalse => cases hq
 case isTrue hok =>
 cases hq
 obtain ⟨hlen, hsz⟩ := hok
 refine ⟨by simp, ?_⟩
 simp only [dIs, dUs, dSs, eX, fq, eT, fE, bS, fA, bO, bP, bR, bQ]
 have giwords_c67 := afI
 repeat' (first | (with_reducible first | apply bF | apply av | apply aO | apply aJ | apply bC | apply dY | apply bA | apply bH | apply d9 | apply bE | apply bJ | apply dX | apply bI | apply bG | apply bD) | ((with_reducible apply au); (simp only [List.map_cons, List.map_nil] <;> exact rfl)) | ((with_reducible apply aI); (simp only [List.map_cons, List.map_nil] <;> exact rfl); decide +kernel) | ((with_reducible apply bB); rfl) | ((first | ((with_reducible apply i_V); rfl; rfl; rfl) | ((first | ((with_reducible apply i_E); rfl) | ((with_reducible apply i_S); rfl)); first | rfl | (simp only [push_cast, ↓reduceIte])) | ((with_reducible apply dW); rfl; rfl) | ((with_reducible apply dZ); rfl; rfl; rfl) | (with_reducible first | apply dV | apply aL)); (simp (disch := (first | omega | (simp only [push_cast]; first | done | omega))) only [push_cast, ↓reduceIte, Nat.reduceEqDiff, Nat.reduceBEq, Nat.reduceAdd, Nat.reduceSub, Int.reduceToNat, *] <;> with_reducible exact rfl); all_goals try (first | (with_reducible first | refine hyT ?_ | refine hyF ?_ | exact hyA | exact hyB) | (intro hX; first | (cases hX; done) | ((try simp only [decide_eq_true_eq, decide_eq_false_iff_not, Bool.not_eq_true', Bool.not_eq_false'] at hX); (try have hXb := aj.1 hX))))))
 refine aT (α := Nat) mixed (fun k => [(0, .lst false 1 (l.map fun s => .val (.string s))), (5, .lst false 1 (l.map fun s => .val (.string s))), (6, iv l.length), (7, iv k)]) (fun _ => []) (fun _ => 0)
  (fun k => k ≤ l.length ∧ ∀ j, j < k → eB (l[j]?.getD .empty) = true) (fun k => l.length - k) (by kernel_rfl) 0 ⟨Nat.zero_le _, fun j hj => by omega⟩ ?_ trivial rfl ?_
 ·simp only [push_cast, ↓reduceIte, Nat.reduceEqDiff, Nat.reduceBEq, Nat.reduceAdd, Nat.reduceSub, Int.reduceToNat]
 ·intro k ⟨hk, hok⟩
  have ap := @iG (l[k]?.getD .empty) (by have := hsz k; omega)
  clear hsz
  repeat' (first | (with_reducible first | apply bF | apply av | apply aO | apply aJ | apply bC | apply dY | apply bA | apply bH | apply d9 | apply bE | apply bJ | apply dX | apply bI | apply bG | apply bD) | ((with_reducible apply au); (simp only [List.map_cons, List.map_nil] <;> exact rfl)) | ((with_reducible apply aI); (simp only [List.map_cons, List.map_nil] <;> exact rfl); decide +kernel) | ((with_reducible apply bB); rfl) | ((first | ((with_reducible apply i_V); rfl; rfl; rfl) | ((first | ((with_reducible apply i_E); rfl) | ((with_reducible apply i_S); rfl)); first | rfl | (simp only [push_cast, ↓reduceIte])) | ((with_reducible apply dW); rfl; rfl) | ((with_reducible apply dZ); rfl; rfl; rfl) | (with_reducible first | apply dV | apply aL)); (simp (disch := (first | omega | (simp only [push_cast]; first | done | omega))) only [push_cast, ↓reduceIte, Nat.reduceEqDiff, Nat.reduceBEq, Nat.reduceAdd, Nat.reduceSub, Int.reduceToNat, *] <;> with_reducible exact rfl); all_goals try (first | (with_reducible first | refine hyT ?_ | refine hyF ?_ | exact hyA | exact hyB) | (intro hX; first | (cases hX; done) | ((try simp only [decide_eq_true_eq, decide_eq_false_iff_not, Bool.not_eq_true', Bool.not_eq_false'] at hX); (try have hXb := aj.1 hX))))))
  all_goals try ((first | apply dw | apply bK); simp (disch := (first | omega | (simp only [push_cast]; first | done | omega))) only [push_cast, ↓reduceIte, Nat.reduceEqDiff, Nat.reduceBEq, Nat.reduceAdd, Nat.reduceSub, Int.reduceToNat, *])
  ·rw [show bX l = false from by (unfold bX; rw [jN (d := .empty) (k := k) (by omega) (by simp_all), Bool.and_false])]
  ·refine ⟨k + 1, ⟨by omega, fun j hj => ?_⟩, by dsimp only; omega, by simp only [push_cast, ↓reduceIte, Nat.reduceEqDiff, Nat.reduceBEq, Nat.reduceAdd, Nat.reduceSub, Int.reduceToNat], trivial, rfl⟩
   by_cases h1 : j < k
   ·exact hok j h1
   ·have : j = k := by omega
    subst this
    simp_all
  ·rw [show bX l = decide (l.length ≤ 12) from by (unfold bX; rw [gL (d := .empty) fun j hj => hok j (by omega), Bool.and_true])]
   simp
   omega
def bT (l : LS) : Bool := decide (l.length ≤ 20) && l.all aaC
noncomputable def fB : Fun := F1 dSs fun l => if qF l then some (bv (bT l)) else none
theorem iK {l : LS} (h : qF l) : fB [.lst false 1 (l.map fun s => .val (.string s))] = some (.val (.bool (bT l))) :=
 (jM (A := dSs) l).trans (if_pos h)
noncomputable def vX : Ctx := { fn := fun f => if f = 76 then some rD else none, io := fun f => none }
theorem ajH : aA Tryz.prog vX := ⟨(fun f φ h => by
 unfold vX at h
 dsimp only at h
 split at h
 ·rename_i hf; cases h; subst hf; exact ⟨⟨_, Tryz.func76, rfl, rfl⟩, jf⟩
 cases h), (fun f φ h => by
 unfold vX at h
 dsimp only at h
 cases h), rfl⟩
theorem aj1 (ob : aF) (ps : List PV) : ah vX ob 76 ps = (ps.mapM (reify false 0 ob fuel)).bind rD := by
 have h : vX.fn 76 = some rD := by simp [vX]
 unfold ah
 rw [h]
 cases ps.mapM (reify false 0 ob fuel) <;> rfl
set_option maxHeartbeats 4000000 in
theorem fu : Sound Tryz.prog 48 fB := by
 refine ay mixed ajH Tryz.func48 rfl 19 rfl [.tmp 2] rfl (by kernel_rfl) fun ps r hr => ?_
 obtain ⟨l, rfl, hq⟩ := bY hr
 clear hr
 split at hq
 case isFalse => cases hq
 case isTrue hok =>
 cases hq
 obtain ⟨hlen, hsz⟩ := hok
 refine ⟨by simp, ?_⟩
 simp only [dIs, dUs, dSs, eX, fq, eT, fE, bS, fA, bO, bP, bR, bQ]
 have gspats_c76 := aj1
 repeat' (first | (with_reducible first | apply bF | apply av | apply aO | apply aJ | apply bC | apply dY | apply bA | apply bH | apply d9 | apply bE | apply bJ | apply dX | apply bI | apply bG | apply bD) | ((with_reducible apply au); (simp only [List.map_cons, List.map_nil] <;> exact rfl)) | ((with_reducible apply aI); (simp only [List.map_cons, List.map_nil] <;> exact rfl); decide +kernel) | ((with_reducible apply bB); rfl) | ((first | ((with_reducible apply i_V); rfl; rfl; rfl) | ((first | ((with_reducible apply i_E); rfl) | ((with_reducible apply i_S); rfl)); first | rfl | (simp only [push_cast, ↓reduceIte])) | ((with_reducible apply dW); rfl; rfl) | ((with_reducible apply dZ); rfl; rfl; rfl) | (with_reducible first | apply dV | apply aL)); (simp (disch := (first | omega | (simp only [push_cast]; first | done | omega))) only [push_cast, ↓reduceIte, Nat.reduceEqDiff, Nat.reduceBEq, Nat.reduceAdd, Nat.reduceSub, Int.reduceToNat, *] <;> with_reducible exact rfl); all_goals try (first | (with_reducible first | refine hyT ?_ | refine hyF ?_ | exact hyA | exact hyB) | (intro hX; first | (cases hX; done) | ((try simp only [decide_eq_true_eq, decide_eq_false_iff_not, Bool.not_eq_true', Bool.not_eq_false'] at hX); (try have hXb := aj.1 hX))))))
 refine aT (α := Nat) mixed (fun k => [(0, .lst false 1 (l.map fun s => .val (.string s))), (3, iv k)]) (fun _ => []) (fun _ => 0)
  (fun k => k ≤ l.length ∧ ∀ j, j < k → aaC (l[j]?.getD .empty) = true) (fun k => l.length - k) (by kernel_rfl) 0 ⟨Nat.zero_le _, fun j hj => by omega⟩ ?_ trivial rfl ?_
 ·simp only [push_cast, ↓reduceIte, Nat.reduceEqDiff, Nat.reduceBEq, Nat.reduceAdd, Nat.reduceSub, Int.reduceToNat]
 ·intro k ⟨hk, hok⟩
  have ap := @r9 (l[k]?.getD .empty) (by have := hsz k; omega)
  clear hsz
  repeat' (first | (with_reducible first | apply bF | apply av | apply aO | apply aJ | apply bC | apply dY | apply bA | apply bH | apply d9 | apply bE | apply bJ | apply dX | apply bI | apply bG | apply bD) | ((with_reducible apply au); (simp only [List.map_cons, List.map_nil] <;> exact rfl)) | ((with_reducible apply aI); (simp only [List.map_cons, List.map_nil] <;> exact rfl); decide +kernel) | ((with_reducible apply bB); rfl) | ((first | ((with_reducible apply i_V); rfl; rfl; rfl) | ((first | ((with_reducible apply i_E); rfl) | ((with_reducible apply i_S); rfl)); first | rfl | (simp only [push_cast, ↓reduceIte])) | ((with_reducible apply dW); rfl; rfl) | ((with_reducible apply dZ); rfl; rfl; rfl) | (with_reducible first | apply dV | apply aL)); (simp (disch := (first | omega | (simp only [push_cast]; first | done | omega))) only [push_cast, ↓reduceIte, Nat.reduceEqDiff, Nat.reduceBEq, Nat.reduceAdd, Nat.reduceSub, Int.reduceToNat, *] <;> with_reducible exact rfl); all_goals try (first | (with_reducible first | refine hyT ?_ | refine hyF ?_ | exact hyA | exact hyB) | (intro hX; first | (cases hX; done) | ((try simp only [decide_eq_true_eq, decide_eq_false_iff_not, Bool.not_eq_true', Bool.not_eq_false'] at hX); (try have hXb := aj.1 hX))))))
  all_goals try ((first | apply dw | apply bK); simp (disch := (first | omega | (simp only [push_cast]; first | done | omega))) only [push_cast, ↓reduceIte, Nat.reduceEqDiff, Nat.reduceBEq, Nat.reduceAdd, Nat.reduceSub, Int.reduceToNat, *])
  ·rw [show bT l = false from by (unfold bT; rw [jN (d := .empty) (k := k) (by omega) (by simp_all), Bool.and_false])]
  ·refine ⟨k + 1, ⟨by omega, fun j hj => ?_⟩, by dsimp only; omega, by simp only [push_cast, ↓reduceIte, Nat.reduceEqDiff, Nat.reduceBEq, Nat.reduceAdd, Nat.reduceSub, Int.reduceToNat], trivial, rfl⟩
   by_cases h1 : j < k
   ·exact hok j h1
   ·have : j = k := by omega
    subst this
    simp_all
  ·rw [show bT l = decide (l.length ≤ 20) from by (unfold bT; rw [gL (d := .empty) fun j hj => hok j (by omega), Bool.and_true])]
   simp
   omega
noncomputable def wN : Ctx := { fn := fun f => if f = 68 then some rD else none, io := fun f => none }
theorem ag5 : aA Tryz.prog wN := ⟨(fun f φ h => by
 unfold wN at h
 dsimp only at h
 split at h
 ·rename_i hf; cases h; subst hf; exact ⟨⟨_, Tryz.func68, rfl, rfl⟩, nV⟩
 cases h), (fun f φ h => by
 unfold wN at h
 dsimp only at h
 cases h), rfl⟩
theorem agq (ob : aF) (ps : List PV) : ah wN ob 68 ps = (ps.mapM (reify false 0 ob fuel)).bind rD := by
 have h : wN.fn 68 = some rD := by simp [wN]
 unfold ah
 rw [h]
 cases ps.mapM (reify false 0 ob fuel) <;> rfl
set_option maxHeartbeats 4000000 in
theorem eZ : Sound Tryz.prog 43 fB := by
 refine ay mixed ag5 Tryz.func43 rfl 18 rfl [.tmp 2] rfl (by kernel_rfl) fun ps r hr => ?_
 obtain ⟨l, rfl, hq⟩ := bY hr
 clear hr
 split at hq
 case isFalse => cases hq
 case isTrue hok =>
 cases hq
 obtain ⟨hlen, hsz⟩ := hok
 refine ⟨by simp, ?_⟩
 simp only [dIs, dUs, dSs, eX, fq, eT, fE, bS, fA, bO, bP, bR, bQ]
 have gipats_c68 := agq
 repeat' (first | (with_reducible first | apply bF | apply av | apply aO | apply aJ | apply bC | apply dY | apply bA | apply bH | apply d9 | apply bE | apply bJ | apply dX | apply bI | apply bG | apply bD) | ((with_reducible apply au); (simp only [List.map_cons, List.map_nil] <;> exact rfl)) | ((with_reducible apply aI); (simp only [List.map_cons, List.map_nil] <;> exact rfl); decide +kernel) | ((with_reducible apply bB); rfl) | ((first | ((with_reducible apply i_V); rfl; rfl; rfl) | ((first | ((with_reducible apply i_E); rfl) | ((with_reducible apply i_S); rfl)); first | rfl | (simp only [push_cast, ↓reduceIte])) | ((with_reducible apply dW); rfl; rfl) | ((with_reducible apply dZ); rfl; rfl; rfl) | (with_reducible first | apply dV | apply aL)); (simp (disch := (first | omega | (simp only [push_cast]; first | done | omega))) only [push_cast, ↓reduceIte, Nat.reduceEqDiff, Nat.reduceBEq, Nat.reduceAdd, Nat.reduceSub, Int.reduceToNat, *] <;> with_reducible exact rfl); all_goals try (first | (with_reducible first | refine hyT ?_ | refine hyF ?_ | exact hyA | exact hyB) | (intro hX; first | (cases hX; done) | ((try simp only [decide_eq_true_eq, decide_eq_false_iff_not, Bool.not_eq_true', Bool.not_eq_false'] at hX); (try have hXb := aj.1 hX))))))
 refine aT (α := Nat) mixed (fun k => [(0, .lst false 1 (l.map fun s => .val (.string s))), (5, .lst false 1 (l.map fun s => .val (.string s))), (6, iv l.length), (7, iv k)]) (fun _ => []) (fun _ => 0)
  (fun k => k ≤ l.length ∧ ∀ j, j < k → aaC (l[j]?.getD .empty) = true) (fun k => l.length - k) (by kernel_rfl) 0 ⟨Nat.zero_le _, fun j hj => by omega⟩ ?_ trivial rfl ?_
 ·simp only [push_cast, ↓reduceIte, Nat.reduceEqDiff, Nat.reduceBEq, Nat.reduceAdd, Nat.reduceSub, Int.reduceToNat]
 ·intro k ⟨hk, hok⟩
  have ap := @r9 (l[k]?.getD .empty) (by have := hsz k; omega)
  clear hsz
  repeat' (first | (with_reducible first | apply bF | apply av | apply aO | apply aJ | apply bC | apply dY | apply bA | apply bH | apply d9 | apply bE | apply bJ | apply dX | apply bI | apply bG | apply bD) | ((with_reducible apply au); (simp only [List.map_cons, List.map_nil] <;> exact rfl)) | ((with_reducible apply aI); (simp only [List.map_cons, List.map_nil] <;> exact rfl); decide +kernel) | ((with_reducible apply bB); rfl) | ((first | ((with_reducible apply i_V); rfl; rfl; rfl) | ((first | ((with_reducible apply i_E); rfl) | ((with_reducible apply i_S); rfl)); first | rfl | (simp only [push_cast, ↓reduceIte])) | ((with_reducible apply dW); rfl; rfl) | ((with_reducible apply dZ); rfl; rfl; rfl) | (with_reducible first | apply dV | apply aL)); (simp (disch := (first | omega | (simp only [push_cast]; first | done | omega))) only [push_cast, ↓reduceIte, Nat.reduceEqDiff, Nat.reduceBEq, Nat.reduceAdd, Nat.reduceSub, Int.reduceToNat, *] <;> with_reducible exact rfl); all_goals try (first | (with_reducible first | refine hyT ?_ | refine hyF ?_ | exact hyA | exact hyB) | (intro hX; first | (cases hX; done) | ((try simp only [decide_eq_true_eq, decide_eq_false_iff_not, Bool.not_eq_true', Bool.not_eq_false'] at hX); (try have hXb := aj.1 hX))))))
  all_goals try ((first | apply dw | apply bK); simp (disch := (first | omega | (simp only [push_cast]; first | done | omega))) only [push_cast, ↓reduceIte, Nat.reduceEqDiff, Nat.reduceBEq, Nat.reduceAdd, Nat.reduceSub, Int.reduceToNat, *])
  ·rw [show bT l = false from by (unfold bT; rw [jN (d := .empty) (k := k) (by omega) (by simp_all), Bool.and_false])]
  ·refine ⟨k + 1, ⟨by omega, fun j hj => ?_⟩, by dsimp only; omega, by simp only [push_cast, ↓reduceIte, Nat.reduceEqDiff, Nat.reduceBEq, Nat.reduceAdd, Nat.reduceSub, Int.reduceToNat], trivial, rfl⟩
   by_cases h1 : j < k
   ·exact hok j h1
   ·have : j = k := by omega
    subst this
    simp_all
  ·rw [show bT l = decide (l.length ≤ 20) from by (unfold bT; rw [gL (d := .empty) fun j hj => hok j (by omega), Bool.and_true])]
   simp
   omega
abbrev BK := List LS × LS × Int × Int × Int
abbrev acJ : Dec BK := dA5 dSS dSs dI dI dI
def ay7 (w : LS) : Bool := bX w && !decide (w.length = 0)
def kM (p : List LS) (q : LS) (x y z : Int) : Bool := p.all ay7 && (decide (p.length ≤ 6) && (bT q && (inB x 0 1000 && (inB y 0 10000 && inB z 1 30))))
abbrev amU (p : List LS) (q : LS) : Prop := p.length ≤ 1048576 ∧ (∀ i : Nat, qF (p[i]?.getD [])) ∧ qF q
noncomputable instance (p : List LS) (q : LS) : Decidable (amU p q) := Classical.propDecidable _
noncomputable def kC : Fun := F1 acJ fun b => if amU b.1 b.2.1 then some (bv (kM b.1 b.2.1 b.2.2.1 b.2.2.2.1 b.2.2.2.2)) else none
theorem vY {p : List LS} {q : LS} {x y z : Int} (h : amU p q) : kC [.agg [.lst false 1 (p.map fun p => .lst false 1 (p.map fun s => .val (.string s))), .lst false 1 (q.map fun s => .val (.string s)), .val (.int .i64 x), .val (.int .i64 y), .val (.int .i64 z)]] = some (.val (.bool (kM p q x y z))) :=
 (jM (A := acJ) (p, q, x, y, z)).trans (if_pos h)
def kG : Fun := F1 dI fun n => some (bv (inB n 0 10000))
theorem mI (n : Int) : kG [.val (.int .i64 n)] = some (.val (.bool (inB n 0 10000))) := rfl
noncomputable def GBd : Ctx := { fn := fun f => if f = 60 then some φIn else none, io := fun f => none }
theorem atG : aA Tryz.prog GBd := ⟨(fun f φ h => by
 unfold GBd at h
 dsimp only at h
 split at h
 ·rename_i hf; cases h; subst hf; exact ⟨⟨_, Tryz.func60, rfl, rfl⟩, vU⟩
 cases h), (fun f φ h => by
 unfold GBd at h
 dsimp only at h
 cases h), rfl⟩
theorem auU (ob : aF) (ps : List PV) : ah GBd ob 60 ps = (ps.mapM (reify false 0 ob fuel)).bind φIn := by
 have h : GBd.fn 60 = some φIn := by simp [GBd]
 unfold ah
 rw [h]
 cases ps.mapM (reify false 0 ob fuel) <;> rfl
theorem pX : Sound Tryz.prog 62 kG := by
 refine ay mixed atG Tryz.func62 rfl 5 rfl [.tmp 2] rfl (by kernel_rfl) fun ps r hr => ?_
 obtain ⟨n, rfl, hr⟩ := bY hr
 cases hr
 refine ⟨by simp, ?_⟩
 simp only [dIs, dUs, dSs, eX, fq, eT, fE, bS, fA, bO, bP, bR, bQ]
 have gbd_c60 := auU; have ap := dR
 (refine wlkX ?_; intros)
 all_goals (exact fnF)
noncomputable def GKs : Ctx := { fn := fun f => if f = 47 then some gQ else if f = 48 then some fB else if f = 51 then some φIn else none, io := fun f => none }
theorem auv : aA Tryz.prog GKs := ⟨(fun f φ h => by
 unfold GKs at h
 dsimp only at h
 split at h
 ·rename_i hf; cases h; subst hf; exact ⟨⟨_, Tryz.func47, rfl, rfl⟩, j4⟩
 split at h
 ·rename_i hf; cases h; subst hf; exact ⟨⟨_, Tryz.func48, rfl, rfl⟩, fu⟩
 split at h
 ·rename_i hf; cases h; subst hf; exact ⟨⟨_, Tryz.func51, rfl, rfl⟩, jK⟩
 cases h), (fun f φ h => by
 unfold GKs at h
 dsimp only at h
 cases h), rfl⟩
theorem avx (ob : aF) (ps : List PV) : ah GKs ob 47 ps = (ps.mapM (reify false 0 ob fuel)).bind gQ := by
 have h : GKs.fn 47 = some gQ := by simp [GKs]
 unfold ah
 rw [h]
 cases ps.mapM (reify false 0 ob fuel) <;> rfl
theorem ayH (ob : aF) (ps : List PV) : ah GKs ob 48 ps = (ps.mapM (reify false 0 ob fuel)).bind fB := by
 have h : GKs.fn 48 = some fB := by simp [GKs]
 unfold ah
 rw [h]
 cases ps.mapM (reify false 0 ob fuel) <;> rfl
theorem avR (ob : aF) (ps : List PV) : ah GKs ob 51 ps = (ps.mapM (reify false 0 ob fuel)).bind φIn := by
 have h : GKs.fn 51 = some φIn := by simp [GKs]
 unfold ah
 rw [h]
 cases ps.mapM (reify false 0 ob fuel) <;> rfl
set_option maxHeartbeats 8000000 in
theorem rG : Sound Tryz.prog 37 kC := by
 refine ay mixed auv Tryz.func37 rfl 51 rfl [.tmp 2] rfl (by kernel_rfl) fun ps r hr => ?_
 obtain ⟨⟨p, q, x, y, z⟩, rfl, hq⟩ := bY hr
 clear hr
 split at hq
 case isFalse => cases hq
 case isTrue hok =>
 cases hq
 dsimp only at hok
 obtain ⟨hlen, hall, hoq⟩ := hok
 have ap2 := iK hoq
 clear hoq
 refine ⟨by simp, ?_⟩
 simp only [dIs, dUs, dSs, eX, fq, eT, fE, bS, fA, bO, bP, bR, bQ]
 have gks_c47 := avx; have gks_c48 := ayH; have gks_c51 := avR; have ap3 := dR; have ap4 := mI
 repeat' (first | (with_reducible first | apply bF | apply av | apply aO | apply aJ | apply bC | apply dY | apply bA | apply bH | apply d9 | apply bE | apply bJ | apply dX | apply bI | apply bG | apply bD) | ((with_reducible apply au); (simp only [List.map_cons, List.map_nil] <;> exact rfl)) | ((with_reducible apply aI); (simp only [List.map_cons, List.map_nil] <;> exact rfl); decide +kernel) | ((with_reducible apply bB); rfl) | ((first | ((with_reducible apply i_V); rfl; rfl; rfl) | ((first | ((with_reducible apply i_E); rfl) | ((with_reducible apply i_S); rfl)); first | rfl | (simp only [push_cast, ↓reduceIte])) | ((with_reducible apply dW); rfl; rfl) | ((with_reducible apply dZ); rfl; rfl; rfl) | (with_reducible first | apply dV | apply aL)); (simp (disch := (first | omega | (simp only [push_cast]; first | done | omega))) only [push_cast, ↓reduceIte, Nat.reduceEqDiff, Nat.reduceBEq, Nat.reduceAdd, Nat.reduceSub, Int.reduceToNat, *] <;> with_reducible exact rfl); all_goals try (first | (with_reducible first | refine hyT ?_ | refine hyF ?_ | exact hyA | exact hyB) | (intro hX; first | (cases hX; done) | ((try simp only [decide_eq_true_eq, decide_eq_false_iff_not, Bool.not_eq_true', Bool.not_eq_false'] at hX); (try have hXb := aj.1 hX))))))
 refine aT (α := Nat) mixed (fun k => [(1, .own 0 5 0 0), (3, iv k)]) (fun _ => [(0, 40, 5, [.agg [.lst false 1 (p.map fun p => .lst false 1 (p.map fun s => .val (.string s))), .lst false 1 (q.map fun s => .val (.string s)), .val (.int .i64 x), .val (.int .i64 y), .val (.int .i64 z)]])]) (fun _ => 1)
  (fun k => k ≤ p.length ∧ ∀ j, j < k → ay7 (p[j]?.getD []) = true) (fun k => p.length - k) (by kernel_rfl) 0 ⟨Nat.zero_le _, fun j hj => by omega⟩ ?_ ?_ ?_ ?_
 ·simp only [push_cast, ↓reduceIte, Nat.reduceEqDiff, Nat.reduceBEq, Nat.reduceAdd, Nat.reduceSub, Int.reduceToNat]
 ·simp only [push_cast, ↓reduceIte, Nat.reduceEqDiff, Nat.reduceBEq, Nat.reduceAdd, Nat.reduceSub, Int.reduceToNat]
 ·simp only [push_cast, ↓reduceIte, Nat.reduceEqDiff, Nat.reduceBEq, Nat.reduceAdd, Nat.reduceSub, Int.reduceToNat]
 ·intro k ⟨hk, hok⟩
  have ap := mW (hall k)
  have hpl := (hall k).1
  clear hall
  have hpb : ay7 (p[k]?.getD []) = (bX (p[k]?.getD []) && !decide ((p[k]?.getD []).length = 0)) := rfl
  have hpb := Lib.hid hpb
  have hok := Lib.hid hok
  repeat' (first | (with_reducible first | apply bF | apply av | apply aO | apply aJ | apply bC | apply dY | apply bA | apply bH | apply d9 | apply bE | apply bJ | apply dX | apply bI | apply bG | apply bD) | ((with_reducible apply au); (simp only [List.map_cons, List.map_nil] <;> exact rfl)) | ((with_reducible apply aI); (simp only [List.map_cons, List.map_nil] <;> exact rfl); decide +kernel) | ((with_reducible apply bB); rfl) | ((first | ((with_reducible apply i_V); rfl; rfl; rfl) | ((first | ((with_reducible apply i_E); rfl) | ((with_reducible apply i_S); rfl)); first | rfl | (simp only [push_cast, ↓reduceIte])) | ((with_reducible apply dW); rfl; rfl) | ((with_reducible apply dZ); rfl; rfl; rfl) | (with_reducible first | apply dV | apply aL)); (simp (disch := (first | omega | (simp only [push_cast]; first | done | omega))) only [push_cast, ↓reduceIte, Nat.reduceEqDiff, Nat.reduceBEq, Nat.reduceAdd, Nat.reduceSub, Int.reduceToNat, *] <;> with_reducible exact rfl); all_goals try (first | (with_reducible first | refine hyT ?_ | refine hyF ?_ | exact hyA | exact hyB) | (intro hX; first | (cases hX; done) | ((try simp only [decide_eq_true_eq, decide_eq_false_iff_not, Bool.not_eq_true', Bool.not_eq_false'] at hX); (try have hXb := aj.1 hX))))))
  all_goals try ((first | apply dw | apply bK); simp (disch := (first | omega | (simp only [push_cast]; first | done | omega))) only [push_cast, ↓reduceIte, Nat.reduceEqDiff, Nat.reduceBEq, Nat.reduceAdd, Nat.reduceSub, Int.reduceToNat, *])
  all_goals try (exfalso; omega)
  all_goals have hpb1 := hpb.out
  all_goals (first
    | (rw [show kM p q x y z = false from by (unfold kM; rw [jN (d := []) (k := k) (by omega) (by simp_all), Bool.false_and])]; done)
    | (rw [show kM p q x y z = (decide (p.length ≤ 6) && (bT q && (inB x 0 1000 && (inB y 0 10000 && inB z 1 30)))) from by (unfold kM; rw [gL (d := []) fun j hj => hok.out j (by omega), Bool.true_and])]; simp_all; done)
    | (rw [show kM p q x y z = (decide (p.length ≤ 6) && (bT q && (inB x 0 1000 && (inB y 0 10000 && inB z 1 30)))) from by (unfold kM; rw [gL (d := []) fun j hj => hok.out j (by omega), Bool.true_and])]; simp_all; omega)
    | (refine ⟨k + 1, ⟨by omega, fun j hj => ?_⟩, by dsimp only; omega, by simp only [push_cast, ↓reduceIte, Nat.reduceEqDiff, Nat.reduceBEq, Nat.reduceAdd, Nat.reduceSub, Int.reduceToNat], by simp only [push_cast, ↓reduceIte, Nat.reduceEqDiff, Nat.reduceBEq, Nat.reduceAdd, Nat.reduceSub, Int.reduceToNat], rfl⟩
       by_cases h1 : j < k
       · exact hok.out j h1
       · have : j = k := by omega
         subst this
         simp_all
         try omega))
noncomputable def GKi : Ctx := { fn := fun f => if f = 42 then some gQ else if f = 43 then some fB else if f = 60 then some φIn else if f = 62 then some kG else none, io := fun f => none }
theorem avk : aA Tryz.prog GKi := ⟨(fun f φ h => by
 unfold GKi at h
 dsimp only at h
 split at h
 ·rename_i hf; cases h; subst hf; exact ⟨⟨_, Tryz.func42, rfl, rfl⟩, j5⟩
 split at h
 ·rename_i hf; cases h; subst hf; exact ⟨⟨_, Tryz.func43, rfl, rfl⟩, eZ⟩
 split at h
 ·rename_i hf; cases h; subst hf; exact ⟨⟨_, Tryz.func60, rfl, rfl⟩, vU⟩
 split at h
 ·rename_i hf; cases h; subst hf; exact ⟨⟨_, Tryz.func62, rfl, rfl⟩, pX⟩
 cases h), (fun f φ h => by
 unfold GKi at h
 dsimp only at h
 cases h), rfl⟩
theorem atP (ob : aF) (ps : List PV) : ah GKi ob 42 ps = (ps.mapM (reify false 0 ob fuel)).bind gQ := by
 have h : GKi.fn 42 = some gQ := by simp [GKi]
 unfold ah
 rw [h]
 cases ps.mapM (reify false 0 ob fuel) <;> rfl
theorem ayt (ob : aF) (ps : List PV) : ah GKi ob 43 ps = (ps.mapM (reify false 0 ob fuel)).bind fB := by
 have h : GKi.fn 43 = some fB := by simp [GKi]
 unfold ah
 rw [h]
 cases ps.mapM (reify false 0 ob fuel) <;> rfl
theorem av3 (ob : aF) (ps : List PV) : ah GKi ob 60 ps = (ps.mapM (reify false 0 ob fuel)).bind φIn := by
 have h : GKi.fn 60 = some φIn := by simp [GKi]
 unfold ah
 rw [h]
 cases ps.mapM (reify false 0 ob fuel) <;> rfl
theorem awX (ob : aF) (ps : List PV) : ah GKi ob 62 ps = (ps.mapM (reify false 0 ob fuel)).bind kG := by
 have h : GKi.fn 62 = some kG := by simp [GKi]
 unfold ah
 rw [h]
 cases ps.mapM (reify false 0 ob fuel) <;> rfl
set_option maxHeartbeats 8000000 in
theorem rz : Sound Tryz.prog 36 kC := by
 refine ay mixed avk Tryz.func36 rfl 45 rfl [.tmp 2] rfl (by kernel_rfl) fun ps r hr => ?_
 obtain ⟨⟨p, q, x, y, z⟩, rfl, hq⟩ := bY hr
 clear hr
 split at hq
 case isFalse => cases hq
 case isTrue hok =>
 cases hq
 dsimp only at hok
 obtain ⟨hlen, hall, hoq⟩ := hok
 have ap2 := iK hoq
 clear hoq
 refine ⟨by simp, ?_⟩
 simp only [dIs, dUs, dSs, eX, fq, eT, fE, bS, fA, bO, bP, bR, bQ]
 have gki_c42 := atP; have gki_c43 := ayt; have gki_c60 := av3; have gki_c62 := awX; have ap3 := dR; have ap4 := mI
 repeat' (first | (with_reducible first | apply bF | apply av | apply aO | apply aJ | apply bC | apply dY | apply bA | apply bH | apply d9 | apply bE | apply bJ | apply dX | apply bI | apply bG | apply bD) | ((with_reducible apply au); (simp only [List.map_cons, List.map_nil] <;> exact rfl)) | ((with_reducible apply aI); (simp only [List.map_cons, List.map_nil] <;> exact rfl); decide +kernel) | ((with_reducible apply bB); rfl) | ((first | ((with_reducible apply i_V); rfl; rfl; rfl) | ((first | ((with_reducible apply i_E); rfl) | ((with_reducible apply i_S); rfl)); first | rfl | (simp only [push_cast, ↓reduceIte])) | ((with_reducible apply dW); rfl; rfl) | ((with_reducible apply dZ); rfl; rfl; rfl) | (with_reducible first | apply dV | apply aL)); (simp (disch := (first | omega | (simp only [push_cast]; first | done | omega))) only [push_cast, ↓reduceIte, Nat.reduceEqDiff, Nat.reduceBEq, Nat.reduceAdd, Nat.reduceSub, Int.reduceToNat, *] <;> with_reducible exact rfl); all_goals try (first | (with_reducible first | refine hyT ?_ | refine hyF ?_ | exact hyA | exact hyB) | (intro hX; first | (cases hX; done) | ((try simp only [decide_eq_true_eq, decide_eq_false_iff_not, Bool.not_eq_true', Bool.not_eq_false'] at hX); (try have hXb := aj.1 hX))))))
 refine aT (α := Nat) mixed (fun k => [(1, .own 0 5 0 0), (6, .lst false 1 (p.map fun p => .lst false 1 (p.map fun s => .val (.string s)))), (7, iv p.length), (8, iv k)]) (fun _ => [(0, 40, 5, [.agg [.lst false 1 (p.map fun p => .lst false 1 (p.map fun s => .val (.string s))), .lst false 1 (q.map fun s => .val (.string s)), .val (.int .i64 x), .val (.int .i64 y), .val (.int .i64 z)]])]) (fun _ => 1)
  (fun k => k ≤ p.length ∧ ∀ j, j < k → ay7 (p[j]?.getD []) = true) (fun k => p.length - k) (by kernel_rfl) 0 ⟨Nat.zero_le _, fun j hj => by omega⟩ ?_ ?_ ?_ ?_
 ·simp only [push_cast, ↓reduceIte, Nat.reduceEqDiff, Nat.reduceBEq, Nat.reduceAdd, Nat.reduceSub, Int.reduceToNat]
 ·simp only [push_cast, ↓reduceIte, Nat.reduceEqDiff, Nat.reduceBEq, Nat.reduceAdd, Nat.reduceSub, Int.reduceToNat]
 ·simp only [push_cast, ↓reduceIte, Nat.reduceEqDiff, Nat.reduceBEq, Nat.reduceAdd, Nat.reduceSub, Int.reduceToNat]
 ·intro k ⟨hk, hok⟩
  have ap := mW (hall k)
  have hpl := (hall k).1
  clear hall
  have hpb : ay7 (p[k]?.getD []) = (bX (p[k]?.getD []) && !decide ((p[k]?.getD []).length = 0)) := rfl
  have hpb := Lib.hid hpb
  have hok := Lib.hid hok
  repeat' (first | (with_reducible first | apply bF | apply av | apply aO | apply aJ | apply bC | apply dY | apply bA | apply bH | apply d9 | apply bE | apply bJ | apply dX | apply bI | apply bG | apply bD) | ((with_reducible apply au); (simp only [List.map_cons, List.map_nil] <;> exact rfl)) | ((with_reducible apply aI); (simp only [List.map_cons, List.map_nil] <;> exact rfl); decide +kernel) | ((with_reducible apply bB); rfl) | ((first | ((with_reducible apply i_V); rfl; rfl; rfl) | ((first | ((with_reducible apply i_E); rfl) | ((with_reducible apply i_S); rfl)); first | rfl | (simp only [push_cast, ↓reduceIte])) | ((with_reducible apply dW); rfl; rfl) | ((with_reducible apply dZ); rfl; rfl; rfl) | (with_reducible first | apply dV | apply aL)); (simp (disch := (first | omega | (simp only [push_cast]; first | done | omega))) only [push_cast, ↓reduceIte, Nat.reduceEqDiff, Nat.reduceBEq, Nat.reduceAdd, Nat.reduceSub, Int.reduceToNat, *] <;> with_reducible exact rfl); all_goals try (first | (with_reducible first | refine hyT ?_ | refine hyF ?_ | exact hyA | exact hyB) | (intro hX; first | (cases hX; done) | ((try simp only [decide_eq_true_eq, decide_eq_false_iff_not, Bool.not_eq_true', Bool.not_eq_false'] at hX); (try have hXb := aj.1 hX))))))
  all_goals try ((first | apply dw | apply bK); simp (disch := (first | omega | (simp only [push_cast]; first | done | omega))) only [push_cast, ↓reduceIte, Nat.reduceEqDiff, Nat.reduceBEq, Nat.reduceAdd, Nat.reduceSub, Int.reduceToNat, *])
  all_goals try (exfalso; omega)
  all_goals have hpb1 := hpb.out
  all_goals (first
    | (rw [show kM p q x y z = false from by (unfold kM; rw [jN (d := []) (k := k) (by omega) (by simp_all), Bool.false_and])]; done)
    | (rw [show kM p q x y z = (decide (p.length ≤ 6) && (bT q && (inB x 0 1000 && (inB y 0 10000 && inB z 1 30)))) from by (unfold kM; rw [gL (d := []) fun j hj => hok.out j (by omega), Bool.true_and])]; simp_all; done)
    | (rw [show kM p q x y z = (decide (p.length ≤ 6) && (bT q && (inB x 0 1000 && (inB y 0 10000 && inB z 1 30)))) from by (unfold kM; rw [gL (d := []) fun j hj => hok.out j (by omega), Bool.true_and])]; simp_all; omega)
    | (refine ⟨k + 1, ⟨by omega, fun j hj => ?_⟩, by dsimp only; omega, by simp only [push_cast, ↓reduceIte, Nat.reduceEqDiff, Nat.reduceBEq, Nat.reduceAdd, Nat.reduceSub, Int.reduceToNat], by simp only [push_cast, ↓reduceIte, Nat.reduceEqDiff, Nat.reduceBEq, Nat.reduceAdd, Nat.reduceSub, Int.reduceToNat], rfl⟩
       by_cases h1 : j < k
       · exact hok.out j h1
       · have : j = k := by omega
         subst this
         simp_all
         try omega))
end Go.Proofs.YtngcedklbinhjaaGreatDoor
namespace Go.Proofs.YtngcedklbinhjaaGreatDoor
open Go.RowKit
set_option linter.all false
theorem aaY {l : LS} {k : Nat} (h : k < l.length) : aa1 (l.take (k + 1)) = aa1 (l.take k) + (l[k]?.getD .empty).size := by
 rw [List.take_add_one, List.getElem?_eq_getElem h]
 simp only [aa1, List.map_append, List.sum_append, Option.toList_some, List.map_cons, List.map_nil, List.sum_cons, List.sum_nil, Nat.add_zero, Option.getD_some]
theorem zk (l : LS) (k : Nat) : aa1 (l.take k) ≤ aa1 l := by
 have h : aa1 l = aa1 (l.take k) + aa1 (l.drop k) := by
  conv => lhs; rw [← List.take_append_drop k l]
  simp only [aa1, List.map_append, List.sum_append]
 omega
end Go.Proofs.YtngcedklbinhjaaGreatDoor
namespace Go.Proofs.YtngcedklbinhjaaGreatDoor
open Go.RowKit
set_option linter.all false
def amB (c : Int) (s : ByteArray) : Bool := s.data.toList.any fun b => decide (c = (b.toNat : Int))
theorem aAd {b : UInt8} {c : Int} (h0 : 0 ≤ c) (h1 : c ≤ 255) : (b == c.toNat.toUInt8) = decide (c = (b.toNat : Int)) := by
 have e : (c.toNat.toUInt8).toNat = c.toNat := by
  show c.toNat % 256 = c.toNat
  omega
 rw [Bool.eq_iff_iff, beq_iff_eq, decide_eq_true_eq]
 constructor
 ·intro h
  rw [h, e]
  omega
 ·intro h
  apply UInt8.toNat_inj.1
  rw [e]
  omega
theorem anv : ∀ (l : List UInt8) {c : Int}, 0 ≤ c → c ≤ 255 → decide (0 ≤ Lib.indexByte l c.toNat.toUInt8) = l.any fun b => decide (c = (b.toNat : Int))
 | [], c, _, _ => rfl
 | b :: l, c, h0, h1 => by
  have ih := anv l h0 h1
  have hge := Lib.indexByte_ge l c.toNat.toUInt8
  unfold Lib.indexByte
  rw [aAd h0 h1, List.any_cons]
  cases hb : decide (c = (b.toNat : Int)) with
  | true => rfl
  | false =>
   rw [Bool.false_or, ← ih, if_neg (by decide)]
   split
   ·rename_i hx
    rw [beq_iff_eq.1 hx]
   ·rename_i hx
    have hx1 : ¬ Lib.indexByte l c.toNat.toUInt8 = -1 := fun e => hx (beq_iff_eq.2 e)
    exact decide_eq_decide.2 (by omega)
def aa4 (c : Int) : Int := if c < 97 ∨ 122 < c then 0 else if c = 105 ∨ c = 106 ∨ c = 108 then 3 else if c = 102 ∨ c = 114 ∨ c = 116 then 4 else if c = 109 ∨ c = 119 then 8 else 5
def ow (a b : Int) : Int := if ((a = 118 ∨ a = 119 ∨ a = 121) ∧ (b = 97 ∨ b = 101 ∨ b = 111)) ∨ (a = 114 ∧ (b = 110 ∨ b = 109)) then 1 else 0
def qh (a b : Int) : Bool := decide (a = 102 ∧ (b = 105 ∨ b = 106 ∨ b = 108 ∨ b = 102))
theorem yJ (c : Int) : 0 ≤ aa4 c ∧ aa4 c ≤ 8 := by
 unfold aa4
 repeat' split
 all_goals omega
theorem tT (a b : Int) : 0 ≤ ow a b ∧ ow a b ≤ 1 := by
 unfold ow
 split <;> omega
def aar : Fun := F1 dU fun c => some (iv (aa4 c))
theorem aje (c : Int) : aar [.val (.int .u8 c)] = some (.val (.int .i64 (aa4 c))) := rfl
def aal : Fun := F2 dU dU fun a b => some (iv (ow a b))
theorem ahV (a b : Int) : aal [.val (.int .u8 a), .val (.int .u8 b)] = some (.val (.int .i64 (ow a b))) := rfl
def sO : Fun := F2 dU dU fun a b => some (bv (qh a b))
theorem afW (a b : Int) : sO [.val (.int .u8 a), .val (.int .u8 b)] = some (.val (.bool (qh a b))) := rfl
theorem acW : Sound Tryz.prog 99 aar := by
 refine ay mixed jQ Tryz.func99 rfl 39 rfl [.tmp 2] rfl (by kernel_rfl) fun ps r hr => ?_
 obtain ⟨c, rfl, hr⟩ := bY hr
 cases hr
 refine ⟨by simp, ?_⟩
 simp only [dIs, dUs, dSs, eX, fq, eT, fE, bS, fA, bO, bP, bR, bQ]
 (repeat' (first | (with_reducible first | apply bF | apply av | apply aO | apply aJ | apply bC | apply dY | apply bA | apply bH | apply d9 | apply bE | apply bJ | apply dX | apply bI | apply bG | apply bD) | ((with_reducible apply au); (simp only [List.map_cons, List.map_nil] <;> exact rfl)) | ((with_reducible apply aI); (simp only [List.map_cons, List.map_nil] <;> exact rfl); decide +kernel) | ((with_reducible apply bB); rfl) | ((first | ((with_reducible apply i_V); rfl; rfl; rfl) | ((first | ((with_reducible apply i_E); rfl) | ((with_reducible apply i_S); rfl)); first | rfl | (simp only [push_cast, ↓reduceIte])) | ((with_reducible apply dW); rfl; rfl) | ((with_reducible apply dZ); rfl; rfl; rfl) | (with_reducible first | apply dV | apply aL)); (simp (disch := (first | omega | (simp only [push_cast]; first | done | omega))) only [push_cast, ↓reduceIte, Nat.reduceEqDiff, Nat.reduceBEq, Nat.reduceAdd, Nat.reduceSub, Int.reduceToNat, *] <;> with_reducible exact rfl); all_goals try (first | (with_reducible first | refine hyT ?_ | refine hyF ?_ | exact hyA | exact hyB) | (intro hX; first | (cases hX; done) | ((try simp only [decide_eq_true_eq, decide_eq_false_iff_not, Bool.not_eq_true', Bool.not_eq_false'] at hX); (try have hXb := aj.1 hX))))))); all_goals try (exfalso; omega)
 all_goals ((first | apply dw | apply bK); simp (disch := (first | omega | (simp only [push_cast]; first | done | omega))) only [push_cast, ↓reduceIte, Nat.reduceEqDiff, Nat.reduceBEq, Nat.reduceAdd, Nat.reduceSub, Int.reduceToNat, *])
 all_goals ((refine congrArg (fun z => some (PV.val (Value.int IntKind.i64 z))) ?_); unfold aa4; repeat' split)
 all_goals omega
theorem abP : Sound Tryz.prog 100 aal := by
 refine ay mixed jQ Tryz.func100 rfl 43 rfl [.tmp 4] rfl (by kernel_rfl) fun ps r hr => ?_
 obtain ⟨a, b, rfl, hr⟩ := dA hr
 cases hr
 refine ⟨by simp, ?_⟩
 simp only [dIs, dUs, dSs, eX, fq, eT, fE, bS, fA, bO, bP, bR, bQ]
 (repeat' (first | (with_reducible first | apply bF | apply av | apply aO | apply aJ | apply bC | apply dY | apply bA | apply bH | apply d9 | apply bE | apply bJ | apply dX | apply bI | apply bG | apply bD) | ((with_reducible apply au); (simp only [List.map_cons, List.map_nil] <;> exact rfl)) | ((with_reducible apply aI); (simp only [List.map_cons, List.map_nil] <;> exact rfl); decide +kernel) | ((with_reducible apply bB); rfl) | ((first | ((with_reducible apply i_V); rfl; rfl; rfl) | ((first | ((with_reducible apply i_E); rfl) | ((with_reducible apply i_S); rfl)); first | rfl | (simp only [push_cast, ↓reduceIte])) | ((with_reducible apply dW); rfl; rfl) | ((with_reducible apply dZ); rfl; rfl; rfl) | (with_reducible first | apply dV | apply aL)); (simp (disch := (first | omega | (simp only [push_cast]; first | done | omega))) only [push_cast, ↓reduceIte, Nat.reduceEqDiff, Nat.reduceBEq, Nat.reduceAdd, Nat.reduceSub, Int.reduceToNat, *] <;> with_reducible exact rfl); all_goals try (first | (with_reducible first | refine hyT ?_ | refine hyF ?_ | exact hyA | exact hyB) | (intro hX; first | (cases hX; done) | ((try simp only [decide_eq_true_eq, decide_eq_false_iff_not, Bool.not_eq_true', Bool.not_eq_false'] at hX); (try have hXb := aj.1 hX))))))); all_goals try (exfalso; omega)
 all_goals ((first | apply dw | apply bK); simp (disch := (first | omega | (simp only [push_cast]; first | done | omega))) only [push_cast, ↓reduceIte, Nat.reduceEqDiff, Nat.reduceBEq, Nat.reduceAdd, Nat.reduceSub, Int.reduceToNat, *])
 all_goals ((refine congrArg (fun z => some (PV.val (Value.int IntKind.i64 z))) ?_); unfold ow; repeat' split)
 all_goals omega
theorem aag : Sound Tryz.prog 114 sO := by
 refine ay mixed jQ Tryz.func114 rfl 23 rfl [.tmp 4] rfl (by kernel_rfl) fun ps r hr => ?_
 obtain ⟨a, b, rfl, hr⟩ := dA hr
 cases hr
 refine ⟨by simp, ?_⟩
 simp only [dIs, dUs, dSs, eX, fq, eT, fE, bS, fA, bO, bP, bR, bQ]
 (repeat' (first | (with_reducible first | apply bF | apply av | apply aO | apply aJ | apply bC | apply dY | apply bA | apply bH | apply d9 | apply bE | apply bJ | apply dX | apply bI | apply bG | apply bD) | ((with_reducible apply au); (simp only [List.map_cons, List.map_nil] <;> exact rfl)) | ((with_reducible apply aI); (simp only [List.map_cons, List.map_nil] <;> exact rfl); decide +kernel) | ((with_reducible apply bB); rfl) | ((first | ((with_reducible apply i_V); rfl; rfl; rfl) | ((first | ((with_reducible apply i_E); rfl) | ((with_reducible apply i_S); rfl)); first | rfl | (simp only [push_cast, ↓reduceIte])) | ((with_reducible apply dW); rfl; rfl) | ((with_reducible apply dZ); rfl; rfl; rfl) | (with_reducible first | apply dV | apply aL)); (simp (disch := (first | omega | (simp only [push_cast]; first | done | omega))) only [push_cast, ↓reduceIte, Nat.reduceEqDiff, Nat.reduceBEq, Nat.reduceAdd, Nat.reduceSub, Int.reduceToNat, *] <;> with_reducible exact rfl); all_goals try (first | (with_reducible first | refine hyT ?_ | refine hyF ?_ | exact hyA | exact hyB) | (intro hX; first | (cases hX; done) | ((try simp only [decide_eq_true_eq, decide_eq_false_iff_not, Bool.not_eq_true', Bool.not_eq_false'] at hX); (try have hXb := aj.1 hX))))))); all_goals try (exfalso; omega)
 all_goals ((first | apply dw | apply bK); simp (disch := (first | omega | (simp only [push_cast]; first | done | omega))) only [push_cast, ↓reduceIte, Nat.reduceEqDiff, Nat.reduceBEq, Nat.reduceAdd, Nat.reduceSub, Int.reduceToNat, *])
 all_goals ((refine congrArg (fun z => some (PV.val (Value.bool z))) ?_); unfold qh; first | (simp; omega) | simp_all)
def φIb : Fun := F2 dS dU fun s c => some (iv (Lib.indexByte s.data.toList c.toNat.toUInt8))
theorem aAf : Sound Tryz.prog 113 φIb := by
 intro w J ps args r hr hJ hT hargs
 obtain ⟨s, c, rfl, hq⟩ := dA hr
 cases hq
 simp only [dQ] at hargs
 obtain ⟨v1, vs1, e1, h1, v2, vs2, rfl, h2, rfl⟩ := hargs
 obtain rfl : args = #[v1, v2] := by
  obtain ⟨a⟩ := args
  simp only at e1
  rw [e1]
 simp only [dS, dU, Rep] at h1 h2
 subst h1
 subst h2
 refine (YtngcedklbinhjaaGreatDoor.strings_IndexByte s c w).mono ?_
 rintro e w' ⟨rfl, rfl⟩
 exact ⟨_, rfl, Below.refl _ _, fun g' _ => by simp only [Rep]⟩
theorem aoU (s : ByteArray) (c : Int) : φIb [.val (.string s), .val (.int .u8 c)] = some (.val (.int .i64 (Lib.indexByte s.data.toList c.toNat.toUInt8))) := rfl
noncomputable def φAm : Fun := F2 dU dS fun c s => open Classical in if 0 ≤ c ∧ c ≤ 255 then some (bv (amB c s)) else none
theorem nZ {c : Int} (s : ByteArray) (h : 0 ≤ c ∧ c ≤ 255) : φAm [.val (.int .u8 c), .val (.string s)] = some (.val (.bool (amB c s))) := (kX (A := dU) (B := dS) c s).trans (if_pos h)
noncomputable def GAm : Ctx := { fn := fun f => if f = 113 then some φIb else none, io := fun f => none }
theorem avP : aA Tryz.prog GAm := ⟨(fun f φ h => by
 unfold GAm at h
 dsimp only at h
 split at h
 ·rename_i hf; cases h; subst hf; exact ⟨⟨_, Tryz.func113, rfl, rfl⟩, aAf⟩
 cases h), (fun f φ h => by
 unfold GAm at h
 dsimp only at h
 cases h), rfl⟩
theorem asa (ob : aF) (ps : List PV) : ah GAm ob 113 ps = (ps.mapM (reify false 0 ob fuel)).bind φIb := by
 have h : GAm.fn 113 = some φIb := by simp [GAm]
 unfold ah
 rw [h]
 cases ps.mapM (reify false 0 ob fuel) <;> rfl
theorem ac7 : Sound Tryz.prog 97 φAm := by
 refine ay mixed avP Tryz.func97 rfl 9 rfl [.tmp 4] rfl (by kernel_rfl) fun ps r hr => ?_
 obtain ⟨c, s, rfl, hq⟩ := dA hr
 clear hr
 split at hq
 case isFalse => cases hq
 case isTrue hpre =>
 cases hq
 refine ⟨by simp, ?_⟩
 simp only [dIs, dUs, dSs, eX, fq, eT, fE, bS, fA, bO, bP, bR, bQ]
 have e := anv s.data.toList hpre.1 hpre.2
 have hge := Lib.indexByte_ge s.data.toList c.toNat.toUInt8
 have ap := aoU s c
 unfold amB
 rw [← e]
 generalize Lib.indexByte s.data.toList c.toNat.toUInt8 = i at *
 clear e
 have gam_c113 := asa
 exact wlkF
theorem am2 (c a b : Int) (x y : UInt8) (h : (x.toNat : Int) = a) (h2 : (y.toNat : Int) = b) : amB c ⟨#[x, y]⟩ = decide (c = a ∨ c = b) := by simp [amB, h, h2]
theorem am3 (c a b d : Int) (x y z : UInt8) (h : (x.toNat : Int) = a) (h2 : (y.toNat : Int) = b) (h3 : (z.toNat : Int) = d) : amB c ⟨#[x, y, z]⟩ = decide (c = a ∨ c = b ∨ c = d) := by simp [amB, h, h2, h3]
theorem am4 (c a b d e : Int) (x y z u : UInt8) (h : (x.toNat : Int) = a) (h2 : (y.toNat : Int) = b) (h3 : (z.toNat : Int) = d) (h4 : (u.toNat : Int) = e) : amB c ⟨#[x, y, z, u]⟩ = decide (c = a ∨ c = b ∨ c = d ∨ c = e) := by simp [amB, h, h2, h3, h4]
noncomputable def uL : Fun := F1 dU fun c => open Classical in if 0 ≤ c ∧ c ≤ 255 then some (iv (aa4 c)) else none
theorem afU {c : Int} (h : 0 ≤ c ∧ c ≤ 255) : uL [.val (.int .u8 c)] = some (.val (.int .i64 (aa4 c))) := (jM (A := dU) c).trans (if_pos h)
noncomputable def sS : Fun := F2 dU dU fun a b => open Classical in if (0 ≤ a ∧ a ≤ 255) ∧ 0 ≤ b ∧ b ≤ 255 then some (iv (ow a b)) else none
theorem afP {a b : Int} (h : 0 ≤ a ∧ a ≤ 255) (h2 : 0 ≤ b ∧ b ≤ 255) : sS [.val (.int .u8 a), .val (.int .u8 b)] = some (.val (.int .i64 (ow a b))) := (kX (A := dU) (B := dU) a b).trans (if_pos ⟨h, h2⟩)
noncomputable def ug : Fun := F2 dU dU fun a b => open Classical in if (0 ≤ a ∧ a ≤ 255) ∧ 0 ≤ b ∧ b ≤ 255 then some (bv (qh a b)) else none
theorem afz {a b : Int} (h : 0 ≤ a ∧ a ≤ 255) (h2 : 0 ≤ b ∧ b ≤ 255) : ug [.val (.int .u8 a), .val (.int .u8 b)] = some (.val (.bool (qh a b))) := (kX (A := dU) (B := dU) a b).trans (if_pos ⟨h, h2⟩)
noncomputable def GLw : Ctx := { fn := fun f => if f = 93 then some jr else if f = 97 then some φAm else none, io := fun f => none }
theorem au3 : aA Tryz.prog GLw := ⟨(fun f φ h => by
 unfold GLw at h
 dsimp only at h
 split at h
 ·rename_i hf; cases h; subst hf; exact ⟨⟨_, Tryz.func93, rfl, rfl⟩, ql⟩
 split at h
 ·rename_i hf; cases h; subst hf; exact ⟨⟨_, Tryz.func97, rfl, rfl⟩, ac7⟩
 cases h), (fun f φ h => by
 unfold GLw at h
 dsimp only at h
 cases h), rfl⟩
theorem ayE (ob : aF) (ps : List PV) : ah GLw ob 93 ps = (ps.mapM (reify false 0 ob fuel)).bind jr := by
 have h : GLw.fn 93 = some jr := by simp [GLw]
 unfold ah
 rw [h]
 cases ps.mapM (reify false 0 ob fuel) <;> rfl
theorem awr (ob : aF) (ps : List PV) : ah GLw ob 97 ps = (ps.mapM (reify false 0 ob fuel)).bind φAm := by
 have h : GLw.fn 97 = some φAm := by simp [GLw]
 unfold ah
 rw [h]
 cases ps.mapM (reify false 0 ob fuel) <;> rfl
theorem ach : Sound Tryz.prog 71 uL := by
 refine ay mixed au3 Tryz.func71 rfl 16 rfl [.tmp 2] rfl (by kernel_rfl) fun ps r hr => ?_
 obtain ⟨c, rfl, hq⟩ := bY hr
 clear hr
 split at hq
 case isFalse => cases hq
 case isTrue hpre =>
 cases hq
 refine ⟨by simp, ?_⟩
 simp only [dIs, dUs, dSs, eX, fq, eT, fE, bS, fA, bO, bP, bR, bQ]
 have ap1 := qK c
 have ap2 := (nZ ⟨#[105, 106, 108]⟩ hpre).trans (by rw [am3 c 105 106 108 _ _ _ rfl rfl rfl])
 have ap3 := (nZ ⟨#[102, 114, 116]⟩ hpre).trans (by rw [am3 c 102 114 116 _ _ _ rfl rfl rfl])
 have ap4 := (nZ ⟨#[109, 119]⟩ hpre).trans (by rw [am2 c 109 119 _ _ rfl rfl])
 have glw_c93 := ayE; have glw_c97 := awr
 (repeat' (first | (with_reducible first | apply bF | apply av | apply aO | apply aJ | apply bC | apply dY | apply bA | apply bH | apply d9 | apply bE | apply bJ | apply dX | apply bI | apply bG | apply bD) | ((with_reducible apply au); (simp only [List.map_cons, List.map_nil] <;> exact rfl)) | ((with_reducible apply aI); (simp only [List.map_cons, List.map_nil] <;> exact rfl); decide +kernel) | ((with_reducible apply bB); rfl) | ((first | ((with_reducible apply i_V); rfl; rfl; rfl) | ((first | ((with_reducible apply i_E); rfl) | ((with_reducible apply i_S); rfl)); first | rfl | (simp only [push_cast, ↓reduceIte])) | ((with_reducible apply dW); rfl; rfl) | ((with_reducible apply dZ); rfl; rfl; rfl) | (with_reducible first | apply dV | apply aL)); (simp (disch := (first | omega | (simp only [push_cast]; first | done | omega))) only [push_cast, ↓reduceIte, Nat.reduceEqDiff, Nat.reduceBEq, Nat.reduceAdd, Nat.reduceSub, Int.reduceToNat, *] <;> with_reducible exact rfl); all_goals try (first | (with_reducible first | refine hyT ?_ | refine hyF ?_ | exact hyA | exact hyB) | (intro hX; first | (cases hX; done) | ((try simp only [decide_eq_true_eq, decide_eq_false_iff_not, Bool.not_eq_true', Bool.not_eq_false'] at hX); (try have hXb := aj.1 hX))))))); all_goals try (exfalso; omega)
 all_goals ((first | apply dw | apply bK); simp (disch := (first | omega | (simp only [push_cast]; first | done | omega))) only [push_cast, ↓reduceIte, Nat.reduceEqDiff, Nat.reduceBEq, Nat.reduceAdd, Nat.reduceSub, Int.reduceToNat, *])
 all_goals ((refine congrArg (fun z => some (PV.val (Value.int IntKind.i64 z))) ?_); unfold aa4; repeat' split)
 all_goals (first | omega | (simp [inB] at *; omega))
noncomputable def GNb : Ctx := { fn := fun f => if f = 97 then some φAm else none, io := fun f => none }
theorem anW : aA Tryz.prog GNb := ⟨(fun f φ h => by
 unfold GNb at h
 dsimp only at h
 split at h
 ·rename_i hf; cases h; subst hf; exact ⟨⟨_, Tryz.func97, rfl, rfl⟩, ac7⟩
 cases h), (fun f φ h => by
 unfold GNb at h
 dsimp only at h
 cases h), rfl⟩
theorem anZ (ob : aF) (ps : List PV) : ah GNb ob 97 ps = (ps.mapM (reify false 0 ob fuel)).bind φAm := by
 have h : GNb.fn 97 = some φAm := by simp [GNb]
 unfold ah
 rw [h]
 cases ps.mapM (reify false 0 ob fuel) <;> rfl
theorem abr : Sound Tryz.prog 72 sS := by
 refine ay mixed anW Tryz.func72 rfl 19 rfl [.tmp 4] rfl (by kernel_rfl) fun ps r hr => ?_
 obtain ⟨a, b, rfl, hq⟩ := dA hr
 clear hr
 split at hq
 case isFalse => cases hq
 case isTrue hpre =>
 cases hq
 refine ⟨by simp, ?_⟩
 simp only [dIs, dUs, dSs, eX, fq, eT, fE, bS, fA, bO, bP, bR, bQ]
 have ap1 := (nZ ⟨#[118, 119, 121]⟩ hpre.1).trans (by rw [am3 a 118 119 121 _ _ _ rfl rfl rfl])
 have ap2 := (nZ ⟨#[97, 101, 111]⟩ hpre.2).trans (by rw [am3 b 97 101 111 _ _ _ rfl rfl rfl])
 have ap3 := (nZ ⟨#[110, 109]⟩ hpre.2).trans (by rw [am2 b 110 109 _ _ rfl rfl])
 have gnb_c97 := anZ
 (repeat' (first | (with_reducible first | apply bF | apply av | apply aO | apply aJ | apply bC | apply dY | apply bA | apply bH | apply d9 | apply bE | apply bJ | apply dX | apply bI | apply bG | apply bD) | ((with_reducible apply au); (simp only [List.map_cons, List.map_nil] <;> exact rfl)) | ((with_reducible apply aI); (simp only [List.map_cons, List.map_nil] <;> exact rfl); decide +kernel) | ((with_reducible apply bB); rfl) | ((first | ((with_reducible apply i_V); rfl; rfl; rfl) | ((first | ((with_reducible apply i_E); rfl) | ((with_reducible apply i_S); rfl)); first | rfl | (simp only [push_cast, ↓reduceIte])) | ((with_reducible apply dW); rfl; rfl) | ((with_reducible apply dZ); rfl; rfl; rfl) | (with_reducible first | apply dV | apply aL)); (simp (disch := (first | omega | (simp only [push_cast]; first | done | omega))) only [push_cast, ↓reduceIte, Nat.reduceEqDiff, Nat.reduceBEq, Nat.reduceAdd, Nat.reduceSub, Int.reduceToNat, *] <;> with_reducible exact rfl); all_goals try (first | (with_reducible first | refine hyT ?_ | refine hyF ?_ | exact hyA | exact hyB) | (intro hX; first | (cases hX; done) | ((try simp only [decide_eq_true_eq, decide_eq_false_iff_not, Bool.not_eq_true', Bool.not_eq_false'] at hX); (try have hXb := aj.1 hX))))))); all_goals try (exfalso; omega)
 all_goals ((first | apply dw | apply bK); simp (disch := (first | omega | (simp only [push_cast]; first | done | omega))) only [push_cast, ↓reduceIte, Nat.reduceEqDiff, Nat.reduceBEq, Nat.reduceAdd, Nat.reduceSub, Int.reduceToNat, *])
 all_goals ((refine congrArg (fun z => some (PV.val (Value.int IntKind.i64 z))) ?_); unfold ow; repeat' split)
 all_goals omega
theorem zo : Sound Tryz.prog 96 ug := by
 refine ay mixed anW Tryz.func96 rfl 11 rfl [.tmp 4] rfl (by kernel_rfl) fun ps r hr => ?_
 obtain ⟨a, b, rfl, hq⟩ := dA hr
 clear hr
 split at hq
 case isFalse => cases hq
 case isTrue hpre =>
 cases hq
 refine ⟨by simp, ?_⟩
 simp only [dIs, dUs, dSs, eX, fq, eT, fE, bS, fA, bO, bP, bR, bQ]
 have ap1 := (nZ ⟨#[105, 106, 108, 102]⟩ hpre.2).trans (by rw [am4 b 105 106 108 102 _ _ _ _ rfl rfl rfl rfl])
 have gnb_c97 := anZ
 (repeat' (first | (with_reducible first | apply bF | apply av | apply aO | apply aJ | apply bC | apply dY | apply bA | apply bH | apply d9 | apply bE | apply bJ | apply dX | apply bI | apply bG | apply bD) | ((with_reducible apply au); (simp only [List.map_cons, List.map_nil] <;> exact rfl)) | ((with_reducible apply aI); (simp only [List.map_cons, List.map_nil] <;> exact rfl); decide +kernel) | ((with_reducible apply bB); rfl) | ((first | ((with_reducible apply i_V); rfl; rfl; rfl) | ((first | ((with_reducible apply i_E); rfl) | ((with_reducible apply i_S); rfl)); first | rfl | (simp only [push_cast, ↓reduceIte])) | ((with_reducible apply dW); rfl; rfl) | ((with_reducible apply dZ); rfl; rfl; rfl) | (with_reducible first | apply dV | apply aL)); (simp (disch := (first | omega | (simp only [push_cast]; first | done | omega))) only [push_cast, ↓reduceIte, Nat.reduceEqDiff, Nat.reduceBEq, Nat.reduceAdd, Nat.reduceSub, Int.reduceToNat, *] <;> with_reducible exact rfl); all_goals try (first | (with_reducible first | refine hyT ?_ | refine hyF ?_ | exact hyA | exact hyB) | (intro hX; first | (cases hX; done) | ((try simp only [decide_eq_true_eq, decide_eq_false_iff_not, Bool.not_eq_true', Bool.not_eq_false'] at hX); (try have hXb := aj.1 hX))))))); all_goals try (exfalso; omega)
 all_goals ((first | apply dw | apply bK); simp (disch := (first | omega | (simp only [push_cast]; first | done | omega))) only [push_cast, ↓reduceIte, Nat.reduceEqDiff, Nat.reduceBEq, Nat.reduceAdd, Nat.reduceSub, Int.reduceToNat, *])
 all_goals ((refine congrArg (fun z => some (PV.val (Value.bool z))) ?_); unfold qh; first | (simp; omega) | simp_all)
end Go.Proofs.YtngcedklbinhjaaGreatDoor
namespace Go.Proofs.YtngcedklbinhjaaGreatDoor
open Go.RowKit
set_option linter.all false
abbrev sgN (s : ByteArray) (i : Nat) : Nat := if i + 1 < s.size ∧ qh (at8 s i) (at8 s (i + 1)) = true then 2 else 1
def sgF (s : ByteArray) : Nat → Nat → LS
 | 0, _ => []
 | f + 1, i => if i < s.size then s.extract i (i + sgN s i) :: sgF s f (i + sgN s i) else []
def signs (s : ByteArray) : LS := sgF s s.size 0
theorem rZ {s : ByteArray} {f i : Nat} (h : i < s.size) : sgF s (f + 1) i = s.extract i (i + sgN s i) :: sgF s f (i + sgN s i) := by
 rw [sgF, if_pos h]
theorem abO {s : ByteArray} {f i : Nat} (h : s.size ≤ i) : sgF s f i = [] := by
 cases f with
 | zero => rfl
 | succ f => rw [sgF, if_neg (by omega)]
theorem aqK (s : ByteArray) (i : Nat) : 1 ≤ sgN s i ∧ sgN s i ≤ 2 ∧ (i < s.size → i + sgN s i ≤ s.size) := by
 unfold sgN
 split <;> omega
theorem agW {s : ByteArray} {a b j : Nat} (h : j < b - a) (hb : b ≤ s.size) : at8 (s.extract a b) j = at8 s (a + j) := by
 unfold at8
 have h1 : j < (s.extract a b).size := by rw [ByteArray.size_extract]; omega
 rw [getElem?_pos (s.extract a b) j h1, getElem?_pos s (a + j) (by omega)]
 rw [ByteArray.getElem_extract]
def atq (x : ByteArray) : Prop := 1 ≤ x.size ∧ x.size ≤ 2 ∧ ∀ j, j < x.size → 97 ≤ at8 x j ∧ at8 x j ≤ 122
theorem an3 {s : ByteArray} (h : ∀ j, j < s.size → 97 ≤ at8 s j ∧ at8 s j ≤ 122) : ∀ (f i : Nat), (∀ x ∈ sgF s f i, atq x) ∧ (sgF s f i).length ≤ s.size - i
 | 0, i => ⟨by simp [sgF], by simp [sgF]⟩
 | f + 1, i => by
  by_cases hi : i < s.size
  ·obtain ⟨h1, h2, h3⟩ := aqK s i
   obtain ⟨i1, i2⟩ := an3 h f (i + sgN s i)
   rw [rZ hi]
   refine ⟨fun x hx => ?_, by rw [List.length_cons]; have := h3 hi; omega⟩
   rcases List.mem_cons.1 hx with rfl | hx
   ·have hsz : (s.extract i (i + sgN s i)).size = sgN s i := by rw [ByteArray.size_extract]; have := h3 hi; omega
    refine ⟨by omega, by omega, fun j hj => ?_⟩
    have h4 := h3 hi
    rw [agW (by omega) (by omega)]
    exact h _ (by omega)
   ·exact i1 x hx
  ·rw [abO (by omega)]
   exact ⟨by simp, by simp⟩
theorem aW {s : ByteArray} (h : eB s = true) : (∀ j, j < s.size → 97 ≤ at8 s j ∧ at8 s j ≤ 122) ∧ 1 ≤ s.size ∧ s.size ≤ 20 := by
 unfold eB at h
 rw [Bool.and_eq_true, List.all_eq_true] at h
 refine ⟨fun j hj => aj.1 (h.1 j (List.mem_range.2 hj)), ?_⟩
 have := aj.1 h.2
 omega
theorem oF {s : ByteArray} (h : eB s = true) : (∀ x ∈ signs s, atq x) ∧ 1 ≤ (signs s).length ∧ (signs s).length ≤ 20 := by
 obtain ⟨h1, h2, h3⟩ := aW h
 obtain ⟨i1, i2⟩ := an3 h1 s.size 0
 refine ⟨i1, ?_, by unfold signs; omega⟩
 unfold signs
 obtain ⟨n, hn⟩ : ∃ n, s.size = n + 1 := ⟨s.size - 1, by omega⟩
 rw [hn, rZ (by omega), List.length_cons]
 omega
theorem wX {s : ByteArray} (h : eB s = true) {k : Nat} (hk : k < (signs s).length) : atq ((signs s)[k]?.getD .empty) := by
 rw [List.getElem?_eq_getElem hk, Option.getD_some]
 exact (oF h).1 _ (List.getElem_mem hk)
def sgW (x : ByteArray) : Nat → Int
 | 0 => 0
 | j + 1 => sgW x j + aa4 (at8 x j)
def yt (g : LS) (k : Nat) : Int := if k + 1 < g.length then ow (at8 (g[k]?.getD .empty) ((g[k]?.getD .empty).size - 1)) (at8 (g[k + 1]?.getD .empty) 0) else 0
def wdK (g : LS) : Nat → Int
 | 0 => 0
 | k + 1 => wdK g k + sgW (g[k]?.getD .empty) (g[k]?.getD .empty).size - ((g[k]?.getD .empty).size - 1) - yt g k
def nR (s : ByteArray) : Int := if eB s = true then wdK (signs s) (signs s).length else -1
theorem abV {x : ByteArray} (h : atq x) : ∀ j, j ≤ x.size → 3 * (j : Int) ≤ sgW x j ∧ sgW x j ≤ 8 * j
 | 0, _ => ⟨by simp [sgW], by simp [sgW]⟩
 | j + 1, hj => by
  have ih := abV h j (by omega)
  have h1 := yJ (at8 x j)
  have h2 := h.2.2 j (by omega)
  have h3 : 3 ≤ aa4 (at8 x j) := by
   unfold aa4
   rw [if_neg (by omega)]
   repeat' split
   all_goals omega
  unfold sgW
  push_cast
  omega
theorem adp {x : ByteArray} (h : atq x) : ∀ j, j ≤ x.size → 0 ≤ sgW x j ∧ sgW x j ≤ 16 := fun j hj => by
 have := abV h j hj
 have := h.2.1
 omega
theorem yO {g : LS} (h : ∀ k, k < g.length → atq (g[k]?.getD .empty)) : ∀ k, k ≤ g.length → 0 ≤ wdK g k ∧ wdK g k ≤ 16 * k
 | 0, _ => ⟨by simp [wdK], by simp [wdK]⟩
 | k + 1, hk => by
  have ih := yO h k (by omega)
  have h1 := h k (by omega)
  have h2 := abV h1 _ (Nat.le_refl _)
  have h3 := h1.1
  have h4 := h1.2.1
  have h5 : 0 ≤ yt g k ∧ yt g k ≤ 1 := by
   unfold yt
   split
   ·exact tT _ _
   ·omega
  unfold wdK
  generalize yt g k = m at *
  generalize sgW (g[k]?.getD .empty) (g[k]?.getD .empty).size = z at *
  generalize (g[k]?.getD ByteArray.empty).size = y at *
  push_cast
  omega
theorem ah9 {s : ByteArray} (h : eB s = true) : 0 ≤ nR s ∧ nR s ≤ 320 := by
 have h1 := yO (fun k hk => wX h hk) _ (Nat.le_refl _)
 have h2 := (oF h).2.2
 unfold nR
 rw [if_pos h]
 omega
end Go.Proofs.YtngcedklbinhjaaGreatDoor
