/- Ranges, frames, rows of cells: plain lemmas, no program in sight. -/
import Derived.WalkKit
import Derived.WalkSpells
import Derived.WalkLawsBesides
import Derived.Deep.QuietTactic
import Derived.BigQuiet
import Derived.Deep.RegionWith
import Derived.Deep.DeepCutAuto
import Derived.Deep.RegionHeld3
import Derived.Lib.Hide
namespace Go.Proofs.YtenldjifipnjpaaDoor
open Go.RowKit
set_option linter.unusedVariables false

def inB (n a b : Int) : Bool := decide (a ≤ n) && decide (n ≤ b)
theorem inB_iff {n a b : Int} : inB n a b = true ↔ a ≤ n ∧ n ≤ b := by simp [inB]
theorem inB_no {n a b : Int} : inB n a b = false ↔ n < a ∨ b < n := by
  simp only [inB, Bool.and_eq_false_iff, decide_eq_false_iff_not]; omega

theorem ret_int {k : IntKind} {a b : Int} (h : a = b) : Ending.returned (.int k a) = .returned (.int k b) := by rw [h]
theorem ret_bool {a b : Bool} (h : a = b) : Ending.returned (.bool a) = .returned (.bool b) := by rw [h]

/-- For the walk: a block that was made some blocks ago is below the heap's size. -/
theorem lts : (∀ n : Nat, n < n + 1 + 1) ∧ (∀ n : Nat, n < n + 1 + 1 + 1) ∧ (∀ n : Nat, n < n + 1 + 1 + 1 + 1) ∧ (∀ n : Nat, n < n + 1 + 1 + 1 + 1 + 1) := ⟨fun _ => by omega, fun _ => by omega, fun _ => by omega, fun _ => by omega⟩

theorem nes : (∀ n : Nat, ¬ n + 1 + 1 = n) ∧ (∀ n : Nat, ¬ n + 1 + 1 + 1 = n) ∧ (∀ n : Nat, ¬ n + 1 + 1 + 1 + 1 = n) := ⟨fun _ => by omega, fun _ => by omega, fun _ => by omega⟩
/-- What a call that only makes memory leaves of the old. -/
theorem bcell {W w1 : World} (hb : Below W.heap.size W w1) : (∀ b o, b < W.heap.size → w1.cell? ⟨b, o, none⟩ = W.cell? ⟨b, o, none⟩) ∧ (∀ b o, b < W.heap.size → w1.frozen? ⟨b, o, none⟩ = W.frozen? ⟨b, o, none⟩) ∧ (∀ b, b < W.heap.size → b < w1.heap.size) :=
  ⟨fun b o h => hb.cell (p := ⟨b, o, none⟩) h, fun b o h => hb.frozen (p := ⟨b, o, none⟩) h, fun _ h => Nat.lt_of_lt_of_le h hb.size⟩

/-- .. of a call that also writes to block r. -/
theorem gcell {W w1 : World} {r : Nat} (hg : W.grownBy w1 (some r)) : (∀ b o, b < W.heap.size → b ≠ r → w1.cell? ⟨b, o, none⟩ = W.cell? ⟨b, o, none⟩) ∧ (∀ b o, b < W.heap.size → b ≠ r → w1.frozen? ⟨b, o, none⟩ = W.frozen? ⟨b, o, none⟩) ∧ (∀ b, b < W.heap.size → b < w1.heap.size) :=
  ⟨fun b o h hr => World.cell?_of_block (a := ⟨b, o, none⟩) (hg.block b h (by simpa using hr)), fun b o h hr => World.frozen?_of_block (a := ⟨b, o, none⟩) (hg.block b h (by simpa using hr)), fun _ h => Nat.lt_of_lt_of_le h hg.size⟩

theorem grown_refl (w : World) (r : Option Nat) : w.grownBy w r := ⟨rfl, rfl, rfl, Nat.le_refl _, fun _ _ _ => rfl⟩
theorem grown_trans {a b c : World} {r : Option Nat} (h : a.grownBy b r) (k : b.grownBy c r) : a.grownBy c r :=
  ⟨k.os.trans h.os, k.tape.trans h.tape, k.output.trans h.output, Nat.le_trans h.size k.size, fun i hi hr => (k.block i (Nat.lt_of_lt_of_le hi h.size) hr).trans (h.block i hi hr)⟩
theorem grown_drew {a w : World} {r : Option Nat} (h : a.grownBy w r) : a.grownBy w.drew r := ⟨h.os, h.tape, h.output, h.size, h.block⟩
theorem grown_alloc {a w : World} {r : Option Nat} (h : a.grownBy w r) (o : Obj) : a.grownBy (w.alloc o) r :=
  grown_trans h (World.grownBy_alloc w o r)
theorem grown_setCell {a w : World} {r : Option Nat} (h : a.grownBy w r) {p : Addr} (hp : a.heap.size ≤ p.block ∨ r = some p.block) (u : Value) : a.grownBy (w.setCell p u) r :=
  ⟨h.os, h.tape, h.output, by simpa [World.setCell] using h.size, fun k hk hr => by
    rw [Below.heap_setCell _ _ _ _ (fun e => by
      rcases hp with hp | hp
      · omega
      · exact hr (by rw [hp, e]))]
    exact h.block k hk hr⟩
theorem grown_setCellN {a w : World} {r : Option Nat} (h : a.grownBy w r) {p : Addr} (hp : a.heap.size ≤ p.block) (u : Value) : a.grownBy (w.setCell p u) r := grown_setCell h (Or.inl hp) u
theorem grown_drewN {a w : World} {r : Option Nat} (h : a.grownBy w r) (q : Nat) : a.grownBy (w.drewN q) r := ⟨h.os, h.tape, h.output, h.size, h.block⟩
theorem below_drewN {B : Nat} {a w : World} (h : Below B a w) (q : Nat) : Below B a (w.drewN q) := ⟨h.os, h.tape, h.output, h.size, h.block⟩
theorem grown_below {a w w' : World} {r : Option Nat} (h : a.grownBy w r) (hb : Below w.heap.size w w') : a.grownBy w' r :=
  ⟨hb.os.trans h.os, hb.tape.trans h.tape, hb.output.trans h.output, Nat.le_trans h.size hb.size, fun k hk hr => (hb.block k (Nat.lt_of_lt_of_le hk h.size)).trans (h.block k hk hr)⟩
/-- Writes to one block of the call's own are no writes to what was there. -/
theorem below_grown {a w w' : World} {r : Nat} (h : Below a.heap.size a w) (hg : w.grownBy w' (some r)) (hr : a.heap.size ≤ r) : Below a.heap.size a w' :=
  ⟨hg.os.trans h.os, hg.tape.trans h.tape, hg.output.trans h.output, Nat.le_trans h.size hg.size, fun k hk => (hg.block k (Nat.lt_of_lt_of_le hk h.size) (by simp; omega)).trans (h.block k hk)⟩
theorem below_trans {a w w' : World} (h : Below a.heap.size a w) (k : Below w.heap.size w w') : Below a.heap.size a w' :=
  h.trans (k.mono h.size)
theorem below_alloc {a w : World} {o : Obj} (h : Below a.heap.size a w) : Below a.heap.size a (w.alloc o) := h.alloc h.size o
theorem below_alloc_trans {a w w' : World} {o : Obj} (h : Below a.heap.size a w) (k : Below (w.alloc o).heap.size (w.alloc o) w') : Below a.heap.size a w' :=
  below_trans (h.alloc h.size o) k
theorem grown_same {a w w' : World} {r : Nat} (h : a.grownBy w (some r)) (k : w.grownBy w' (some r)) : a.grownBy w' (some r) := grown_trans h k

theorem grown_alloc_trans {a w w' : World} {o : Obj} {r : Option Nat} (h : a.grownBy w r) (k : (w.alloc o).grownBy w' r) : a.grownBy w' r :=
  grown_trans (grown_alloc h o) k
/-- An element of a short list of numbers that lies in a block. -/
theorem idx_int (l : List Int) {k : Int} (h0 : 0 ≤ k) (h1 : k < l.length) : ∃ x, x ∈ l ∧ ((l.map (Value.int .i64)).toArray)[k.toNat]? = some (.int .i64 x) := by
  obtain ⟨n, rfl⟩ := Int.eq_ofNat_of_zero_le h0
  have hn : n < l.length := by omega
  exact ⟨l[n], List.getElem_mem _, by simp [hn]⟩

/-- A block of the call's own, known whole. -/
def OwnC (w : World) (b : Nat) (cs : Array Value) (T : Nat) : Prop := w.heap[b]? = some (.cells cs T (0, 0))
theorem OwnC.facts {w : World} {b : Nat} {cs : Array Value} {T : Nat} (h : OwnC w b cs T) : (∀ j, w.cell? ⟨b, j, none⟩ = cs[j]?) ∧ (∀ j, w.frozen? ⟨b, j, none⟩ = false) ∧ b < w.heap.size := by
  unfold OwnC at h
  exact ⟨fun j => by simp [World.cell?, h], fun j => by simp [World.frozen?, h], (Array.getElem?_eq_some_iff.1 h).1⟩
theorem OwnC.lt {w : World} {b : Nat} {cs : Array Value} {T : Nat} (h : OwnC w b cs T) : b < w.heap.size := h.facts.2.2
theorem OwnC.new (w : World) (cs : Array Value) (T : Nat) : OwnC (w.alloc (.cells cs T)) w.heap.size cs T := heap_alloc_new w _
theorem OwnC.new1 (w : World) (o : Obj) (cs : Array Value) (T : Nat) : OwnC ((w.alloc o).alloc (.cells cs T)) (w.heap.size + 1) cs T := by
  have := OwnC.new (w.alloc o) cs T; rwa [World.size_alloc] at this
theorem OwnC.new2 (w : World) (o o' : Obj) (cs : Array Value) (T : Nat) : OwnC (((w.alloc o).alloc o').alloc (.cells cs T)) (w.heap.size + 1 + 1) cs T := by
  have := OwnC.new1 (w.alloc o) o' cs T; rwa [World.size_alloc] at this
theorem OwnC.new3 (w : World) (o o' o'' : Obj) (cs : Array Value) (T : Nat) : OwnC ((((w.alloc o).alloc o').alloc o'').alloc (.cells cs T)) (w.heap.size + 1 + 1 + 1) cs T := by
  have := OwnC.new2 (w.alloc o) o' o'' cs T; rwa [World.size_alloc] at this
theorem OwnC.grown {w w' : World} {b : Nat} {cs : Array Value} {T : Nat} (h : OwnC w b cs T) {r : Option Nat} (hg : w.grownBy w' r) (hr : some b ≠ r) : OwnC w' b cs T := by
  unfold OwnC; rw [hg.block b h.lt hr]; exact h
theorem OwnC.grownR {w w' : World} {b : Nat} {cs : Array Value} {T : Nat} (h : OwnC w b cs T) {r : Nat} (hg : w.grownBy w' (some r)) (hr : r < b) : OwnC w' b cs T :=
  h.grown hg (by simp; omega)
theorem OwnC.below {w w' : World} {b : Nat} {cs : Array Value} {T : Nat} (h : OwnC w b cs T) (hb : Below w.heap.size w w') : OwnC w' b cs T := by
  unfold OwnC; rw [hb.block b h.lt]; exact h
theorem OwnC.alloc {w : World} {b : Nat} {cs : Array Value} {T : Nat} (h : OwnC w b cs T) (o : Obj) : OwnC (w.alloc o) b cs T :=
  h.below ((Below.refl _ _).alloc (Nat.le_refl _) o)
theorem OwnC.drew {w : World} {b : Nat} {cs : Array Value} {T : Nat} (h : OwnC w b cs T) : OwnC w.drew b cs T := h
theorem OwnC.drewN {w : World} {b : Nat} {cs : Array Value} {T : Nat} (h : OwnC w b cs T) (n : Nat) : OwnC (w.drewN n) b cs T := h
theorem OwnC.other {w : World} {b : Nat} {cs : Array Value} {T : Nat} (h : OwnC w b cs T) {a : Addr} (ha : b ≠ a.block) (u : Value) : OwnC (w.setCell a u) b cs T := by
  unfold OwnC; rw [Below.heap_setCell _ _ _ _ ha]; exact h
theorem OwnC.set {w : World} {b : Nat} {cs : Array Value} {T : Nat} (h : OwnC w b cs T) (j : Nat) (u : Value) : OwnC (w.setCell ⟨b, j, none⟩ u) b (cs.setIfInBounds j u) T := by
  unfold OwnC at *; simp [World.setCell, Array.getElem?_modify, h]

theorem OwnC.set4 {w : World} {b : Nat} {x0 x1 x2 x3 : Value} {T : Nat} (h : OwnC w b #[x0, x1, x2, x3] T) (y0 y1 y2 y3 : Value) :
    OwnC ((((w.setCell ⟨b, 0, none⟩ y0).setCell ⟨b, 1, none⟩ y1).setCell ⟨b, 2, none⟩ y2).setCell ⟨b, 3, none⟩ y3) b #[y0, y1, y2, y3] T := by
  have := ((((h.set 0 y0).set 1 y1).set 2 y2).set 3 y3)
  simpa using this
theorem OwnC.set3 {w : World} {b : Nat} {x0 x1 x2 : Value} {T : Nat} (h : OwnC w b #[x0, x1, x2] T) (y0 y1 y2 : Value) :
    OwnC (((w.setCell ⟨b, 0, none⟩ y0).setCell ⟨b, 1, none⟩ y1).setCell ⟨b, 2, none⟩ y2) b #[y0, y1, y2] T := by
  have := (((h.set 0 y0).set 1 y1).set 2 y2)
  simpa using this
theorem OwnC.set2 {w : World} {b : Nat} {x0 x1 : Value} {T : Nat} (h : OwnC w b #[x0, x1] T) (y0 y1 : Value) :
    OwnC ((w.setCell ⟨b, 0, none⟩ y0).setCell ⟨b, 1, none⟩ y1) b #[y0, y1] T := by
  have := ((h.set 0 y0).set 1 y1)
  simpa using this

theorem OwnC.keep44 {w : World} {b b' T T' : Nat} {x0 x1 x2 x3 y0 y1 y2 y3 : Value} (h : OwnC w b #[x0, x1, x2, x3] T) (k : OwnC w b' #[y0, y1, y2, y3] T') :
    w.cell? ⟨b, 0, none⟩ = some x0 ∧ w.cell? ⟨b, 1, none⟩ = some x1 ∧ w.cell? ⟨b, 2, none⟩ = some x2 ∧ w.cell? ⟨b, 3, none⟩ = some x3 ∧
    w.cell? ⟨b', 0, none⟩ = some y0 ∧ w.cell? ⟨b', 1, none⟩ = some y1 ∧ w.cell? ⟨b', 2, none⟩ = some y2 ∧ w.cell? ⟨b', 3, none⟩ = some y3 :=
  ⟨h.facts.1 0, h.facts.1 1, h.facts.1 2, h.facts.1 3, k.facts.1 0, k.facts.1 1, k.facts.1 2, k.facts.1 3⟩

/-- A slice value v of n elements of k cells each, that reads as the cells cs. -/
def Sl (w : World) (k : Nat) (v : Value) (n : Nat) (cs : List Value) : Prop :=
  ∃ a cap b off, v = .slice a n cap ∧ cs.length = n * k ∧ n ≤ cap ∧ cap ≤ maxLen ∧ (0 < n → a = some ⟨b, off, none⟩) ∧ ∀ i, i < n * k → w.cell? ⟨b, off + i, none⟩ = cs[i]?

theorem Sl.below {w w' : World} {k : Nat} {v : Value} {n : Nat} {cs : List Value} (h : Sl w k v n cs) (hb : Below w.heap.size w w') : Sl w' k v n cs := by
  obtain ⟨a, cap, b, off, h1, h2, h3, h4, h5, h6⟩ := h
  refine ⟨a, cap, b, off, h1, h2, h3, h4, h5, fun i hi => ?_⟩
  have hc := h6 i hi
  have hs : cs[i]? = some (cs[i]'(by omega)) := List.getElem?_eq_getElem _
  rw [hs] at hc ⊢
  rw [hb.cell (p := ⟨b, off + i, none⟩) (World.block_lt_of_cell? w _ hc)]
  exact hc

theorem Sl.grown {w w' : World} {k : Nat} {v : Value} {n : Nat} {cs : List Value} {r : Option Nat} (h : Sl w k v n cs) (hb : w.grownBy w' r) (hne : 0 < n → v.ownBlock ≠ r) : Sl w' k v n cs := by
  obtain ⟨a, cap, b, off, h1, h2, h3, h4, h5, h6⟩ := h
  refine ⟨a, cap, b, off, h1, h2, h3, h4, h5, fun i hi => ?_⟩
  have hc := h6 i hi
  have hn : 0 < n := by
    rcases Nat.eq_zero_or_pos n with h0 | h0
    · simp [h0] at hi
    · exact h0
  have hs : cs[i]? = some (cs[i]'(by omega)) := List.getElem?_eq_getElem _
  rw [hs] at hc ⊢
  refine hb.cell hc ?_
  have := hne hn
  rw [h1, h5 hn] at this
  simpa [Value.ownBlock] using this

end Go.Proofs.YtenldjifipnjpaaDoor
