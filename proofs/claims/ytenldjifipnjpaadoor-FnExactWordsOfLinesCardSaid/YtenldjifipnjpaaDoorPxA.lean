/- A reading of memory by names: values of a call's own, kept apart from memory. -/
import Derived.WalkKit
import Derived.Deep.MidRow
import Derived.Lib.ItoaNum
namespace Go.Proofs.YtenldjifipnjpaaDoor
open Go.RowKit
set_option linter.all false

/-- What a slot holds, said without addresses. -/
inductive PV where
  | val (v : Value)
  | dead
  | lst (k : Bool) (sz : Nat) (es : List PV)
  | ptr (k : Bool) (e : PV) (o : Nat)
  | own (o sz i f : Nat)
  | row (o sz i n : Nat)
  | agg (cs : List PV)
  | tup (vs : List PV)
  deriving Inhabited

/-- Which blocks are only read (true: new ones), where the call's own objects lie, how large they are, how many there are. -/
structure Gh where
  I : Bool → Nat → Prop
  β : Nat → Nat
  κ : Nat → Nat
  nx : Nat
  hole : Nat → Prop := fun _ => False
/-- Numbers in use: nobody speaks of a hole. -/
def Gh.D (g : Gh) (o : Nat) : Prop := o < g.nx ∧ ¬ g.hole o

def CellsAt (w : World) (b off : Nat) (u : Value) : Prop :=
  u.cells.all (·.oneCell') = true ∧ ∀ j, j < u.cells.size → w.cell? ⟨b, off + j, none⟩ = u.cells[j]?

mutual
def Rep (g : Gh) (w : World) : PV → Value → Prop
  | .val u, v => v = u
  | .dead, _ => True
  | .lst k sz es, v => ∃ a cap, v = .slice a es.length cap ∧ es.length ≤ cap ∧ cap ≤ 9223372036854775807 ∧ (es = [] ∨ ∃ b off, a = some ⟨b, off, none⟩ ∧ g.I k b ∧ RepEs g w sz es b off)
  | .ptr k e o, v => ∃ b off, v = .pointer (some ⟨b, off + o, none⟩) ∧ g.I k b ∧ ∃ u, Rep g w e u ∧ CellsAt w b off u
  | .own o sz i f, v => v = .pointer (some ⟨g.β o, i * sz + f, none⟩) ∧ g.D o
  | .row o sz i n, v => ∃ c, v = .slice (some ⟨g.β o, i * sz, none⟩) n c ∧ n ≤ c ∧ c ≤ 9223372036854775807 ∧ (i + c) * sz ≤ g.κ o ∧ g.D o
  | .agg cs, v => ∃ vs, v = .agg vs ∧ RepL g w cs vs.toList
  | .tup cs, v => ∃ vs, v = .tuple vs ∧ RepL g w cs vs.toList
def RepEs (g : Gh) (w : World) (sz : Nat) : List PV → Nat → Nat → Prop
  | [], _, _ => True
  | e :: es, b, off => (∃ u, Rep g w e u ∧ CellsAt w b off u ∧ u.cells.size = sz) ∧ RepEs g w sz es b (off + sz)
def RepL (g : Gh) (w : World) : List PV → List Value → Prop
  | [], vs => vs = []
  | c :: cs, vs => ∃ v vs', vs = v :: vs' ∧ Rep g w c v ∧ RepL g w cs vs'
end

structure Gh.le (g g' : Gh) : Prop where
  I : ∀ k b, g.I k b → g'.I k b
  D : ∀ o, g.D o → g'.D o
  β : ∀ o, g.D o → g'.β o = g.β o
  κ : ∀ o, g.D o → g'.κ o = g.κ o

theorem CellsAt.same {w w' : World} {b off : Nat} {u : Value} (h : CellsAt w b off u) (hb : w'.heap[b]? = w.heap[b]?) : CellsAt w' b off u :=
  ⟨h.1, fun j hj => by rw [World.cell?_of_block (w := w) (a := ⟨b, off + j, none⟩) hb]; exact h.2 j hj⟩

mutual
theorem Rep.mono {g g' : Gh} {w w' : World} (hg : g.le g') (hw : ∀ k b, g.I k b → w'.heap[b]? = w.heap[b]?) : ∀ (p : PV) (v : Value), Rep g w p v → Rep g' w' p v
  | .val u, v, h => by simpa [Rep] using h
  | .dead, v, h => by simp [Rep]
  | .lst k sz es, v, h => by
    simp only [Rep] at h ⊢
    obtain ⟨a, cap, h1, h2, h3, h4⟩ := h
    refine ⟨a, cap, h1, h2, h3, h4.imp id ?_⟩
    rintro ⟨b, off, h5, h6, h7⟩
    exact ⟨b, off, h5, hg.I _ _ h6, RepEs.mono hg hw sz es b off (hw _ _ h6) h7⟩
  | .ptr k e o, v, h => by
    simp only [Rep] at h ⊢
    obtain ⟨b, off, h1, h2, u, h3, h4⟩ := h
    exact ⟨b, off, h1, hg.I _ _ h2, u, Rep.mono hg hw e u h3, h4.same (hw _ _ h2)⟩
  | .own o sz i f, v, h => by
    simp only [Rep] at h ⊢
    rw [hg.β o h.2]
    exact ⟨h.1, hg.D o h.2⟩
  | .row o sz i n, v, h => by
    simp only [Rep] at h ⊢
    obtain ⟨c, h1, h2, h3, h4, h5⟩ := h
    exact ⟨c, by rw [hg.β o h5]; exact h1, h2, h3, by rw [hg.κ o h5]; exact h4, hg.D o h5⟩
  | .agg cs, v, h => by
    simp only [Rep] at h ⊢
    obtain ⟨vs, h1, h2⟩ := h
    exact ⟨vs, h1, RepL.mono hg hw cs _ h2⟩
  | .tup cs, v, h => by
    simp only [Rep] at h ⊢
    obtain ⟨vs, h1, h2⟩ := h
    exact ⟨vs, h1, RepL.mono hg hw cs _ h2⟩
theorem RepEs.mono {g g' : Gh} {w w' : World} (hg : g.le g') (hw : ∀ k b, g.I k b → w'.heap[b]? = w.heap[b]?) (sz : Nat) : ∀ (es : List PV) (b off : Nat), w'.heap[b]? = w.heap[b]? → RepEs g w sz es b off → RepEs g' w' sz es b off
  | [], b, off, hb, h => by simp [RepEs]
  | e :: es, b, off, hb, h => by
    simp only [RepEs] at h ⊢
    obtain ⟨⟨u, h1, h2, h3⟩, h4⟩ := h
    exact ⟨⟨u, Rep.mono hg hw e u h1, h2.same hb, h3⟩, RepEs.mono hg hw sz es b (off + sz) hb h4⟩
theorem RepL.mono {g g' : Gh} {w w' : World} (hg : g.le g') (hw : ∀ k b, g.I k b → w'.heap[b]? = w.heap[b]?) : ∀ (cs : List PV) (vs : List Value), RepL g w cs vs → RepL g' w' cs vs
  | [], vs, h => by simpa [RepL] using h
  | c :: cs, vs, h => by
    simp only [RepL] at h ⊢
    obtain ⟨v, vs', h1, h2, h3⟩ := h
    exact ⟨v, vs', h1, Rep.mono hg hw c v h2, RepL.mono hg hw cs vs' h3⟩
end

theorem RepEs.get {g : Gh} {w : World} {sz : Nat} : ∀ {es : List PV} {b off i : Nat} {e : PV}, RepEs g w sz es b off → es[i]? = some e → ∃ u, Rep g w e u ∧ CellsAt w b (off + i * sz) u ∧ u.cells.size = sz
  | [], b, off, i, e, h, he => by simp at he
  | x :: es, b, off, 0, e, h, he => by
    simp only [RepEs] at h
    simp only [List.getElem?_cons_zero, Option.some.injEq] at he
    subst he
    simpa using h.1
  | x :: es, b, off, i + 1, e, h, he => by
    simp only [RepEs] at h
    simp only [List.getElem?_cons_succ] at he
    obtain ⟨u, h1, h2, h3⟩ := RepEs.get h.2 he
    exact ⟨u, h1, by rw [show off + (i + 1) * sz = off + sz + i * sz by rw [Nat.add_mul]; omega]; exact h2, h3⟩
theorem RepEs.of {g : Gh} {w : World} {sz : Nat} : ∀ {es : List PV} {b off : Nat}, (∀ i e, es[i]? = some e → ∃ u, Rep g w e u ∧ CellsAt w b (off + i * sz) u ∧ u.cells.size = sz) → RepEs g w sz es b off
  | [], b, off, h => by simp [RepEs]
  | x :: es, b, off, h => by
    simp only [RepEs]
    refine ⟨by simpa using h 0 x (by simp), RepEs.of fun i e he => ?_⟩
    obtain ⟨u, h1, h2, h3⟩ := h (i + 1) e (by simpa using he)
    exact ⟨u, h1, by rw [show off + sz + i * sz = off + (i + 1) * sz by rw [Nat.add_mul]; omega]; exact h2, h3⟩
theorem RepEs.drop {g : Gh} {w : World} {sz : Nat} {es : List PV} {b off : Nat} (h : RepEs g w sz es b off) (k : Nat) : RepEs g w sz (es.drop k) b (off + k * sz) :=
  RepEs.of fun i e he => by
    obtain ⟨u, h1, h2, h3⟩ := h.get (i := k + i) (by simpa using he)
    exact ⟨u, h1, by rw [show off + k * sz + i * sz = off + (k + i) * sz by rw [Nat.add_mul]; omega]; exact h2, h3⟩
theorem RepEs.take {g : Gh} {w : World} {sz : Nat} {es : List PV} {b off : Nat} (h : RepEs g w sz es b off) (k : Nat) : RepEs g w sz (es.take k) b off :=
  RepEs.of fun i e he => h.get (by
    rw [List.getElem?_take] at he
    split at he
    · exact he
    · cases he)

theorem RepL.get {g : Gh} {w : World} : ∀ {cs : List PV} {vs : List Value}, RepL g w cs vs → vs.length = cs.length ∧ ∀ (i : Nat) c, cs[i]? = some c → ∃ v, vs[i]? = some v ∧ Rep g w c v
  | [], vs, h => by
    simp only [RepL] at h
    subst h
    simp
  | c :: cs, vs, h => by
    simp only [RepL] at h
    obtain ⟨v, vs', rfl, h1, h2⟩ := h
    have ih := h2.get
    refine ⟨by simpa using ih.1, fun i c' hc => ?_⟩
    cases i with
    | zero => simp only [List.getElem?_cons_zero, Option.some.injEq] at hc; subst hc; exact ⟨v, by simp, h1⟩
    | succ i => simpa using ih.2 i c' (by simpa using hc)
theorem RepL.of {g : Gh} {w : World} : ∀ {cs : List PV} {vs : List Value}, vs.length = cs.length → (∀ (i : Nat) c, cs[i]? = some c → ∃ v, vs[i]? = some v ∧ Rep g w c v) → RepL g w cs vs
  | [], vs, h, _ => by simpa [RepL] using h
  | c :: cs, vs, h, hi => by
    cases vs with
    | nil => simp at h
    | cons v vs' =>
      simp only [RepL]
      refine ⟨v, vs', rfl, ?_, RepL.of (by simpa using h) fun i c' hc => by simpa using hi (i + 1) c' (by simpa using hc)⟩
      obtain ⟨v', h1, h2⟩ := hi 0 c (by simp)
      simp only [List.getElem?_cons_zero, Option.some.injEq] at h1
      subst h1
      exact h2

/-- The slots, the call's own objects (type of an element, its cells, the elements), how many objects there have been. -/
structure AS where
  tm : Nat → PV
  ob : Nat → Option (Nat × Nat × List PV)
  nx : Nat

def upd {α : Type} (f : Nat → α) (d : Nat) (v : α) : Nat → α := fun t => if t = d then v else f t
theorem upd_same {α : Type} (f : Nat → α) (d : Nat) (v : α) : upd f d v d = v := by simp [upd]
theorem upd_ne {α : Type} (f : Nat → α) (d : Nat) (v : α) {t : Nat} (h : t ≠ d) : upd f d v t = f t := by simp [upd, h]
def AS.put (s : AS) (d : Option Nat) (v : PV) : AS :=
  match d with
  | some d => { s with tm := upd s.tm d v }
  | none => s

/-- From the world w0 on only new blocks, and those of io, have turned. -/
structure Fr (io : Nat → Prop) (w0 w : World) : Prop where
  os : w.os = w0.os
  tape : w.tape = w0.tape
  output : w.output = w0.output
  size : w0.heap.size ≤ w.heap.size
  block : ∀ b, b < w0.heap.size → ¬ io b → w.heap[b]? = w0.heap[b]?

theorem Fr.refl (io : Nat → Prop) (w : World) : Fr io w w := ⟨rfl, rfl, rfl, Nat.le_refl _, fun _ _ _ => rfl⟩
theorem Fr.below {io : Nat → Prop} {w0 w w' : World} (h : Fr io w0 w) (k : Below w.heap.size w w') : Fr io w0 w' :=
  ⟨k.os.trans h.os, k.tape.trans h.tape, k.output.trans h.output, Nat.le_trans h.size k.size, fun b hb hi => (k.block b (Nat.lt_of_lt_of_le hb h.size)).trans (h.block b hb hi)⟩
theorem Fr.set {io : Nat → Prop} {w0 w : World} (h : Fr io w0 w) {a : Addr} (ha : w0.heap.size ≤ a.block ∨ io a.block) (u : Value) : Fr io w0 (w.setCell a u) :=
  ⟨h.os, h.tape, h.output, by simpa [World.setCell] using h.size, fun b hb hi => by
    rw [Below.heap_setCell _ _ _ _ (fun e => by
      subst e
      rcases ha with ha | ha
      · omega
      · exact hi ha)]
    exact h.block b hb hi⟩

/-- The library's tables that the statements list: a table's block, its cells. -/
def tabs : List (Nat × Array Value) := []
/-- They hold what they hold, and nobody may write there. -/
structure TabF (w : World) (io : Nat → Prop) : Prop where
  at_ : ∀ t ∈ tabs, ∃ T k, w.heap[t.1]? = some (.cells t.2 T k)
  apart : ∀ t ∈ tabs, ¬ io t.1
theorem TabF.lt {w : World} {io : Nat → Prop} (h : TabF w io) (t : Nat × Array Value) (ht : t ∈ tabs) : t.1 < w.heap.size := by
  obtain ⟨T, k, h1⟩ := h.at_ t ht
  exact (Array.getElem?_eq_some_iff.1 h1).1
theorem TabF.keep {w0 w : World} {io io' : Nat → Prop} (h : TabF w0 io) (hf : Fr io w0 w) (h' : ∀ t ∈ tabs, ¬ io' t.1) : TabF w io' :=
  ⟨fun t ht => by rw [hf.block _ (h.lt t ht) (h.apart t ht)]; exact h.at_ t ht, h'⟩
theorem TabF.io {w : World} {io io' : Nat → Prop} (h : TabF w io) (h' : ∀ t ∈ tabs, ¬ io' t.1) : TabF w io' := ⟨h.at_, h'⟩
theorem TabF.none {w : World} {io : Nat → Prop} (h : TabF w io) : TabF w fun _ => False := ⟨h.at_, fun _ _ q => q⟩
def ObjAt (g : Gh) (w : World) (o : Nat) (c : Nat × Nat × List PV) : Prop :=
  (∃ arr, w.heap[g.β o]? = some (.cells arr c.1 (0, 0)) ∧ arr.size = g.κ o) ∧ c.2.2.length * c.2.1 ≤ g.κ o ∧ RepEs g w c.2.1 c.2.2 (g.β o) 0

/-- What a call may write, what it may read for good, where the objects handed in lie. -/
structure IoS where
  wr : Nat → Prop
  im : Nat → Prop
  m : Nat
  β0 : Nat → Nat
  κ0 : Nat → Nat
  it : Nat → Prop := fun _ => False
  hole : Nat → Prop := fun _ => False
instance : CoeFun IoS (fun _ => Nat → Prop) := ⟨IoS.wr⟩
/-- Slots, objects and frame read as s says. -/
structure Rel (io : IoS) (w0 : World) (N : Nat) (g : Gh) (s : AS) (a : Act) (w : World) : Prop where
  nt : a.tmps.size = N
  df : a.defers = []
  tm : ∀ t, Rep g w (s.tm t) (a.tmps.getD t undef)
  ob : ∀ o c, s.ob o = some c → g.D o ∧ (w0.heap.size ≤ g.β o ∨ io (g.β o)) ∧ (∀ k, ¬ g.I k (g.β o)) ∧ ObjAt g w o c
  inj : ∀ o o', (s.ob o).isSome → (s.ob o').isSome → g.β o = g.β o' → o = o'
  nx : g.nx = s.nx
  lt : ∀ k b, g.I k b → b < w.heap.size
  new : ∀ b, g.I true b → (w0.heap.size ≤ b ∧ ¬ io b) ∨ io.it b
  fr : Fr io.wr w0 w
  old : ∀ b, g.I false b → io.im b
  fix : (∀ o, o < io.m → g.D o) ∧ ∀ o, o < io.m → g.β o = io.β0 o ∧ g.κ o = io.κ0 o
  hl : ∀ o, io.hole o → g.hole o ∧ o < g.nx
  tab : TabF w0 io.wr

theorem lt_of_heap {w : World} {b : Nat} {o : Obj} (h : w.heap[b]? = some o) : b < w.heap.size := (Array.getElem?_eq_some_iff.1 h).1

/-- New memory that is only read from now on. -/
def Gh.more (g : Gh) (n n' : Nat) : Gh := { g with I := fun k b => g.I k b ∨ (k = true ∧ n ≤ b ∧ b < n') }
theorem Gh.le_more (g : Gh) (n n' : Nat) : g.le (g.more n n') := ⟨fun _ _ h => .inl h, fun _ h => h, fun _ _ => rfl, fun _ _ => rfl⟩

variable {io : IoS} {w0 : World} {N : Nat} {g : Gh} {s : AS} {a : Act} {w w' : World}

theorem ObjAt.mono {g g' : Gh} {w w' : World} {o : Nat} {c : Nat × Nat × List PV} (h : ObjAt g w o c) (hg : g.le g') (ho : g.D o) (hw : ∀ k b, g.I k b → w'.heap[b]? = w.heap[b]?) (hb : w'.heap[g.β o]? = w.heap[g.β o]?) : ObjAt g' w' o c := by
  obtain ⟨⟨arr, h1, h2⟩, h3, h4⟩ := h
  refine ⟨⟨arr, by rw [hg.β o ho, hb]; exact h1, by rw [hg.κ o ho]; exact h2⟩, by rw [hg.κ o ho]; exact h3, ?_⟩
  rw [hg.β o ho]
  exact RepEs.mono hg hw _ _ _ _ hb h4

/-- A step that only makes memory. -/
theorem Rel.grow (h : Rel io w0 N g s a w) (hb : Below w.heap.size w w') (hio : ∀ b, io b → b < w0.heap.size) : Rel io w0 N (g.more w.heap.size w'.heap.size) s a w' := by
  have hw : ∀ k b, g.I k b → w'.heap[b]? = w.heap[b]? := fun k b hi => hb.block b (h.lt k b hi)
  have hle := Gh.le_more g w.heap.size w'.heap.size
  refine ⟨h.nt, h.df, fun t => (h.tm t).mono hle hw, fun o c ho => ?_, h.inj, h.nx, ?_, ?_, h.fr.below hb, fun b hi => h.old b (hi.resolve_right fun e => by cases e.1), h.fix, h.hl, h.tab⟩
  · obtain ⟨h1, h2, h3, h4⟩ := h.ob o c ho
    obtain ⟨arr, ha, _⟩ := h4.1
    have hlt := lt_of_heap ha
    refine ⟨h1, h2, ?_, h4.mono hle h1 hw (hb.block _ hlt)⟩
    rintro k (hk | ⟨_, hk, _⟩)
    · exact h3 k hk
    · change w.heap.size ≤ g.β o at hk
      omega
  · rintro k b (hi | ⟨_, _, hi⟩)
    · exact Nat.lt_of_lt_of_le (h.lt k b hi) hb.size
    · exact hi
  · rintro b (hi | ⟨_, hi, _⟩)
    · exact h.new b hi
    · exact .inl ⟨Nat.le_trans h.fr.size hi, fun hb => by have := hio b hb; have := h.fr.size; omega⟩

theorem getD_set {ts : Array Value} {d t : Nat} {v : Value} (hd : d < ts.size) : (ts.setIfInBounds d v).getD t undef = if t = d then v else ts.getD t undef := by
  by_cases h : t = d
  · subst h
    simp [hd]
  · have h' : ¬ d = t := fun e => h e.symm
    simp [h, h']

theorem Rel.put (h : Rel io w0 N g s a w) {d : Option Nat} (hd : ∀ x, d = some x → x < N) {p : PV} {v : Value} (hv : Rep g w p v) : Rel io w0 N g (s.put d p) (a.put d v) w := by
  cases d with
  | none => exact h
  | some d =>
    have hd' : d < a.tmps.size := h.nt ▸ hd d rfl
    refine ⟨by simpa [Act.put] using h.nt, h.df, fun t => ?_, h.ob, h.inj, h.nx, h.lt, h.new, h.fr, h.old, h.fix, h.hl, h.tab⟩
    simp only [Act.put, AS.put, upd, getD_set hd']
    split
    · exact hv
    · exact h.tm t

end Go.Proofs.YtenldjifipnjpaaDoor
