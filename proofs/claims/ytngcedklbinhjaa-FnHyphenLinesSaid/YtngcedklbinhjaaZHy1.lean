/- What the proof rests on, part 1: the engine and the types. No condition beyond what each states. -/
import Derived.Test.YtngcedklbinhjaaProg
import Derived.WalkKit
import Derived.Deep.MidRow
import Derived.Lib.ItoaNum
import Derived.Laws.CopyRow
import Derived.Laws.Strings
import Derived.Laws.StructEq
import Derived.Shelf.Small.Strs
import Derived.Shelf.Strings.Search1
import Derived.Shelf.Strings.Prefix
import Derived.Lib.Join
import Derived.WalkSpells
import Derived.WalkLawsBesides
import Derived.Deep.QuietTactic
import Derived.BigQuiet
import Derived.Deep.RegionWith
import Derived.Deep.DeepCutAuto
import Derived.Deep.RegionHeld3
import Derived.Lib.Hide
import Derived.ProofKit
import Derived.OpenShut
import Derived.ShutString
import Derived.ChangeOld
import Derived.Below
import Derived.Lib.SmallJoins
import Derived.Lib.LaidTab
import Derived.HandedShaped
import Derived.Shelf.Vars
import Derived.LaidLaws
namespace Go.Proofs.Ytngcedklbinhjaa
open Go.RowKit
set_option linter.all false
inductive PV where
  | val (v : Value)
  | dead
  | lst (k : Bool) (sz : Nat) (es : List PV)
  | ptr (k : Bool) (e : PV) (o : Nat)
  | own (o sz i f : Nat)
  | row (o sz i n : Nat)
  | agg (cs : List PV)
  | tup (vs : List PV)
  deriving Inhabited
structure Gh where
  I : Bool → Nat → Prop
  β : Nat → Nat
  κ : Nat → Nat
  nx : Nat
  hole : Nat → Prop := fun _ => False
def Gh.D (g : Gh) (o : Nat) : Prop := o < g.nx ∧ ¬ g.hole o
def CellsAt (w : World) (b off : Nat) (u : Value) : Prop :=
  u.cells.all (·.oneCell') = true ∧ ∀ j, j < u.cells.size → w.cell? ⟨b, off + j, none⟩ = u.cells[j]?
mutual
def Rep (g : Gh) (w : World) : PV → Value → Prop
  | .val u, v => v = u
  | .dead, _ => True
  | .lst k sz es, v => ∃ a cap, v = .slice a es.length cap ∧ es.length ≤ cap ∧ cap ≤ 9223372036854775807 ∧ (es = [] ∨ ∃ b off, a = some ⟨b, off, none⟩ ∧ g.I k b ∧ RepEs g w sz es b off)
  | .ptr k e o, v => ∃ b off, v = .pointer (some ⟨b, off + o, none⟩) ∧ g.I k b ∧ ∃ u, Rep g w e u ∧ CellsAt w b off u
  | .own o sz i f, v => v = .pointer (some ⟨g.β o, i * sz + f, none⟩) ∧ g.D o
  | .row o sz i n, v => ∃ c, v = .slice (some ⟨g.β o, i * sz, none⟩) n c ∧ n ≤ c ∧ c ≤ 9223372036854775807 ∧ (i + c) * sz ≤ g.κ o ∧ g.D o
  | .agg cs, v => ∃ vs, v = .agg vs ∧ RepL g w cs vs.toList
  | .tup cs, v => ∃ vs, v = .tuple vs ∧ RepL g w cs vs.toList
def RepEs (g : Gh) (w : World) (sz : Nat) : List PV → Nat → Nat → Prop
  | [], _, _ => True
  | e :: es, b, off => (∃ u, Rep g w e u ∧ CellsAt w b off u ∧ u.cells.size = sz) ∧ RepEs g w sz es b (off + sz)
def RepL (g : Gh) (w : World) : List PV → List Value → Prop
  | [], vs => vs = []
  | c :: cs, vs => ∃ v vs', vs = v :: vs' ∧ Rep g w c v ∧ RepL g w cs vs'
end
structure Gh.le (g g' : Gh) : Prop where
  I : ∀ k b, g.I k b → g'.I k b
  D : ∀ o, g.D o → g'.D o
  β : ∀ o, g.D o → g'.β o = g.β o
  κ : ∀ o, g.D o → g'.κ o = g.κ o
theorem CellsAt.same {w w' : World} {b off : Nat} {u : Value} (h : CellsAt w b off u) (hb : w'.heap[b]? = w.heap[b]?) : CellsAt w' b off u :=
  ⟨h.1, fun j hj => by rw [World.cell?_of_block (w := w) (a := ⟨b, off + j, none⟩) hb]; exact h.2 j hj⟩
mutual
theorem Rep.mono {g g' : Gh} {w w' : World} (hg : g.le g') (hw : ∀ k b, g.I k b → w'.heap[b]? = w.heap[b]?) : ∀ (p : PV) (v : Value), Rep g w p v → Rep g' w' p v
  | .val u, v, h => by simpa [Rep] using h
  | .dead, v, h => by simp [Rep]
  | .lst k sz es, v, h => by
    simp only [Rep] at h ⊢
    obtain ⟨a, cap, h1, h2, h3, h4⟩ := h
    refine ⟨a, cap, h1, h2, h3, h4.imp id ?_⟩
    rintro ⟨b, off, h5, h6, h7⟩
    exact ⟨b, off, h5, hg.I _ _ h6, RepEs.mono hg hw sz es b off (hw _ _ h6) h7⟩
  | .ptr k e o, v, h => by
    simp only [Rep] at h ⊢
    obtain ⟨b, off, h1, h2, u, h3, h4⟩ := h
    exact ⟨b, off, h1, hg.I _ _ h2, u, Rep.mono hg hw e u h3, h4.same (hw _ _ h2)⟩
  | .own o sz i f, v, h => by
    simp only [Rep] at h ⊢
    rw [hg.β o h.2]
    exact ⟨h.1, hg.D o h.2⟩
  | .row o sz i n, v, h => by
    simp only [Rep] at h ⊢
    obtain ⟨c, h1, h2, h3, h4, h5⟩ := h
    exact ⟨c, by rw [hg.β o h5]; exact h1, h2, h3, by rw [hg.κ o h5]; exact h4, hg.D o h5⟩
  | .agg cs, v, h => by
    simp only [Rep] at h ⊢
    obtain ⟨vs, h1, h2⟩ := h
    exact ⟨vs, h1, RepL.mono hg hw cs _ h2⟩
  | .tup cs, v, h => by
    simp only [Rep] at h ⊢
    obtain ⟨vs, h1, h2⟩ := h
    exact ⟨vs, h1, RepL.mono hg hw cs _ h2⟩
theorem RepEs.mono {g g' : Gh} {w w' : World} (hg : g.le g') (hw : ∀ k b, g.I k b → w'.heap[b]? = w.heap[b]?) (sz : Nat) : ∀ (es : List PV) (b off : Nat), w'.heap[b]? = w.heap[b]? → RepEs g w sz es b off → RepEs g' w' sz es b off
  | [], b, off, hb, h => by simp [RepEs]
  | e :: es, b, off, hb, h => by
    simp only [RepEs] at h ⊢
    obtain ⟨⟨u, h1, h2, h3⟩, h4⟩ := h
    exact ⟨⟨u, Rep.mono hg hw e u h1, h2.same hb, h3⟩, RepEs.mono hg hw sz es b (off + sz) hb h4⟩
theorem RepL.mono {g g' : Gh} {w w' : World} (hg : g.le g') (hw : ∀ k b, g.I k b → w'.heap[b]? = w.heap[b]?) : ∀ (cs : List PV) (vs : List Value), RepL g w cs vs → RepL g' w' cs vs
  | [], vs, h => by simpa [RepL] using h
  | c :: cs, vs, h => by
    simp only [RepL] at h ⊢
    obtain ⟨v, vs', h1, h2, h3⟩ := h
    exact ⟨v, vs', h1, Rep.mono hg hw c v h2, RepL.mono hg hw cs vs' h3⟩
end
theorem RepEs.get {g : Gh} {w : World} {sz : Nat} : ∀ {es : List PV} {b off i : Nat} {e : PV}, RepEs g w sz es b off → es[i]? = some e → ∃ u, Rep g w e u ∧ CellsAt w b (off + i * sz) u ∧ u.cells.size = sz
  | [], b, off, i, e, h, he => by simp at he
  | x :: es, b, off, 0, e, h, he => by
    simp only [RepEs] at h
    simp only [List.getElem?_cons_zero, Option.some.injEq] at he
    subst he
    simpa using h.1
  | x :: es, b, off, i + 1, e, h, he => by
    simp only [RepEs] at h
    simp only [List.getElem?_cons_succ] at he
    obtain ⟨u, h1, h2, h3⟩ := RepEs.get h.2 he
    exact ⟨u, h1, by rw [show off + (i + 1) * sz = off + sz + i * sz by rw [Nat.add_mul]; omega]; exact h2, h3⟩
theorem RepEs.of {g : Gh} {w : World} {sz : Nat} : ∀ {es : List PV} {b off : Nat}, (∀ i e, es[i]? = some e → ∃ u, Rep g w e u ∧ CellsAt w b (off + i * sz) u ∧ u.cells.size = sz) → RepEs g w sz es b off
  | [], b, off, h => by simp [RepEs]
  | x :: es, b, off, h => by
    simp only [RepEs]
    refine ⟨by simpa using h 0 x (by simp), RepEs.of fun i e he => ?_⟩
    obtain ⟨u, h1, h2, h3⟩ := h (i + 1) e (by simpa using he)
    exact ⟨u, h1, by rw [show off + sz + i * sz = off + (i + 1) * sz by rw [Nat.add_mul]; omega]; exact h2, h3⟩
theorem RepEs.drop {g : Gh} {w : World} {sz : Nat} {es : List PV} {b off : Nat} (h : RepEs g w sz es b off) (k : Nat) : RepEs g w sz (es.drop k) b (off + k * sz) :=
  RepEs.of fun i e he => by
    obtain ⟨u, h1, h2, h3⟩ := h.get (i := k + i) (by simpa using he)
    exact ⟨u, h1, by rw [show off + k * sz + i * sz = off + (k + i) * sz by rw [Nat.add_mul]; omega]; exact h2, h3⟩
theorem RepEs.take {g : Gh} {w : World} {sz : Nat} {es : List PV} {b off : Nat} (h : RepEs g w sz es b off) (k : Nat) : RepEs g w sz (es.take k) b off :=
  RepEs.of fun i e he => h.get (by
    rw [List.getElem?_take] at he
    split at he
    · exact he
    · cases he)
theorem RepL.get {g : Gh} {w : World} : ∀ {cs : List PV} {vs : List Value}, RepL g w cs vs → vs.length = cs.length ∧ ∀ (i : Nat) c, cs[i]? = some c → ∃ v, vs[i]? = some v ∧ Rep g w c v
  | [], vs, h => by
    simp only [RepL] at h
    subst h
    simp
  | c :: cs, vs, h => by
    simp only [RepL] at h
    obtain ⟨v, vs', rfl, h1, h2⟩ := h
    have ih := h2.get
    refine ⟨by simpa using ih.1, fun i c' hc => ?_⟩
    cases i with
    | zero => simp only [List.getElem?_cons_zero, Option.some.injEq] at hc; subst hc; exact ⟨v, by simp, h1⟩
    | succ i => simpa using ih.2 i c' (by simpa using hc)
theorem RepL.of {g : Gh} {w : World} : ∀ {cs : List PV} {vs : List Value}, vs.length = cs.length → (∀ (i : Nat) c, cs[i]? = some c → ∃ v, vs[i]? = some v ∧ Rep g w c v) → RepL g w cs vs
  | [], vs, h, _ => by simpa [RepL] using h
  | c :: cs, vs, h, hi => by
    cases vs with
    | nil => simp at h
    | cons v vs' =>
      simp only [RepL]
      refine ⟨v, vs', rfl, ?_, RepL.of (by simpa using h) fun i c' hc => by simpa using hi (i + 1) c' (by simpa using hc)⟩
      obtain ⟨v', h1, h2⟩ := hi 0 c (by simp)
      simp only [List.getElem?_cons_zero, Option.some.injEq] at h1
      subst h1
      exact h2
structure AS where
  tm : Nat → PV
  ob : Nat → Option (Nat × Nat × List PV)
  nx : Nat
def upd {α : Type} (f : Nat → α) (d : Nat) (v : α) : Nat → α := fun t => if t = d then v else f t
theorem upd_same {α : Type} (f : Nat → α) (d : Nat) (v : α) : upd f d v d = v := by simp [upd]
theorem upd_ne {α : Type} (f : Nat → α) (d : Nat) (v : α) {t : Nat} (h : t ≠ d) : upd f d v t = f t := by simp [upd, h]
def AS.put (s : AS) (d : Option Nat) (v : PV) : AS :=
  match d with
  | some d => { s with tm := upd s.tm d v }
  | none => s
structure Fr (io : Nat → Prop) (w0 w : World) : Prop where
  os : w.os = w0.os
  tape : w.tape = w0.tape
  output : w.output = w0.output
  size : w0.heap.size ≤ w.heap.size
  block : ∀ b, b < w0.heap.size → ¬ io b → w.heap[b]? = w0.heap[b]?
theorem Fr.refl (io : Nat → Prop) (w : World) : Fr io w w := ⟨rfl, rfl, rfl, Nat.le_refl _, fun _ _ _ => rfl⟩
theorem Fr.below {io : Nat → Prop} {w0 w w' : World} (h : Fr io w0 w) (k : Below w.heap.size w w') : Fr io w0 w' :=
  ⟨k.os.trans h.os, k.tape.trans h.tape, k.output.trans h.output, Nat.le_trans h.size k.size, fun b hb hi => (k.block b (Nat.lt_of_lt_of_le hb h.size)).trans (h.block b hb hi)⟩
theorem Fr.set {io : Nat → Prop} {w0 w : World} (h : Fr io w0 w) {a : Addr} (ha : w0.heap.size ≤ a.block ∨ io a.block) (u : Value) : Fr io w0 (w.setCell a u) :=
  ⟨h.os, h.tape, h.output, by simpa [World.setCell] using h.size, fun b hb hi => by
    rw [Below.heap_setCell _ _ _ _ (fun e => by
      subst e
      rcases ha with ha | ha
      · omega
      · exact hi ha)]
    exact h.block b hb hi⟩
def tabs : List (Nat × Array Value) := []
def gls : List (Nat × Bool) := []
def tks : List Nat := tabs.map (·.1) ++ gls.map (·.1)
structure TabF (w : World) (io : Nat → Prop) : Prop where
  at_ : ∀ t ∈ tabs, ∃ T k, w.heap[t.1]? = some (.cells t.2 T k)
  vars : ∀ g ∈ gls, ∃ v, w.cell? ⟨g.1, 0, none⟩ = some v ∧ (g.2 = true → ∃ m, v = .int .i64 m) ∧ (g.2 = false → ∃ t u, v = .iface t u)
  apart : ∀ b ∈ tks, ¬ io b
theorem TabF.lt {w : World} {io : Nat → Prop} (h : TabF w io) (b : Nat) (hb : b ∈ tks) : b < w.heap.size := by
  rcases List.mem_append.1 hb with hb | hb
  · obtain ⟨t, ht, rfl⟩ := List.mem_map.1 hb
    obtain ⟨T, k, h1⟩ := h.at_ t ht
    exact (Array.getElem?_eq_some_iff.1 h1).1
  · obtain ⟨g, hg, rfl⟩ := List.mem_map.1 hb
    obtain ⟨v, h1, _⟩ := h.vars g hg
    exact World.block_lt_of_cell? w _ h1
theorem TabF.keep {w0 w : World} {io io' : Nat → Prop} (h : TabF w0 io) (hf : Fr io w0 w) (h' : ∀ b ∈ tks, ¬ io' b) : TabF w io' :=
  ⟨fun t ht => by
    have hb : t.1 ∈ tks := List.mem_append.2 (.inl (List.mem_map.2 ⟨t, ht, rfl⟩))
    rw [hf.block _ (h.lt _ hb) (h.apart _ hb)]; exact h.at_ t ht, fun g hg => by
    have hb : g.1 ∈ tks := List.mem_append.2 (.inr (List.mem_map.2 ⟨g, hg, rfl⟩))
    obtain ⟨v, h1, h2⟩ := h.vars g hg
    refine ⟨v, ?_, h2⟩
    rw [World.cell?_of_block (w := w0) (a := ⟨g.1, 0, none⟩) (hf.block _ (h.lt _ hb) (h.apart _ hb))]
    exact h1, h'⟩
theorem TabF.io {w : World} {io io' : Nat → Prop} (h : TabF w io) (h' : ∀ b ∈ tks, ¬ io' b) : TabF w io' := ⟨h.at_, h.vars, h'⟩
theorem TabF.none {w : World} {io : Nat → Prop} (h : TabF w io) : TabF w fun _ => False := ⟨h.at_, h.vars, fun _ _ q => q⟩
def ObjAt (g : Gh) (w : World) (o : Nat) (c : Nat × Nat × List PV) : Prop :=
  (∃ arr, w.heap[g.β o]? = some (.cells arr c.1 (0, 0)) ∧ arr.size = g.κ o) ∧ c.2.2.length * c.2.1 ≤ g.κ o ∧ RepEs g w c.2.1 c.2.2 (g.β o) 0
structure IoS where
  wr : Nat → Prop
  im : Nat → Prop
  m : Nat
  β0 : Nat → Nat
  κ0 : Nat → Nat
  it : Nat → Prop := fun _ => False
  hole : Nat → Prop := fun _ => False
instance : CoeFun IoS (fun _ => Nat → Prop) := ⟨IoS.wr⟩
structure Rel (io : IoS) (w0 : World) (N : Nat) (g : Gh) (s : AS) (a : Act) (w : World) : Prop where
  nt : a.tmps.size = N
  df : a.defers = []
  tm : ∀ t, Rep g w (s.tm t) (a.tmps.getD t undef)
  ob : ∀ o c, s.ob o = some c → g.D o ∧ (w0.heap.size ≤ g.β o ∨ io (g.β o)) ∧ (∀ k, ¬ g.I k (g.β o)) ∧ ObjAt g w o c
  inj : ∀ o o', (s.ob o).isSome → (s.ob o').isSome → g.β o = g.β o' → o = o'
  nx : g.nx = s.nx
  lt : ∀ k b, g.I k b → b < w.heap.size
  new : ∀ b, g.I true b → (w0.heap.size ≤ b ∧ ¬ io b) ∨ io.it b
  fr : Fr io.wr w0 w
  old : ∀ b, g.I false b → io.im b
  fix : (∀ o, o < io.m → g.D o) ∧ ∀ o, o < io.m → g.β o = io.β0 o ∧ g.κ o = io.κ0 o
  hl : ∀ o, io.hole o → g.hole o ∧ o < g.nx
  tab : TabF w0 io.wr
theorem lt_of_heap {w : World} {b : Nat} {o : Obj} (h : w.heap[b]? = some o) : b < w.heap.size := (Array.getElem?_eq_some_iff.1 h).1
def Gh.more (g : Gh) (n n' : Nat) : Gh := { g with I := fun k b => g.I k b ∨ (k = true ∧ n ≤ b ∧ b < n') }
theorem Gh.le_more (g : Gh) (n n' : Nat) : g.le (g.more n n') := ⟨fun _ _ h => .inl h, fun _ h => h, fun _ _ => rfl, fun _ _ => rfl⟩
variable {io : IoS} {w0 : World} {N : Nat} {g : Gh} {s : AS} {a : Act} {w w' : World}
theorem ObjAt.mono {g g' : Gh} {w w' : World} {o : Nat} {c : Nat × Nat × List PV} (h : ObjAt g w o c) (hg : g.le g') (ho : g.D o) (hw : ∀ k b, g.I k b → w'.heap[b]? = w.heap[b]?) (hb : w'.heap[g.β o]? = w.heap[g.β o]?) : ObjAt g' w' o c := by
  obtain ⟨⟨arr, h1, h2⟩, h3, h4⟩ := h
  refine ⟨⟨arr, by rw [hg.β o ho, hb]; exact h1, by rw [hg.κ o ho]; exact h2⟩, by rw [hg.κ o ho]; exact h3, ?_⟩
  rw [hg.β o ho]
  exact RepEs.mono hg hw _ _ _ _ hb h4
theorem Rel.grow (h : Rel io w0 N g s a w) (hb : Below w.heap.size w w') (hio : ∀ b, io b → b < w0.heap.size) : Rel io w0 N (g.more w.heap.size w'.heap.size) s a w' := by
  have hw : ∀ k b, g.I k b → w'.heap[b]? = w.heap[b]? := fun k b hi => hb.block b (h.lt k b hi)
  have hle := Gh.le_more g w.heap.size w'.heap.size
  refine ⟨h.nt, h.df, fun t => (h.tm t).mono hle hw, fun o c ho => ?_, h.inj, h.nx, ?_, ?_, h.fr.below hb, fun b hi => h.old b (hi.resolve_right fun e => by cases e.1), h.fix, h.hl, h.tab⟩
  · obtain ⟨h1, h2, h3, h4⟩ := h.ob o c ho
    obtain ⟨arr, ha, _⟩ := h4.1
    have hlt := lt_of_heap ha
    refine ⟨h1, h2, ?_, h4.mono hle h1 hw (hb.block _ hlt)⟩
    rintro k (hk | ⟨_, hk, _⟩)
    · exact h3 k hk
    · change w.heap.size ≤ g.β o at hk
      omega
  · rintro k b (hi | ⟨_, _, hi⟩)
    · exact Nat.lt_of_lt_of_le (h.lt k b hi) hb.size
    · exact hi
  · rintro b (hi | ⟨_, hi, _⟩)
    · exact h.new b hi
    · exact .inl ⟨Nat.le_trans h.fr.size hi, fun hb => by have := hio b hb; have := h.fr.size; omega⟩
theorem getD_set {ts : Array Value} {d t : Nat} {v : Value} (hd : d < ts.size) : (ts.setIfInBounds d v).getD t undef = if t = d then v else ts.getD t undef := by
  by_cases h : t = d
  · subst h
    simp [hd]
  · have h' : ¬ d = t := fun e => h e.symm
    simp [h, h']
theorem Rel.put (h : Rel io w0 N g s a w) {d : Option Nat} (hd : ∀ x, d = some x → x < N) {p : PV} {v : Value} (hv : Rep g w p v) : Rel io w0 N g (s.put d p) (a.put d v) w := by
  cases d with
  | none => exact h
  | some d =>
    have hd' : d < a.tmps.size := h.nt ▸ hd d rfl
    refine ⟨by simpa [Act.put] using h.nt, h.df, fun t => ?_, h.ob, h.inj, h.nx, h.lt, h.new, h.fr, h.old, h.fix, h.hl, h.tab⟩
    simp only [Act.put, AS.put, upd, getD_set hd']
    split
    · exact hv
    · exact h.tm t
end Go.Proofs.Ytngcedklbinhjaa
namespace Go.Proofs.Ytngcedklbinhjaa
open Go.RowKit
set_option linter.all false
def pureRun {α : Type} (P : Program) : Sem α → Option α
  | .pure a => some a
  | .program k => pureRun P (k P)
  | _ => none
theorem pureRun_run {α : Type} {P : Program} {m : Sem α} {x : α} (h : pureRun P m = some x) (w : World) : m.run P w = .ok x w := by
  induction m with
  | pure a => simp only [pureRun, Option.some.injEq] at h; subst h; rfl
  | program k ih => simp only [pureRun] at h; exact ih P h
  | _ => simp [pureRun] at h
def tySize (P : Program) (t : Nat) : Option Nat := (P.info? t).map (·.size)
def tyAgg (P : Program) (t : Nat) : Option Bool := (P.underlying t).map TypeDesc.isRow
def tyElem (P : Program) (t : Nat) : Option Nat := match P.underlying t with | some (.slice e) => some e | _ => none
def oneP : PV → Bool
  | .val v => v.oneCell'
  | .lst .. | .ptr .. | .own .. | .row .. => true
  | _ => false
def cellsL : PV → Option (List PV)
  | .agg cs => if cs.all oneP then some cs else none
  | p => if oneP p then some [p] else none
def toVals : List PV → Option (List Value)
  | [] => some []
  | .val v :: cs => (toVals cs).map (v :: ·)
  | _ :: _ => none
def toVal : PV → Option Value
  | .val v => some v
  | .agg cs => (toVals cs).map fun vs => .agg vs.toArray
  | _ => none
def subP (P : Program) (t f : Nat) (e : PV) : Option PV :=
  match cellsL e, tyAgg P t, tySize P t with
  | some cs, some true, some k => if f + k ≤ cs.length then some (.agg ((cs.drop f).take k)) else none
  | some cs, some false, _ => cs[f]?
  | _, _, _ => none
section
variable {g : Gh} {w : World}
theorem oneP_rep : ∀ {p : PV} {v : Value}, Rep g w p v → oneP p = true → v.oneCell' = true
  | .val u, v, h, ho => by simp only [Rep] at h; subst h; exact ho
  | .lst .., v, h, ho => by simp only [Rep] at h; obtain ⟨a, cap, rfl, _⟩ := h; rfl
  | .ptr .., v, h, ho => by simp only [Rep] at h; obtain ⟨b, off, rfl, _⟩ := h; rfl
  | .own .., v, h, ho => by simp only [Rep] at h; rw [h.1]; rfl
  | .row .., v, h, ho => by simp only [Rep] at h; obtain ⟨c, rfl, _⟩ := h; rfl
  | .dead, v, h, ho => by simp [oneP] at ho
  | .agg _, v, h, ho => by simp [oneP] at ho
  | .tup _, v, h, ho => by simp [oneP] at ho
theorem oneCell_cells {v : Value} (h : v.oneCell' = true) : v.cells = #[v] := by cases v <;> first | rfl | (simp [Value.oneCell'] at h)
theorem cellsL_rep {p : PV} {v : Value} {cs : List PV} (h : Rep g w p v) (hc : cellsL p = some cs) : v.cells.all (·.oneCell') = true ∧ v.cells.size = cs.length ∧ RepL g w cs v.cells.toList := by
  by_cases ho : oneP p = true
  · have hv := oneP_rep h ho
    have hcs : cs = [p] := by cases p <;> simp_all [cellsL, oneP]
    subst hcs
    rw [oneCell_cells hv]
    exact ⟨by simp [hv], rfl, by simp only [RepL]; exact ⟨v, [], rfl, h, rfl⟩⟩
  · cases p with
    | agg cs' =>
      simp only [cellsL] at hc
      split at hc
      case isFalse => cases hc
      case isTrue hall =>
        cases hc
        simp only [Rep] at h
        obtain ⟨vs, rfl, hl⟩ := h
        have hg := hl.get
        refine ⟨?_, by simpa [Value.cells] using hg.1, hl⟩
        simp only [Value.cells, Array.all_eq_true_iff_forall_mem]
        intro x hx
        obtain ⟨i, hi, rfl⟩ := List.getElem_of_mem (Array.mem_toList_iff.2 hx)
        have hi' : i < cs.length := by rw [← hg.1]; exact hi
        obtain ⟨v, hv1, hv2⟩ := hg.2 i cs[i] (List.getElem?_eq_getElem hi')
        rw [List.getElem?_eq_getElem hi] at hv1
        cases hv1
        exact oneP_rep hv2 (by rw [List.all_eq_true] at hall; exact hall _ (List.getElem_mem hi'))
    | _ => simp_all [cellsL, oneP]
theorem toVals_rep : ∀ {cs : List PV} {vs us : List Value}, RepL g w cs vs → toVals cs = some us → vs = us
  | [], vs, us, h, ht => by simp only [RepL] at h; simp only [toVals, Option.some.injEq] at ht; rw [h, ht]
  | .val v :: cs, vs, us, h, ht => by
    simp only [RepL, Rep] at h
    obtain ⟨_, vs', rfl, rfl, h2⟩ := h
    simp only [toVals, Option.map_eq_some_iff] at ht
    obtain ⟨us', h3, rfl⟩ := ht
    rw [toVals_rep h2 h3]
  | .dead :: cs, vs, us, h, ht => by simp [toVals] at ht
  | .lst .. :: cs, vs, us, h, ht => by simp [toVals] at ht
  | .ptr .. :: cs, vs, us, h, ht => by simp [toVals] at ht
  | .own .. :: cs, vs, us, h, ht => by simp [toVals] at ht
  | .row .. :: cs, vs, us, h, ht => by simp [toVals] at ht
  | .agg .. :: cs, vs, us, h, ht => by simp [toVals] at ht
  | .tup .. :: cs, vs, us, h, ht => by simp [toVals] at ht
theorem toVal_rep {p : PV} {v u : Value} (h : Rep g w p v) (ht : toVal p = some u) : v = u := by
  cases p with
  | val u' => simp only [Rep] at h; simp only [toVal, Option.some.injEq] at ht; rw [h, ht]
  | agg cs =>
    simp only [Rep] at h
    obtain ⟨vs, rfl, h2⟩ := h
    simp only [toVal, Option.map_eq_some_iff] at ht
    obtain ⟨us, h3, rfl⟩ := ht
    rw [← toVals_rep h2 h3]
  | _ => simp [toVal] at ht
theorem RepL.slice {cs : List PV} {vs : List Value} (h : RepL g w cs vs) (f k : Nat) : RepL g w ((cs.drop f).take k) ((vs.drop f).take k) := by
  have hg := h.get
  refine RepL.of (by simp [hg.1]) fun i c hc => ?_
  rw [List.getElem?_take] at hc ⊢
  split at hc
  case isFalse => cases hc
  case isTrue hi =>
    rw [if_pos hi]
    rw [List.getElem?_drop] at hc ⊢
    exact hg.2 _ _ hc
theorem run_loadAt_sub {P : Program} {e p : PV} {u : Value} {b c f t : Nat} (hr : Rep g w e u) (hc : CellsAt w b c u) (hs : subP P t f e = some p) :
    ∃ v, (Instr.loadAt t (.pointer (some ⟨b, c + f, none⟩))).run P w = .ok v w ∧ Rep g w p v := by
  unfold subP at hs
  split at hs
  · rename_i cs k h1 h2 h3
    split at hs
    case isFalse => cases hs
    case isTrue hle =>
      cases hs
      obtain ⟨h4, h5, h6⟩ := cellsL_rep hr h1
      unfold tyAgg at h2
      cases hu : P.underlying t with
      | none => simp [hu] at h2
      | some d =>
        simp only [hu, Option.map_some, Option.some.injEq] at h2
        have hlen : ((u.cells.toList.drop f).take k).length = k := by simp; omega
        refine ⟨_, run_loadAt_mid w b (c + f) t ((u.cells.toList.drop f).take k) d ?_ hu h2 (by rw [hlen]; exact h3), ?_⟩
        · intro j v hv
          rw [List.getElem?_take] at hv
          split at hv
          case isFalse => cases hv
          case isTrue hj =>
            rw [List.getElem?_drop] at hv
            have := hc.2 (f + j) (by omega)
            rw [Nat.add_assoc, this]
            simpa using hv
        · simp only [Rep]
          exact ⟨_, rfl, by simpa using h6.slice f k⟩
  · rename_i cs h1 h2
    obtain ⟨h4, h5, h6⟩ := cellsL_rep hr h1
    have hg := h6.get
    obtain ⟨v, hv1, hv2⟩ := hg.2 f p hs
    have hf : f < u.cells.size := by
      have := (List.getElem?_eq_some_iff.1 hs).1
      omega
    have hcell := hc.2 f hf
    have hv1' : u.cells[f]? = some v := by simpa using hv1
    rw [hv1'] at hcell
    refine ⟨v, ?_, hv2⟩
    unfold tyAgg at h2
    cases hu : P.underlying t with
    | none => simp [hu] at h2
    | some d =>
      simp only [hu, Option.map_some, Option.some.injEq] at h2
      have hagg : (isAgg t).run P w = .ok false w := by
        unfold isAgg
        rw [Sem.run_bind, run_underlying hu w]
        cases d <;> simp_all
      simp [Instr.loadAt, Instr.sureAddr, loadVar, Sem.run_bind, hagg, hcell]
  · cases hs
end
def fieldOff (P : Program) (t f : Nat) : Option Nat :=
  match P.underlying t with
  | some (.struct fs) => match fs[f]? with
    | some fd => match tySize P fd.type with
      | some (_ + 1) => some fd.offset
      | _ => none
    | none => none
  | _ => none
theorem run_fieldAt {P : Program} {t f k : Nat} (h : fieldOff P t f = some k) (b c : Nat) (w : World) :
    (Instr.fieldAt t (.pointer (some ⟨b, c, none⟩)) f).run P w = .ok (.pointer (some ⟨b, c + k, none⟩)) w := by
  unfold fieldOff at h
  split at h
  · rename_i fs hu
    split at h
    · rename_i fd hf
      split at h
      · rename_i n hn
        cases h
        unfold tySize at hn
        cases hi : P.info? fd.type with
        | none => simp [hi] at hn
        | some i =>
          simp only [hi, Option.map_some, Option.some.injEq] at hn
          have ha : (⟨b, c, none⟩ : Addr).add fd.offset = ⟨b, c + fd.offset, none⟩ := Addr.add_mid b c _
          simp [Instr.fieldAt, Instr.sureAddr, Sem.run_bind, run_underlying hu w, hf, fieldPlace, sizeOf, typeInfo, hi, hn, ha]
      · cases h
    · cases h
  · cases h
theorem zipIdx_foldl (off : Nat) : ∀ (l : List Value) (k : Nat) (cs : Array Value), off + k + l.length ≤ cs.size →
    ((l.zipIdx k).foldl (fun (cs : Array Value) (p : Value × Nat) => cs.setIfInBounds (off + p.2) p.1) cs).toList = cs.toList.take (off + k) ++ l ++ cs.toList.drop (off + k + l.length)
  | [], k, cs, h => by simp
  | x :: l, k, cs, h => by
    simp only [List.length_cons] at h
    simp only [List.zipIdx_cons, List.foldl_cons]
    rw [zipIdx_foldl off l (k + 1) _ (by simp; omega)]
    apply List.ext_getElem?
    intro i
    simp only [Array.toList_setIfInBounds, List.append_assoc, List.cons_append, List.length_cons]
    have hlen : (cs.toList.take (off + k)).length = off + k := by simp; omega
    have hlen2 : ((cs.toList.set (off + k) x).take (off + (k + 1))).length = off + k + 1 := by simp; omega
    by_cases h1 : i < off + k
    · rw [List.getElem?_append_left (by omega), List.getElem?_append_left (by omega)]
      simp [show i < off + (k + 1) by omega, h1, show ¬ off + k = i by omega]
    · by_cases h2 : i = off + k
      · subst h2
        rw [List.getElem?_append_left (by omega), List.getElem?_append_right (by omega), hlen]
        simp [List.getElem?_set, show off + k < cs.size by omega]
      · have e1 : ∀ (A B : List Value), A.length ≤ i → (A ++ B)[i]? = B[i - A.length]? := fun A B hA => List.getElem?_append_right hA
        rw [e1 _ _ (by rw [hlen2]; omega), e1 (cs.toList.take (off + k)) _ (by rw [hlen]; omega), hlen, hlen2]
        rw [show i - (off + k) = (i - (off + k + 1)) + 1 by omega, List.getElem?_cons_succ]
        by_cases h3 : i - (off + k + 1) < l.length
        · rw [List.getElem?_append_left h3, List.getElem?_append_left h3]
        · rw [List.getElem?_append_right (by omega), List.getElem?_append_right (by omega)]
          simp only [List.getElem?_drop, List.getElem?_set]
          rw [if_neg (by omega)]
          congr 1
          omega
def setL {α : Type} (l : List α) (off : Nat) (new : List α) : List α := l.take off ++ new ++ l.drop (off + new.length)
def fillP (place : Nat → Option (Nat × Nat)) (cells : List PV) : List (Nat × PV) → Option (List PV)
  | [] => some cells
  | (i, v) :: rest =>
    match place i, cellsL v with
    | some (off, size), some cs => if cs.length = size ∧ off + cs.length ≤ cells.length then fillP place (setL cells off cs) rest else none
    | _, _ => none
section
variable {g : Gh} {w : World}
theorem RepL.append {cs cs' : List PV} {vs vs' : List Value} (h : RepL g w cs vs) (h' : RepL g w cs' vs') : RepL g w (cs ++ cs') (vs ++ vs') := by
  have a := h.get
  have b := h'.get
  refine RepL.of (by simp [a.1, b.1]) fun i c hc => ?_
  by_cases hi : i < cs.length
  · rw [List.getElem?_append_left hi] at hc
    rw [List.getElem?_append_left (by omega)]
    exact a.2 i c hc
  · rw [List.getElem?_append_right (by omega)] at hc
    rw [List.getElem?_append_right (by omega), a.1]
    exact b.2 _ c hc
theorem RepL.drop {cs : List PV} {vs : List Value} (h : RepL g w cs vs) (k : Nat) : RepL g w (cs.drop k) (vs.drop k) := by
  have a := h.get
  refine RepL.of (by simp [a.1]) fun i c hc => ?_
  rw [List.getElem?_drop] at hc ⊢
  exact a.2 _ c hc
theorem RepL.take {cs : List PV} {vs : List Value} (h : RepL g w cs vs) (k : Nat) : RepL g w (cs.take k) (vs.take k) := by
  have := h.slice 0 k
  simpa using this
theorem RepL.setL {cs new : List PV} {vs nv : List Value} (h : RepL g w cs vs) (hn : RepL g w new nv) (off : Nat) : RepL g w (setL cs off new) (Proofs.Ytngcedklbinhjaa.setL vs off nv) := by
  unfold Proofs.Ytngcedklbinhjaa.setL
  rw [hn.get.1]
  exact ((h.take off).append hn).append (h.drop _)
def RepPs (g : Gh) (w : World) : List (Nat × PV) → List (Nat × Value) → Prop
  | [], vs => vs = []
  | p :: ps, vs => ∃ v vs', vs = (p.1, v) :: vs' ∧ Rep g w p.2 v ∧ RepPs g w ps vs'
theorem fill_rep (place : Nat → Option (Nat × Nat)) : ∀ {ps : List (Nat × PV)} {vs : List (Nat × Value)} {cells out : List PV} {us : Array Value},
    RepPs g w ps vs → RepL g w cells us.toList → fillP place cells ps = some out → ∃ us', Instr.fill place us vs = some us' ∧ RepL g w out us'.toList
  | [], vs, cells, out, us, hp, hc, hf => by
    simp only [RepPs] at hp
    subst hp
    simp only [fillP, Option.some.injEq] at hf
    subst hf
    exact ⟨us, by simp [Instr.fill], hc⟩
  | (i, p) :: ps, vs, cells, out, us, hp, hc, hf => by
    simp only [RepPs] at hp
    obtain ⟨v, vs', rfl, h1, h2⟩ := hp
    simp only [fillP] at hf
    split at hf
    · rename_i off size cs h3 h4
      split at hf
      case isFalse => cases hf
      case isTrue hle =>
        obtain ⟨h5, h6, h7⟩ := cellsL_rep h1 h4
        have hl := hc.get.1
        simp only [Array.length_toList] at hl
        have hfold := zipIdx_foldl off v.cells.toList 0 us (by simp; omega)
        have hst : (v.cells.zipIdx.foldl (fun cs (x : Value × Nat) => cs.setIfInBounds (off + x.2) x.1) us).toList = Proofs.Ytngcedklbinhjaa.setL us.toList off v.cells.toList := by
          rw [← Array.foldl_toList, Array.toList_zipIdx]
          simpa [Proofs.Ytngcedklbinhjaa.setL] using hfold
        obtain ⟨us', h8, h9⟩ := fill_rep place h2 (us := v.cells.zipIdx.foldl (fun cs (x : Value × Nat) => cs.setIfInBounds (off + x.2) x.1) us) (by rw [hst]; exact hc.setL h7 off) hf
        refine ⟨us', ?_, h9⟩
        simp only [Instr.fill, h3]
        rw [if_neg (by simp; omega)]
        exact h8
    · cases hf
end
def structPlaces (P : Program) (t : Nat) : Option (Array (Nat × Nat)) :=
  match P.underlying t with
  | some (.struct fs) => pureRun P (fs.mapM fun f => do pure (f.offset, ← sizeOf f.type))
  | _ => none
def zeroOf (P : Program) (t : Nat) : Option Value := (P.info? t).bind (·.zero)
def arrPlaces (P : Program) (t : Nat) : Option (Array (Nat × Nat)) :=
  match P.underlying t with
  | some (.array n e) => (tySize P e).map fun s => (Array.range n).map fun i => (i * s, s)
  | _ => none
def evBuild (P : Program) (t : Nat) (ps : List (Nat × PV)) : Option PV :=
  match zeroOf P t, structPlaces P t with
  | some z, some pl => (fillP (pl[·]?) (z.cells.toList.map PV.val) ps).map .agg
  | some z, none => match arrPlaces P t with
    | some pl => (fillP (pl[·]?) (z.cells.toList.map PV.val) ps).map .agg
    | none => none
  | _, _ => none
theorem fill_mono {pl pl' : Nat → Option (Nat × Nat)} (h : ∀ i x, pl i = some x → pl' i = some x) : ∀ (l : List (Nat × Value)) (cs us : Array Value), Instr.fill pl cs l = some us → Instr.fill pl' cs l = some us
  | [], cs, us, hf => hf
  | (i, v) :: l, cs, us, hf => by
    unfold Instr.fill at hf ⊢
    cases hp : pl i with
    | none => rw [hp] at hf; cases hf
    | some x =>
      obtain ⟨off, size⟩ := x
      rw [hp] at hf
      rw [h i _ hp]
      dsimp only at hf ⊢
      split at hf
      · cases hf
      · rename_i hc
        rw [if_neg hc]
        exact fill_mono h l _ _ hf
theorem RepL.vals {g : Gh} {w : World} : ∀ (vs : List Value), RepL g w (vs.map PV.val) vs
  | [] => by simp [RepL]
  | v :: vs => by simp only [List.map_cons, RepL, Rep]; exact ⟨v, vs, rfl, rfl, RepL.vals vs⟩
theorem run_zero {P : Program} {t : Nat} {z : Value} (h : zeroOf P t = some z) (w : World) : (zeroValue t).run P w = .ok z w := by
  unfold zeroOf at h
  cases hi : P.info? t with
  | none => simp [hi] at h
  | some i =>
    simp only [hi, Option.bind_some] at h
    simp [zeroValue, typeInfo, hi, h]
theorem run_size {P : Program} {t k : Nat} (h : tySize P t = some k) (w : World) : (sizeOf t).run P w = .ok k w := by
  unfold tySize at h
  cases hi : P.info? t with
  | none => simp [hi] at h
  | some i =>
    simp only [hi, Option.map_some, Option.some.injEq] at h
    simp [sizeOf, typeInfo, hi, h]
theorem run_build {P : Program} {g : Gh} {w : World} {t : Nat} {ps : List (Nat × PV)} {vs : Array (Nat × Value)} {p : PV} (hp : RepPs g w ps vs.toList) (h : evBuild P t ps = some p) :
    ∃ v, (Instr.build t vs).run P w = .ok v w ∧ Rep g w p v := by
  unfold evBuild at h
  split at h
  · rename_i z pl h1 h2
    simp only [Option.map_eq_some_iff] at h
    obtain ⟨out, h3, rfl⟩ := h
    obtain ⟨us', h4, h5⟩ := fill_rep _ hp (us := z.cells) (RepL.vals _) h3
    unfold structPlaces at h2
    split at h2
    · rename_i fs hu
      refine ⟨.agg us', ?_, by simp only [Rep]; exact ⟨us', rfl, h5⟩⟩
      simp only [Instr.build, Sem.run_bind, run_zero h1, Result.andThen_ok, run_underlying hu w, pureRun_run h2 w, h4]
      rfl
    · cases h2
  · rename_i z h1 h2
    split at h
    · rename_i pl h6
      simp only [Option.map_eq_some_iff] at h
      obtain ⟨out, h3, rfl⟩ := h
      obtain ⟨us', h4, h5⟩ := fill_rep _ hp (us := z.cells) (RepL.vals _) h3
      unfold arrPlaces at h6
      split at h6
      · rename_i n e hu
        rw [Option.map_eq_some_iff] at h6
        obtain ⟨s, hs, rfl⟩ := h6
        have h7 := fill_mono (pl' := fun i => some (i * s, s)) (fun i x hx => by
          simp only [Array.getElem?_map, Option.map_eq_some_iff] at hx
          obtain ⟨j, hj, rfl⟩ := hx
          have := Array.getElem?_eq_some_iff.1 hj
          obtain ⟨hlt, rfl⟩ := this
          simp) _ _ _ h4
        refine ⟨.agg us', ?_, by simp only [Rep]; exact ⟨us', rfl, h5⟩⟩
        simp only [Instr.build, Sem.run_bind, run_zero h1, Result.andThen_ok, run_underlying hu w, run_size hs w, h7]
        rfl
      · cases h6
    · cases h
  · cases h
def asI : PV → Option Int
  | .val (.int _ i) => some i
  | _ => none
def evIndexAddr (P : Program) (t : Nat) (x : PV) (i : Int) : Option PV :=
  match P.underlying t with
  | some (.slice e) => match x, tySize P e with
    | .lst k sz es, some s => if s = sz ∧ 0 ≤ i then (es[i.toNat]?).map fun e => .ptr k e 0 else none
    | .row o sz j n, some s => if s = sz ∧ 0 ≤ i ∧ i < n then some (.own o sz (j + i.toNat) 0) else none
    | _, _ => none
  | some (.array n e) => match x, tySize P e with
    | .ptr k e f, some s => if 0 ≤ i ∧ i < n then some (.ptr k e (f + i.toNat * s)) else none
    | .own o sz j f, some s => if 0 ≤ i ∧ i < n then some (.own o sz j (f + i.toNat * s)) else none
    | _, _ => none
  | _ => none
theorem run_indexAddr {P : Program} {g : Gh} {w : World} {t : Nat} {x p : PV} {v : Value} {k : IntKind} {i : Int} (hx : Rep g w x v) (h : evIndexAddr P t x i = some p) :
    ∃ u, (Instr.indexAt t v (.int k i)).run P w = .ok u w ∧ Rep g w p u := by
  unfold evIndexAddr at h
  split at h
  · rename_i e hu
    split at h
    · rename_i kk sz es s h1
      split at h
      case isFalse => cases h
      case isTrue hc =>
        obtain ⟨rfl, h0⟩ := hc
        simp only [Option.map_eq_some_iff] at h
        obtain ⟨el, h2, rfl⟩ := h
        simp only [Rep] at hx
        obtain ⟨a, cap, rfl, h3, h4, h5⟩ := hx
        have hlt := (List.getElem?_eq_some_iff.1 h2).1
        have hilt : i < (es.length : Int) := by omega
        rcases h5 with rfl | ⟨b, off, rfl, h6, h7⟩
        · simp at hlt
        · obtain ⟨u, h8, h9, h10⟩ := h7.get h2
          refine ⟨.pointer (some ⟨b, off + i.toNat * s, none⟩), ?_, ?_⟩
          · have ha : (⟨b, off, none⟩ : Addr).add (i.toNat * s) = ⟨b, off + i.toNat * s, none⟩ := Addr.add_mid b off _
            simp [Instr.indexAt, asIntOf, Sem.run_bind, run_underlying hu w, h0, hilt, run_size h1 w, ha]
          · simp only [Rep]
            exact ⟨b, off + i.toNat * s, by simp, h6, u, h8, h9⟩
    · rename_i o sz j n s h1
      split at h
      case isFalse => cases h
      case isTrue hc =>
        obtain ⟨rfl, h0, hn⟩ := hc
        simp only [Option.some.injEq] at h
        subst h
        simp only [Rep] at hx
        obtain ⟨c, rfl, h2, h3, h4, h5⟩ := hx
        refine ⟨.pointer (some ⟨g.β o, j * s + i.toNat * s, none⟩), ?_, ?_⟩
        · have ha : (⟨g.β o, j * s, none⟩ : Addr).add (i.toNat * s) = ⟨g.β o, j * s + i.toNat * s, none⟩ := Addr.add_mid _ _ _
          simp [Instr.indexAt, asIntOf, Sem.run_bind, run_underlying hu w, h0, hn, run_size h1 w, ha]
        · simp only [Rep]
          exact ⟨by rw [Nat.add_mul]; rfl, h5⟩
    · cases h
  · rename_i n e hu
    split at h
    · rename_i kk el f s h1
      split at h
      case isFalse => cases h
      case isTrue hc =>
        obtain ⟨h0, hn⟩ := hc
        simp only [Option.some.injEq] at h
        subst h
        simp only [Rep] at hx
        obtain ⟨b, off, rfl, h2, h3⟩ := hx
        refine ⟨.pointer (some ⟨b, off + f + i.toNat * s, none⟩), ?_, ?_⟩
        · have ha : (⟨b, off + f, none⟩ : Addr).add (i.toNat * s) = ⟨b, off + f + i.toNat * s, none⟩ := Addr.add_mid _ _ _
          simp [Instr.indexAt, Instr.sureAddr, asIntOf, Sem.run_bind, run_underlying hu w, h0, hn, run_size h1 w, ha]
        · simp only [Rep]
          exact ⟨b, off, by rw [Nat.add_assoc], h2, h3⟩
    · rename_i o sz j f s h1
      split at h
      case isFalse => cases h
      case isTrue hc =>
        obtain ⟨h0, hn⟩ := hc
        simp only [Option.some.injEq] at h
        subst h
        simp only [Rep] at hx
        obtain ⟨rfl, h2⟩ := hx
        refine ⟨.pointer (some ⟨g.β o, j * sz + f + i.toNat * s, none⟩), ?_, ?_⟩
        · have ha : (⟨g.β o, j * sz + f, none⟩ : Addr).add (i.toNat * s) = ⟨g.β o, j * sz + f + i.toNat * s, none⟩ := Addr.add_mid _ _ _
          simp [Instr.indexAt, Instr.sureAddr, asIntOf, Sem.run_bind, run_underlying hu w, h0, hn, run_size h1 w, ha]
        · simp only [Rep]
          exact ⟨by rw [Nat.add_assoc], h2⟩
    · cases h
  · cases h
def isNil : PV → Bool
  | .val (.slice none 0 0) => true
  | _ => false
def evSlice (P : Program) (t : Nat) (x : PV) (lo hi : Option Int) : Option PV :=
  match P.underlying t with
  | some (.slice e) => match x, tySize P e with
    | .lst k sz es, some s =>
      let l := lo.getD 0
      let h := hi.getD es.length
      if s = sz ∧ 0 ≤ l ∧ l ≤ h ∧ h ≤ es.length then some (.lst k sz ((es.drop l.toNat).take (h.toNat - l.toNat))) else none
    | .row o sz i n, some s =>
      let l := lo.getD 0
      let h := hi.getD n
      if s = sz ∧ 0 ≤ l ∧ l ≤ h ∧ h ≤ n then (if l = h then some (.lst true sz []) else some (.row o sz (i + l.toNat) (h.toNat - l.toNat))) else none
    | x, some s => if isNil x ∧ lo.getD 0 = 0 ∧ hi.getD 0 = 0 then some x else none
    | _, _ => none
  | _ => none
theorem run_sliceBounds {P : Program} {w : World} (len cap : Nat) (lo hi : Option Int) (kl kh : IntKind) (h1 : 0 ≤ lo.getD 0) (h2 : lo.getD 0 ≤ hi.getD len) (h3 : hi.getD len ≤ len) (h4 : len ≤ cap) :
    (Instr.sliceBounds true len cap (lo.map (Value.int kl)) (hi.map (Value.int kh)) none).run P w = .ok ((lo.getD 0).toNat, (hi.getD len).toNat, cap) w := by
  cases hi with
  | none =>
    cases lo with
    | none => simp [Instr.sliceBounds, Sem.run_bind]
    | some l =>
      simp only [Option.getD_some, Option.getD_none] at *
      simp [Instr.sliceBounds, Instr.sliceBound, asIntOf, Sem.run_bind, h1, h2]
  | some h =>
    simp only [Option.getD_some] at *
    have h0 : 0 ≤ h := by omega
    have hc : h ≤ (cap : Int) := by omega
    cases lo with
    | none => simp [Instr.sliceBounds, Instr.sliceBound, asIntOf, Sem.run_bind, h0, hc]
    | some l =>
      simp only [Option.getD_some] at *
      have hl : ¬ max h 0 < l := by omega
      simp [Instr.sliceBounds, Instr.sliceBound, asIntOf, Sem.run_bind, h0, hc, h1, hl]
theorem run_slice {P : Program} {g : Gh} {w : World} {t : Nat} {x p : PV} {v : Value} {kl kh : IntKind} {lo hi : Option Int} (hx : Rep g w x v) (h : evSlice P t x lo hi = some p) :
    ∃ u, (Instr.sliceAt t v (lo.map (Value.int kl)) (hi.map (Value.int kh)) none).run P w = .ok u w ∧ Rep g w p u := by
  unfold evSlice at h
  split at h
  · rename_i e hu
    split at h
    · rename_i kk sz es s h1
      dsimp only at h
      split at h
      case isFalse => cases h
      case isTrue hc =>
        obtain ⟨rfl, c1, c2, c3⟩ := hc
        simp only [Option.some.injEq] at h
        subst h
        simp only [Rep] at hx
        obtain ⟨a, cap, rfl, h3, h4, h5⟩ := hx
        have hb := run_sliceBounds (P := P) (w := w) es.length cap lo hi kl kh c1 c2 c3 h3
        refine ⟨_, by simp [Instr.sliceAt, Instr.slice, Sem.run_bind, run_underlying hu w, hb, run_size h1 w]; rfl, ?_⟩
        simp only [Rep]
        have hlen : ((es.drop (lo.getD 0).toNat).take ((hi.getD es.length).toNat - (lo.getD 0).toNat)).length = (hi.getD es.length).toNat - (lo.getD 0).toNat := by simp; omega
        refine ⟨_, _, by rw [hlen], by rw [hlen]; omega, by omega, ?_⟩
        by_cases hz : (hi.getD es.length).toNat - (lo.getD 0).toNat = 0
        · left; rw [hz]; rfl
        · right
          rcases h5 with rfl | ⟨b, off, rfl, h6, h7⟩
          · simp at c3 hz; omega
          · refine ⟨b, off + (lo.getD 0).toNat * s, ?_, h6, (h7.drop _).take _⟩
            rw [if_neg (by omega)]
            simp only [Option.map_some, Addr.add_mid]
    · rename_i o sz i n s h1
      dsimp only at h
      split at h
      case isFalse => cases h
      case isTrue hc =>
        obtain ⟨rfl, c1, c2, c3⟩ := hc
        simp only [Rep] at hx
        obtain ⟨c, rfl, h2, h3, h4, h5⟩ := hx
        have hb := run_sliceBounds (P := P) (w := w) n c lo hi kl kh c1 c2 c3 h2
        refine ⟨_, by simp [Instr.sliceAt, Instr.slice, Sem.run_bind, run_underlying hu w, hb, run_size h1 w]; rfl, ?_⟩
        split at h
        · rename_i heq
          simp only [Option.some.injEq] at h
          subst h
          simp only [Rep]
          refine ⟨_, _, by rw [show (hi.getD (n : Int)).toNat - (lo.getD 0).toNat = 0 by omega]; rfl, by simp, by omega, .inl trivial⟩
        · rename_i hne
          simp only [Option.some.injEq] at h
          subst h
          simp only [Rep]
          refine ⟨c - (lo.getD 0).toNat, ?_, by omega, by omega, by rw [show i + (lo.getD 0).toNat + (c - (lo.getD 0).toNat) = i + c by omega]; exact h4, h5⟩
          rw [if_neg (by omega)]
          simp only [Option.map_some, Addr.add_mid, Nat.add_mul]
    · rename_i s h1 h2
      split at h
      case isFalse => cases h
      case isTrue hc =>
        obtain ⟨c1, c2, c3⟩ := hc
        simp only [Option.some.injEq] at h
        subst h
        unfold isNil at c1
        split at c1
        · simp only [Rep] at hx
          subst hx
          have hb := run_sliceBounds (P := P) (w := w) 0 0 lo hi kl kh (by omega) (by have : hi.getD ((0 : Nat) : Int) = 0 := c3; omega) (by have : hi.getD ((0 : Nat) : Int) = 0 := c3; omega) (Nat.le_refl _)
          refine ⟨_, by simp [Instr.sliceAt, Instr.slice, Sem.run_bind, run_underlying hu w, hb, run_size h2 w]; rfl, ?_⟩
          have e1 : hi.getD ((0 : Nat) : Int) = 0 := c3
          simp only [Rep]
          simp [c2]
          have e2 : hi.getD 0 = 0 := c3
          simp [e2]
        · cases c1
    · cases h
  · cases h
end Go.Proofs.Ytngcedklbinhjaa
namespace Go.Proofs.Ytngcedklbinhjaa
open Go.RowKit
set_option linter.all false
abbrev Objs := Nat → Option (Nat × Nat × List PV)
def sliceEs (ob : Objs) (sz : Nat) : PV → Option (List PV)
  | .lst _ sz' es => if sz = sz' then some es else none
  | .row o sz' i n => match ob o with
    | some (_, sz'', es) => if sz = sz' ∧ sz = sz'' ∧ i + n ≤ es.length then some ((es.drop i).take n) else none
    | none => none
  | .val (.slice none 0 0) => some []
  | _ => none
def byteNs : List PV → Option (List Int)
  | [] => some []
  | .val (.int .u8 n) :: es => (byteNs es).map (n :: ·)
  | _ :: _ => none
def bytesOf (ns : List Int) : ByteArray := ns.foldl (fun r n => r.push (UInt8.ofNat n.toNat)) ByteArray.empty
def reify (fr : Bool) (n : Nat) (ob : Objs) : Nat → PV → Option PV
  | 0, _ => none
  | f + 1, p => match p with
    | .val v => some (.val v)
    | .dead => some .dead
    | .lst k sz es => if fr = true ∧ k = false ∧ es ≠ [] then none else (es.mapM (reify fr n ob f)).map (.lst fr sz)
    | .ptr k e o => if fr = true ∧ k = false then none else (reify fr n ob f e).map (.ptr fr · o)
    | .own o sz i c => if fr = true ∧ o < n then none else match ob o with
      | some (_, sz', es) => if sz = sz' then (es[i]?).bind fun e => (reify fr n ob f e).map (.ptr fr · c) else none
      | none => none
    | .row o sz i m => if fr = true ∧ o < n then none else match ob o with
      | some (_, sz', es) => if sz = sz' ∧ i + m ≤ es.length then (((es.drop i).take m).mapM (reify fr n ob f)).map (.lst fr sz) else none
      | none => none
    | .agg cs => (cs.mapM (reify fr n ob f)).map .agg
    | .tup cs => (cs.mapM (reify fr n ob f)).map .tup
section
variable {io : IoS} {w0 : World} {N : Nat} {g : Gh} {s : AS} {a : Act} {w : World}
theorem mapM_get {α β : Type} {f : α → Option β} : ∀ {l : List α} {l' : List β}, l.mapM f = some l' → l'.length = l.length ∧ ∀ (i : Nat) x, l[i]? = some x → ∃ y, l'[i]? = some y ∧ f x = some y
  | [], l', h => by simp only [List.mapM_nil, Option.pure_def, Option.some.injEq] at h; subst h; simp
  | x :: l, l', h => by
    simp only [List.mapM_cons, Option.bind_eq_bind, Option.bind_eq_some_iff, Option.pure_def, Option.some.injEq] at h
    obtain ⟨y, h1, ys, h2, rfl⟩ := h
    have ih := mapM_get h2
    refine ⟨by simp [ih.1], fun i z hz => ?_⟩
    cases i with
    | zero => simp only [List.getElem?_cons_zero, Option.some.injEq] at hz; subst hz; exact ⟨y, by simp, h1⟩
    | succ i => simpa using ih.2 i z (by simpa using hz)
structure Seen (fr : Bool) (n : Nat) (g : Gh) (s : AS) (g' : Gh) : Prop where
  F : fr = false → (∀ k b, g.I k b → g'.I false b) ∧ ∀ o, (s.ob o).isSome → g'.I false (g.β o)
  T : fr = true → (∀ b, g.I true b → g'.I true b) ∧ ∀ o, (s.ob o).isSome → n ≤ o → g'.I true (g.β o)
theorem RepEs.conv {F : PV → Option PV} {g' : Gh} (ih : ∀ p q v, Rep g w p v → F p = some q → Rep g' w q v) {sz : Nat} {es es' : List PV} {b off : Nat} (h : RepEs g w sz es b off) (hm : es.mapM F = some es') : RepEs g' w sz es' b off := by
  have hg := mapM_get hm
  refine RepEs.of fun i e he => ?_
  have hi : i < es.length := by rw [← hg.1]; exact (List.getElem?_eq_some_iff.1 he).1
  obtain ⟨y, hy, hf⟩ := hg.2 i es[i] (List.getElem?_eq_getElem hi)
  rw [hy] at he
  cases he
  obtain ⟨u, h1, h2, h3⟩ := h.get (List.getElem?_eq_getElem hi)
  exact ⟨u, ih es[i] e u h1 hf, h2, h3⟩
theorem RepL.conv {F : PV → Option PV} {g' : Gh} (ih : ∀ p q v, Rep g w p v → F p = some q → Rep g' w q v) {cs cs' : List PV} {vs : List Value} (h : RepL g w cs vs) (hm : cs.mapM F = some cs') : RepL g' w cs' vs := by
  have hg := mapM_get hm
  have hh := h.get
  refine RepL.of (by rw [hh.1, hg.1]) fun i c hc => ?_
  have hi : i < cs.length := by rw [← hg.1]; exact (List.getElem?_eq_some_iff.1 hc).1
  obtain ⟨y, hy, hf⟩ := hg.2 i cs[i] (List.getElem?_eq_getElem hi)
  rw [hy] at hc
  cases hc
  obtain ⟨v, h1, h2⟩ := hh.2 i cs[i] (List.getElem?_eq_getElem hi)
  exact ⟨v, h1, ih cs[i] c v h2 hf⟩
theorem Rep.seen {fr : Bool} {n : Nat} {g' : Gh} (hob : ∀ o c, s.ob o = some c → ObjAt g w o c) (hs : Seen fr n g s g') : ∀ (f : Nat) (p q : PV) (v : Value), Rep g w p v → reify fr n s.ob f p = some q → Rep g' w q v
  | 0, p, q, v, h, hr => by simp [reify] at hr
  | f + 1, p, q, v, h, hr => by
    cases p with
    | val u => simp only [reify, Option.some.injEq] at hr; subst hr; simpa [Rep] using h
    | dead => simp only [reify, Option.some.injEq] at hr; subst hr; simp [Rep]
    | lst k sz es =>
      simp only [reify] at hr
      split at hr
      · cases hr
      · rename_i hk
        simp only [Option.map_eq_some_iff] at hr
        obtain ⟨es', h1, rfl⟩ := hr
        have hl := (mapM_get h1).1
        simp only [Rep] at h ⊢
        obtain ⟨a, cap, rfl, h2, h3, h4⟩ := h
        refine ⟨a, cap, by rw [hl], by omega, h3, ?_⟩
        rcases h4 with rfl | ⟨b, off, rfl, h5, h6⟩
        · left; exact List.eq_nil_of_length_eq_zero (by simpa using hl)
        · by_cases hnil : es = []
          · left; subst hnil; exact List.eq_nil_of_length_eq_zero (by simpa using hl)
          · right
            refine ⟨b, off, rfl, ?_, RepEs.conv (Rep.seen hob hs f) h6 h1⟩
            cases fr with
            | false => exact (hs.F rfl).1 _ _ h5
            | true =>
              cases k with
              | true => exact (hs.T rfl).1 _ h5
              | false => simp [hnil] at hk
    | ptr k e o =>
      simp only [reify] at hr
      split at hr
      · cases hr
      · rename_i hk
        simp only [Option.map_eq_some_iff] at hr
        obtain ⟨e', h1, rfl⟩ := hr
        simp only [Rep] at h ⊢
        obtain ⟨b, off, rfl, h2, u, h3, h4⟩ := h
        refine ⟨b, off, rfl, ?_, u, Rep.seen hob hs f e e' u h3 h1, h4⟩
        cases fr with
        | false => exact (hs.F rfl).1 _ _ h2
        | true =>
          cases k with
          | true => exact (hs.T rfl).1 _ h2
          | false => simp at hk
    | own o sz i c =>
      simp only [reify] at hr
      split at hr
      · cases hr
      · rename_i hk
        split at hr
        · rename_i T sz' es ho
          split at hr
          case isFalse => cases hr
          case isTrue hsz =>
            subst hsz
            simp only [Option.bind_eq_some_iff, Option.map_eq_some_iff] at hr
            obtain ⟨e, he, e', h1, rfl⟩ := hr
            simp only [Rep] at h ⊢
            obtain ⟨rfl, hlt⟩ := h
            obtain ⟨u, h2, h3, h4⟩ := (hob o _ ho).2.2.get he
            refine ⟨g.β o, i * sz, by rw [Nat.zero_add] at *, ?_, u, Rep.seen hob hs f e e' u h2 h1, by simpa using h3⟩
            cases fr with
            | false => exact (hs.F rfl).2 o (by simp [ho])
            | true => exact (hs.T rfl).2 o (by simp [ho]) (by simp at hk; omega)
        · cases hr
    | row o sz i m =>
      simp only [reify] at hr
      split at hr
      · cases hr
      · rename_i hk
        split at hr
        · rename_i T sz' es ho
          split at hr
          case isFalse => cases hr
          case isTrue hsz =>
            obtain ⟨rfl, hle⟩ := hsz
            simp only [Option.map_eq_some_iff] at hr
            obtain ⟨es', h1, rfl⟩ := hr
            have hl := (mapM_get h1).1
            have hl2 : es'.length = m := by rw [hl]; simp; omega
            simp only [Rep] at h ⊢
            obtain ⟨c, rfl, h2, h3, h4, h5⟩ := h
            refine ⟨_, c, by rw [hl2], by omega, h3, .inr ⟨g.β o, i * sz, rfl, ?_, ?_⟩⟩
            · cases fr with
              | false => exact (hs.F rfl).2 o (by simp [ho])
              | true => exact (hs.T rfl).2 o (by simp [ho]) (by simp at hk; omega)
            · have := ((hob o _ ho).2.2.drop i).take m
              exact RepEs.conv (Rep.seen hob hs f) (by simpa using this) h1
        · cases hr
    | agg cs =>
      simp only [reify, Option.map_eq_some_iff] at hr
      obtain ⟨cs', h1, rfl⟩ := hr
      simp only [Rep] at h ⊢
      obtain ⟨vs, rfl, h2⟩ := h
      exact ⟨vs, rfl, RepL.conv (Rep.seen hob hs f) h2 h1⟩
    | tup cs =>
      simp only [reify, Option.map_eq_some_iff] at hr
      obtain ⟨cs', h1, rfl⟩ := hr
      simp only [Rep] at h ⊢
      obtain ⟨vs, rfl, h2⟩ := h
      exact ⟨vs, rfl, RepL.conv (Rep.seen hob hs f) h2 h1⟩
end
abbrev Fun := List PV → Option PV
def argG (J : Nat → Prop) : Gh := { I := fun k b => k = false ∧ J b, β := fun _ => 0, κ := fun _ => 0, nx := 0 }
def Sound (P : Program) (f : Nat) (φ : Fun) : Prop :=
  ∀ (w : World) (J : Nat → Prop) (ps : List PV) (args : Array Value) (r : PV), φ ps = some r → (∀ b, J b → b < w.heap.size) → TabF w (fun _ => False) → RepL (argG J) w ps args.toList →
    Calls P f args w fun e w' => ∃ v, e = .returned v ∧ Below w.heap.size w w' ∧ ∀ g' : Gh, (∀ b, w.heap.size ≤ b → b < w'.heap.size → g'.I true b) → Rep g' w' r v
abbrev CellIO := Nat × Nat × List PV
abbrev FunIO := List PV → List CellIO → Option (PV × List CellIO)
def addN (J : Bool → Nat → Prop) (M : Nat → Prop) : Bool → Nat → Prop := fun k b => J k b ∨ (k = true ∧ M b)
def ghIO (J : Bool → Nat → Prop) (β κ : Nat → Nat) (m : Nat) : Gh := { I := J, β := β, κ := κ, nx := m }
structure ObjsIO (J : Bool → Nat → Prop) (w : World) (β κ : Nat → Nat) (cs : List CellIO) : Prop where
  lt : ∀ o, o < cs.length → β o < w.heap.size ∧ ∀ k, ¬ J k (β o)
  inj : ∀ o o', o < cs.length → o' < cs.length → β o = β o' → o = o'
  at_ : ∀ o c, cs[o]? = some c → ObjAt (ghIO J β κ cs.length) w o c
def SoundIO (P : Program) (f : Nat) (Φ : FunIO) : Prop :=
  ∀ (w : World) (J : Bool → Nat → Prop) (β κ : Nat → Nat) (ps : List PV) (cs : List CellIO) (args : Array Value) (r : PV) (cs' : List CellIO),
    Φ ps cs = some (r, cs') → (∀ k b, J k b → b < w.heap.size) → ObjsIO J w β κ cs → TabF w (fun b => ∃ o, o < cs.length ∧ b = β o) → RepL (ghIO J β κ cs.length) w ps args.toList →
    Calls P f args w fun e w' => ∃ v β' κ' M, e = .returned v ∧ Fr (fun b => ∃ o, o < cs.length ∧ b = β o) w w' ∧ cs.length ≤ cs'.length ∧
      (∀ o, o < cs.length → β' o = β o ∧ κ' o = κ o) ∧ (∀ o, cs.length ≤ o → o < cs'.length → w.heap.size ≤ β' o) ∧ (∀ b, M b → w.heap.size ≤ b ∧ b < w'.heap.size) ∧
      ObjsIO (addN J M) w' β' κ' cs' ∧ Rep (ghIO (addN J M) β' κ' cs'.length) w' r v
structure Ctx where
  fn : Nat → Option Fun
  io : Nat → Option FunIO
instance : CoeFun Ctx (fun _ => Nat → Option Fun) := ⟨Ctx.fn⟩
def renF (nm : Nat → Option Nat) : Nat → PV → Option PV
  | 0, _ => none
  | n + 1, p => match p with
    | .val v => some (.val v)
    | .dead => some .dead
    | .lst k sz es => (es.mapM (renF nm n)).map (.lst k sz)
    | .ptr k e o => (renF nm n e).map (.ptr k · o)
    | .own o sz i f => (nm o).map fun o' => .own o' sz i f
    | .row o sz i m => (nm o).map fun o' => .row o' sz i m
    | .agg cs => (cs.mapM (renF nm n)).map .agg
    | .tup cs => (cs.mapM (renF nm n)).map .tup
theorem Rep.ren {nm : Nat → Option Nat} {g g' : Gh} {w : World} (hI : ∀ k b, g.I k b → g'.I k b) (ho : ∀ o o', g.D o → nm o = some o' → g'.β o' = g.β o ∧ g'.κ o' = g.κ o ∧ g'.D o') :
    ∀ (f : Nat) (p q : PV) (v : Value), Rep g w p v → renF nm f p = some q → Rep g' w q v
  | 0, p, q, v, h, hr => by simp [renF] at hr
  | f + 1, p, q, v, h, hr => by
    cases p with
    | val u => simp only [renF, Option.some.injEq] at hr; subst hr; simpa [Rep] using h
    | dead => simp only [renF, Option.some.injEq] at hr; subst hr; simp [Rep]
    | lst k sz es =>
      simp only [renF, Option.map_eq_some_iff] at hr
      obtain ⟨es', h1, rfl⟩ := hr
      have hl := (mapM_get h1).1
      simp only [Rep] at h ⊢
      obtain ⟨a, cap, rfl, h2, h3, h4⟩ := h
      refine ⟨a, cap, by rw [hl], by omega, h3, ?_⟩
      rcases h4 with rfl | ⟨b, off, rfl, h5, h6⟩
      · left; exact List.eq_nil_of_length_eq_zero (by simpa using hl)
      · right
        exact ⟨b, off, rfl, hI _ _ h5, RepEs.conv (Rep.ren hI ho f) h6 h1⟩
    | ptr k e o =>
      simp only [renF, Option.map_eq_some_iff] at hr
      obtain ⟨e', h1, rfl⟩ := hr
      simp only [Rep] at h ⊢
      obtain ⟨b, off, rfl, h2, u, h3, h4⟩ := h
      exact ⟨b, off, rfl, hI _ _ h2, u, Rep.ren hI ho f e e' u h3 h1, h4⟩
    | own o sz i c =>
      simp only [renF, Option.map_eq_some_iff] at hr
      obtain ⟨o', hm, rfl⟩ := hr
      simp only [Rep] at h ⊢
      obtain ⟨e1, _, e3⟩ := ho o o' h.2 hm
      exact ⟨by rw [e1]; exact h.1, e3⟩
    | row o sz i m =>
      simp only [renF, Option.map_eq_some_iff] at hr
      obtain ⟨o', hm, rfl⟩ := hr
      simp only [Rep] at h ⊢
      obtain ⟨c, h1, h2, h3, h4, h5⟩ := h
      obtain ⟨e1, e2, e3⟩ := ho o o' h5 hm
      exact ⟨c, by rw [e1]; exact h1, h2, h3, by rw [e2]; exact h4, e3⟩
    | agg cs =>
      simp only [renF, Option.map_eq_some_iff] at hr
      obtain ⟨cs', h1, rfl⟩ := hr
      simp only [Rep] at h ⊢
      obtain ⟨vs, rfl, h2⟩ := h
      exact ⟨vs, rfl, RepL.conv (Rep.ren hI ho f) h2 h1⟩
    | tup cs =>
      simp only [renF, Option.map_eq_some_iff] at hr
      obtain ⟨cs', h1, rfl⟩ := hr
      simp only [Rep] at h ⊢
      obtain ⟨vs, rfl, h2⟩ := h
      exact ⟨vs, rfl, RepL.conv (Rep.ren hI ho f) h2 h1⟩
def renC (nm : Nat → Option Nat) (f : Nat) (c : CellIO) : Option CellIO := (c.2.2.mapM (renF nm f)).map fun es => (c.1, c.2.1, es)
def refsOf : PV → List Nat
  | .own o _ _ _ => [o]
  | .row o _ _ _ => [o]
  | .agg cs => cs.flatMap fun c => match c with
    | .own o _ _ _ => [o]
    | .row o _ _ _ => [o]
    | _ => []
  | _ => []
def dedup : List Nat → List Nat
  | [] => []
  | o :: l => o :: (dedup l).filter (fun x => !(x == o))
theorem dedup_nodup : ∀ (l : List Nat), (dedup l).Nodup
  | [] => by simp [dedup]
  | o :: l => by
    simp only [dedup, List.nodup_cons]
    exact ⟨by simp, (dedup_nodup l).filter _⟩
def inn (os : List Nat) (o : Nat) : Option Nat := if o ∈ os then some (os.idxOf o) else none
def outn (os : List Nat) (nx i : Nat) : Nat := if i < os.length then os.getD i 0 else nx + (i - os.length)
def putObs (ob : Objs) : List (Nat × CellIO) → Objs
  | [] => ob
  | p :: l => putObs (upd ob p.1 (some p.2)) l
end Go.Proofs.Ytngcedklbinhjaa
namespace Go.Proofs.Ytngcedklbinhjaa
open Go.RowKit
set_option linter.all false
def isByteSlice (P : Program) (t : Nat) : Bool :=
  match P.underlying t with
  | some (.slice e) => match P.underlying e with
    | some (.int .u8) => true
    | _ => false
  | _ => false
def isStr (P : Program) (t : Nat) : Bool := match P.underlying t with | some .string => true | _ => false
def optI : Option PV → Option (Option Int)
  | none => some none
  | some (.val (.int .i64 i)) => some (some i)
  | _ => none
def okP (sz : Nat) (p : PV) : Bool := match cellsL p with | some cs => cs.length == sz | none => false
def rowEs (P : Program) (t len : Nat) (ps : List (Nat × PV)) : Option (Nat × Nat × List PV) :=
  match tyElem P t with
  | some e => match tySize P e, zeroOf P e with
    | some sz, some _ => if len * sz ≤ 16777216 ∧ len ≤ 9223372036854775807 ∧ ps.map (·.1) = List.range len ∧ (ps.map (·.2)).all (okP sz) then some (e, sz, ps.map (·.2)) else none
    | _, _ => none
  | none => none
def partsOf (ρ : Operand → PV) (ps : Array (Nat × Operand)) : List (Nat × PV) := ps.toList.map fun p => (p.1, ρ p.2)
def fnOf : PV → Option Nat
  | .val (.func (.func f) first captured) => if first.size = 0 ∧ captured.size = 0 then some f else none
  | _ => none
def toValsA : List PV → Option (List Value)
  | [] => some []
  | p :: ps => match toVal p, toValsA ps with
    | some v, some vs => some (v :: vs)
    | _, _ => none
def evLen (P : Program) (t : Nat) : PV → Option PV
  | .lst _ _ es => if (tyElem P t).isSome then some (.val (.int .i64 es.length)) else none
  | .row _ _ _ n => if (tyElem P t).isSome then some (.val (.int .i64 n)) else none
  | _ => none
def fuel : Nat := 8
def evVal (P : Program) (Γ : Ctx) (ob : Objs) (ρ : Operand → PV) (ty : Nat) : Op → Option PV
  | .move x => some (ρ x)
  | .assign x => some (ρ x)
  | .pick c x y => match ρ c with
    | .val (.bool b) => some (if b then ρ x else ρ y)
    | _ => none
  | .build t ps => evBuild P t (partsOf ρ ps)
  | .buildSlice t n ps => match rowEs P t n (partsOf ρ ps) with
    | some (_, sz, es) => some (.lst true sz es)
    | none => none
  | .load t x => match ρ x with
    | .own o sz i f => match ob o with
      | some (_, sz', es) => if sz = sz' then (es[i]?).bind (subP P t f) else none
      | none => none
    | .ptr _ e f => subP P t f e
    | _ => none
  | .nilCheck x => match ρ x with
    | .own o sz i f => some (.own o sz i f)
    | .ptr k e f => some (.ptr k e f)
    | _ => none
  | .binOp b t x y _ => match toVal (ρ x), toVal (ρ y) with
    | some u, some v => (pureRun P (do eqGuard b t x y u v; binOp b t u v)).map .val
    | _, _ => none
  | .unOp u _ x => match toVal (ρ x) with
    | some v => (pureRun P (Op.unary u v)).map .val
    | none => none
  | .convert src dst x =>
    if isByteSlice P src ∧ isStr P dst then ((sliceEs ob 1 (ρ x)).bind byteNs).map fun ns => .val (.string (bytesOf ns))
    else match toVal (ρ x) with
      | some v => (pureRun P (convert src dst v)).map .val
      | none => none
  | .slice t x lo hi none => match ρ x with
    | .val (.string s) => match optI (lo.map ρ), optI (hi.map ρ) with
      | some l, some h => (pureRun P (Instr.sliceAt t (.string s) (l.map (Value.int .i64)) (h.map (Value.int .i64)) none)).map .val
      | _, _ => none
    | p => match optI (lo.map ρ), optI (hi.map ρ) with
      | some l, some h => evSlice P t p l h
      | _, _ => none
  | .fieldAddr t x f => match ρ x, fieldOff P t f with
    | .own o sz i c, some k => some (.own o sz i (c + k))
    | .ptr b e c, some k => some (.ptr b e (c + k))
    | _, _ => none
  | .indexAddr t x i => match asI (ρ i) with
    | some n => evIndexAddr P t (ρ x) n
    | none => none
  | .index t x i => match toVal (ρ x), toVal (ρ i) with
    | some u, some v => (pureRun P (Instr.index t u v)).map .val
    | _, _ => none
  | .extract x i => match ρ x with
    | .tup vs => vs[i]?
    | _ => none
  | .call c => match c.callee with
    | .value x => match fnOf (ρ x) with
      | some f => match Γ f, (c.args.toList.map ρ).mapM (reify false 0 ob fuel) with
        | some φ, some ps => φ ps
        | _, _ => none
      | none => none
    | .builtin .len => match c.args.toList, c.argTypes.toList with
      | [x], [t] => match evLen P t (ρ x) with
        | some p => some p
        | none => match toVal (ρ x) with
          | some v => ((pureRun P (Builtin.len_ #[t] ty #[v]))).map .val
          | none => none
      | _, _ => none
    | .builtin .max => match toValsA (c.args.toList.map ρ) with
      | some vs => (pureRun P (Builtin.max_ c.argTypes ty vs.toArray)).map .val
      | none => none
    | .builtin .min => match toValsA (c.args.toList.map ρ) with
      | some vs => (pureRun P (Builtin.min_ c.argTypes ty vs.toArray)).map .val
      | none => none
    | _ => none
  | _ => none
def Fnd (P : Program) (f : Nat) : Prop := ∃ fn, P.funcs[f]? = some fn ∧ (fn.name == "runtime.NumGoroutine") = false ∧ fn.body.isNone = false
def SoundΓ (P : Program) (Γ : Ctx) : Prop := (∀ f φ, Γ.fn f = some φ → Fnd P f ∧ Sound P f φ) ∧ ∀ f Φ, Γ.io f = some Φ → Fnd P f ∧ SoundIO P f Φ
def look (tm : Nat → PV) : Operand → PV
  | .tmp t => tm t
  | .const v => .val v
  | .global b => .val (.pointer (some ⟨b, 0, none⟩))
  | .func f => .val (.func (.func f) #[] #[])
section
variable {P : Program} {Γ : Ctx} {io : IoS} {w0 : World} {N : Nat} {g : Gh} {s : AS} {a : Act} {w : World} {o : Oper} {p : PV}
theorem Rel.look (h : Rel io w0 N g s a w) (x : Operand) : Rep g w (look s.tm x) (a.eval x) := by
  cases x with
  | tmp t => exact h.tm t
  | const v => simp [Proofs.Ytngcedklbinhjaa.look, Act.eval, Rep]
  | global b => simp [Proofs.Ytngcedklbinhjaa.look, Act.eval, Rep]
  | func f => simp [Proofs.Ytngcedklbinhjaa.look, Act.eval, Rep]
def Yld (P : Program) (o : Oper) (a : Act) (w : World) (g : Gh) (p : PV) : Prop :=
  ∀ (K : Act → World → Prop) (Q : Exit → Act → World → Prop), (∀ v w', Below w.heap.size w w' → Rep (g.more w.heap.size w'.heap.size) w' p v → K (a.put o.dst v) w') → o.wp P a w K Q
theorem Yld.run {v : Value} (h : (execOp a.eval o).run P w = .ok (.value v) w) (hr : Rep g w p v) : Yld P o a w g p := fun K Q hk => by
  unfold Oper.wp
  rw [h, Oper.upon_value]
  exact hk v w (Below.refl _ _) (hr.mono (Gh.le_more _ _ _) (fun _ _ _ => rfl))
theorem toValsA_rep : ∀ {ps : List PV} {vs us : List Value}, RepL g w ps vs → toValsA ps = some us → vs = us
  | [], vs, us, h, ht => by simp only [RepL] at h; simp only [toValsA, Option.some.injEq] at ht; rw [h, ht]
  | p :: ps, vs, us, h, ht => by
    simp only [RepL] at h
    obtain ⟨v, vs', rfl, h1, h2⟩ := h
    simp only [toValsA] at ht
    split at ht
    · rename_i u us' h3 h4
      cases ht
      rw [toVal_rep h1 h3, toValsA_rep h2 h4]
    · cases ht
theorem Rel.looks (h : Rel io w0 N g s a w) : ∀ (xs : List Operand), RepL g w (xs.map (Proofs.Ytngcedklbinhjaa.look s.tm)) (xs.map a.eval)
  | [] => by simp [RepL]
  | x :: xs => by simp only [List.map_cons, RepL]; exact ⟨_, _, rfl, h.look x, h.looks xs⟩
theorem Rel.parts (h : Rel io w0 N g s a w) (ps : Array (Nat × Operand)) : RepPs g w (partsOf (Proofs.Ytngcedklbinhjaa.look s.tm) ps) (ps.map fun (i, x) => (i, a.eval x)).toList := by
  unfold partsOf
  rw [Array.toList_map]
  induction ps.toList with
  | nil => simp [RepPs]
  | cons q qs ih => simp only [List.map_cons, RepPs]; exact ⟨_, _, rfl, h.look q.2, ih⟩
theorem fill_row {sz : Nat} : ∀ (es : List PV) (m : Nat) (ps : List (Nat × PV)) (vs : List (Nat × Value)) (cells : Array Value),
    ps.map (·.2) = es → ps.map (·.1) = (List.range' m es.length) → RepPs g w ps vs → (∀ e ∈ es, ∃ cs, cellsL e = some cs ∧ cs.length = sz) → (m + es.length) * sz ≤ cells.size →
    ∃ cells', Instr.fill (fun i => some (i * sz, sz)) cells vs = some cells' ∧ cells'.size = cells.size ∧ (∀ i, i < m * sz → cells'[i]? = cells[i]?) ∧
      ∀ (i : Nat) e, es[i]? = some e → ∃ u, Rep g w e u ∧ u.cells.all (·.oneCell') = true ∧ u.cells.size = sz ∧ ∀ j, j < sz → cells'[(m + i) * sz + j]? = u.cells[j]?
  | [], m, ps, vs, cells, h1, h2, h3, h4, h5 => by
    have : ps = [] := by simpa using h1
    subst this
    simp only [RepPs] at h3
    subst h3
    exact ⟨cells, by simp [Instr.fill], rfl, fun _ _ => rfl, fun i e he => by simp at he⟩
  | e :: es, m, [], vs, cells, h1, h2, h3, h4, h5 => by simp at h1
  | e :: es, m, q :: ps, vs, cells, h1, h2, h3, h4, h5 => by
    simp only [List.map_cons, List.cons.injEq] at h1
    obtain ⟨hq2, h1⟩ := h1
    simp only [List.map_cons, List.length_cons, List.range'_succ, List.cons.injEq] at h2
    obtain ⟨hq1, h2⟩ := h2
    simp only [RepPs] at h3
    obtain ⟨v, vs', rfl, hv, h3⟩ := h3
    obtain ⟨cs, hc1, hc2⟩ := h4 e (by simp)
    rw [hq2] at hv
    obtain ⟨hv1, hv2, hv3⟩ := cellsL_rep hv hc1
    simp only [List.length_cons] at h5
    have hmul : (m + (es.length + 1)) * sz = m * sz + sz + es.length * sz := by simp only [Nat.add_mul, Nat.one_mul]; omega
    have hfold := zipIdx_foldl (m * sz) v.cells.toList 0 cells (by simp; omega)
    have hst : (v.cells.zipIdx.foldl (fun cs (x : Value × Nat) => cs.setIfInBounds (m * sz + x.2) x.1) cells).toList = setL cells.toList (m * sz) v.cells.toList := by
      rw [← Array.foldl_toList, Array.toList_zipIdx]
      simpa [setL] using hfold
    generalize hC : v.cells.zipIdx.foldl (fun cs (x : Value × Nat) => cs.setIfInBounds (m * sz + x.2) x.1) cells = C at hst
    have hsz : C.size = cells.size := by
      have := congrArg List.length hst
      simp only [setL, Array.length_toList, List.length_append, List.length_take, List.length_drop] at this
      omega
    have hCget : ∀ i, C[i]? = if m * sz ≤ i ∧ i < m * sz + sz then v.cells[i - m * sz]? else cells[i]? := by
      intro i
      have e0 : C[i]? = C.toList[i]? := by simp
      rw [e0, hst]
      unfold setL
      have hl1 : (cells.toList.take (m * sz)).length = m * sz := by simp; omega
      by_cases c1 : i < m * sz
      · rw [if_neg (by omega), List.append_assoc, List.getElem?_append_left (by omega)]
        simp [c1]
      · by_cases c2 : i < m * sz + sz
        · rw [if_pos (by omega), List.append_assoc, List.getElem?_append_right (by omega), hl1, List.getElem?_append_left (by simp; omega)]
          simp
        · rw [if_neg (by omega), List.getElem?_append_right (by simp; omega)]
          simp only [List.length_append, hl1, Array.length_toList, List.getElem?_drop]
          rw [show m * sz + v.cells.size + (i - (m * sz + v.cells.size)) = i by omega]
          simp
    obtain ⟨cells', g1, g2, g3, g4⟩ := fill_row es (m + 1) ps vs' C h1 h2 h3 (fun x hx => h4 x (by simp [hx])) (by rw [hsz, Nat.add_mul, Nat.add_mul]; omega)
    refine ⟨cells', ?_, by rw [g2, hsz], ?_, ?_⟩
    · simp only [Instr.fill, hq1]
      rw [if_neg (by simp; omega), hC]
      exact g1
    · intro i hi
      rw [g3 i (by rw [Nat.add_mul]; omega), hCget, if_neg (by omega)]
    · intro i x hx
      cases i with
      | zero =>
        simp only [List.getElem?_cons_zero, Option.some.injEq] at hx
        subst hx
        refine ⟨v, hv, hv1, by omega, fun j hj => ?_⟩
        rw [Nat.add_zero, g3 _ (by rw [Nat.add_mul]; omega), hCget, if_pos (by omega)]
        congr 1
        omega
      | succ i =>
        simp only [List.getElem?_cons_succ] at hx
        obtain ⟨u, k1, k2, k3, k4⟩ := g4 i x hx
        exact ⟨u, k1, k2, k3, fun j hj => by rw [show (m + (i + 1)) = (m + 1 + i) by omega]; exact k4 j hj⟩
theorem repEs_new {es : List PV} {arr : Array Value} {T sz : Nat} {g' : Gh} (hle : g.le g')
    (h : ∀ (i : Nat) e, es[i]? = some e → ∃ u, Rep g w e u ∧ u.cells.all (·.oneCell') = true ∧ u.cells.size = sz ∧ ∀ j, j < sz → arr[i * sz + j]? = u.cells[j]?)
    (hlt : ∀ k b, g.I k b → b < w.heap.size) : RepEs g' (w.alloc (.cells arr T)) sz es w.heap.size 0 := by
  refine RepEs.of fun i e he => ?_
  obtain ⟨u, h1, h2, h3, h4⟩ := h i e he
  refine ⟨u, h1.mono hle (fun k b hb => Below.heap_alloc _ _ _ (hlt k b hb)), ⟨h2, fun j hj => ?_⟩, h3⟩
  have := heap_alloc_new w (.cells arr T)
  simp only [World.cell?, this, Nat.zero_add]
  simpa using h4 j (by omega)
theorem rowEs_len {t n e sz : Nat} {es : List PV} {ps : List (Nat × PV)} (h : rowEs P t n ps = some (e, sz, es)) : n ≤ 9223372036854775807 := by
  unfold rowEs at h
  split at h
  · split at h
    · split at h
      · rename_i hc; exact hc.2.1
      · cases h
    · cases h
  · cases h
theorem run_buildSlice {t n e sz : Nat} {es : List PV} {ps : List (Nat × PV)} {vs : Array (Nat × Value)} (h : rowEs P t n ps = some (e, sz, es)) (hp : RepPs g w ps vs.toList) :
    es.length = n ∧ ∃ arr : Array Value, arr.size = n * sz ∧ (Instr.buildSlice t n vs).run P w = .ok (.slice (some ⟨w.heap.size, 0, none⟩) n n) (w.alloc (.cells arr e)) ∧
      ∀ (i : Nat) x, es[i]? = some x → ∃ u, Rep g w x u ∧ u.cells.all (·.oneCell') = true ∧ u.cells.size = sz ∧ ∀ j, j < sz → arr[i * sz + j]? = u.cells[j]? := by
  unfold rowEs at h
  split at h
  · rename_i e' he
    split at h
    · rename_i sz' z hs hz
      split at h
      case isFalse => cases h
      case isTrue hc =>
        obtain ⟨c1, c0, c2, c3⟩ := hc
        cases h
        have hlen : (ps.map (·.2)).length = n := by
          have := congrArg List.length c2
          simpa using this
        refine ⟨hlen, ?_⟩
        obtain ⟨cells', g1, g2, g3, g4⟩ := fill_row (g := g) (w := w) (ps.map (·.2)) 0 ps vs.toList ((Array.range (n * sz)).map ((if n * sz = 0 then (#[] : Array Value) else z.cells)[· % (if n * sz = 0 then (#[] : Array Value) else z.cells).size]!)) rfl
          (by rw [c2, hlen, List.range_eq_range']) hp
          (fun x hx => by
            rw [List.all_eq_true] at c3
            have := c3 x hx
            unfold okP at this
            split at this
            · rename_i cs hcs
              exact ⟨cs, hcs, by simpa using this⟩
            · cases this)
          (by rw [hlen]; simp)
        refine ⟨cells', by rw [g2]; simp, ?_, fun i x hx => by simpa using g4 i x hx⟩
        unfold tyElem at he
        split at he
        · rename_i e'' hu
          cases he
          by_cases h0 : n * sz = 0
          · simp only [h0, if_true] at g1
            simp [Instr.buildSlice, Sem.run_bind, run_underlying hu w, run_size hs w, h0, newRow] at g1 ⊢
            simp [g1]
          · simp only [h0, if_false] at g1
            have hnl : ¬ 16777216 < n * sz := by omega
            simp [Instr.buildSlice, Sem.run_bind, run_underlying hu w, run_size hs w, run_zero hz w, h0, hnl, newRow]
            simp [g1]
        · cases he
    · cases h
  · cases h
end
end Go.Proofs.Ytngcedklbinhjaa
namespace Go.Proofs.Ytngcedklbinhjaa
open Go.RowKit
set_option linter.all false
section
variable {P : Program} {Γ : Ctx} {io : IoS} {w0 : World} {N : Nat} {g : Gh} {s : AS} {a : Act} {w : World} {o : Oper} {p : PV}
theorem sliceEs_rep (h : Rel io w0 N g s a w) {sz : Nat} {x : PV} {es : List PV} {v : Value} (hx : Rep g w x v) (he : sliceEs s.ob sz x = some es) :
    ∃ ad cap, v = .slice ad es.length cap ∧ es.length ≤ cap ∧ (es = [] ∨ ∃ b off, ad = some ⟨b, off, none⟩ ∧ RepEs g w sz es b off) := by
  unfold sliceEs at he
  split at he
  · split at he
    case isFalse => cases he
    case isTrue hs =>
      cases he
      subst hs
      simp only [Rep] at hx
      obtain ⟨ad, cap, h1, h2, h3, h4⟩ := hx
      refine ⟨ad, cap, h1, h2, h4.imp id ?_⟩
      rintro ⟨b, off, h5, h6, h7⟩
      exact ⟨b, off, h5, h7⟩
  · rename_i ob sz' i n
    split at he
    · rename_i T sz'' es0 ho
      split at he
      case isFalse => cases he
      case isTrue hs =>
        obtain ⟨rfl, rfl, hle⟩ := hs
        cases he
        simp only [Rep] at hx
        obtain ⟨c, rfl, h2, h3, h4, h5⟩ := hx
        have hl : ((es0.drop i).take n).length = n := by simp; omega
        refine ⟨_, c, by rw [hl], by omega, .inr ⟨_, _, rfl, ?_⟩⟩
        have := ((h.ob ob _ ho).2.2.2.2.2.drop i).take n
        simpa using this
    · cases he
  · simp only [Option.some.injEq] at he
    subst he
    simp only [Rep] at hx
    subst hx
    exact ⟨none, 0, rfl, Nat.le_refl _, .inl rfl⟩
  · cases he
theorem byteNs_rep : ∀ {es : List PV} {ns : List Int} {b off : Nat}, RepEs g w 1 es b off → byteNs es = some ns → es.length = ns.length ∧ ∀ (j : Nat) v, (ns.map (Value.int .u8))[j]? = some v → w.cell? ⟨b, off + j, none⟩ = some v
  | [], ns, b, off, h, hn => by simp only [byteNs, Option.some.injEq] at hn; subst hn; simp
  | e :: es, ns, b, off, h, hn => by
    simp only [RepEs] at h
    obtain ⟨⟨u, h1, h2, h3⟩, h4⟩ := h
    have key : ∃ n ns', ns = n :: ns' ∧ e = .val (.int .u8 n) ∧ byteNs es = some ns' := by
      cases e with
      | val v =>
        cases v with
        | int k n =>
          cases k <;> first
            | (simp [byteNs] at hn; done)
            | (simp only [byteNs, Option.map_eq_some_iff] at hn; obtain ⟨a, ha, rfl⟩ := hn; exact ⟨n, a, rfl, rfl, ha⟩)
        | _ => simp [byteNs] at hn
      | _ => simp [byteNs] at hn
    obtain ⟨n, ns', rfl, rfl, h5⟩ := key
    have ih := byteNs_rep h4 h5
    simp only [Rep] at h1
    subst h1
    refine ⟨by simp [ih.1], fun j v hv => ?_⟩
    cases j with
    | zero =>
      have := h2.2 0 (by simp [Value.cells])
      simp only [List.map_cons, List.getElem?_cons_zero, Option.some.injEq] at hv
      subst hv
      simpa [Value.cells] using this
    | succ j =>
      simp only [List.map_cons, List.getElem?_cons_succ] at hv
      have := ih.2 j v hv
      rw [show off + (j + 1) = off + 1 + j by omega]
      exact this
theorem run_toString {src dst : Nat} (h : Rel io w0 N g s a w) {x : PV} {v : Value} {ns : List Int} {es : List PV} (hx : Rep g w x v) (h1 : isByteSlice P src = true) (h2 : isStr P dst = true)
    (he : sliceEs s.ob 1 x = some es) (hn : byteNs es = some ns) : (convert src dst v).run P w = .ok (.string (bytesOf ns)) w := by
  obtain ⟨ad, cap, rfl, h3, h4⟩ := sliceEs_rep h hx he
  unfold isByteSlice at h1
  split at h1
  · rename_i e hu
    split at h1
    · rename_i hue
      unfold isStr at h2
      split at h2
      · rename_i hd
        rw [run_convert_bytes_string w src dst e ad _ cap hu hue hd]
        rcases h4 with rfl | ⟨b, off, rfl, h5⟩
        · simp only [byteNs, Option.some.injEq] at hn
          subst hn
          cases ad with
          | none => simp [Conv.bytesToString, bytesOf]
          | some ad =>
            have := run_bytesToString (P := P) w ad 0 cap [] (by simp [loadCells, loadCellsFrom])
            simpa [bytesOf] using this
        · have hb := byteNs_rep h5 hn
          have hl := run_loadCells_list (P := P) w ⟨b, off, none⟩ (ns.map (Value.int .u8)) (fun j v hv => by rw [Addr.add_mid]; exact hb.2 j v hv)
          rw [List.length_map, ← hb.1] at hl
          exact run_bytesToString w _ _ cap ns hl
      · cases h2
    · cases h1
  · cases h1
theorem Yld.call (h : Rel io w0 N g s a w) (hΓ : SoundΓ P Γ) {c : Call} {x : Operand} (ho : o.op = .call c) (hc : c.callee = .value x) {f : Nat} (hf : fnOf (look s.tm x) = some f) {φ : Fun} (hφ : Γ f = some φ)
    {ps : List PV} (hps : (c.args.toList.map (look s.tm)).mapM (reify false 0 s.ob fuel) = some ps) (hr : φ ps = some p) : Yld P o a w g p := fun K Q hk => by
  have hx := h.look x
  obtain ⟨⟨fn, hfn, hname, hbody⟩, hsound⟩ := hΓ.1 f φ hφ
  have hv : a.eval x = .func (.func f) #[] #[] := by
    unfold fnOf at hf
    split at hf
    · rename_i f' first captured hl
      split at hf
      case isFalse => cases hf
      case isTrue hz =>
        cases hf
        rw [hl] at hx
        simp only [Rep] at hx
        rw [hx, Array.eq_empty_of_size_eq_zero hz.1, Array.eq_empty_of_size_eq_zero hz.2]
    · cases hf
  have hrun : (execOp a.eval o).run P w = .ok (.enter f (c.args.map a.eval)) w := by
    unfold execOp
    simp only [ho, resolve, hc, hv, Deferred.ofValue, Sem.run_bind, Sem.run_pure, Result.andThen_ok, invoke, callFunc, run_program, hfn]
    simp [hname, hbody]
  unfold Oper.wp
  rw [hrun, Oper.upon_enter]
  let J : Nat → Prop := fun b => (∃ k, g.I k b) ∨ ∃ o, (s.ob o).isSome ∧ b = g.β o
  have hseen : Seen false 0 g s (argG J) := ⟨fun _ => ⟨fun k b hb => ⟨rfl, .inl ⟨k, hb⟩⟩, fun o ho => ⟨rfl, .inr ⟨o, ho, rfl⟩⟩⟩, fun hh => by cases hh⟩
  have hargs : RepL (argG J) w ps (c.args.map a.eval).toList := by
    rw [Array.toList_map]
    exact RepL.conv (Rep.seen (fun o c hoc => (h.ob o c hoc).2.2.2) hseen fuel) (h.looks _) hps
  refine (hsound w J ps _ p hr ?_ (h.tab.keep h.fr fun _ _ q => q) hargs).mono ?_
  · rintro b (⟨k', hb⟩ | ⟨o', ho', rfl⟩)
    · exact h.lt k' b hb
    · obtain ⟨c', hc'⟩ := Option.isSome_iff_exists.1 ho'
      obtain ⟨arr, harr, _⟩ := (h.ob o' c' hc').2.2.2.1
      exact lt_of_heap harr
  · rintro e w' ⟨v, rfl, hb, hrep⟩
    exact hk v w' hb (hrep _ fun b h1 h2 => .inr ⟨rfl, h1, h2⟩)
set_option maxHeartbeats 1000000 in
theorem evVal_ok (h : Rel io w0 N g s a w) (hΓ : SoundΓ P Γ) (hv : evVal P Γ s.ob (look s.tm) o.type o.op = some p) : Yld P o a w g p := by
  cases ho : o.op with
  | move x =>
    simp only [ho, evVal, Option.some.injEq] at hv
    subst hv
    exact Yld.run (v := a.eval x) (by simp [execOp, ho]) (h.look x)
  | assign x =>
    simp only [ho, evVal, Option.some.injEq] at hv
    subst hv
    exact Yld.run (v := a.eval x) (by simp [execOp, ho]) (h.look x)
  | pick c x y =>
    simp only [ho, evVal] at hv
    split at hv
    · rename_i b hb
      simp only [Option.some.injEq] at hv
      subst hv
      have hc := h.look c
      rw [hb] at hc
      simp only [Rep] at hc
      refine Yld.run (v := if b then a.eval x else a.eval y) (by simp [execOp, ho, hc, asBool]) ?_
      cases b
      · exact h.look y
      · exact h.look x
    · cases hv
  | build t ps =>
    simp only [ho, evVal] at hv
    obtain ⟨v, h1, h2⟩ := run_build (w := w) (h.parts ps) hv
    exact Yld.run (v := v) (by simp [execOp, ho, h1]) h2
  | buildSlice t n ps =>
    simp only [ho, evVal] at hv
    split at hv
    · rename_i e sz es h1
      simp only [Option.some.injEq] at hv
      subst hv
      obtain ⟨hl, arr, h2, h3, h4⟩ := run_buildSlice (w := w) h1 (h.parts ps)
      have hsz := rowEs_len h1
      intro K Q hk
      unfold Oper.wp
      have hrun : (execOp a.eval o).run P w = .ok (.value (.slice (some ⟨w.heap.size, 0, none⟩) n n)) (w.alloc (.cells arr e)) := by
        simp [execOp, ho, h3]
      rw [hrun, Oper.upon_value]
      refine hk _ _ ((Below.refl _ _).alloc (Nat.le_refl _) _) ?_
      simp only [Rep]
      refine ⟨_, n, by rw [hl], by omega, hsz, .inr ⟨w.heap.size, 0, rfl, .inr ⟨rfl, Nat.le_refl _, by simp⟩, ?_⟩⟩
      exact repEs_new (Gh.le_more _ _ _) h4 h.lt
    · cases hv
  | load t x =>
    simp only [ho, evVal] at hv
    have hx := h.look x
    split at hv
    · rename_i ob sz i f hl
      rw [hl] at hx
      split at hv
      · rename_i T sz' es hob
        split at hv
        case isFalse => cases hv
        case isTrue hs =>
          subst hs
          simp only [Option.bind_eq_some_iff] at hv
          obtain ⟨e, he, hsub⟩ := hv
          simp only [Rep] at hx
          obtain ⟨hx, _⟩ := hx
          obtain ⟨u, h1, h2, h3⟩ := (h.ob ob _ hob).2.2.2.2.2.get he
          obtain ⟨v, h4, h5⟩ := run_loadAt_sub h1 h2 hsub
          rw [Nat.zero_add] at h4
          exact Yld.run (v := v) (by simp [execOp, ho, hx, h4]) h5
      · cases hv
    · rename_i k e f hl
      rw [hl] at hx
      simp only [Rep] at hx
      obtain ⟨b, off, hx, _, u, h1, h2⟩ := hx
      obtain ⟨v, h4, h5⟩ := run_loadAt_sub h1 h2 hv
      exact Yld.run (v := v) (by simp [execOp, ho, hx, h4]) h5
    · cases hv
  | nilCheck x =>
    simp only [ho, evVal] at hv
    have hx := h.look x
    split at hv
    · rename_i ob sz i f hl
      simp only [Option.some.injEq] at hv
      subst hv
      rw [hl] at hx
      have hx' := hx
      simp only [Rep] at hx'
      exact Yld.run (v := a.eval x) (by simp [execOp, ho, hx'.1]) hx
    · rename_i k e f hl
      simp only [Option.some.injEq] at hv
      subst hv
      rw [hl] at hx
      have hx' := hx
      simp only [Rep] at hx'
      obtain ⟨b, off, hx', _⟩ := hx'
      exact Yld.run (v := a.eval x) (by simp [execOp, ho, hx']) hx
    · cases hv
  | binOp b t x y t' =>
    simp only [ho, evVal] at hv
    split at hv
    · rename_i u v h1 h2
      simp only [Option.map_eq_some_iff] at hv
      obtain ⟨z, h3, rfl⟩ := hv
      have e1 := toVal_rep (h.look x) h1
      have e2 := toVal_rep (h.look y) h2
      have h4 := pureRun_run h3 w
      have h5 : execOp a.eval o = ((do eqGuard b t x y u v; binOp b t u v) >>= fun z => pure (.value z)) := by simp only [execOp, ho, e1, e2]
      exact Yld.run (v := z) (by rw [h5, Sem.run_bind, h4]; rfl) (by simp [Rep])
    · cases hv
  | unOp u t x =>
    simp only [ho, evVal] at hv
    split at hv
    · rename_i v h1
      simp only [Option.map_eq_some_iff] at hv
      obtain ⟨z, h3, rfl⟩ := hv
      have e1 := toVal_rep (h.look x) h1
      exact Yld.run (v := z) (by simp [execOp, ho, e1, pureRun_run h3 w]) (by simp [Rep])
    · cases hv
  | convert src dst x =>
    simp only [ho, evVal] at hv
    split at hv
    · rename_i hc
      simp only [Option.map_eq_some_iff, Option.bind_eq_some_iff] at hv
      obtain ⟨ns, ⟨es, h1, h2⟩, rfl⟩ := hv
      exact Yld.run (v := .string (bytesOf ns)) (by simp [execOp, ho, run_toString h (h.look x) hc.1 hc.2 h1 h2]) (by simp [Rep])
    · split at hv
      · rename_i v h1
        simp only [Option.map_eq_some_iff] at hv
        obtain ⟨z, h3, rfl⟩ := hv
        have e1 := toVal_rep (h.look x) h1
        exact Yld.run (v := z) (by simp [execOp, ho, e1, pureRun_run h3 w]) (by simp [Rep])
      · cases hv
  | slice t x lo hi mx =>
    cases mx with
    | some m => simp [ho, evVal] at hv
    | none =>
      have hopt : ∀ (q : Option Operand) (i : Option Int), optI (q.map (look s.tm)) = some i → q.map a.eval = i.map (Value.int .i64) := by
        intro q i hq
        cases q with
        | none => simp only [optI, Option.map_none, Option.some.injEq] at hq; subst hq; rfl
        | some y =>
          have hy := h.look y
          simp only [Option.map_some] at hq ⊢
          unfold optI at hq
          split at hq
          · rename_i heq; cases heq
          · rename_i n heq
            cases hq
            simp only [Option.some.injEq] at heq
            rw [heq] at hy
            simp only [Rep] at hy
            simp [hy]
          · cases hq
      simp only [ho, evVal] at hv
      split at hv
      · rename_i st hl
        split at hv
        · rename_i l hh h1 h2
          have e1 := hopt _ _ h1
          have e2 := hopt _ _ h2
          have hx := h.look x
          rw [hl] at hx
          simp only [Rep] at hx
          simp only [Option.map_eq_some_iff] at hv
          obtain ⟨z, h4, rfl⟩ := hv
          exact Yld.run (v := z) (by simp only [execOp, ho, e1, e2, hx, Option.map_none]; rw [Sem.run_bind, pureRun_run h4 w]; rfl) (by simp [Rep])
        · cases hv
      · split at hv
        · rename_i l hh h1 h2
          have e1 := hopt _ _ h1
          have e2 := hopt _ _ h2
          obtain ⟨u, h3, h4⟩ := run_slice (P := P) (kl := .i64) (kh := .i64) (h.look x) hv
          exact Yld.run (v := u) (by simp only [execOp, ho, e1, e2, Option.map_none]; simp [h3]) h4
        · cases hv
  | fieldAddr t x f =>
    simp only [ho, evVal] at hv
    have hx := h.look x
    split at hv
    · rename_i ob sz i c k hl hk
      simp only [Option.some.injEq] at hv
      subst hv
      rw [hl] at hx
      simp only [Rep] at hx
      have := run_fieldAt hk (g.β ob) (i * sz + c) w
      refine Yld.run (v := .pointer (some ⟨g.β ob, i * sz + c + k, none⟩)) (by simp [execOp, ho, hx.1, this]) ?_
      simp only [Rep]
      exact ⟨by rw [Nat.add_assoc], hx.2⟩
    · rename_i b e c k hl hk
      simp only [Option.some.injEq] at hv
      subst hv
      rw [hl] at hx
      simp only [Rep] at hx
      obtain ⟨bb, off, hx, h1, h2⟩ := hx
      have := run_fieldAt hk bb (off + c) w
      refine Yld.run (v := .pointer (some ⟨bb, off + c + k, none⟩)) (by simp [execOp, ho, hx, this]) ?_
      simp only [Rep]
      exact ⟨bb, off, by rw [Nat.add_assoc], h1, h2⟩
    · cases hv
  | indexAddr t x i =>
    simp only [ho, evVal] at hv
    split at hv
    · rename_i n hn
      have hi := h.look i
      unfold asI at hn
      split at hn
      · rename_i k n' hl
        cases hn
        rw [hl] at hi
        simp only [Rep] at hi
        obtain ⟨u, h1, h2⟩ := run_indexAddr (k := k) (h.look x) hv
        exact Yld.run (v := u) (by simp [execOp, ho, hi, h1]) h2
      · cases hn
    · cases hv
  | index t x i =>
    simp only [ho, evVal] at hv
    split at hv
    · rename_i u v h1 h2
      simp only [Option.map_eq_some_iff] at hv
      obtain ⟨z, h3, rfl⟩ := hv
      have e1 := toVal_rep (h.look x) h1
      have e2 := toVal_rep (h.look i) h2
      exact Yld.run (v := z) (by simp [execOp, ho, e1, e2, pureRun_run h3 w]) (by simp [Rep])
    · cases hv
  | extract x i =>
    simp only [ho, evVal] at hv
    split at hv
    · rename_i vs hl
      have hx := h.look x
      rw [hl] at hx
      simp only [Rep] at hx
      obtain ⟨us, hx, h1⟩ := hx
      obtain ⟨v, h2, h3⟩ := h1.get.2 i p hv
      have h2' : us[i]? = some v := by simpa using h2
      exact Yld.run (v := v) (by simp [execOp, ho, hx, Instr.extract, h2']) h3
    · cases hv
  | call c =>
    simp only [ho, evVal] at hv
    split at hv
    · rename_i x hc
      split at hv
      · rename_i f hf
        split at hv
        · rename_i φ ps h1 h2
          exact Yld.call h hΓ ho hc hf h1 h2 hv
        · cases hv
      · cases hv
    · rename_i hc
      split at hv
      · rename_i x t h1 h2
        have ha : c.args = #[x] := by rw [← Array.toArray_toList (xs := c.args), h1]
        have ht : c.argTypes = #[t] := by rw [← Array.toArray_toList (xs := c.argTypes), h2]
        have hx := h.look x
        have key : ∀ z, (Builtin.len_ #[t] o.type #[a.eval x]).run P w = .ok z w → (execOp a.eval o).run P w = .ok (.value z) w := by
          intro z hz
          simp [execOp, ho, resolve, hc, ha, ht, invoke, builtin, hz]
        split at hv
        · rename_i q hq
          cases hv
          unfold evLen at hq
          split at hq
          · rename_i k sz es hl
            split at hq
            case isFalse => cases hq
            case isTrue hs =>
              cases hq
              rw [hl] at hx
              simp only [Rep] at hx
              obtain ⟨ad, cap, hx, _⟩ := hx
              unfold tyElem at hs
              split at hs
              · rename_i e hu
                exact Yld.run (v := .int .i64 es.length) (key _ (by simp [Builtin.len_, run_underlying hu w, hx, goInt])) (by simp [Rep])
              · cases hs
          · rename_i ob sz i n hl
            split at hq
            case isFalse => cases hq
            case isTrue hs =>
              cases hq
              rw [hl] at hx
              simp only [Rep] at hx
              obtain ⟨cap, hx, _⟩ := hx
              unfold tyElem at hs
              split at hs
              · rename_i e hu
                exact Yld.run (v := .int .i64 n) (key _ (by simp [Builtin.len_, run_underlying hu w, hx, goInt])) (by simp [Rep])
              · cases hs
          · cases hq
        · split at hv
          · rename_i v h3
            simp only [Option.map_eq_some_iff] at hv
            obtain ⟨z, h4, rfl⟩ := hv
            have e1 := toVal_rep hx h3
            exact Yld.run (v := z) (key _ (by rw [e1]; exact pureRun_run h4 w)) (by simp [Rep])
          · cases hv
      · cases hv
    · rename_i hc
      split at hv
      · rename_i vs h1
        simp only [Option.map_eq_some_iff] at hv
        obtain ⟨z, h4, rfl⟩ := hv
        have e1 := toValsA_rep (h.looks c.args.toList) h1
        have e2 : c.args.map a.eval = vs.toArray := by apply Array.ext'; simp [← e1]
        exact Yld.run (v := z) (by simp [execOp, ho, resolve, hc, invoke, builtin, e2, pureRun_run h4 w]) (by simp [Rep])
      · cases hv
    · rename_i hc
      split at hv
      · rename_i vs h1
        simp only [Option.map_eq_some_iff] at hv
        obtain ⟨z, h4, rfl⟩ := hv
        have e1 := toValsA_rep (h.looks c.args.toList) h1
        have e2 : c.args.map a.eval = vs.toArray := by apply Array.ext'; simp [← e1]
        exact Yld.run (v := z) (by simp [execOp, ho, resolve, hc, invoke, builtin, e2, pureRun_run h4 w]) (by simp [Rep])
      · cases hv
    · cases hv
  | _ => simp [ho, evVal] at hv
end
end Go.Proofs.Ytngcedklbinhjaa
namespace Go.Proofs.Ytngcedklbinhjaa
open Go.RowKit
set_option linter.all false
def Lays (g : Gh) (w : World) (arr : Array Value) (sz : Nat) (es : List PV) : Prop :=
  ∀ (i : Nat) e, es[i]? = some e → ∃ u, Rep g w e u ∧ u.cells.all (·.oneCell') = true ∧ u.cells.size = sz ∧ ∀ j, j < sz → arr[i * sz + j]? = u.cells[j]?
def Gh.add (g : Gh) (b k : Nat) : Gh := { g with β := upd g.β g.nx b, κ := upd g.κ g.nx k, nx := g.nx + 1, hole := fun o => g.hole o ∧ o ≠ g.nx }
theorem Gh.D_add {g : Gh} {b k : Nat} : (g.add b k).D g.nx := ⟨Nat.lt_succ_self _, fun h => h.2 rfl⟩
theorem Gh.le_add (g : Gh) (b k : Nat) : g.le (g.add b k) :=
  ⟨fun _ _ h => h, fun o h => ⟨Nat.lt_succ_of_lt h.1, fun q => h.2 q.1⟩, fun o ho => upd_ne _ _ _ (by have := ho.1; omega), fun o ho => upd_ne _ _ _ (by have := ho.1; omega)⟩
theorem Gh.le_refl (g : Gh) : g.le g := ⟨fun _ _ h => h, fun _ h => h, fun _ _ => rfl, fun _ _ => rfl⟩
section
variable {P : Program} {Γ : Ctx} {io : IoS} {w0 : World} {N : Nat} {g : Gh} {s : AS} {a : Act} {w w' : World} {o : Oper} {p : PV}
theorem Lays.repEs {arr : Array Value} {sz T b : Nat} {es : List PV} {g' : Gh} (h : Lays g w arr sz es) (hg : g.le g') (hw : ∀ k b, g.I k b → w'.heap[b]? = w.heap[b]?) (hb : w'.heap[b]? = some (.cells arr T (0, 0))) : RepEs g' w' sz es b 0 :=
  RepEs.of fun i e he => by
    obtain ⟨u, h1, h2, h3, h4⟩ := h i e he
    refine ⟨u, h1.mono hg hw, ⟨h2, fun j hj => ?_⟩, h3⟩
    simp only [World.cell?, hb, Nat.zero_add]
    simpa using h4 j (by omega)
theorem Rel.add (h : Rel io w0 N g s a w) (hio : ∀ b, io b → b < w0.heap.size) {arr : Array Value} {T sz : Nat} {es : List PV} (hb : Below w.heap.size w w') (hn : w'.heap[w.heap.size]? = some (.cells arr T (0, 0)))
    (hes : Lays g w arr sz es) (hlen : es.length * sz ≤ arr.size) :
    Rel io w0 N (g.add w.heap.size arr.size) { s with ob := upd s.ob s.nx (some (T, sz, es)), nx := s.nx + 1 } a w' := by
  have hw : ∀ k b, g.I k b → w'.heap[b]? = w.heap[b]? := fun k b hi => hb.block b (h.lt k b hi)
  have hle := Gh.le_add g w.heap.size arr.size
  have hdead : ∀ o, g.nx ≤ o → s.ob o = none := fun o ho => by
    cases hq : s.ob o with
    | none => rfl
    | some c => have := (h.ob o c hq).1.1; omega
  have hβn : (g.add w.heap.size arr.size).β g.nx = w.heap.size := upd_same _ _ _
  have hκn : (g.add w.heap.size arr.size).κ g.nx = arr.size := upd_same _ _ _
  have hold : ∀ o c, s.ob o = some c → g.D o ∧ g.β o < w.heap.size := fun o c ho => by
    obtain ⟨h1, _, _, h4⟩ := h.ob o c ho
    obtain ⟨arr', ha, _⟩ := h4.1
    exact ⟨h1, lt_of_heap ha⟩
  refine ⟨h.nt, h.df, fun t => (h.tm t).mono hle hw, fun o c ho => ?_, fun o o' ho ho' he => ?_, by simp [Gh.add, h.nx], fun k b hi => Nat.lt_of_lt_of_le (h.lt k b hi) hb.size, h.new, h.fr.below hb, h.old, ⟨fun o ho => hle.D o (h.fix.1 o ho), fun o ho => by have hk := h.fix.1 o ho; rw [hle.β o hk, hle.κ o hk]; exact h.fix.2 o ho⟩, fun o ho => ⟨⟨(h.hl o ho).1, by have := (h.hl o ho).2; omega⟩, Nat.lt_succ_of_lt (h.hl o ho).2⟩, h.tab⟩
  · dsimp only at ho
    rw [← h.nx] at ho
    unfold upd at ho
    split at ho
    · rename_i heq
      subst heq
      cases ho
      refine ⟨Gh.D_add, .inl (by rw [hβn]; exact h.fr.size), fun k hk => ?_, ⟨arr, by rw [hβn]; exact hn, hκn.symm⟩, by rw [hκn]; exact hlen, ?_⟩
      · rw [hβn] at hk
        have := h.lt k _ hk
        omega
      · rw [hβn]
        exact hes.repEs hle hw hn
    · obtain ⟨h1, h2, h3, h4⟩ := h.ob o c ho
      have hlt := (hold o c ho).2
      have hβ := hle.β o h1
      refine ⟨hle.D o h1, by rw [hβ]; exact h2, by rw [hβ]; exact h3, h4.mono hle h1 hw (hb.block _ hlt)⟩
  · dsimp only at ho ho'
    rw [← h.nx] at ho ho'
    have key : ∀ o, (upd s.ob g.nx (some (T, sz, es)) o).isSome → o = g.nx ∨ (s.ob o).isSome ∧ g.D o ∧ g.β o < w.heap.size := fun o ho => by
      unfold upd at ho
      split at ho
      · left; assumption
      · obtain ⟨c, hc⟩ := Option.isSome_iff_exists.1 ho
        exact .inr ⟨ho, hold o c hc⟩
    rcases key o ho with rfl | ⟨k1, k2, k3⟩
    · rcases key o' ho' with rfl | ⟨k1', k2', k3'⟩
      · rfl
      · rw [hβn, hle.β o' k2'] at he
        omega
    · rcases key o' ho' with rfl | ⟨k1', k2', k3'⟩
      · rw [hβn, hle.β o k2] at he
        omega
      · rw [hle.β o k2, hle.β o' k2'] at he
        exact h.inj o o' k1 k1' he
theorem Rel.set (h : Rel io w0 N g s a w) {ob T sz : Nat} {es es' : List PV} (hob : s.ob ob = some (T, sz, es)) {arr : Array Value}
    (hos : w'.os = w.os ∧ w'.tape = w.tape ∧ w'.output = w.output ∧ w'.heap.size = w.heap.size) (hbl : ∀ b, b ≠ g.β ob → w'.heap[b]? = w.heap[b]?) (hn : w'.heap[g.β ob]? = some (.cells arr T (0, 0))) (hsz : arr.size = g.κ ob)
    (hes : Lays g w arr sz es') (hlen : es'.length * sz ≤ g.κ ob) : Rel io w0 N g { s with ob := upd s.ob ob (some (T, sz, es')) } a w' := by
  obtain ⟨h1, h2, h3, h4⟩ := h.ob ob _ hob
  have hw : ∀ k b, g.I k b → w'.heap[b]? = w.heap[b]? := fun k b hi => hbl b (fun e => h3 k (e ▸ hi))
  refine ⟨h.nt, h.df, fun t => (h.tm t).mono (Gh.le_refl g) hw, fun o c ho => ?_, fun o o' ho ho' he => ?_, h.nx, fun k b hi => by rw [hos.2.2.2]; exact h.lt k b hi, h.new, ?_, h.old, h.fix, h.hl, h.tab⟩
  · dsimp only at ho
    unfold upd at ho
    split at ho
    · rename_i heq
      subst heq
      cases ho
      exact ⟨h1, h2, h3, ⟨arr, hn, hsz⟩, hlen, hes.repEs (Gh.le_refl g) hw hn⟩
    · rename_i hne
      obtain ⟨k1, k2, k3, k4⟩ := h.ob o c ho
      refine ⟨k1, k2, k3, k4.mono (Gh.le_refl g) k1 hw (hbl _ (fun e => hne (h.inj o ob (by simp [ho]) (by simp [hob]) e)))⟩
  · have key : ∀ o, (upd s.ob ob (some (T, sz, es')) o).isSome → (s.ob o).isSome := fun o ho => by
      unfold upd at ho
      split at ho
      · rename_i heq; subst heq; simp [hob]
      · exact ho
    exact h.inj o o' (key o ho) (key o' ho') he
  · refine ⟨hos.1.trans h.fr.os, hos.2.1.trans h.fr.tape, hos.2.2.1.trans h.fr.output, by rw [hos.2.2.2]; exact h.fr.size, fun b hb hi => ?_⟩
    rw [hbl b (fun e => ?_)]
    · exact h.fr.block b hb hi
    · subst e
      rcases h2 with h2 | h2
      · omega
      · exact hi h2
theorem Rel.del (h : Rel io w0 N g s a w) (ob : Nat) : Rel io w0 N g { s with ob := upd s.ob ob none } a w := by
  have key : ∀ o c, upd s.ob ob none o = some c → s.ob o = some c := fun o c ho => by
    unfold upd at ho
    split at ho
    · cases ho
    · exact ho
  refine ⟨h.nt, h.df, h.tm, fun o c ho => h.ob o c (key o c ho), fun o o' ho ho' he => ?_, h.nx, h.lt, h.new, h.fr, h.old, h.fix, h.hl, h.tab⟩
  obtain ⟨c, hc⟩ := Option.isSome_iff_exists.1 ho
  obtain ⟨c', hc'⟩ := Option.isSome_iff_exists.1 ho'
  exact h.inj o o' (by simp [key o c hc]) (by simp [key o' c' hc']) he
theorem upd_comm_eq {α : Type} (f : Nat → α) (d : Nat) (v v' : α) : upd (upd f d v) d v' = upd f d v' := by
  funext t; unfold upd; split <;> rfl
theorem Rel.rename (h : Rel io w0 N g s a w) {ob : Nat} {c : Nat × Nat × List PV} (hob : s.ob ob = some c) :
    Rel io w0 N (g.add (g.β ob) (g.κ ob)) { s with ob := upd (upd s.ob ob none) s.nx (some c), nx := s.nx + 1 } a w := by
  have hle := Gh.le_add g (g.β ob) (g.κ ob)
  have hw : ∀ k b, g.I k b → w.heap[b]? = w.heap[b]? := fun _ _ _ => rfl
  obtain ⟨h1, h2, h3, h4⟩ := h.ob ob _ hob
  have hβn : (g.add (g.β ob) (g.κ ob)).β g.nx = g.β ob := upd_same _ _ _
  have hκn : (g.add (g.β ob) (g.κ ob)).κ g.nx = g.κ ob := upd_same _ _ _
  have key : ∀ o c', upd (upd s.ob ob none) g.nx (some c) o = some c' → (o = g.nx ∧ c' = c) ∨ (o ≠ ob ∧ g.D o ∧ s.ob o = some c') := fun o c' ho => by
    unfold upd at ho
    split at ho
    · rename_i heq; cases ho; exact .inl ⟨heq, rfl⟩
    · split at ho
      · cases ho
      · rename_i hne; exact .inr ⟨hne, (h.ob o c' ho).1, ho⟩
  refine ⟨h.nt, h.df, fun t => (h.tm t).mono hle hw, fun o c' ho => ?_, fun o o' ho ho' he => ?_, by simp [Gh.add, h.nx], h.lt, h.new, h.fr, h.old, ⟨fun o ho => hle.D o (h.fix.1 o ho), fun o ho => by have hk := h.fix.1 o ho; rw [hle.β o hk, hle.κ o hk]; exact h.fix.2 o ho⟩, fun o ho => ⟨⟨(h.hl o ho).1, by have := (h.hl o ho).2; omega⟩, Nat.lt_succ_of_lt (h.hl o ho).2⟩, h.tab⟩
  · dsimp only at ho
    rw [← h.nx] at ho
    rcases key o c' ho with ⟨rfl, rfl⟩ | ⟨k1, k2, k3⟩
    · refine ⟨Gh.D_add, by rw [hβn]; exact h2, by rw [hβn]; exact h3, ?_⟩
      obtain ⟨⟨arr, m1, m2⟩, m3, m4⟩ := h4
      exact ⟨⟨arr, by rw [hβn]; exact m1, by rw [hκn]; exact m2⟩, by rw [hκn]; exact m3, by rw [hβn]; exact RepEs.mono hle hw _ _ _ _ rfl m4⟩
    · obtain ⟨l1, l2, l3, l4⟩ := h.ob o c' k3
      have hβ := hle.β o l1
      exact ⟨hle.D o l1, by rw [hβ]; exact l2, by rw [hβ]; exact l3, l4.mono hle l1 hw rfl⟩
  · dsimp only at ho ho'
    rw [← h.nx] at ho ho'
    obtain ⟨c1, hc1⟩ := Option.isSome_iff_exists.1 ho
    obtain ⟨c2, hc2⟩ := Option.isSome_iff_exists.1 ho'
    rcases key o c1 hc1 with ⟨rfl, _⟩ | ⟨k1, k2, k3⟩
    · rcases key o' c2 hc2 with ⟨rfl, _⟩ | ⟨k1', k2', k3'⟩
      · rfl
      · rw [hβn, hle.β o' k2'] at he
        exact absurd (h.inj ob o' (by simp [hob]) (by simp [k3']) he).symm k1'
    · rcases key o' c2 hc2 with ⟨rfl, _⟩ | ⟨k1', k2', k3'⟩
      · rw [hβn, hle.β o k2] at he
        exact absurd (h.inj o ob (by simp [k3]) (by simp [hob]) he) k1
      · rw [hle.β o k2, hle.β o' k2'] at he
        exact h.inj o o' (by simp [k3]) (by simp [k3']) he
end
def ofVal : Value → PV
  | .agg cs => .agg (cs.toList.map .val)
  | v => .val v
theorem ofVal_rep (g : Gh) (w : World) (v : Value) : Rep g w (ofVal v) v := by
  cases v with
  | agg cs => simp only [ofVal, Rep]; exact ⟨cs, rfl, RepL.vals _⟩
  | _ => simp [ofVal, Rep]
def tyBytes (P : Program) (t : Nat) : Option Nat := (P.info? t).map (·.bytes)
def setP (sz : Nat) (e : PV) (f : Nat) (y : PV) (cs : List PV) : Option PV :=
  match e with
  | .agg ecs => if f + cs.length ≤ ecs.length then some (.agg (setL ecs f cs)) else none
  | _ => if sz = 1 ∧ f = 0 ∧ oneP y = true then some y else none
def ioEv (Φ : FunIO) (ob : Objs) (nx : Nat) (ps : List PV) : Option (PV × Objs × Nat) :=
  let os := dedup (ps.flatMap refsOf)
  match os.mapM ob, ps.mapM (renF (inn os) fuel) with
  | some cs, some qs => match cs.mapM (renC (inn os) fuel) with
    | some cs1 => match Φ qs cs1 with
      | some (r, cs') => match renF (fun i => some (outn os nx i)) fuel r, cs'.mapM (renC (fun i => some (outn os nx i)) fuel) with
        | some r', some cs2 => some (r', putObs ob (((List.range cs2.length).map (outn os nx)).zip cs2), nx + (cs'.length - os.length))
        | _, _ => none
      | none => none
    | none => none
  | _, _ => none
def calleeIO (Γ : Ctx) (c : Call) : Option FunIO :=
  match c.callee with
  | .value (.func f) => Γ.io f
  | _ => none
def srcEs (ob : Objs) (sz : Nat) : PV → Option (List PV)
  | .val (.string b) => if sz = 1 then some (b.data.toList.map fun x => .val (.int .u8 x.toNat)) else none
  | p => sliceEs ob sz p
def cpEv (P : Program) (ob : Objs) (nx : Nat) (t : Nat) (x y : PV) : Option (PV × Objs × Nat) :=
  match tyElem P t with
  | some e => match tySize P e with
    | some sz => match srcEs ob sz y, x with
      | some es2, .row o sz' i n => match ob o with
        | some (T, sz'', es) => if sz' = sz ∧ sz'' = sz ∧ i + n ≤ es.length then
            some (.val (.int .i64 (min es2.length n : Nat)), upd ob o (some (T, sz, es.take i ++ es2.take (min es2.length n) ++ es.drop (i + min es2.length n))), nx) else none
        | none => none
      | some _, .lst _ _ [] => some (.val (.int .i64 0), ob, nx)
      | _, _ => none
    | none => none
  | none => none
def evEff (P : Program) (Γ : Ctx) (s : AS) (ρ : Operand → PV) : Op → Option (PV × Objs × Nat)
  | .alloc t => match zeroOf P t with
    | some z => if z.cells.all (·.oneCell') = true then some (.own s.nx z.cells.size 0 0, upd s.ob s.nx (some (t, z.cells.size, [ofVal z])), s.nx + 1) else none
    | none => none
  | .box t x => match cellsL (ρ x) with
    | some cs => some (.own s.nx cs.length 0 0, upd s.ob s.nx (some (t, cs.length, [ρ x])), s.nx + 1)
    | none => none
  | .buildSlice t n ps => match rowEs P t n (partsOf ρ ps) with
    | some (e, sz, es) => some (.row s.nx sz 0 n, upd s.ob s.nx (some (e, sz, es)), s.nx + 1)
    | none => none
  | .makeSlice t l c => match tyElem P t with
    | some e => match zeroOf P e, tySize P e, tyBytes P e, ρ l, ρ c with
      | some z, some sz, some by_, .val (.int kl l), .val (.int kc c) =>
        if z.cells.all (·.oneCell') = true ∧ z.cells.size = sz ∧ 0 ≤ l ∧ l ≤ c ∧ (by_ : Int) * c ≤ 281474976710656 ∧ c ≤ 9223372036854775807 then
          some (.row s.nx sz 0 l.toNat, upd s.ob s.nx (some (e, sz, List.replicate l.toNat (ofVal z))), s.nx + 1) else none
      | _, _, _, _, _ => none
    | none => none
  | .store t x y => match ρ x with
    | .own o sz i f => match s.ob o with
      | some (T, sz', es) => match es[i]?, cellsL (ρ y) with
        | some e, some cs => if sz = sz' ∧ tySize P t = some cs.length then (setP sz e f (ρ y) cs).map fun e' => (.val undef, upd s.ob o (some (T, sz, es.set i e')), s.nx) else none
        | _, _ => none
      | none => none
    | _ => none
  | .call c => match c.callee with
    | .value x => match calleeIO Γ c with
      | some Φ => ioEv Φ s.ob s.nx (c.args.toList.map ρ)
      | none => none
    | .builtin .copy => match c.args.toList, c.argTypes.toList with
      | [x, y], [t, _] => cpEv P s.ob s.nx t (ρ x) (ρ y)
      | _, _ => none
    | .builtin .append => match c.args.toList, c.argTypes.toList with
      | [x, y], [t, t'] => match tyElem P t with
        | some e => match zeroOf P e, tySize P e, tyBytes P e with
          | some z, some sz, some by_ => match sliceEs s.ob sz (ρ y) with
            | some es2 =>
              if t = t' ∧ 0 < sz ∧ z.cells.size = sz then
                match ρ x with
                | .row o sz' i n => match s.ob o with
                  | some (T, sz'', es) => if i = 0 ∧ T = e ∧ sz' = sz ∧ sz'' = sz ∧ es.length = n ∧ n + es2.length ≤ 9223372036854775807 ∧ (n + es2.length) * by_ ≤ 140737488355328 then
                      some (.row s.nx sz 0 (n + es2.length), upd (upd s.ob o none) s.nx (some (e, sz, es ++ es2)), s.nx + 1) else none
                  | none => none
                | p => if isNil p = true ∧ es2.length ≤ 9223372036854775807 ∧ es2.length * by_ ≤ 140737488355328 then
                    (if es2.length = 0 then some (p, s.ob, s.nx) else some (.row s.nx sz 0 es2.length, upd s.ob s.nx (some (e, sz, es2)), s.nx + 1)) else none
              else none
            | none => none
          | _, _, _ => none
        | none => none
      | _, _ => none
    | _ => none
  | _ => none
end Go.Proofs.Ytngcedklbinhjaa
namespace Go.Proofs.Ytngcedklbinhjaa
open Go.RowKit
set_option linter.all false
section
variable {P : Program} {Γ : Ctx} {io : IoS} {w0 : World} {N : Nat} {g : Gh} {s : AS} {a : Act} {w w' : World} {o : Oper} {p : PV}
theorem Lays.nil (g : Gh) (w : World) (arr : Array Value) (sz : Nat) : Lays g w arr sz [] := fun i e he => by simp at he
theorem Lays.one {u : Value} {e : PV} (h : Rep g w e u) (h1 : u.cells.all (·.oneCell') = true) : Lays g w u.cells u.cells.size [e] := fun i x hx => by
  cases i with
  | zero => simp only [List.getElem?_cons_zero, Option.some.injEq] at hx; subst hx; exact ⟨u, h, h1, rfl, fun j hj => by simp⟩
  | succ i => simp at hx
theorem Lays.made {z : Value} {sz n m : Nat} (hz : z.cells.all (·.oneCell') = true) (hs : z.cells.size = sz) (hn : n ≤ m) : Lays g w (madeCells z.cells (m * sz)) sz (List.replicate n (ofVal z)) := fun i e he => by
  rw [List.getElem?_replicate] at he
  split at he
  case isFalse => cases he
  case isTrue hi =>
    cases he
    refine ⟨z, ofVal_rep g w z, hz, hs, fun j hj => ?_⟩
    have h1 : i * sz + j < m * sz := Nat.lt_of_lt_of_le (by rw [Nat.add_one_mul]; omega : i * sz + j < (i + 1) * sz) (Nat.mul_le_mul_right _ (by omega))
    have h2 : (i * sz + j) % z.cells.size = j := by rw [hs, Nat.mul_comm, Nat.mul_add_mod, Nat.mod_eq_of_lt hj]
    unfold madeCells
    rw [Array.getElem?_map, Array.getElem?_range]
    simp only [h1, if_true, Option.map_some, h2]
    rw [getElem!_pos z.cells j (by omega), Array.getElem?_eq_getElem (by omega)]
theorem RepEs.lays {arr : Array Value} {sz T b : Nat} {es : List PV} (h : RepEs g w sz es b 0) (hb : w.heap[b]? = some (.cells arr T (0, 0))) : Lays g w arr sz es := fun i e he => by
  obtain ⟨u, h1, h2, h3⟩ := h.get he
  refine ⟨u, h1, h2.1, h3, fun j hj => ?_⟩
  have := h2.2 j (by omega)
  simp only [World.cell?, hb, Nat.zero_add] at this
  simpa using this
theorem RepEs.news {sz : Nat} : ∀ {es : List PV} {b off : Nat}, RepEs g w sz es b off → ∃ news : List Value, news.length = es.length * sz ∧ (∀ (j : Nat) u, news[j]? = some u → w.cell? ⟨b, off + j, none⟩ = some u) ∧ (∀ u ∈ news, u.oneCell' = true) ∧
    ∀ (i : Nat) e, es[i]? = some e → ∃ u, Rep g w e u ∧ u.cells.all (·.oneCell') = true ∧ u.cells.size = sz ∧ ∀ j, j < sz → news[i * sz + j]? = u.cells[j]?
  | [], b, off, h => ⟨[], by simp, by simp, by simp, by simp⟩
  | x :: es, b, off, h => by
    simp only [RepEs] at h
    obtain ⟨⟨u, h1, h2, h3⟩, h4⟩ := h
    obtain ⟨news, k1, k2, k3, k4⟩ := h4.news
    have hl : u.cells.toList.length = sz := by simpa using h3
    refine ⟨u.cells.toList ++ news, by simp [h3, k1, Nat.add_mul]; omega, fun j v hv => ?_, fun v hv => ?_, fun i e he => ?_⟩
    · by_cases hj : j < sz
      · rw [List.getElem?_append_left (by omega)] at hv
        rw [h2.2 j (by omega)]
        simpa using hv
      · rw [List.getElem?_append_right (by omega), hl] at hv
        have := k2 _ v hv
        rw [show off + sz + (j - sz) = off + j by omega] at this
        exact this
    · rw [List.mem_append] at hv
      rcases hv with hv | hv
      · exact (Array.all_eq_true_iff_forall_mem.1 h2.1) v (by simpa using hv)
      · exact k3 v hv
    · cases i with
      | zero =>
        simp only [List.getElem?_cons_zero, Option.some.injEq] at he
        subst he
        refine ⟨u, h1, h2.1, h3, fun j hj => ?_⟩
        rw [Nat.zero_mul, Nat.zero_add, List.getElem?_append_left (by omega)]
        simp
      | succ i =>
        simp only [List.getElem?_cons_succ] at he
        obtain ⟨v, m1, m2, m3, m4⟩ := k4 i e he
        refine ⟨v, m1, m2, m3, fun j hj => ?_⟩
        rw [List.getElem?_append_right (by rw [hl, Nat.add_one_mul]; omega), hl, show (i + 1) * sz + j - sz = i * sz + j by rw [Nat.add_one_mul]; omega]
        exact m4 j hj
theorem Lays.mono {arr : Array Value} {sz : Nat} {es : List PV} {g' : Gh} (h : Lays g w arr sz es) (hg : g.le g') (hw : ∀ k b, g.I k b → w'.heap[b]? = w.heap[b]?) : Lays g' w' arr sz es := fun i e he => by
  obtain ⟨u, h1, h2⟩ := h i e he
  exact ⟨u, h1.mono hg hw, h2⟩
theorem lays_append {sz n : Nat} {es es2 : List PV} {news : List Value} {arr arr' : Array Value} (hn : es.length = n) (h1 : Lays g w arr sz es)
    (h2 : ∀ (i : Nat) e, es2[i]? = some e → ∃ u, Rep g w e u ∧ u.cells.all (·.oneCell') = true ∧ u.cells.size = sz ∧ ∀ j, j < sz → news[i * sz + j]? = u.cells[j]?)
    (ha : ∀ j, j < n * sz → arr'[j]? = arr[j]?) (hb : ∀ j, j < news.length → arr'[n * sz + j]? = news[j]?) (hl : news.length = es2.length * sz) : Lays g w arr' sz (es ++ es2) := fun i e he => by
  by_cases hi : i < n
  · rw [List.getElem?_append_left (by omega)] at he
    obtain ⟨u, k1, k2, k3, k4⟩ := h1 i e he
    refine ⟨u, k1, k2, k3, fun j hj => ?_⟩
    rw [ha _ (Nat.lt_of_lt_of_le (by rw [Nat.add_one_mul]; omega : i * sz + j < (i + 1) * sz) (Nat.mul_le_mul_right _ (by omega)))]
    exact k4 j hj
  · rw [List.getElem?_append_right (by omega), hn] at he
    obtain ⟨u, k1, k2, k3, k4⟩ := h2 _ e he
    refine ⟨u, k1, k2, k3, fun j hj => ?_⟩
    have hlt : i - n < es2.length := (List.getElem?_eq_some_iff.1 he).1
    have e1 : i * sz + j = n * sz + ((i - n) * sz + j) := by rw [← Nat.add_assoc, ← Nat.add_mul]; congr 2; omega
    rw [e1, hb _ (by rw [hl]; exact Nat.lt_of_lt_of_le (by rw [Nat.add_one_mul]; omega : (i - n) * sz + j < (i - n + 1) * sz) (Nat.mul_le_mul_right _ (by omega)))]
    exact k4 j hj
def Turns (P : Program) (o : Oper) (io : IoS) (w0 : World) (N : Nat) (s : AS) (a : Act) (w : World) (r : PV × Objs × Nat) : Prop :=
  ∀ (K : Act → World → Prop) (Q : Exit → Act → World → Prop), (∀ v w' g', Rel io w0 N g' { s with ob := r.2.1, nx := r.2.2 } a w' → Rep g' w' r.1 v → K (a.put o.dst v) w') → o.wp P a w K Q
theorem Turns.run {v : Value} {g' : Gh} {r : PV × Objs × Nat} (h : (execOp a.eval o).run P w = .ok (.value v) w') (hr : Rel io w0 N g' { s with ob := r.2.1, nx := r.2.2 } a w') (hp : Rep g' w' r.1 v) : Turns P o io w0 N s a w r := fun K Q hk => by
  unfold Oper.wp
  rw [h, Oper.upon_value]
  exact hk v w' g' hr hp
theorem Turns.skip {g' : Gh} {r : PV × Objs × Nat} (h : (execOp a.eval o).run P w = .ok .skip w') (hr : Rel io w0 N g' { s with ob := r.2.1, nx := r.2.2 } a w') (hp : r.1 = .val undef) : Turns P o io w0 N s a w r := fun K Q hk => by
  unfold Oper.wp
  rw [h, Oper.upon_skip]
  exact hk undef w' g' hr (by rw [hp]; simp [Rep])
theorem rep_own_new {b k sz : Nat} : Rep (g.add b k) w (.own g.nx sz 0 0) (.pointer (some ⟨b, 0, none⟩)) := by
  simp only [Rep, Gh.add, upd_same]
  exact ⟨by simp, Gh.D_add⟩
theorem rep_row_new {b k sz n c : Nat} (h1 : n ≤ c) (h2 : c ≤ 9223372036854775807) (h3 : c * sz ≤ k) : Rep (g.add b k) w (.row g.nx sz 0 n) (.slice (some ⟨b, 0, none⟩) n c) := by
  simp only [Rep, Gh.add, upd_same]
  exact ⟨c, by simp, h1, h2, by simpa using h3, Gh.D_add⟩
theorem Turns.new (h : Rel io w0 N g s a w) (hio : ∀ b, io b → b < w0.heap.size) {v : Value} {p : PV} {arr : Array Value} {T sz : Nat} {es : List PV}
    (hr : (execOp a.eval o).run P w = .ok (.value v) w') (hb : Below w.heap.size w w') (hn : w'.heap[w.heap.size]? = some (.cells arr T (0, 0)))
    (hes : Lays g w arr sz es) (hlen : es.length * sz ≤ arr.size) (hp : Rep (g.add w.heap.size arr.size) w' p v) : Turns P o io w0 N s a w (p, upd s.ob s.nx (some (T, sz, es)), s.nx + 1) :=
  Turns.run hr (h.add hio hb hn hes hlen) hp
end
end Go.Proofs.Ytngcedklbinhjaa
namespace Go.Proofs.Ytngcedklbinhjaa
open Go.RowKit
set_option linter.all false
section
variable {P : Program} {Γ : Ctx} {io : IoS} {w0 : World} {N : Nat} {g : Gh} {s : AS} {a : Act} {w w' : World} {o : Oper} {p : PV}
theorem run_bytes {t k : Nat} (h : tyBytes P t = some k) : ∃ i, P.info? t = some i ∧ i.bytes = k := by
  unfold tyBytes at h
  cases hi : P.info? t with
  | none => simp [hi] at h
  | some i => exact ⟨i, rfl, by simpa [hi] using h⟩
theorem size_info {t k : Nat} {i : TypeInfo} (hi : P.info? t = some i) (h : tySize P t = some k) : i.size = k := by
  unfold tySize at h; simpa [hi] using h
theorem zero_info {t : Nat} {z : Value} {i : TypeInfo} (hi : P.info? t = some i) (h : zeroOf P t = some z) : i.zero = some z := by
  unfold zeroOf at h; simpa [hi] using h
theorem elem_info {t e : Nat} (h : tyElem P t = some e) : P.underlying t = some (.slice e) := by
  unfold tyElem at h
  split at h
  · rename_i e' hu; cases h; exact hu
  · cases h
theorem below_new (w : World) (o : Obj) : Below w.heap.size w (w.alloc o) := (Below.refl _ _).alloc (Nat.le_refl _) _
theorem eff_alloc (h : Rel io w0 N g s a w) (hio : ∀ b, io b → b < w0.heap.size) {t : Nat} (ho : o.op = .alloc t) {z : Value} (hz : zeroOf P t = some z) (h1 : z.cells.all (·.oneCell') = true) :
    Turns P o io w0 N s a w (.own s.nx z.cells.size 0 0, upd s.ob s.nx (some (t, z.cells.size, [ofVal z])), s.nx + 1) := by
  have hr : (execOp a.eval o).run P w = .ok (.value (.pointer (some ⟨w.heap.size, 0, none⟩))) (w.alloc (.cells z.cells t)) := by
    simp [execOp, ho, Instr.alloc, Sem.run_bind, run_zero hz w, newVar, newRow]
  refine Turns.new h hio hr (below_new _ _) (heap_alloc_new _ _) (Lays.one (ofVal_rep g w z) h1) (by simp) ?_
  rw [← h.nx]
  exact rep_own_new
theorem eff_box (h : Rel io w0 N g s a w) (hio : ∀ b, io b → b < w0.heap.size) {t : Nat} {x : Operand} (ho : o.op = .box t x) {cs : List PV} (hc : cellsL (look s.tm x) = some cs) :
    Turns P o io w0 N s a w (.own s.nx cs.length 0 0, upd s.ob s.nx (some (t, cs.length, [look s.tm x])), s.nx + 1) := by
  obtain ⟨h1, h2, h3⟩ := cellsL_rep (h.look x) hc
  have hr : (execOp a.eval o).run P w = .ok (.value (.pointer (some ⟨w.heap.size, 0, none⟩))) (w.alloc (.cells (a.eval x).cells t)) := by
    simp [execOp, ho, Instr.box, Sem.run_bind, newVar, newRow]
  rw [← h2]
  refine Turns.new h hio hr (below_new _ _) (heap_alloc_new _ _) (Lays.one (h.look x) h1) (by simp) ?_
  rw [← h.nx]
  exact rep_own_new
theorem eff_buildSlice (h : Rel io w0 N g s a w) (hio : ∀ b, io b → b < w0.heap.size) {t n e sz : Nat} {ps : Array (Nat × Operand)} {es : List PV} (ho : o.op = .buildSlice t n ps) (hc : rowEs P t n (partsOf (look s.tm) ps) = some (e, sz, es)) :
    Turns P o io w0 N s a w (.row s.nx sz 0 n, upd s.ob s.nx (some (e, sz, es)), s.nx + 1) := by
  obtain ⟨hl, arr, h2, h3, h4⟩ := run_buildSlice (w := w) hc (h.parts ps)
  have hsz := rowEs_len hc
  have hr : (execOp a.eval o).run P w = .ok (.value (.slice (some ⟨w.heap.size, 0, none⟩) n n)) (w.alloc (.cells arr e)) := by
    simp [execOp, ho, h3]
  refine Turns.new h hio hr (below_new _ _) (heap_alloc_new _ _) h4 (by rw [hl, h2]; exact Nat.le_refl _) ?_
  rw [← h.nx]
  exact rep_row_new (Nat.le_refl _) hsz (Nat.le_of_eq h2.symm)
theorem eff_makeSlice (h : Rel io w0 N g s a w) (hio : ∀ b, io b → b < w0.heap.size) {t e sz by_ : Nat} {x y : Operand} {z : Value} (ho : o.op = .makeSlice t x y) (he : tyElem P t = some e) (hz : zeroOf P e = some z) (hs : tySize P e = some sz) (hb : tyBytes P e = some by_)
    {kl kc : IntKind} {l c : Int} (hl : look s.tm x = .val (.int kl l)) (hc : look s.tm y = .val (.int kc c)) (h1 : z.cells.all (·.oneCell') = true) (h2 : z.cells.size = sz) (h3 : 0 ≤ l) (h4 : l ≤ c) (h5 : (by_ : Int) * c ≤ 281474976710656) (h6 : c ≤ 9223372036854775807) :
    Turns P o io w0 N s a w (.row s.nx sz 0 l.toNat, upd s.ob s.nx (some (e, sz, List.replicate l.toNat (ofVal z))), s.nx + 1) := by
  obtain ⟨i, hi, hby⟩ := run_bytes hb
  have hx := h.look x
  have hy := h.look y
  rw [hl] at hx
  rw [hc] at hy
  simp only [Rep] at hx hy
  have hm := run_make (P := P) w t e i z (elem_info he) hi (zero_info hi hz) kl kc l c h3 h4 (by rw [hby]; exact h5) h6
  rw [size_info hi hs] at hm
  have hr : (execOp a.eval o).run P w = .ok (.value (.slice (some ⟨w.heap.size, 0, none⟩) l.toNat c.toNat)) (w.alloc (.cells (madeCells z.cells (c.toNat * sz)) e)) := by
    simp only [execOp, ho, hx, hy]
    rw [Sem.run_bind, hm]
    rfl
  refine Turns.new h hio hr (below_new _ _) (heap_alloc_new _ _) (Lays.made h1 h2 (by omega)) (by rw [size_madeCells, List.length_replicate]; exact Nat.mul_le_mul_right _ (by omega)) ?_
  rw [← h.nx]
  exact rep_row_new (by omega) (by omega) (by rw [size_madeCells]; exact Nat.le_refl _)
theorem setL_length {α : Type} (l new : List α) (off : Nat) (h : off + new.length ≤ l.length) : (setL l off new).length = l.length := by
  unfold setL; simp; omega
theorem setL_get {α : Type} (l new : List α) (off : Nat) (h : off + new.length ≤ l.length) (i : Nat) : (setL l off new)[i]? = if off ≤ i ∧ i < off + new.length then new[i - off]? else l[i]? := by
  unfold setL
  have hl1 : (l.take off).length = off := by simp; omega
  by_cases c1 : i < off
  · rw [if_neg (by omega), List.append_assoc, List.getElem?_append_left (by omega)]
    simp [c1]
  · by_cases c2 : i < off + new.length
    · rw [if_pos (by omega), List.append_assoc, List.getElem?_append_right (by omega), hl1, List.getElem?_append_left (by omega)]
    · rw [if_neg (by omega), List.getElem?_append_right (by simp; omega)]
      simp only [List.length_append, hl1, List.getElem?_drop]
      congr 1
      omega
theorem cellsL_one {p : PV} {cs : List PV} (h : oneP p = true) (hc : cellsL p = some cs) : cs = [p] := by cases p <;> simp_all [cellsL, oneP]
theorem setP_rep {sz f : Nat} {e e' y : PV} {u v : Value} {cs : List PV} (he : Rep g w e u) (hu : u.cells.all (·.oneCell') = true) (hsz : u.cells.size = sz) (hy : Rep g w y v) (hc : cellsL y = some cs) (h : setP sz e f y cs = some e') :
    f + cs.length ≤ sz ∧ ∃ u', Rep g w e' u' ∧ u'.cells.all (·.oneCell') = true ∧ u'.cells.size = sz ∧ u'.cells.toList = setL u.cells.toList f v.cells.toList := by
  obtain ⟨h1, h2, h3⟩ := cellsL_rep hy hc
  unfold setP at h
  split at h
  · rename_i ecs
    split at h
    case isFalse => cases h
    case isTrue hle =>
      cases h
      simp only [Rep] at he
      obtain ⟨us, rfl, hl⟩ := he
      have hl1 := hl.get.1
      generalize v.cells = vc at h1 h2 h3 ⊢
      simp only [Value.cells, Array.length_toList] at hsz hl1 hu
      refine ⟨by omega, .agg (setL us.toList f vc.toList).toArray, ?_, ?_, ?_, ?_⟩
      · simp only [Rep]
        exact ⟨_, rfl, by simpa using hl.setL h3 f⟩
      · simp only [Value.cells, Array.all_eq_true_iff_forall_mem]
        intro x hx
        rw [List.mem_toArray] at hx
        unfold setL at hx
        rw [List.mem_append, List.mem_append] at hx
        rcases hx with (hx | hx) | hx
        · exact (Array.all_eq_true_iff_forall_mem.1 hu) x (by simpa using List.mem_of_mem_take hx)
        · exact (Array.all_eq_true_iff_forall_mem.1 h1) x (by simpa using hx)
        · exact (Array.all_eq_true_iff_forall_mem.1 hu) x (by simpa using List.mem_of_mem_drop hx)
      · simp only [Value.cells, List.size_toArray]
        rw [setL_length _ _ _ (by simp; omega)]
        simpa using hsz
      · simp [Value.cells]
  · split at h
    case isFalse => cases h
    case isTrue hh =>
      obtain ⟨rfl, rfl, hone⟩ := hh
      cases h
      have hcs := cellsL_one hone hc
      subst hcs
      simp only [List.length_singleton] at h2
      refine ⟨by simp, v, hy, h1, h2, ?_⟩
      unfold setL
      have e1 : u.cells.toList.length = 1 := by simpa using hsz
      have e2 : v.cells.toList.length = 1 := by simpa using h2
      rw [List.take_zero, List.nil_append, Nat.zero_add, e2, List.drop_eq_nil_of_le (by omega), List.append_nil]
theorem eff_store (h : Rel io w0 N g s a w) {t : Nat} {x y : Operand} (ho : o.op = .store t x y) {ob sz i f T : Nat} {es : List PV} {e e' : PV} {cs : List PV} (hx : look s.tm x = .own ob sz i f) (hob : s.ob ob = some (T, sz, es)) (he : es[i]? = some e)
    (hc : cellsL (look s.tm y) = some cs) (hsz : tySize P t = some cs.length) (hp : setP sz e f (look s.tm y) cs = some e') :
    Turns P o io w0 N s a w (.val undef, upd s.ob ob (some (T, sz, es.set i e')), s.nx) := by
  have hX := h.look x
  have hY := h.look y
  rw [hx] at hX
  simp only [Rep] at hX
  obtain ⟨hX, hlt⟩ := hX
  obtain ⟨k1, k2, k3, ⟨arr, k4, k5⟩, k6, k7⟩ := h.ob ob _ hob
  dsimp only at k4 k6 k7
  obtain ⟨u, m1, m2, m3⟩ := k7.get he
  obtain ⟨q1, u', q2, q3, q4, q5⟩ := setP_rep m1 m2.1 m3 hY hc hp
  obtain ⟨c1, c2, c3⟩ := cellsL_rep hY hc
  have hlays := k7.lays k4
  have hilt : i < es.length := (List.getElem?_eq_some_iff.1 he).1
  have hfit : i * sz + f + cs.length ≤ arr.size := by
    have : (i + 1) * sz ≤ es.length * sz := Nat.mul_le_mul_right _ (by omega)
    rw [Nat.add_one_mul] at this
    omega
  have hst := run_storeCells_at P (g.β ob) (i * sz + f) T (a.eval y).cells.toList 0 arr w k4 (by simp; omega) (fun v hv => (Array.all_eq_true_iff_forall_mem.1 c1) v (by simpa using hv))
  have hsv : (storeVar t ⟨g.β ob, i * sz + f, none⟩ (a.eval y)).run P w = .ok () (w.setRow (g.β ob) (setL arr.toList (i * sz + f) (a.eval y).cells.toList).toArray) := by
    unfold storeVar
    rw [Sem.run_bind, run_size hsz w]
    simp only [Result.andThen_ok, c2, ne_eq, not_true_eq_false, if_false, setL]
    simpa using hst
  have hr : (execOp a.eval o).run P w = .ok .skip (w.setRow (g.β ob) (setL arr.toList (i * sz + f) (a.eval y).cells.toList).toArray) := by
    simp only [execOp, ho, hX, Instr.storeAt, Instr.sureAddr, Sem.run_bind, Sem.run_pure, Result.andThen_ok, hsv]
  have hw : ∀ k b, g.I k b → (w.setRow (g.β ob) (setL arr.toList (i * sz + f) (a.eval y).cells.toList).toArray).heap[b]? = w.heap[b]? := fun k b hb => setRow_other _ _ _ _ (fun e => k3 k (e ▸ hb))
  refine Turns.skip (g' := g) hr (h.set hob (arr := (setL arr.toList (i * sz + f) (a.eval y).cells.toList).toArray) ⟨rfl, rfl, rfl, by simp [World.setRow]⟩ (fun b hb => setRow_other _ _ _ _ hb) (setRow_heap _ _ _ _ _ _ k4) (by rw [List.size_toArray, setL_length _ _ _ (by simp; omega)]; simpa using k5) ?_ (by simpa using k6)) rfl
  intro i' e1 he1
  rw [List.getElem?_set] at he1
  have hget : ∀ j, ((setL arr.toList (i * sz + f) (a.eval y).cells.toList).toArray)[j]? = if i * sz + f ≤ j ∧ j < i * sz + f + (a.eval y).cells.toList.length then (a.eval y).cells.toList[j - (i * sz + f)]? else arr[j]? := by
    intro j
    rw [List.getElem?_toArray, setL_get _ _ _ (by simp; omega)]
    simp
  by_cases hii : i = i'
  · subst hii
    rw [if_pos rfl, if_pos hilt] at he1
    cases he1
    refine ⟨u', q2, q3, q4, fun j hj => ?_⟩
    have e2 : u'.cells[j]? = u'.cells.toList[j]? := by simp
    rw [e2, q5, setL_get _ _ _ (by simp; omega), hget]
    obtain ⟨v1, v2, v3, v4, v5⟩ := hlays i e he
    by_cases hin : f ≤ j ∧ j < f + (a.eval y).cells.toList.length
    · rw [if_pos hin, if_pos (by omega)]
      congr 1
      omega
    · rw [if_neg hin, if_neg (by omega)]
      have m4 := m2.2 j (by omega)
      simp only [World.cell?, k4, Nat.zero_add] at m4
      simpa using m4
  · rw [if_neg hii] at he1
    obtain ⟨v1, v2, v3, v4, v5⟩ := hlays i' e1 he1
    refine ⟨v1, v2, v3, v4, fun j hj => ?_⟩
    rw [hget, if_neg, v5 j hj]
    have hne : i' < i ∨ i < i' := by omega
    simp only [Array.length_toList]
    rcases hne with hne | hne
    · have : (i' + 1) * sz ≤ i * sz := Nat.mul_le_mul_right _ (by omega)
      rw [Nat.add_one_mul] at this
      omega
    · have : (i + 1) * sz ≤ i' * sz := Nat.mul_le_mul_right _ (by omega)
      rw [Nat.add_one_mul] at this
      omega
end
end Go.Proofs.Ytngcedklbinhjaa
namespace Go.Proofs.Ytngcedklbinhjaa
open Go.RowKit
set_option linter.all false
theorem putObs_get : ∀ (l : List (Nat × CellIO)) (ob : Objs) (o : Nat) (c : CellIO), (l.map (·.1)).Nodup → putObs ob l o = some c → (o, c) ∈ l ∨ (o ∉ l.map (·.1) ∧ ob o = some c)
  | [], ob, o, c, _, h => .inr ⟨by simp, h⟩
  | p :: l, ob, o, c, hn, h => by
    simp only [List.map_cons, List.nodup_cons] at hn
    rcases putObs_get l _ o c hn.2 h with h1 | ⟨h1, h2⟩
    · exact .inl (by simp [h1])
    · unfold upd at h2
      split at h2
      · rename_i he
        cases h2
        left
        subst he
        simp
      · rename_i he
        exact .inr ⟨by simp [he]; simpa using h1, h2⟩
section
variable {P : Program} {Γ : Ctx} {io : IoS} {w0 : World} {N : Nat} {g : Gh} {s : AS} {a : Act} {w w' : World} {o : Oper} {p : PV}
theorem mapM_at {α β : Type} {f : α → Option β} {l : List α} {l' : List β} (h : l.mapM f = some l') {i : Nat} {y : β} (hy : l'[i]? = some y) : ∃ x, l[i]? = some x ∧ f x = some y := by
  have hg := mapM_get h
  have hi : i < l.length := by rw [← hg.1]; exact (List.getElem?_eq_some_iff.1 hy).1
  obtain ⟨y', h1, h2⟩ := hg.2 i l[i] (List.getElem?_eq_getElem hi)
  rw [hy] at h1
  cases h1
  exact ⟨_, List.getElem?_eq_getElem hi, h2⟩
set_option maxHeartbeats 1000000 in
theorem eff_io (h : Rel io w0 N g s a w) (hio : ∀ b, io b → b < w0.heap.size) {c : Call} (ho : o.op = .call c) {f : Nat} (hc : c.callee = .value (.func f)) (hf : Fnd P f) {Φ : FunIO} (hs : SoundIO P f Φ) {r : PV × Objs × Nat}
    (hv : ioEv Φ s.ob s.nx (c.args.toList.map (look s.tm)) = some r) : Turns P o io w0 N s a w r := by
  obtain ⟨fn, hfn, hname, hbody⟩ := hf
  unfold ioEv at hv
  dsimp only at hv
  generalize hos : dedup ((c.args.toList.map (look s.tm)).flatMap refsOf) = os at hv
  have hnd : os.Nodup := hos ▸ dedup_nodup _
  split at hv
  case h_2 => cases hv
  case h_1 cs qs hcs hqs =>
  split at hv
  case h_2 => cases hv
  case h_1 cs1 hcs1 =>
  split at hv
  case h_2 => cases hv
  case h_1 r0 cs' hΦ =>
  split at hv
  case h_2 => cases hv
  case h_1 r' cs2 hr' hcs2 =>
  simp only [Option.some.injEq] at hv
  subst hv
  have hl1 := (mapM_get hcs).1
  have hl2 := (mapM_get hcs1).1
  have hl3 := (mapM_get hcs2).1
  -- the objects handed over
  have hob : ∀ i c1, cs1[i]? = some c1 → ∃ c0, i < os.length ∧ s.ob (os.getD i 0) = some c0 ∧ renC (inn os) fuel c0 = some c1 := fun i c1 hi => by
    obtain ⟨c0, h1, h2⟩ := mapM_at hcs1 hi
    obtain ⟨o0, h3, h4⟩ := mapM_at hcs h1
    have := (List.getElem?_eq_some_iff.1 h3)
    obtain ⟨h5, h6⟩ := this
    exact ⟨c0, h5, by rw [show os.getD i 0 = o0 by simp [List.getD, h3]]; exact h4, h2⟩
  have hosS : ∀ i, i < os.length → ∃ c0, s.ob (os.getD i 0) = some c0 := fun i hi => by
    have hi1 : i < cs1.length := by omega
    obtain ⟨c0, _, h2, _⟩ := hob i cs1[i] (List.getElem?_eq_getElem hi1)
    exact ⟨c0, h2⟩
  have hinjo : ∀ i j, i < os.length → j < os.length → os.getD i 0 = os.getD j 0 → i = j := fun i j hi hj he => by
    have e1 : os[i]? = some (os.getD i 0) := by simp [hi]
    have e2 : os[j]? = some (os.getD j 0) := by simp [hj]
    rw [he] at e1
    exact (List.getElem?_inj hi hnd).1 (e1.trans e2.symm)
  let β : Nat → Nat := fun i => g.β (os.getD i 0)
  let κ : Nat → Nat := fun i => g.κ (os.getD i 0)
  have hinn : ∀ o1 o2, inn os o1 = some o2 → o2 < os.length ∧ os.getD o2 0 = o1 := fun o1 o2 hi => by
    unfold inn at hi
    split at hi
    · rename_i hm
      cases hi
      have hlt := List.idxOf_lt_length_of_mem hm
      exact ⟨hlt, by simp [List.getD, hlt]⟩
    · cases hi
  have hren : ∀ o1 o2, g.D o1 → inn os o1 = some o2 → (ghIO g.I β κ cs1.length).β o2 = g.β o1 ∧ (ghIO g.I β κ cs1.length).κ o2 = g.κ o1 ∧ (ghIO g.I β κ cs1.length).D o2 := fun o1 o2 _ hi => by
    obtain ⟨h1, h2⟩ := hinn o1 o2 hi
    exact ⟨by simp only [ghIO, β, h2], by simp only [ghIO, κ, h2], ⟨by simp only [ghIO]; omega, fun q => q⟩⟩
  have hargs : RepL (ghIO g.I β κ cs1.length) w qs (c.args.map a.eval).toList := by
    rw [Array.toList_map]
    exact RepL.conv (g := g) (g' := ghIO g.I β κ cs1.length) (Rep.ren (g := g) (g' := ghIO g.I β κ cs1.length) (fun _ _ hb => hb) hren fuel) (h.looks _) hqs
  have hO : ObjsIO g.I w β κ cs1 := by
    refine ⟨fun i hi => ?_, fun i j hi hj he => ?_, fun i c1 hi => ?_⟩
    · obtain ⟨c0, h1⟩ := hosS i (by omega)
      obtain ⟨_, _, h2, ⟨arr, h3, _⟩, _⟩ := h.ob _ _ h1
      exact ⟨lt_of_heap h3, h2⟩
    · obtain ⟨c0, h1⟩ := hosS i (by omega)
      obtain ⟨c0', h1'⟩ := hosS j (by omega)
      exact hinjo i j (by omega) (by omega) (h.inj _ _ (by rw [h1]; rfl) (by rw [h1']; rfl) he)
    · obtain ⟨c0, h0, h1, h2⟩ := hob i c1 hi
      unfold renC at h2
      rw [Option.map_eq_some_iff] at h2
      obtain ⟨es, h3, rfl⟩ := h2
      obtain ⟨_, _, _, ⟨arr, h4, h5⟩, h6, h7⟩ := h.ob _ _ h1
      have hl := (mapM_get h3).1
      exact ⟨⟨arr, h4, h5⟩, by simp only [hl]; exact h6, RepEs.conv (g := g) (g' := ghIO g.I β κ cs1.length) (Rep.ren (g := g) (g' := ghIO g.I β κ cs1.length) (fun _ _ hb => hb) hren fuel) h7 h3⟩
  have hrun : (execOp a.eval o).run P w = .ok (.enter f (c.args.map a.eval)) w := by
    unfold execOp
    simp only [ho, resolve, hc, Act.eval, Deferred.ofValue, Sem.run_bind, Sem.run_pure, Result.andThen_ok, invoke, callFunc, run_program, hfn]
    simp [hname, hbody]
  intro K Q hk
  unfold Oper.wp
  rw [hrun, Oper.upon_enter]
  refine (hs w g.I β κ qs cs1 _ r0 cs' hΦ h.lt hO (h.tab.keep h.fr fun t ht ⟨i, hi, he⟩ => by
    obtain ⟨c0, h1⟩ := hosS i (by omega)
    rcases (h.ob _ _ h1).2.1 with h2 | h2
    · have := h.tab.lt t ht
      simp only [β] at he
      omega
    · exact h.tab.apart t ht (he ▸ h2)) hargs).mono ?_
  rintro e w' ⟨v, β', κ', M, rfl, hfr, hle, hold, hnew, hM, hO', hrep⟩
  let g' : Gh := { I := addN g.I M, β := fun o => if o < g.nx then g.β o else β' (os.length + (o - g.nx)), κ := fun o => if o < g.nx then g.κ o else κ' (os.length + (o - g.nx)), nx := g.nx + (cs'.length - os.length), hole := fun o => g.hole o ∧ o < g.nx }
  have hgle : g.le g' := ⟨fun _ _ hb => .inl hb, fun o ho => ⟨Nat.lt_of_lt_of_le ho.1 (Nat.le_add_right _ _), fun q => ho.2 q.1⟩, fun o ho => by simp only [g', if_pos ho.1], fun o ho => by simp only [g', if_pos ho.1]⟩
  have hosnx : ∀ i, i < os.length → g.D (os.getD i 0) := fun i hi => by
    obtain ⟨c0, h1⟩ := hosS i hi
    exact (h.ob _ _ h1).1
  have hout : ∀ i, i < cs'.length → g'.β (outn os s.nx i) = β' i ∧ g'.κ (outn os s.nx i) = κ' i ∧ g'.D (outn os s.nx i) := fun i hi => by
    unfold outn
    rw [← h.nx]
    split
    · rename_i hlt
      have hx := hosnx i hlt
      have ho := hold i (by omega)
      refine ⟨?_, ?_, hgle.D _ hx⟩
      · simp only [g', if_pos hx.1]; exact ho.1.symm
      · simp only [g', if_pos hx.1]; exact ho.2.symm
    · rename_i hlt
      have e : os.length + (g.nx + (i - os.length) - g.nx) = i := by omega
      refine ⟨?_, ?_, ?_⟩
      · simp only [g']; rw [if_neg (by omega), e]
      · simp only [g']; rw [if_neg (by omega), e]
      · exact ⟨by simp only [g']; omega, fun q => by have := q.2; omega⟩
  have hren' : ∀ o1 o2, (ghIO (addN g.I M) β' κ' cs'.length).D o1 → (some (outn os s.nx o1)) = some o2 → g'.β o2 = (ghIO (addN g.I M) β' κ' cs'.length).β o1 ∧ g'.κ o2 = (ghIO (addN g.I M) β' κ' cs'.length).κ o1 ∧ g'.D o2 := fun o1 o2 h1 h2 => by
    cases h2
    exact hout o1 h1.1
  have hIsame : ∀ k b, g.I k b → w'.heap[b]? = w.heap[b]? := fun k b hb => hfr.block b (h.lt k b hb) (fun ⟨i, hi, he⟩ => (hO.lt i hi).2 k (he ▸ hb))
  have hpl : ∀ o c0, s.ob o = some c0 → g.β o < w.heap.size := fun o c0 hc0 => by
    obtain ⟨_, _, _, ⟨arr, h3, _⟩, _⟩ := h.ob _ _ hc0
    exact lt_of_heap h3
  have hkeys : ((((List.range cs2.length).map (outn os s.nx)).zip cs2).map (·.1)) = (List.range cs2.length).map (outn os s.nx) := by
    rw [List.map_fst_zip]; simp
  have houtinj : ∀ i j, i < cs'.length → j < cs'.length → outn os s.nx i = outn os s.nx j → i = j := fun i j hi hj he => by
    have h1 := (hout i hi).1
    have h2 := (hout j hj).1
    rw [he] at h1
    exact hO'.inj i j hi hj (h1.symm.trans h2)
  have hnodup : ((((List.range cs2.length).map (outn os s.nx)).zip cs2).map (·.1)).Nodup := by
    rw [hkeys]
    rw [List.nodup_iff_pairwise_ne, List.pairwise_map]
    refine (List.pairwise_lt_range).imp_of_mem fun {i j} hi hj hlt he => ?_
    have := houtinj i j (by have := List.mem_range.1 hi; omega) (by have := List.mem_range.1 hj; omega) he
    omega
  -- the objects afterwards
  have hobs : ∀ o1 c1, putObs s.ob (((List.range cs2.length).map (outn os s.nx)).zip cs2) o1 = some c1 →
      (∃ i, i < cs'.length ∧ o1 = outn os s.nx i ∧ cs2[i]? = some c1) ∨ (s.ob o1 = some c1 ∧ ∀ i, i < cs'.length → o1 ≠ outn os s.nx i) := fun o1 c1 h1 => by
    rcases putObs_get _ _ _ _ hnodup h1 with h2 | ⟨h2, h3⟩
    · left
      obtain ⟨i, hi, he⟩ := List.getElem_of_mem h2
      have hi2 : i < cs2.length := by simp at hi; exact hi
      rw [List.getElem_zip] at he
      simp only [List.getElem_map, List.getElem_range, Prod.mk.injEq] at he
      exact ⟨i, by omega, he.1.symm, by rw [List.getElem?_eq_getElem hi2, he.2]⟩
    · right
      refine ⟨h3, fun i hi he => h2 ?_⟩
      rw [hkeys, List.mem_map]
      exact ⟨i, List.mem_range.2 (by omega), he.symm⟩
  have hnotos : ∀ o1 c1, s.ob o1 = some c1 → (∀ i, i < cs'.length → o1 ≠ outn os s.nx i) → ∀ i, i < cs1.length → g.β o1 ≠ β i := fun o1 c1 h1 h2 i hi he => by
    obtain ⟨c0, h3⟩ := hosS i (by omega)
    have := h.inj o1 _ (by rw [h1]; rfl) (by rw [h3]; rfl) he
    refine h2 i (by omega) ?_
    unfold outn
    rw [if_pos (by omega)]
    exact this
  refine hk v w' g' ⟨h.nt, h.df, fun t => (h.tm t).mono hgle hIsame, fun o1 c1 h1 => ?_, fun o1 o2 h1 h2 he => ?_, ?_, ?_, ?_, ?_, ?_, ?_, ?_, h.tab⟩ (Rep.ren (g := ghIO (addN g.I M) β' κ' cs'.length) (g' := g') (fun _ _ hb => hb) hren' fuel _ _ _ hrep hr')
  · rcases hobs o1 c1 h1 with ⟨i, hi, rfl, hc1⟩ | ⟨h2, h3⟩
    · obtain ⟨k1, k2, k3⟩ := hout i hi
      obtain ⟨c0, hc0, hrc⟩ := mapM_at hcs2 hc1
      refine ⟨k3, ?_, ?_, ?_⟩
      · rw [k1]
        by_cases hlt : i < os.length
        · obtain ⟨c0', h4⟩ := hosS i hlt
          rw [(hold i (by omega)).1]
          exact (h.ob _ _ h4).2.1
        · have := hnew i (by omega) hi
          have := h.fr.size
          left; omega
      · intro k
        rw [k1]
        exact (hO'.lt i hi).2 k
      · obtain ⟨⟨arr, m1, m2⟩, m3, m4⟩ := hO'.at_ i c0 hc0
        unfold renC at hrc
        rw [Option.map_eq_some_iff] at hrc
        obtain ⟨es, h4, rfl⟩ := hrc
        have hl := (mapM_get h4).1
        refine ⟨⟨arr, by rw [k1]; exact m1, by rw [k2]; exact m2⟩, by rw [k2]; simp only [hl]; exact m3, ?_⟩
        rw [k1]
        exact RepEs.conv (g := ghIO (addN g.I M) β' κ' cs'.length) (g' := g') (Rep.ren (g := ghIO (addN g.I M) β' κ' cs'.length) (g' := g') (fun _ _ hb => hb) hren' fuel) m4 h4
    · obtain ⟨k1, k2, k3, k4⟩ := h.ob o1 c1 h2
      have hβ := hgle.β o1 k1
      have hlt := hpl o1 c1 h2
      refine ⟨hgle.D _ k1, by rw [hβ]; exact k2, fun k hb => ?_, k4.mono hgle k1 hIsame (hfr.block _ hlt fun ⟨i, hi, he⟩ => hnotos o1 c1 h2 h3 i hi he)⟩
      rw [hβ] at hb
      rcases hb with hb | ⟨_, hb⟩
      · exact k3 k hb
      · have := (hM _ hb).1
        omega
  · have key : ∀ o1, (putObs s.ob (((List.range cs2.length).map (outn os s.nx)).zip cs2) o1).isSome → (∃ i, i < cs'.length ∧ o1 = outn os s.nx i ∧ g'.β o1 = β' i) ∨ ((s.ob o1).isSome ∧ g'.β o1 = g.β o1 ∧ g.β o1 < w.heap.size ∧ ∀ i, i < cs1.length → g.β o1 ≠ β i) := fun o1 h1 => by
      obtain ⟨c1, hc1⟩ := Option.isSome_iff_exists.1 h1
      rcases hobs o1 c1 hc1 with ⟨i, hi, rfl, _⟩ | ⟨h2, h3⟩
      · exact .inl ⟨i, hi, rfl, (hout i hi).1⟩
      · exact .inr ⟨by simp [h2], hgle.β o1 (h.ob _ _ h2).1, hpl o1 c1 h2, hnotos o1 c1 h2 h3⟩
    have mixed : ∀ i o2, i < cs'.length → g.β o2 < w.heap.size → (∀ i, i < cs1.length → g.β o2 ≠ β i) → β' i ≠ g.β o2 := fun i o2 hi h2 h3 he => by
      by_cases hlt : i < cs1.length
      · exact h3 i hlt (by rw [← he]; exact (hold i hlt).1)
      · have := hnew i (by omega) hi
        omega
    rcases key o1 h1 with ⟨i, hi, rfl, e1⟩ | ⟨k1, k2, k3, k4⟩
    · rcases key o2 h2 with ⟨j, hj, rfl, e2⟩ | ⟨l1, l2, l3, l4⟩
      · rw [e1, e2] at he
        rw [hO'.inj i j hi hj he]
      · rw [e1, l2] at he
        exact (mixed i o2 hi l3 l4 he).elim
    · rcases key o2 h2 with ⟨j, hj, rfl, e2⟩ | ⟨l1, l2, l3, l4⟩
      · rw [e2, k2] at he
        exact (mixed j o1 hj k3 k4 he.symm).elim
      · rw [k2, l2] at he
        exact h.inj o1 o2 k1 l1 he
  · simp only [g', h.nx]
  · rintro k b (hb | ⟨_, hb⟩)
    · exact Nat.lt_of_lt_of_le (h.lt k b hb) hfr.size
    · exact (hM b hb).2
  · rintro b (hb | ⟨_, hb⟩)
    · exact h.new b hb
    · have h1 := (hM b hb).1
      have h2 := h.fr.size
      exact .inl ⟨by omega, fun hi => by have := hio b hi; omega⟩
  · refine ⟨hfr.os.trans h.fr.os, hfr.tape.trans h.fr.tape, hfr.output.trans h.fr.output, Nat.le_trans h.fr.size hfr.size, fun b hb hi => ?_⟩
    rw [hfr.block b (Nat.lt_of_lt_of_le hb h.fr.size) fun ⟨i, hi', he⟩ => ?_]
    · exact h.fr.block b hb hi
    · subst he
      obtain ⟨c0, h1⟩ := hosS i (by omega)
      rcases (h.ob _ _ h1).2.1 with h2 | h2
      · exact absurd hb (by simp only [β]; omega)
      · exact hi h2
  · rintro b (hb | ⟨hk, _⟩)
    · exact h.old b hb
    · cases hk
  · exact ⟨fun o1 ho1 => hgle.D o1 (h.fix.1 o1 ho1), fun o1 ho1 => by have hk := h.fix.1 o1 ho1; rw [hgle.β o1 hk, hgle.κ o1 hk]; exact h.fix.2 o1 ho1⟩
  · exact fun o1 ho1 => ⟨⟨(h.hl o1 ho1).1, (h.hl o1 ho1).2⟩, Nat.lt_of_lt_of_le (h.hl o1 ho1).2 (Nat.le_add_right _ _)⟩
end
end Go.Proofs.Ytngcedklbinhjaa
namespace Go.Proofs.Ytngcedklbinhjaa
open Go.RowKit
set_option linter.all false
section
variable {P : Program} {Γ : Ctx} {io : IoS} {w0 : World} {N : Nat} {g : Gh} {s : AS} {a : Act} {w w' : World} {o : Oper} {p : PV}
theorem run_append_zero {t e sz : Nat} (w : World) (ht : P.underlying t = some (.slice e)) (hs : tySize P e = some sz) (ty : Nat) (b ad : Option Addr) (n c cap : Nat) (hn : n ≤ c) :
    (Builtin.append_ #[t, t] ty #[.slice b n c, .slice ad 0 cap]).run P w = .ok (.slice b n c) w := by
  cases ad with
  | none => cases b <;> simp [Builtin.append_, run_underlying ht, run_size hs w, Builtin.lenOf, Builtin.firstCells, storeCells, hn]
  | some ad => cases b <;> simp [Builtin.append_, run_underlying ht, run_size hs w, Builtin.lenOf, Builtin.firstCells, loadCells, loadCellsFrom, storeCells, hn]
theorem rep_row {ob sz n : Nat} {v : Value} (h : Rep g w (.row ob sz 0 n) v) : ∃ c, v = .slice (some ⟨g.β ob, 0, none⟩) n c ∧ n ≤ c ∧ c ≤ 9223372036854775807 ∧ c * sz ≤ g.κ ob ∧ g.D ob := by
  simp only [Rep] at h
  obtain ⟨c, h1, h2, h3, h4, h5⟩ := h
  exact ⟨c, by simpa using h1, h2, h3, by simpa using h4, h5⟩
theorem exec_append {x y : Operand} {c : Call} {t : Nat} (ho : o.op = .call c) (hc : c.callee = .builtin .append) (ha : c.args.toList = [x, y]) (ht : c.argTypes.toList = [t, t]) {v : Value}
    (h : (Builtin.append_ #[t, t] o.type #[a.eval x, a.eval y]).run P w = .ok v w') : (execOp a.eval o).run P w = .ok (.value v) w' := by
  have ha' : c.args = #[x, y] := by rw [← Array.toArray_toList (xs := c.args), ha]
  have ht' : c.argTypes = #[t, t] := by rw [← Array.toArray_toList (xs := c.argTypes), ht]
  simp [execOp, ho, resolve, hc, ha', ht', invoke, builtin, h]
theorem eff_append (h : Rel io w0 N g s a w) (hio : ∀ b, io b → b < w0.heap.size) {x y : Operand} {c : Call} {t e sz by_ : Nat} {z : Value} (ho : o.op = .call c) (hc : c.callee = .builtin .append) (ha : c.args.toList = [x, y]) (ht : c.argTypes.toList = [t, t])
    (he : tyElem P t = some e) (hz : zeroOf P e = some z) (hs : tySize P e = some sz) (hb : tyBytes P e = some by_) {es es2 : List PV} (h2 : sliceEs s.ob sz (look s.tm y) = some es2) (hsz : 0 < sz) (hzs : z.cells.size = sz)
    {ob n : Nat} (hx : look s.tm x = .row ob sz 0 n) (hob : s.ob ob = some (e, sz, es)) (hn : es.length = n) (h63 : n + es2.length ≤ 9223372036854775807) (hby : (n + es2.length) * by_ ≤ 140737488355328) :
    Turns P o io w0 N s a w (.row s.nx sz 0 (n + es2.length), upd (upd s.ob ob none) s.nx (some (e, sz, es ++ es2)), s.nx + 1) := by
  have hu := elem_info he
  obtain ⟨i, hi, hib⟩ := run_bytes hb
  have hisz := size_info hi hs
  have hiz := zero_info hi hz
  have hX := h.look x
  rw [hx] at hX
  obtain ⟨cap, hX, r1, r2, r3, r4⟩ := rep_row hX
  obtain ⟨k1, k2, k3, ⟨arr, k4, k5⟩, k6, k7⟩ := h.ob ob _ hob
  dsimp only at k4 k6 k7
  obtain ⟨ad, cap2, hY, q1, q2⟩ := sliceEs_rep h (h.look y) h2
  have hlays := k7.lays k4
  by_cases hm : es2.length = 0
  · have hnil : es2 = [] := List.eq_nil_of_length_eq_zero hm
    subst hnil
    have hrun := exec_append (a := a) ho hc ha ht (by rw [hX, hY]; exact run_append_zero w hu hs o.type (some ⟨g.β ob, 0, none⟩) ad n cap cap2 r1)
    have hren := h.rename hob
    rw [List.append_nil]
    refine Turns.run hrun hren ?_
    rw [← h.nx]
    exact rep_row_new r1 r2 r3
  · rcases q2 with rfl | ⟨b, off, rfl, q3⟩
    · simp at hm
    · obtain ⟨news, n1, n2, n3, n4⟩ := q3.news
      have hnews : ∀ j u, news[j]? = some u → w.cell? ((⟨b, off, none⟩ : Addr).add j) = some u := fun j u hj => by rw [Addr.add_mid]; exact n2 j u hj
      by_cases hroom : n + es2.length ≤ cap
      · have hfit : n * sz + news.length ≤ arr.size := by
          rw [n1, k5, ← Nat.add_mul]
          exact Nat.le_trans (Nat.mul_le_mul_right _ hroom) r3
        have hr := run_append_room (P := P) w t o.type e i hu hi (g.β ob) n cap arr k4 ⟨b, off, none⟩ es2.length cap2 news (by rw [hisz]; exact n1) hnews n3 hroom (by rw [hisz]; exact hfit)
        rw [hisz] at hr
        have hrun := exec_append (a := a) ho hc ha ht (by rw [hX, hY]; exact hr)
        have hsl : (arr.toList.take (n * sz) ++ news ++ arr.toList.drop (n * sz + news.length)) = setL arr.toList (n * sz) news := rfl
        rw [hsl] at hrun
        have hget : ∀ j, ((setL arr.toList (n * sz) news).toArray)[j]? = if n * sz ≤ j ∧ j < n * sz + news.length then news[j - n * sz]? else arr[j]? := by
          intro j
          rw [List.getElem?_toArray, setL_get _ _ _ (by simpa using hfit)]
          simp
        have hset := h.set (w' := w.setRow (g.β ob) (setL arr.toList (n * sz) news).toArray) (es' := es ++ es2) hob (arr := (setL arr.toList (n * sz) news).toArray) ⟨rfl, rfl, rfl, by simp [World.setRow]⟩ (fun b hb => setRow_other _ _ _ _ hb) (setRow_heap _ _ _ _ _ _ k4)
          (by rw [List.size_toArray, setL_length _ _ _ (by simpa using hfit)]; simpa using k5)
          (lays_append hn hlays n4 (fun j hj => by rw [hget, if_neg (by omega)]) (fun j hj => by rw [hget, if_pos (by omega)]; congr 1; omega) n1)
          (by rw [List.length_append, hn, ← k5, Nat.add_mul, ← n1]; exact hfit)
        have hren := hset.rename (ob := ob) (c := (e, sz, es ++ es2)) (by simp [upd])
        dsimp only at hren
        rw [upd_comm_eq] at hren
        refine Turns.run hrun hren ?_
        rw [← h.nx]
        exact rep_row_new hroom r2 r3
      · obtain ⟨olds, o1, o2, o3, o4⟩ := k7.news
        rw [hn] at o1
        have holds : ∀ j u, olds[j]? = some u → w.cell? ((⟨g.β ob, 0, none⟩ : Addr).add j) = some u := fun j u hj => by rw [Addr.add_mid]; exact o2 j u hj
        have hr := run_append_grow (P := P) w t o.type e i z hu hi hiz ⟨g.β ob, 0, none⟩ n cap olds (by rw [hisz]; exact o1) holds ⟨b, off, none⟩ es2.length cap2 news (by rw [hisz]; exact n1) hnews (by omega) (by omega) (by rw [hib]; exact growslice_fits (by omega) hby)
        have hrun := exec_append (a := a) ho hc ha ht (by rw [hX, hY]; exact hr)
        have hge := grownCap_ge w (n + es2.length) cap e
        have hcm := grownCap_le_maxLen w (n + es2.length) cap e (by simp only [maxLen]; omega)
        have hasz : (olds.toArray ++ news.toArray ++ Builtin.zeroCells z.cells (grownCap w (n + es2.length) cap e - (n + es2.length))).size = grownCap w (n + es2.length) cap e * sz := by
          simp only [Array.size_append, List.size_toArray, size_zeroCells, hzs, o1, n1, ← Nat.add_mul]
          congr 1
          omega
        have hget : ∀ j, j < (n + es2.length) * sz → (olds.toArray ++ news.toArray ++ Builtin.zeroCells z.cells (grownCap w (n + es2.length) cap e - (n + es2.length)))[j]? = (olds ++ news)[j]? := by
          intro j hj
          rw [Nat.add_mul] at hj
          rw [Array.getElem?_append_left (by simp [o1, n1]; omega), ← List.getElem?_toArray, List.append_toArray]
        have hbl : Below w.heap.size w (w.drew.alloc (.cells (olds.toArray ++ news.toArray ++ Builtin.zeroCells z.cells (grownCap w (n + es2.length) cap e - (n + es2.length))) e)) := ((Below.refl _ _).drew).alloc (Nat.le_refl _) _
        have hadd := (h.del ob).add (es := es ++ es2) (sz := sz) hio hbl (heap_alloc_new w.drew _)
          (lays_append (arr := olds.toArray) hn (fun i e he => by obtain ⟨u, m1, m2, m3, m4⟩ := o4 i e he; exact ⟨u, m1, m2, m3, fun j hj => by rw [List.getElem?_toArray]; exact m4 j hj⟩) n4
            (fun j hj => by rw [hget j (by rw [Nat.add_mul]; omega), List.getElem?_append_left (by omega), List.getElem?_toArray])
            (fun j hj => by rw [hget _ (by rw [Nat.add_mul]; omega), List.getElem?_append_right (by omega)]; congr 1; omega) n1)
          (by rw [hasz, List.length_append, hn]; exact Nat.mul_le_mul_right _ hge)
        refine Turns.run hrun hadd ?_
        rw [← h.nx]
        refine rep_row_new hge ?_ (Nat.le_of_eq hasz.symm)
        simpa [maxLen] using hcm
theorem eff_append_nil (h : Rel io w0 N g s a w) (hio : ∀ b, io b → b < w0.heap.size) {x y : Operand} {c : Call} {t e sz by_ : Nat} {z : Value} (ho : o.op = .call c) (hc : c.callee = .builtin .append) (ha : c.args.toList = [x, y]) (ht : c.argTypes.toList = [t, t])
    (he : tyElem P t = some e) (hz : zeroOf P e = some z) (hs : tySize P e = some sz) (hb : tyBytes P e = some by_) {es2 : List PV} (h2 : sliceEs s.ob sz (look s.tm y) = some es2) (hsz : 0 < sz) (hzs : z.cells.size = sz)
    (hx : isNil (look s.tm x) = true) (h63 : es2.length ≤ 9223372036854775807) (hby : es2.length * by_ ≤ 140737488355328) :
    (es2.length = 0 → Turns P o io w0 N s a w (look s.tm x, s.ob, s.nx)) ∧ (es2.length ≠ 0 → Turns P o io w0 N s a w (.row s.nx sz 0 es2.length, upd s.ob s.nx (some (e, sz, es2)), s.nx + 1)) := by
  have hu := elem_info he
  obtain ⟨i, hi, hib⟩ := run_bytes hb
  have hisz := size_info hi hs
  have hiz := zero_info hi hz
  have hX := h.look x
  have hX' := hX
  unfold isNil at hx
  split at hx
  case h_2 => cases hx
  case h_1 hl =>
  rw [hl] at hX'
  simp only [Rep] at hX'
  obtain ⟨ad, cap2, hY, q1, q2⟩ := sliceEs_rep h (h.look y) h2
  refine ⟨fun hm => ?_, fun hm => ?_⟩
  · rw [hm] at hY
    have hrun := exec_append (a := a) ho hc ha ht (by rw [hX', hY]; exact run_append_zero w hu hs o.type none ad 0 0 cap2 (Nat.le_refl _))
    exact Turns.run hrun h (by rw [← hX']; exact hX)
  · rcases q2 with rfl | ⟨b, off, rfl, q3⟩
    · simp at hm
    · obtain ⟨news, n1, n2, n3, n4⟩ := q3.news
      have hnews : ∀ j u, news[j]? = some u → w.cell? ((⟨b, off, none⟩ : Addr).add j) = some u := fun j u hj => by rw [Addr.add_mid]; exact n2 j u hj
      have hr := run_append_nil (P := P) w t o.type e i z hu hi hiz ⟨b, off, none⟩ es2.length cap2 news (by rw [hisz]; exact n1) hnews (by omega) (by omega) (by rw [hib]; omega)
      have hrun := exec_append (a := a) ho hc ha ht (by rw [hX', hY]; exact hr)
      have hge := grownCap_ge w es2.length 0 e
      have hcm := grownCap_le_maxLen w es2.length 0 e (by simp only [maxLen]; omega)
      have hasz : (news.toArray ++ Builtin.zeroCells z.cells (grownCap w es2.length 0 e - es2.length)).size = grownCap w es2.length 0 e * sz := by
        simp only [Array.size_append, List.size_toArray, size_zeroCells, hzs, n1, ← Nat.add_mul]
        congr 1
        omega
      have hbl : Below w.heap.size w (w.drew.alloc (.cells (news.toArray ++ Builtin.zeroCells z.cells (grownCap w es2.length 0 e - es2.length)) e)) := ((Below.refl _ _).drew).alloc (Nat.le_refl _) _
      refine Turns.new h hio hrun hbl (heap_alloc_new w.drew _) ?_ (by rw [hasz]; exact Nat.mul_le_mul_right _ hge) ?_
      · intro i' e' he'
        obtain ⟨u, m1, m2, m3, m4⟩ := n4 i' e' he'
        refine ⟨u, m1, m2, m3, fun j hj => ?_⟩
        have hlt : i' < es2.length := (List.getElem?_eq_some_iff.1 he').1
        have : (i' + 1) * sz ≤ es2.length * sz := Nat.mul_le_mul_right _ (by omega)
        rw [Nat.add_one_mul] at this
        rw [Array.getElem?_append_left (by simp [n1]; omega), List.getElem?_toArray]
        exact m4 j hj
      · rw [← h.nx]
        refine rep_row_new hge ?_ (Nat.le_of_eq hasz.symm)
        simpa [maxLen] using hcm
theorem srcEs_rep (h : Rel io w0 N g s a w) {sz : Nat} {x : PV} {es : List PV} {v : Value} (hx : Rep g w x v) (he : srcEs s.ob sz x = some es) (m : Nat) (hm : m ≤ es.length) :
    (Builtin.lenOf v).run P w = .ok es.length w ∧ ∃ news : List Value, (Builtin.firstCells sz m v).run P w = .ok news.toArray w ∧ news.length = m * sz ∧ (∀ u ∈ news, u.oneCell' = true) ∧
      ∀ (i : Nat) e, (es.take m)[i]? = some e → ∃ u, Rep g w e u ∧ u.cells.all (·.oneCell') = true ∧ u.cells.size = sz ∧ ∀ j, j < sz → news[i * sz + j]? = u.cells[j]? := by
  unfold srcEs at he
  split at he
  · rename_i b
    split at he
    case isFalse => cases he
    case isTrue hsz =>
    subst hsz
    cases he
    simp only [Rep] at hx
    subst hx
    have hl : (b.data.toList.map fun x => PV.val (.int .u8 x.toNat)).length = b.size := by rw [List.length_map]; exact Array.length_toList
    rw [hl] at hm ⊢
    refine ⟨by simp [Builtin.lenOf], (b.data.toList.take m).map fun x => .int .u8 x.toNat, ?_, ?_, ?_, fun i e hi => ?_⟩
    · have e1 : (b.extract 0 m).data.toList = b.data.toList.take m := by
        rw [ByteArray.data_extract, Array.toList_extract]
        simp [List.extract]
      have e2 : (b.extract 0 m).data.map (fun b => Value.int .u8 b.toNat) = ((b.data.toList.take m).map fun x => Value.int .u8 x.toNat).toArray := by
        rw [← Array.toArray_toList (xs := (b.extract 0 m).data.map _), Array.toList_map, e1]
      show (Sem.pure ((b.extract 0 m).data.map fun b => Value.int .u8 b.toNat)).run P w = _
      rw [e2]
      rfl
    · simp only [List.length_map, List.length_take, Array.length_toList]
      have : b.data.size = b.size := rfl
      omega
    · intro u hu
      obtain ⟨x, _, rfl⟩ := List.mem_map.1 hu
      rfl
    · rw [← List.map_take, List.getElem?_map, Option.map_eq_some_iff] at hi
      obtain ⟨x, hx, rfl⟩ := hi
      refine ⟨.int .u8 x.toNat, by simp [Rep], by simp [Value.cells, Value.oneCell'], rfl, fun j hj => ?_⟩
      obtain rfl : j = 0 := by omega
      simp only [Nat.mul_one, Nat.add_zero, List.getElem?_map, hx]
      rfl
  · obtain ⟨ad, cap, rfl, h1, h2⟩ := sliceEs_rep h hx he
    refine ⟨by simp [Builtin.lenOf], ?_⟩
    rcases h2 with rfl | ⟨b, off, rfl, h3⟩
    · obtain rfl : m = 0 := by simpa using hm
      refine ⟨[], ?_, by simp, by simp, by simp⟩
      cases ad with
      | none => simp [Builtin.firstCells]
      | some ad => exact run_firstCells_some (P := P) w sz 0 ad _ _ [] (by simp) (by simp)
    · obtain ⟨news, n1, n2, n3, n4⟩ := (h3.take m).news
      rw [List.length_take, Nat.min_eq_left hm] at n1
      exact ⟨news, run_firstCells_some (P := P) w sz m ⟨b, off, none⟩ _ _ news n1 (fun j u hj => by rw [Addr.add_mid]; exact n2 j u hj), n1, n3, n4⟩
theorem lays_splice {sz k : Nat} {es es2 : List PV} {news : List Value} {arr arr' : Array Value} (hk : k + es2.length ≤ es.length) (h1 : Lays g w arr sz es)
    (h2 : ∀ (i : Nat) e, es2[i]? = some e → ∃ u, Rep g w e u ∧ u.cells.all (·.oneCell') = true ∧ u.cells.size = sz ∧ ∀ j, j < sz → news[i * sz + j]? = u.cells[j]?)
    (ha : ∀ j, arr'[j]? = if k * sz ≤ j ∧ j < k * sz + news.length then news[j - k * sz]? else arr[j]?) (hl : news.length = es2.length * sz) : Lays g w arr' sz (es.take k ++ es2 ++ es.drop (k + es2.length)) := fun i e he => by
  have hlt : ∀ i m j : Nat, i < m → j < sz → i * sz + j < m * sz := fun i m j h h' => Nat.lt_of_lt_of_le (by rw [Nat.add_one_mul]; omega : i * sz + j < (i + 1) * sz) (Nat.mul_le_mul_right _ (by omega))
  have hkl : (es.take k).length = k := by simp; omega
  have e2 : (k + es2.length) * sz = k * sz + news.length := by rw [Nat.add_mul, hl]
  by_cases c1 : i < k
  · rw [List.append_assoc, List.getElem?_append_left (by omega), List.getElem?_take, if_pos c1] at he
    obtain ⟨u, k1, k2, k3, k4⟩ := h1 i e he
    refine ⟨u, k1, k2, k3, fun j hj => ?_⟩
    rw [ha, if_neg (by have := hlt i k j c1 hj; omega)]
    exact k4 j hj
  · by_cases c2 : i < k + es2.length
    · rw [List.append_assoc, List.getElem?_append_right (by omega), hkl, List.getElem?_append_left (by omega)] at he
      obtain ⟨u, k1, k2, k3, k4⟩ := h2 _ e he
      refine ⟨u, k1, k2, k3, fun j hj => ?_⟩
      have h3 := hlt i (k + es2.length) j c2 hj
      have h4 : k * sz ≤ i * sz := Nat.mul_le_mul_right _ (by omega)
      rw [ha, if_pos ⟨by omega, by omega⟩, show i * sz + j - k * sz = (i - k) * sz + j by rw [Nat.sub_mul]; omega]
      exact k4 j hj
    · rw [List.getElem?_append_right (by simp; omega)] at he
      have e3 : (es.take k ++ es2).length = k + es2.length := by simp; omega
      rw [e3, List.getElem?_drop, show k + es2.length + (i - (k + es2.length)) = i by omega] at he
      obtain ⟨u, k1, k2, k3, k4⟩ := h1 i e he
      refine ⟨u, k1, k2, k3, fun j hj => ?_⟩
      have h4 : (k + es2.length) * sz ≤ i * sz := Nat.mul_le_mul_right _ (by omega)
      rw [ha, if_neg (by omega)]
      exact k4 j hj
theorem eff_copy (h : Rel io w0 N g s a w) {x y : Operand} {c : Call} {t t' : Nat} (ho : o.op = .call c) (hc : c.callee = .builtin .copy) (ha : c.args.toList = [x, y]) (ht : c.argTypes.toList = [t, t'])
    {r : PV × Objs × Nat} (hv : cpEv P s.ob s.nx t (look s.tm x) (look s.tm y) = some r) : Turns P o io w0 N s a w r := by
  unfold cpEv at hv
  split at hv
  case h_2 => cases hv
  rename_i e he
  split at hv
  case h_2 => cases hv
  rename_i sz hs
  have ha' : c.args = #[x, y] := by rw [← Array.toArray_toList (xs := c.args), ha]
  have ht' : c.argTypes = #[t, t'] := by rw [← Array.toArray_toList (xs := c.argTypes), ht]
  have hu := elem_info he
  split at hv
  case h_3 => cases hv
  case h_2 es2 kk ss h2 hx =>
    cases hv
    have hX := h.look x
    rw [hx] at hX
    simp only [Rep] at hX
    obtain ⟨ad, cap, hX, _⟩ := hX
    obtain ⟨q1, news, q2, q3, _, _⟩ := srcEs_rep (P := P) h (h.look y) h2 0 (Nat.zero_le _)
    have hnil : news = [] := List.eq_nil_of_length_eq_zero (by simpa using q3)
    subst hnil
    have hcp : (Builtin.copy_ #[t, t'] o.type #[a.eval x, a.eval y]).run P w = .ok (.int .i64 0) w := by
      rw [hX]
      simp only [Builtin.copy_, List.getElem?_toArray, List.getElem?_cons_zero, List.getElem?_cons_succ, Sem.run_bind, run_underlying hu, Result.andThen_ok, q1, run_size hs w, List.length_nil]
      rw [show Nat.min es2.length 0 = 0 from Nat.min_zero _, q2]
      simp only [Result.andThen_ok]
      cases ad with
      | none => rfl
      | some ad => rfl
    have hrun : (execOp a.eval o).run P w = .ok (.value (.int .i64 0)) w := by
      simp [execOp, ho, resolve, hc, ha', ht', invoke, builtin, hcp]
    exact Turns.run hrun h (by simp [Rep])
  rename_i es2 ob sz' i n h2 hx
  split at hv
  case h_2 => cases hv
  rename_i T sz'' es hob
  split at hv
  case isFalse => cases hv
  case isTrue hh =>
  obtain ⟨rfl, rfl, hle⟩ := hh
  cases hv
  have hX := h.look x
  rw [hx] at hX
  simp only [Rep] at hX
  obtain ⟨cap, hX, r1, r2, r3, r4⟩ := hX
  obtain ⟨k1, k2, k3, ⟨arr, k4, k5⟩, k6, k7⟩ := h.ob ob _ hob
  dsimp only at k4 k6 k7
  have hlays := k7.lays k4
  generalize hm : min es2.length n = m
  have hm1 : m ≤ es2.length := by omega
  have hm2 : m ≤ n := by omega
  obtain ⟨q1, news, q2, q3, q4, q5⟩ := srcEs_rep (P := P) h (h.look y) h2 m hm1
  have hfit : i * sz'' + news.length ≤ arr.size := by
    rw [q3, ← Nat.add_mul, k5]
    exact Nat.le_trans (Nat.mul_le_mul_right _ (by omega)) k6
  have hst := run_storeCells_at (P := P) (g.β ob) (i * sz'') T news 0 arr w k4 (by omega) q4
  simp only [Nat.add_zero] at hst
  have hcp : (Builtin.copy_ #[t, t'] o.type #[a.eval x, a.eval y]).run P w = .ok (.int .i64 (m : Nat)) (w.setRow (g.β ob) (arr.toList.take (i * sz'') ++ news ++ arr.toList.drop (i * sz'' + news.length)).toArray) := by
    rw [hX]
    simp only [Builtin.copy_, List.getElem?_toArray, List.getElem?_cons_zero, List.getElem?_cons_succ, Sem.run_bind, run_underlying hu, Result.andThen_ok, q1, run_size hs w]
    rw [show Nat.min es2.length n = m from hm, q2]
    simp only [Result.andThen_ok]
    rw [hst]
    rfl
  have hrun : (execOp a.eval o).run P w = .ok (.value (.int .i64 (m : Nat))) (w.setRow (g.β ob) (setL arr.toList (i * sz'') news).toArray) := by
    simp [execOp, ho, resolve, hc, ha', ht', invoke, builtin, hcp, setL]
  have hget : ∀ j, ((setL arr.toList (i * sz'') news).toArray)[j]? = if i * sz'' ≤ j ∧ j < i * sz'' + news.length then news[j - i * sz'']? else arr[j]? := by
    intro j
    rw [List.getElem?_toArray, setL_get _ _ _ (by simpa using hfit)]
    simp
  have htl : (es2.take m).length = m := by simp; omega
  have hly := lays_splice (k := i) (es := es) (es2 := es2.take m) (by rw [htl]; omega) hlays q5 hget (by rw [htl]; exact q3)
  rw [htl] at hly
  have hset := h.set (w' := w.setRow (g.β ob) (setL arr.toList (i * sz'') news).toArray) hob (arr := (setL arr.toList (i * sz'') news).toArray) ⟨rfl, rfl, rfl, by simp [World.setRow]⟩ (fun b hb => setRow_other _ _ _ _ hb) (setRow_heap _ _ _ _ _ _ k4)
    (by rw [List.size_toArray, setL_length _ _ _ (by simpa using hfit)]; simpa using k5) hly
    (by
      have : (es.take i ++ es2.take m ++ es.drop (i + m)).length = es.length := by simp; omega
      rw [this]; exact k6)
  exact Turns.run hrun hset (by simp [Rep])
theorem evEff_ok (h : Rel io w0 N g s a w) (hΓ : SoundΓ P Γ) (hio : ∀ b, io b → b < w0.heap.size) {r : PV × Objs × Nat} (hv : evEff P Γ s (look s.tm) o.op = some r) : Turns P o io w0 N s a w r := by
  cases ho : o.op with
  | alloc t =>
    simp only [ho, evEff] at hv
    split at hv
    · rename_i z hz
      split at hv
      case isFalse => cases hv
      case isTrue h1 => cases hv; exact eff_alloc h hio ho hz h1
    · cases hv
  | box t x =>
    simp only [ho, evEff] at hv
    split at hv
    · rename_i cs hc; cases hv; exact eff_box h hio ho hc
    · cases hv
  | buildSlice t n ps =>
    simp only [ho, evEff] at hv
    split at hv
    · rename_i e sz es hc; cases hv; exact eff_buildSlice h hio ho hc
    · cases hv
  | makeSlice t l c =>
    simp only [ho, evEff] at hv
    split at hv
    · rename_i e he
      split at hv
      · rename_i z sz by_ kl l' kc c' hz hs hb hl hc
        split at hv
        case isFalse => cases hv
        case isTrue hh =>
          obtain ⟨h1, h2, h3, h4, h5, h6⟩ := hh
          cases hv
          exact eff_makeSlice h hio ho he hz hs hb hl hc h1 h2 h3 h4 h5 h6
      · cases hv
    · cases hv
  | store t x y =>
    simp only [ho, evEff] at hv
    split at hv
    · rename_i ob sz i f hx
      split at hv
      · rename_i T sz' es hob
        split at hv
        · rename_i e cs he hc
          split at hv
          case isFalse => cases hv
          case isTrue hh =>
            obtain ⟨rfl, hts⟩ := hh
            simp only [Option.map_eq_some_iff] at hv
            obtain ⟨e', hp, rfl⟩ := hv
            exact eff_store h ho hx hob he hc hts hp
        · cases hv
      · cases hv
    · cases hv
  | call c =>
    simp only [ho, evEff] at hv
    split at hv
    · rename_i x hc
      split at hv
      · rename_i Φ hΦ
        unfold calleeIO at hΦ
        split at hΦ
        · rename_i f hcf
          obtain ⟨h1, h2⟩ := hΓ.2 f Φ hΦ
          exact eff_io h hio ho hcf h1 h2 hv
        · cases hΦ
      · cases hv
    · rename_i hc
      split at hv
      · rename_i x y t t' ha ht
        exact eff_copy h ho hc ha ht hv
      · cases hv
    · rename_i hc
      split at hv
      · rename_i x y t t' ha ht
        split at hv
        · rename_i e he
          split at hv
          · rename_i z sz by_ hz hs hb
            split at hv
            · rename_i es2 h2
              split at hv
              case isFalse => cases hv
              case isTrue hh =>
                obtain ⟨rfl, hsz, hzs⟩ := hh
                split at hv
                · rename_i ob sz' i n hx
                  split at hv
                  · rename_i T sz'' es hob
                    split at hv
                    case isFalse => cases hv
                    case isTrue hh2 =>
                      obtain ⟨rfl, rfl, rfl, rfl, hn, h63, hby⟩ := hh2
                      cases hv
                      exact eff_append h hio ho hc ha ht he hz hs hb h2 hsz hzs hx hob hn h63 hby
                  · cases hv
                · split at hv
                  case isFalse => cases hv
                  case isTrue hh2 =>
                    obtain ⟨hnil, h63, hby⟩ := hh2
                    have := eff_append_nil h hio ho hc ha ht he hz hs hb h2 hsz hzs hnil h63 hby
                    split at hv
                    · rename_i h0; cases hv; exact this.1 h0
                    · rename_i h0; cases hv; exact this.2 h0
            · cases hv
          · cases hv
        · cases hv
      · cases hv
    · cases hv
  | _ => simp [ho, evEff] at hv
end
end Go.Proofs.Ytngcedklbinhjaa
namespace Go.Proofs.Ytngcedklbinhjaa
open Go.RowKit
set_option linter.all false
structure Md where
  imm : List Nat
  pri : List Nat
  V : List Nat
def inD (l : List Nat) (o : Oper) : Bool := match o.dst with | some d => l.contains d | none => false
def isEff (Γ : Ctx) (imm : Md) (o : Oper) : Bool :=
  match o.op with
  | .alloc _ | .box .. | .makeSlice .. | .store .. => true
  | .buildSlice .. => !(inD imm.imm o)
  | .call c => match c.callee with
    | .builtin .append | .builtin .copy => true
    | .value _ => (calleeIO Γ c).isSome
    | _ => false
  | _ => false
def quiet (imm : Md) (o : Oper) : Bool :=
  match o.op with
  | .load .. | .convert .. => inD imm.imm o
  | .call c => match c.callee with
    | .value _ => inD imm.imm o
    | _ => false
  | _ => false
def privy (imm : Md) (o : Oper) : Bool :=
  match o.op with
  | .load .. => inD imm.pri o
  | _ => false
def readsO (imm : Md) (o : Oper) : Bool :=
  match o.op with
  | .load .. => !(inD imm.imm o) && !(inD imm.pri o)
  | .convert .. => !(inD imm.imm o)
  | .call c => match c.callee with
    | .value _ => !(inD imm.imm o)
    | _ => false
  | _ => false
def noObs : Objs := fun _ => none
def onlyV (V : List Nat) (ob : Objs) : Objs := fun o => if V.contains o then ob o else none
def obq (imm : Md) (o : Oper) (ob : Objs) : Objs := if quiet imm o = true then noObs else if privy imm o = true then onlyV imm.V ob else ob
def touch (Γ : Ctx) (ρ : Operand → PV) : Op → List Nat
  | .store _ x _ => refsOf (ρ x)
  | .call c => c.args.toList.flatMap fun x => refsOf (ρ x)
  | _ => []
def effOk (Γ : Ctx) (imm : Md) (nx : Nat) (ρ : Operand → PV) (op : Op) : Bool := imm.V.all fun v => decide (v < nx) && !((touch Γ ρ op).contains v)
theorem mapM_imp {α β : Type} {F G : α → Option β} : ∀ {l : List α} {l' : List β}, (∀ x ∈ l, ∀ y, F x = some y → G x = some y) → l.mapM F = some l' → l.mapM G = some l'
  | [], l', _, h => h
  | x :: l, l', hi, h => by
    simp only [List.mapM_cons, Option.bind_eq_bind, Option.bind_eq_some_iff, Option.pure_def, Option.some.injEq] at h ⊢
    obtain ⟨y, h1, ys, h2, rfl⟩ := h
    exact ⟨y, hi x (by simp) y h1, ys, mapM_imp (fun z hz => hi z (by simp [hz])) h2, rfl⟩
theorem reify_noObs {fr : Bool} {n : Nat} {ob : Objs} : ∀ (f : Nat) (p q : PV), reify fr n noObs f p = some q → reify fr n ob f p = some q
  | 0, p, q, h => by simp [reify] at h
  | f + 1, p, q, h => by
    cases p with
    | val v => exact h
    | dead => exact h
    | lst k sz es =>
      simp only [reify] at h ⊢
      split at h
      · cases h
      · rename_i hk
        rw [if_neg hk]
        simp only [Option.map_eq_some_iff] at h ⊢
        obtain ⟨es', h1, rfl⟩ := h
        exact ⟨es', mapM_imp (fun x _ y => reify_noObs f x y) h1, rfl⟩
    | ptr k e o =>
      simp only [reify] at h ⊢
      split at h
      · cases h
      · rename_i hk
        rw [if_neg hk]
        simp only [Option.map_eq_some_iff] at h ⊢
        obtain ⟨e', h1, rfl⟩ := h
        exact ⟨e', reify_noObs f _ _ h1, rfl⟩
    | own o sz i c => simp [reify, noObs] at h
    | row o sz i m => simp [reify, noObs] at h
    | agg cs =>
      simp only [reify, Option.map_eq_some_iff] at h ⊢
      obtain ⟨es', h1, rfl⟩ := h
      exact ⟨es', mapM_imp (fun x _ y => reify_noObs f x y) h1, rfl⟩
    | tup cs =>
      simp only [reify, Option.map_eq_some_iff] at h ⊢
      obtain ⟨es', h1, rfl⟩ := h
      exact ⟨es', mapM_imp (fun x _ y => reify_noObs f x y) h1, rfl⟩
theorem sliceEs_noObs {ob : Objs} {sz : Nat} {x : PV} {es : List PV} (h : sliceEs noObs sz x = some es) : sliceEs ob sz x = some es := by
  cases x with
  | row o s i n => simp [sliceEs, noObs] at h
  | val v =>
    have e : sliceEs ob sz (.val v) = sliceEs noObs sz (.val v) := by unfold sliceEs; split <;> (first | rfl | (simp_all; done))
    rw [e]; exact h
  | _ => exact h
theorem evVal_onlyV {P : Program} {Γ : Ctx} {ob : Objs} {V : List Nat} {ρ : Operand → PV} {ty t : Nat} {x : Operand} {p : PV} (h : evVal P Γ (onlyV V ob) ρ ty (.load t x) = some p) : evVal P Γ ob ρ ty (.load t x) = some p := by
  simp only [evVal] at h ⊢
  split at h
  · rename_i o sz i f hx
    unfold onlyV at h
    split at h
    · rename_i T sz' es ho
      split at ho
      · rw [ho]; exact h
      · cases ho
    · cases h
  · exact h
  · cases h
theorem evVal_noObs {P : Program} {Γ : Ctx} {ob : Objs} {ρ : Operand → PV} {ty : Nat} {op : Op} {p : PV} (h : evVal P Γ noObs ρ ty op = some p) : evVal P Γ ob ρ ty op = some p := by
  cases op with
  | load t x =>
    simp only [evVal] at h ⊢
    split at h
    · simp [noObs] at h
    · exact h
    · cases h
  | convert s d x =>
    simp only [evVal] at h ⊢
    split at h
    · rename_i hc
      rw [if_pos hc]
      simp only [Option.map_eq_some_iff, Option.bind_eq_some_iff] at h ⊢
      obtain ⟨ns, ⟨es, h1, h2⟩, rfl⟩ := h
      exact ⟨ns, ⟨es, sliceEs_noObs h1, h2⟩, rfl⟩
    · rename_i hc
      rw [if_neg hc]
      exact h
  | call c =>
    simp only [evVal] at h ⊢
    cases hc : c.callee with
    | value x =>
      simp only [hc] at h ⊢
      split at h
      · rename_i f hf
        split at h
        · rename_i φ ps h1 h2
          have h3 := mapM_imp (G := reify false 0 ob fuel) (fun x _ y => reify_noObs fuel x y) h2
          simp only [hf, h1, h3]
          exact h
        · cases h
      · cases h
    | invoke r m => simp [hc] at h
    | builtin b => cases b <;> (simp only [hc] at h ⊢; exact h)
  | slice t x lo hi mx => cases mx <;> exact h
  | _ => exact h
def evDo (P : Program) (Γ : Ctx) (imm : Md) (s : AS) (o : Oper) : Option AS :=
  if isEff Γ imm o then (if effOk Γ imm s.nx (look s.tm) o.op then evEff P Γ s (look s.tm) o.op else none).map fun r => ({ s with ob := r.2.1, nx := r.2.2 } : AS).put o.dst r.1
  else (evVal P Γ (obq imm o s.ob) (look s.tm) o.type o.op).map fun p => s.put o.dst p
def boolOf : PV → Option (Option Bool)
  | .val (.bool b) => some (some b)
  | .val _ => some none
  | _ => none
def evGuard (ops : Array Oper) (s : AS) (o : Oper) : Option Bool :=
  match o.guard with
  | none => some true
  | some (j, want) => match ops[j]? with
    | none => some false
    | some oj => match oj.dst with
      | none => some false
      | some d => (boolOf (s.tm d)).map fun b => b == some want
def evOp (P : Program) (Γ : Ctx) (imm : Md) (ops : Array Oper) (o : Oper) (s : AS) : Option AS :=
  match evGuard ops s o with
  | some true => evDo P Γ imm s o
  | some false => some (s.put o.dst (.val undef))
  | none => none
def evSeq (P : Program) (Γ : Ctx) (imm : Md) (ops : Array Oper) : List Oper → AS → Option AS
  | [], s => some s
  | o :: l, s => match evOp P Γ imm ops o s with
    | some s' => evSeq P Γ imm ops l s'
    | none => none
def dstOk (N : Nat) (o : Oper) : Bool := match o.dst with | some d => decide (d < N) | none => true
section
variable {P : Program} {Γ : Ctx} {imm : Md} {ops : Array Oper} {io : IoS} {w0 : World} {N : Nat} {g : Gh} {s s' : AS} {a : Act} {w w' : World} {o : Oper} {p : PV}
theorem guard_rep (h : Rel io w0 N g s a w) {b : Bool} (hg : evGuard ops s o = some b) : Region.wanted o (yielded ops a.tmps) = b := by
  unfold evGuard at hg
  unfold Region.wanted
  split at hg
  · rename_i hn; cases hg; simp [hn]
  · rename_i j want hn
    simp only [hn]
    split at hg
    · rename_i hj; cases hg; simp [yielded, hj]
    · rename_i oj hj
      split at hg
      · rename_i hd; cases hg; simp [yielded, hj, hd]
      · rename_i d hd
        simp only [Option.map_eq_some_iff] at hg
        obtain ⟨ob, hb, rfl⟩ := hg
        have ht := h.tm d
        have : yielded ops a.tmps j = ob := by
          unfold yielded
          simp only [hj, hd, Option.bind_some]
          unfold boolOf at hb
          split at hb
          · rename_i b' hl
            cases hb
            rw [hl] at ht
            simp only [Rep] at ht
            cases hq : a.tmps[d]? with
            | none => simp [hq, undef] at ht
            | some v => simp [hq] at ht; subst ht; rfl
          · rename_i v hl hnb
            cases hb
            rw [hnb] at ht
            simp only [Rep] at ht
            cases hq : a.tmps[d]? with
            | none => rfl
            | some u =>
              simp [hq] at ht
              subst ht
              cases u <;> first | rfl | (exfalso; exact hl _ rfl)
          · cases hb
        rw [this]
theorem op_ok (h : Rel io w0 N g s a w) (hΓ : SoundΓ P Γ) (hio : ∀ b, io b → b < w0.heap.size) (hd : dstOk N o = true) (he : evOp P Γ imm ops o s = some s') {i : Nat} (hi : ops[i]? = some o) {Q : Exit → Act → World → Prop} {K : Act → World → Prop}
    (hK : ∀ g' a' w', Rel io w0 N g' s' a' w' → K a' w') : wpOp P ops Q i K a w := by
  have hdst : ∀ x, o.dst = some x → x < N := fun x hx => by
    unfold dstOk at hd
    simpa [hx] using hd
  unfold wpOp
  simp only [hi]
  unfold evOp at he
  split at he
  · rename_i hg
    rw [guard_rep h hg]
    simp only [if_true]
    left
    unfold evDo at he
    split at he
    · simp only [Option.map_eq_some_iff] at he
      obtain ⟨r, hr, rfl⟩ := he
      split at hr
      case isFalse => cases hr
      case isTrue =>
      exact evEff_ok h hΓ hio hr _ _ fun v w' g' hrel hrep => hK _ _ _ (hrel.put hdst hrep)
    · simp only [Option.map_eq_some_iff] at he
      obtain ⟨q, hq, rfl⟩ := he
      have hq : evVal P Γ s.ob (look s.tm) o.type o.op = some q := by
        unfold obq at hq
        split at hq
        · exact evVal_noObs hq
        · split at hq
          · rename_i hp
            unfold privy at hp
            split at hp
            · rename_i hop; rw [hop] at hq ⊢; exact evVal_onlyV hq
            · cases hp
          · exact hq
      exact evVal_ok h hΓ hq _ _ fun v w' hb hrep => hK _ _ _ ((h.grow hb hio).put hdst hrep)
  · rename_i hg
    rw [guard_rep h hg]
    simp only [Bool.false_eq_true, if_false]
    cases he
    exact hK _ _ _ (h.put hdst (by simp [Rep]))
  · cases he
theorem seq_ok (hΓ : SoundΓ P Γ) (hio : ∀ b, io b → b < w0.heap.size) (hd : ∀ o ∈ ops.toList, dstOk N o = true) {Q : Exit → Act → World → Prop} : ∀ (l : List Oper) (k : Nat) {g : Gh} {s : AS} {a : Act} {w : World}, ops.toList.drop k = l → Rel io w0 N g s a w →
    evSeq P Γ imm ops l s = some s' → (∀ g' a' w', Rel io w0 N g' s' a' w' → Q .normal a' w') → wpOps P ops Q (List.range' k l.length) a w
  | [], k, g, s, a, w, hl, h, he, hQ => by
    simp only [evSeq, Option.some.injEq] at he
    subst he
    exact hQ g a w h
  | o :: l, k, g, s, a, w, hl, h, he, hQ => by
    have hk : ops.toList[k]? = some o := by
      have := congrArg (·[0]?) hl
      simpa using this
    have hk' : ops[k]? = some o := by simpa using hk
    have hl' : ops.toList.drop (k + 1) = l := by
      rw [← List.drop_drop, hl]
      rfl
    simp only [evSeq] at he
    split at he
    · rename_i s1 h1
      simp only [List.length_cons, List.range'_succ]
      rw [wpOps_cons]
      exact op_ok h hΓ hio (hd o (List.mem_of_getElem? hk)) h1 hk' fun g' a' w' hr => seq_ok hΓ hio hd l (k + 1) hl' hr he hQ
    · cases he
theorem region_ok {id : Nat} {Q : Exit → Act → World → Prop} (h : Rel io w0 N g s a w) (hΓ : SoundΓ P Γ) (hio : ∀ b, io b → b < w0.heap.size) (hd : ops.all (dstOk N) = true) (he : evSeq P Γ imm ops ops.toList s = some s')
    (hQ : ∀ g' a' w', Rel io w0 N g' s' a' w' → Q .normal a' w') : (Code.region id ops false).wp P Q a w := by
  refine wp_region ?_
  have := seq_ok hΓ hio (fun o ho => (Array.all_eq_true_iff_forall_mem.1 hd) o (by simpa using ho)) ops.toList 0 rfl h he hQ
  rw [List.range_eq_range']
  simpa using this
def evL (P : Program) (Γ : Ctx) (imm : Md) (ops : Array Oper) : List Nat → AS → Option AS
  | [], s => some s
  | i :: l, s => match ops[i]? with
    | none => evL P Γ imm ops l s
    | some o => match evOp P Γ imm ops o s with
      | some s' => evL P Γ imm ops l s'
      | none => none
theorem evL_seq : ∀ (l : List Oper) (k : Nat) (s : AS), ops.toList.drop k = l → evL P Γ imm ops (List.range' k l.length) s = evSeq P Γ imm ops l s
  | [], k, s, hl => rfl
  | o :: l, k, s, hl => by
    have hk : ops[k]? = some o := by
      have := congrArg (·[0]?) hl
      simpa using this
    have hl' : ops.toList.drop (k + 1) = l := by
      rw [← List.drop_drop, hl]
      rfl
    simp only [List.length_cons, List.range'_succ, evL, hk, evSeq]
    cases evOp P Γ imm ops o s with
    | none => rfl
    | some s' => exact evL_seq l (k + 1) s' hl'
theorem look_congr {tm tm' : Nat → PV} {x : Operand} (h : ∀ t, x = .tmp t → tm t = tm' t) : look tm x = look tm' x := by
  cases x with
  | tmp t => exact h t rfl
  | _ => rfl
theorem partsOf_congr {ρ ρ' : Operand → PV} {ps : Array (Nat × Operand)} (h : ∀ x ∈ (ps.toList.map (·.2)), ρ x = ρ' x) : partsOf ρ ps = partsOf ρ' ps := by
  unfold partsOf
  refine List.map_congr_left fun q hq => ?_
  rw [h q.2 (List.mem_map.2 ⟨q, hq, rfl⟩)]
theorem evVal_congr {ρ ρ' : Operand → PV} {ob : Objs} {ty : Nat} (op : Op) (h : ∀ x ∈ op.operands, ρ x = ρ' x) : evVal P Γ ob ρ ty op = evVal P Γ ob ρ' ty op := by
  cases op <;> simp only [Op.operands] at h <;> simp only [evVal]
  case build t ps => rw [partsOf_congr fun x hx => h x (by simpa using hx)]
  case buildSlice t n ps => rw [partsOf_congr fun x hx => h x (by simpa using hx)]
  case slice t x lo hi mx => cases lo <;> cases hi <;> cases mx <;> simp_all [evVal]
  case call c =>
    have hargs : c.args.toList.map ρ = c.args.toList.map ρ' := List.map_congr_left fun x hx => h x (by simp [Call.operands]; right; simpa using hx)
    cases hc : c.callee with
    | value x => have hf := h x (by simp [Call.operands, hc]); simp only [hargs, hf]
    | invoke r m => rfl
    | builtin b =>
      cases b <;> simp only [hargs]
      case len =>
        cases ha : c.args.toList with
        | nil => rfl
        | cons x xs =>
          cases xs with
          | nil =>
            have hm : x ∈ c.args.toList := by rw [ha]; exact List.mem_cons_self
            have hx := h x (by simpa [Call.operands, hc] using hm)
            cases hq : c.argTypes.toList with
            | nil => rfl
            | cons t ts =>
              cases ts with
              | nil => dsimp only; rw [hx]
              | cons t2 ts => rfl
          | cons y ys => rfl
  all_goals (first | rfl | (simp_all; done))
theorem evEff_congr {ρ ρ' : Operand → PV} {s : AS} (op : Op) (h : ∀ x ∈ op.operands, ρ x = ρ' x) : evEff P Γ s ρ op = evEff P Γ s ρ' op := by
  cases op <;> simp only [Op.operands] at h <;> simp only [evEff]
  case buildSlice t n ps => rw [partsOf_congr fun x hx => h x (by simpa using hx)]
  case call c =>
    have hargs : c.args.toList.map ρ = c.args.toList.map ρ' := List.map_congr_left fun x hx => h x (by simp [Call.operands]; right; simpa using hx)
    cases hc : c.callee with
    | value x => simp only [hargs]
    | invoke r m => rfl
    | builtin b =>
      cases b <;> try rfl
      case copy =>
        cases ha : c.args.toList with
        | nil => rfl
        | cons x xs =>
          cases xs with
          | nil => rfl
          | cons y ys =>
            cases ys with
            | nil =>
              have hmx : x ∈ c.args.toList := by rw [ha]; exact List.mem_cons_self
              have hmy : y ∈ c.args.toList := by rw [ha]; exact List.mem_cons_of_mem _ List.mem_cons_self
              have hx := h x (by simpa [Call.operands, hc] using hmx)
              have hy := h y (by simpa [Call.operands, hc] using hmy)
              cases hq : c.argTypes.toList with
              | nil => rfl
              | cons t ts =>
                cases ts with
                | nil => rfl
                | cons t2 ts =>
                  cases ts with
                  | nil => dsimp only; rw [hx, hy]
                  | cons t3 ts => rfl
            | cons z zs => rfl
      case append =>
        cases ha : c.args.toList with
        | nil => rfl
        | cons x xs =>
          cases xs with
          | nil => rfl
          | cons y ys =>
            cases ys with
            | nil =>
              have hmx : x ∈ c.args.toList := by rw [ha]; exact List.mem_cons_self
              have hmy : y ∈ c.args.toList := by rw [ha]; exact List.mem_cons_of_mem _ List.mem_cons_self
              have hx := h x (by simpa [Call.operands, hc] using hmx)
              have hy := h y (by simpa [Call.operands, hc] using hmy)
              cases hq : c.argTypes.toList with
              | nil => rfl
              | cons t ts =>
                cases ts with
                | nil => rfl
                | cons t2 ts =>
                  cases ts with
                  | nil => dsimp only; rw [hx, hy]
                  | cons t3 ts => rfl
            | cons z zs => rfl
  all_goals (first | rfl | (simp_all; done))
theorem evVal_ob {ρ : Operand → PV} {ob ob' : Objs} {o : Oper} (h : readsO imm o = false) (hV : ∀ v, imm.V.contains v = true → ob v = ob' v) (ty : Nat) : evVal P Γ (obq imm o ob) ρ ty o.op = evVal P Γ (obq imm o ob') ρ ty o.op := by
  cases hq : quiet imm o with
  | true => simp [obq, hq]
  | false =>
  cases hp : privy imm o with
  | true =>
    have : onlyV imm.V ob = onlyV imm.V ob' := by
      funext v
      unfold onlyV
      split
      · rename_i hv; exact hV v hv
      · rfl
    simp [obq, hq, hp, this]
  | false =>
  simp only [obq, hq, hp, Bool.false_eq_true, if_false]
  unfold readsO at h
  unfold quiet at hq
  unfold privy at hp
  cases ho : o.op with
  | load t x => simp [ho] at h hq hp; rw [h hq] at hp; cases hp
  | convert s d x => simp [ho] at h hq; simp [h] at hq
  | call c =>
    simp only [ho] at h hq
    simp only [evVal]
    cases hc : c.callee with
    | value x => simp [hc] at h hq; simp [h] at hq
    | invoke r m => rfl
    | builtin b => cases b <;> rfl
  | slice t x lo hi mx => cases mx <;> rfl
  | _ => rfl
theorem upd_other {α : Type} (f : Nat → α) {d t : Nat} (v : α) (h : t ≠ d) : upd f d v t = f t := by simp [upd, h]
theorem putObs_other : ∀ (l : List (Nat × CellIO)) (ob : Objs) (o : Nat), o ∉ l.map (·.1) → putObs ob l o = ob o
  | [], ob, o, h => rfl
  | p :: l, ob, o, h => by
    simp only [List.map_cons, List.mem_cons, not_or] at h
    simp only [putObs]
    rw [putObs_other l _ o h.2, upd_other _ _ h.1]
theorem mem_dedup {o : Nat} : ∀ {l : List Nat}, o ∈ dedup l → o ∈ l
  | [], h => by simp [dedup] at h
  | a :: l, h => by
    simp only [dedup, List.mem_cons, List.mem_filter] at h
    rcases h with rfl | h
    · simp
    · exact List.mem_cons_of_mem _ (mem_dedup h.1)
theorem cpEv_keeps {ob : Objs} {nx t : Nat} {x y : PV} {r : PV × Objs × Nat} (h : cpEv P ob nx t x y = some r) {v : Nat} (hv : v ∉ refsOf x) : r.2.1 v = ob v := by
  unfold cpEv at h
  split at h
  case h_2 => cases h
  split at h
  case h_2 => cases h
  split at h
  case h_3 => cases h
  case h_2 => cases h; rfl
  split at h
  case h_2 => cases h
  split at h
  · cases h
    exact upd_other _ _ fun e => hv (by simp [refsOf, e])
  · cases h
theorem evEff_keeps {ρ : Operand → PV} {s : AS} {op : Op} {r : PV × Objs × Nat} (h : evEff P Γ s ρ op = some r) {v : Nat} (hv : v < s.nx) (ht : (touch Γ ρ op).contains v = false) : r.2.1 v = s.ob v := by
  have hn : v ≠ s.nx := by omega
  have ht' : v ∉ touch Γ ρ op := by simpa using ht
  cases op with
  | alloc t =>
    simp only [evEff] at h
    split at h
    · split at h
      · cases h; exact upd_other _ _ hn
      · cases h
    · cases h
  | box t x =>
    simp only [evEff] at h
    split at h
    · cases h; exact upd_other _ _ hn
    · cases h
  | buildSlice t n ps =>
    simp only [evEff] at h
    split at h
    · cases h; exact upd_other _ _ hn
    · cases h
  | makeSlice t l c =>
    simp only [evEff] at h
    split at h
    · split at h
      · split at h
        · cases h; exact upd_other _ _ hn
        · cases h
      · cases h
    · cases h
  | store t x y =>
    simp only [evEff] at h
    split at h
    · rename_i o sz i f hx
      have hvo : v ≠ o := fun e => ht' (by simp [touch, hx, refsOf, e])
      split at h
      · split at h
        · split at h
          · simp only [Option.map_eq_some_iff] at h
            obtain ⟨e', _, rfl⟩ := h
            exact upd_other _ _ hvo
          · cases h
        · cases h
      · cases h
    · cases h
  | call c =>
    simp only [evEff] at h
    split at h
    · split at h
      · rename_i Φ hΦ
        unfold ioEv at h
        dsimp only at h
        split at h
        case h_2 => cases h
        split at h
        case h_2 => cases h
        split at h
        case h_2 => cases h
        split at h
        case h_2 => cases h
        rename_i cs2 _ _
        cases h
        refine putObs_other _ _ _ fun hm => ?_
        rw [List.map_fst_zip (by simp), List.mem_map] at hm
        obtain ⟨i, hi, hm⟩ := hm
        unfold outn at hm
        split at hm
        · rename_i hlt
          apply ht'
          have h1 : v ∈ dedup ((c.args.toList.map ρ).flatMap refsOf) := by
            rw [← hm]
            refine List.mem_of_getElem? (i := i) ?_
            rw [List.getD_eq_getElem?_getD, List.getElem?_eq_getElem hlt]
            rfl
          have h2 := mem_dedup h1
          simpa [touch, List.flatMap_map] using h2
        · omega
      · cases h
    · split at h
      · rename_i x y t t' ha _
        exact cpEv_keeps h fun hm => ht' (by simp only [touch, ha, List.flatMap_cons, List.mem_append]; exact .inl hm)
      · cases h
    · split at h
      · rename_i x y t t' ha _
        split at h
        · split at h
          · split at h
            · split at h
              · split at h
                · rename_i o sz' i n hx
                  split at h
                  · split at h
                    · cases h
                      have hvo : v ≠ o := fun e => ht' (by simp [touch, ha, hx, refsOf, e])
                      dsimp only
                      rw [upd_other _ _ hn, upd_other _ _ hvo]
                    · cases h
                  · cases h
                · split at h
                  · split at h
                    · cases h; rfl
                    · cases h; exact upd_other _ _ hn
                  · cases h
              · cases h
            · cases h
          · cases h
        · cases h
      · cases h
    · cases h
  | _ => simp [evEff] at h
end
end Go.Proofs.Ytngcedklbinhjaa
namespace Go.Proofs.Ytngcedklbinhjaa
open Go.RowKit
set_option linter.all false
section
variable {P : Program} {Γ : Ctx} {ob ob' : Objs}
theorem reify_more {fr : Bool} {n : Nat} (H : ∀ o c, ob o = some c → ob' o = some c) : ∀ (f : Nat) (p q : PV), reify fr n ob f p = some q → reify fr n ob' f p = some q
  | 0, p, q, h => by simp [reify] at h
  | f + 1, p, q, h => by
    cases p with
    | val v => exact h
    | dead => exact h
    | lst k sz es =>
      simp only [reify] at h ⊢
      split at h
      · cases h
      · rename_i hk
        rw [if_neg hk]
        simp only [Option.map_eq_some_iff] at h ⊢
        obtain ⟨es', h1, rfl⟩ := h
        exact ⟨es', mapM_imp (fun x _ y => reify_more H f x y) h1, rfl⟩
    | ptr k e o =>
      simp only [reify] at h ⊢
      split at h
      · cases h
      · rename_i hk
        rw [if_neg hk]
        simp only [Option.map_eq_some_iff] at h ⊢
        obtain ⟨e', h1, rfl⟩ := h
        exact ⟨e', reify_more H f _ _ h1, rfl⟩
    | own o sz i c =>
      simp only [reify] at h ⊢
      split at h
      · cases h
      · rename_i hk
        rw [if_neg hk]
        split at h
        · rename_i T sz' es ho
          rw [H o _ ho]
          dsimp only
          split at h
          · rename_i hs
            rw [if_pos hs]
            simp only [Option.bind_eq_some_iff, Option.map_eq_some_iff] at h ⊢
            obtain ⟨e, h1, e', h2, rfl⟩ := h
            exact ⟨e, h1, e', reify_more H f _ _ h2, rfl⟩
          · cases h
        · cases h
    | row o sz i m =>
      simp only [reify] at h ⊢
      split at h
      · cases h
      · rename_i hk
        rw [if_neg hk]
        split at h
        · rename_i T sz' es ho
          rw [H o _ ho]
          dsimp only
          split at h
          · rename_i hs
            rw [if_pos hs]
            simp only [Option.map_eq_some_iff] at h ⊢
            obtain ⟨es', h1, rfl⟩ := h
            exact ⟨es', mapM_imp (fun x _ y => reify_more H f x y) h1, rfl⟩
          · cases h
        · cases h
    | agg cs =>
      simp only [reify, Option.map_eq_some_iff] at h ⊢
      obtain ⟨es', h1, rfl⟩ := h
      exact ⟨es', mapM_imp (fun x _ y => reify_more H f x y) h1, rfl⟩
    | tup cs =>
      simp only [reify, Option.map_eq_some_iff] at h ⊢
      obtain ⟨es', h1, rfl⟩ := h
      exact ⟨es', mapM_imp (fun x _ y => reify_more H f x y) h1, rfl⟩
theorem sliceEs_more (H : ∀ o c, ob o = some c → ob' o = some c) {sz : Nat} {x : PV} {es : List PV} (h : sliceEs ob sz x = some es) : sliceEs ob' sz x = some es := by
  cases x with
  | row o s i n =>
    simp only [sliceEs] at h ⊢
    split at h
    · rename_i T sz' es' ho
      rw [H o _ ho]
      exact h
    · cases h
  | val v =>
    have e : sliceEs ob' sz (.val v) = sliceEs ob sz (.val v) := by unfold sliceEs; split <;> (first | rfl | (simp_all; done))
    rw [e]; exact h
  | _ => exact h
theorem evVal_more (H : ∀ o c, ob o = some c → ob' o = some c) {ρ : Operand → PV} {ty : Nat} {op : Op} {p : PV} (h : evVal P Γ ob ρ ty op = some p) : evVal P Γ ob' ρ ty op = some p := by
  cases op with
  | load t x =>
    simp only [evVal] at h ⊢
    split at h
    · rename_i o sz i f hx
      split at h
      · rename_i T sz' es ho
        rw [H o _ ho]
        exact h
      · cases h
    · exact h
    · cases h
  | convert s d x =>
    simp only [evVal] at h ⊢
    split at h
    · rename_i hc
      rw [if_pos hc]
      simp only [Option.map_eq_some_iff, Option.bind_eq_some_iff] at h ⊢
      obtain ⟨ns, ⟨es, h1, h2⟩, rfl⟩ := h
      exact ⟨ns, ⟨es, sliceEs_more H h1, h2⟩, rfl⟩
    · rename_i hc
      rw [if_neg hc]
      exact h
  | call c =>
    simp only [evVal] at h ⊢
    cases hc : c.callee with
    | value x =>
      simp only [hc] at h ⊢
      split at h
      · rename_i f hf
        split at h
        · rename_i φ ps h1 h2
          have h3 := mapM_imp (G := reify false 0 ob' fuel) (fun x _ y => reify_more H fuel x y) h2
          simp only [hf, h1, h3]
          exact h
        · cases h
      · cases h
    | invoke r m => simp [hc] at h
    | builtin b => cases b <;> (simp only [hc] at h ⊢; exact h)
  | slice t x lo hi mx => cases mx <;> exact h
  | _ => exact h
theorem upd_swap {α : Type} {f : Nat → α} {i j : Nat} {x y : α} (h : i ≠ j) : upd (upd f i x) j y = upd (upd f j y) i x := by
  funext t
  unfold upd
  by_cases h1 : t = j
  · by_cases h2 : t = i
    · omega
    · simp [h1]; omega
  · simp [h1]
theorem upd_no {α : Type} {f : Nat → α} {i j : Nat} {x : α} (h : j ≠ i) : upd f i x j = f j := by simp [upd, h]
theorem putObs_swap {R : Nat} {c : CellIO} : ∀ {l : List (Nat × CellIO)} {ob : Objs}, R ∉ l.map (·.1) → putObs (upd ob R (some c)) l = upd (putObs ob l) R (some c)
  | [], ob, h => rfl
  | p :: l, ob, h => by
    simp only [List.map_cons, List.mem_cons, not_or] at h
    simp only [putObs]
    rw [upd_swap h.1, putObs_swap h.2]
theorem more_upd {R : Nat} {c : CellIO} (hR : ob R = none) : ∀ o d, ob o = some d → upd ob R (some c) o = some d := fun o d h => by
  by_cases e : o = R
  · subst e; rw [hR] at h; cases h
  · rw [upd_no e]; exact h
theorem srcEs_more (H : ∀ o c, ob o = some c → ob' o = some c) {sz : Nat} {x : PV} {es : List PV} (h : srcEs ob sz x = some es) : srcEs ob' sz x = some es := by
  unfold srcEs at h ⊢
  split at h
  · exact h
  · exact sliceEs_more H h
theorem cpEv_more {R nx t : Nat} {c : CellIO} {ob : Objs} {x y : PV} {r : PV × Objs × Nat} (hR : ob R = none) (h : cpEv P ob nx t x y = some r) :
    r.2.1 R = none ∧ nx ≤ r.2.2 ∧ cpEv P (upd ob R (some c)) nx t x y = some (r.1, upd r.2.1 R (some c), r.2.2) := by
  have H := more_upd (c := c) hR
  unfold cpEv at h ⊢
  split at h
  case h_2 => cases h
  split at h
  case h_2 => cases h
  split at h
  case h_3 => cases h
  case h_2 es2 kk ss h2 =>
    cases h
    rw [srcEs_more H h2]
    exact ⟨hR, Nat.le_refl _, rfl⟩
  rename_i es2 o sz' i n h2
  rw [srcEs_more H h2]
  dsimp only
  split at h
  case h_2 => cases h
  rename_i T sz'' es ho
  have hne : o ≠ R := fun e => by subst e; rw [hR] at ho; cases ho
  rw [H o _ ho]
  dsimp only
  split at h
  case isFalse => cases h
  case isTrue h3 =>
  cases h
  rw [if_pos h3]
  exact ⟨(upd_no (Ne.symm hne)).trans hR, Nat.le_refl _, by rw [upd_swap (Ne.symm hne)]⟩
theorem evEff_more {R : Nat} {c : CellIO} {ρ : Operand → PV} {s : AS} {op : Op} {r : PV × Objs × Nat} (hR : s.ob R = none) (hlt : R < s.nx) (h : evEff P Γ s ρ op = some r) :
    r.2.1 R = none ∧ s.nx ≤ r.2.2 ∧ evEff P Γ { s with ob := upd s.ob R (some c) } ρ op = some (r.1, upd r.2.1 R (some c), r.2.2) := by
  have hn : s.nx ≠ R := by omega
  have hn' : R ≠ s.nx := by omega
  have H := more_upd (c := c) hR
  cases op with
  | alloc t =>
    simp only [evEff] at h ⊢
    split at h
    · split at h
      · rename_i z hz h1
        cases h
        rw [if_pos h1]
        exact ⟨(upd_no hn').trans hR, by simp, by dsimp only; rw [upd_swap hn']⟩
      · cases h
    · cases h
  | box t x =>
    simp only [evEff] at h ⊢
    split at h
    · cases h
      exact ⟨(upd_no hn').trans hR, by simp, by dsimp only; rw [upd_swap hn']⟩
    · cases h
  | buildSlice t n ps =>
    simp only [evEff] at h ⊢
    split at h
    · cases h
      exact ⟨(upd_no hn').trans hR, by simp, by dsimp only; rw [upd_swap hn']⟩
    · cases h
  | makeSlice t l k =>
    simp only [evEff] at h ⊢
    split at h
    · split at h
      · split at h
        · rename_i h1
          cases h
          rw [if_pos h1]
          exact ⟨(upd_no hn').trans hR, by simp, by dsimp only; rw [upd_swap hn']⟩
        · cases h
      · cases h
    · cases h
  | store t x y =>
    simp only [evEff] at h ⊢
    split at h
    · rename_i o sz i f hx
      split at h
      · rename_i T sz' es ho
        have hne : o ≠ R := fun e => by subst e; rw [hR] at ho; cases ho
        rw [H o _ ho]
        dsimp only
        split at h
        · rename_i e cs he hc
          split at h
          · rename_i h1
            simp only [Option.map_eq_some_iff] at h
            obtain ⟨e', h2, rfl⟩ := h
            simp only [if_pos h1, h2, Option.map_some]
            exact ⟨(upd_no (Ne.symm hne)).trans hR, Nat.le_refl _, by rw [upd_swap (Ne.symm hne)]⟩
          · cases h
        · cases h
      · cases h
    · cases h
  | call k =>
    simp only [evEff] at h ⊢
    split at h
    · split at h
      · rename_i Φ hΦ
        unfold ioEv at h ⊢
        dsimp only at h ⊢
        split at h
        case h_2 => cases h
        rename_i cs qs hcs hqs
        have hno : R ∉ dedup ((k.args.toList.map ρ).flatMap refsOf) := fun hm => by
          obtain ⟨i, hi, he⟩ := List.getElem_of_mem hm
          have := (mapM_get hcs).2 i R (by rw [List.getElem?_eq_getElem hi, he])
          obtain ⟨y, _, hy⟩ := this
          rw [hR] at hy
          cases hy
        have hcs' := mapM_imp (G := upd s.ob R (some c)) (fun x _ y => H x y) hcs
        rw [hcs']
        split at h
        case h_2 => cases h
        split at h
        case h_2 => cases h
        split at h
        case h_2 => cases h
        rename_i cs1 e1 _ r0 cs' e2 _ _ r' cs2 e3 e4
        cases h
        have hnk : R ∉ ((((List.range cs2.length).map (outn (dedup ((k.args.toList.map ρ).flatMap refsOf)) s.nx)).zip cs2).map (·.1)) := fun hm => by
          rw [List.map_fst_zip (by simp), List.mem_map] at hm
          obtain ⟨i, hi, hm⟩ := hm
          unfold outn at hm
          split at hm
          · rename_i hl
            apply hno
            rw [← hm]
            refine List.mem_of_getElem? (i := i) ?_
            rw [List.getD_eq_getElem?_getD, List.getElem?_eq_getElem hl]
            rfl
          · omega
        refine ⟨(putObs_other _ _ _ hnk).trans hR, Nat.le_add_right _ _, ?_⟩
        simp only [hqs, e1, e2, e3, e4]
        rw [putObs_swap hnk]
      · cases h
    · split at h
      · rename_i x y t t' ha _
        exact cpEv_more hR h
      · cases h
    · split at h
      · rename_i x y t t' ha _
        split at h
        · split at h
          · split at h
            · rename_i es2 hes2
              have hes3 := sliceEs_more H hes2
              rw [hes3]
              dsimp only
              split at h
              · rename_i h1
                rw [if_pos h1]
                split at h
                · rename_i o sz' i n hx
                  split at h
                  · rename_i T sz'' es ho
                    have hne : o ≠ R := fun e => by subst e; rw [hR] at ho; cases ho
                    rw [H o _ ho]
                    dsimp only
                    split at h
                    · rename_i h2
                      cases h
                      rw [if_pos h2]
                      refine ⟨(upd_no hn').trans ((upd_no (Ne.symm hne)).trans hR), by simp, ?_⟩
                      rw [upd_swap (Ne.symm hne), upd_swap hn']
                    · cases h
                  · cases h
                · split at h
                  · rename_i h2
                    rw [if_pos h2]
                    split at h
                    · rename_i h3
                      cases h
                      rw [if_pos h3]
                      exact ⟨hR, Nat.le_refl _, rfl⟩
                    · rename_i h3
                      cases h
                      rw [if_neg h3]
                      exact ⟨(upd_no hn').trans hR, by simp, by dsimp only; rw [upd_swap hn']⟩
                  · cases h
              · cases h
            · cases h
          · cases h
        · cases h
      · cases h
    · cases h
  | _ => simp [evEff] at h
end
end Go.Proofs.Ytngcedklbinhjaa
namespace Go.Proofs.Ytngcedklbinhjaa
open Go.RowKit
set_option linter.all false
def evRes (P : Program) (Γ : Ctx) (imm : Md) (ops : Array Oper) (o : Oper) (s : AS) : Option (PV × Option (Objs × Nat)) :=
  match evGuard ops s o with
  | some true => if isEff Γ imm o then (if effOk Γ imm s.nx (look s.tm) o.op then evEff P Γ s (look s.tm) o.op else none).map fun r => (r.1, some r.2) else (evVal P Γ (obq imm o s.ob) (look s.tm) o.type o.op).map fun p => (p, none)
  | some false => some (.val undef, none)
  | none => none
def AS.app (s : AS) (o : Oper) (r : PV × Option (Objs × Nat)) : AS :=
  match r.2 with
  | some q => ({ s with ob := q.1, nx := q.2 } : AS).put o.dst r.1
  | none => s.put o.dst r.1
section
variable {P : Program} {Γ : Ctx} {imm : Md} {ops : Array Oper}
theorem evOp_res (o : Oper) (s : AS) : evOp P Γ imm ops o s = (evRes P Γ imm ops o s).map (s.app o) := by
  unfold evOp evRes evDo
  cases evGuard ops s o with
  | none => rfl
  | some b =>
    cases b
    · rfl
    · cases isEff Γ imm o
      · simp only [Bool.false_eq_true, if_false]; cases evVal P Γ (obq imm o s.ob) (look s.tm) o.type o.op <;> rfl
      · simp only [if_true]; cases (if effOk Γ imm s.nx (look s.tm) o.op = true then evEff P Γ s (look s.tm) o.op else none) <;> rfl
def indep (Γ : Ctx) (imm : Md) (ops : Array Oper) (x y : Oper) : Bool :=
  x.apart ops y && !(isEff Γ imm x && (isEff Γ imm y || readsO imm y)) && !(isEff Γ imm y && readsO imm x)
theorem put_tm_ne {s : AS} {d : Option Nat} {v : PV} {t : Nat} (h : d ≠ some t) : (s.put d v).tm t = s.tm t := by
  cases d with
  | none => rfl
  | some d => simp only [AS.put]; exact upd_ne _ _ _ (fun e => h (by rw [e]))
theorem app_tm_ne {s : AS} {o : Oper} {r : PV × Option (Objs × Nat)} {t : Nat} (h : o.dst ≠ some t) : (s.app o r).tm t = s.tm t := by
  unfold AS.app
  split
  · rw [put_tm_ne h]
  · rw [put_tm_ne h]
theorem put_ob {s : AS} {d : Option Nat} {v : PV} : (s.put d v).ob = s.ob ∧ (s.put d v).nx = s.nx := by cases d <;> exact ⟨rfl, rfl⟩
theorem guard_app {s : AS} {x y : Oper} {r : PV × Option (Objs × Nat)} (h : ∀ d, x.dst = some d → d ∉ y.looksAt ops) : evGuard ops (s.app x r) y = evGuard ops s y := by
  unfold evGuard
  cases hg : y.guard with
  | none => rfl
  | some jw =>
    obtain ⟨j, want⟩ := jw
    dsimp only
    cases hj : ops[j]? with
    | none => rfl
    | some oj =>
      dsimp only
      cases hd : oj.dst with
      | none => rfl
      | some d =>
        dsimp only
        rw [app_tm_ne (fun e => h d e (by simp [Oper.looksAt, hg, hj, hd]))]
theorem look_app {s : AS} {x y : Oper} {r : PV × Option (Objs × Nat)} (h : ∀ d, x.dst = some d → d ∉ y.looksAt ops) : ∀ z ∈ y.op.operands, look (s.app x r).tm z = look s.tm z := fun z hz =>
  look_congr fun t ht => app_tm_ne fun e => h t e (by
    subst ht
    exact List.mem_append_left _ (List.mem_filterMap.2 ⟨.tmp t, by simpa using hz, rfl⟩))
theorem touch_congr {ρ ρ' : Operand → PV} (op : Op) (h : ∀ x ∈ op.operands, ρ x = ρ' x) : touch Γ ρ op = touch Γ ρ' op := by
  cases op with
  | store t x y => simp only [touch]; rw [h x (by simp [Op.operands])]
  | call c =>
    simp only [touch]
    have hargs : c.args.toList.map ρ = c.args.toList.map ρ' := List.map_congr_left fun x hx => h x (by simp [Op.operands, Call.operands]; right; simpa using hx)
    have e : ∀ τ : Operand → PV, (c.args.toList.flatMap fun x => refsOf (τ x)) = (c.args.toList.map τ).flatMap refsOf := fun τ => by rw [List.flatMap_map]
    rw [e, e, hargs]
  | _ => rfl
theorem app_V {s : AS} {x : Oper} {r : PV × Option (Objs × Nat)} (hx : evRes P Γ imm ops x s = some r) {v : Nat} (hv : imm.V.contains v = true) : (s.app x r).ob v = s.ob v := by
  unfold AS.app
  cases hr : r.2 with
  | none => exact congrFun put_ob.1 v
  | some q =>
    dsimp only
    rw [put_ob.1]
    dsimp only
    unfold evRes at hx
    split at hx
    · split at hx
      · simp only [Option.map_eq_some_iff] at hx
        obtain ⟨r0, h0, rfl⟩ := hx
        split at h0
        case isFalse => cases h0
        case isTrue hok =>
        simp only [Option.some.injEq] at hr
        subst hr
        unfold effOk at hok
        rw [List.all_eq_true] at hok
        have h1 := hok v (by simpa using hv)
        simp only [Bool.and_eq_true, decide_eq_true_eq, Bool.not_eq_true'] at h1
        exact evEff_keeps h0 h1.1 h1.2
      · simp only [Option.map_eq_some_iff] at hx
        obtain ⟨p, _, rfl⟩ := hx
        cases hr
    · cases hx; cases hr
    · cases hx
theorem res_app {s : AS} {x y : Oper} {r : PV × Option (Objs × Nat)} (hx : evRes P Γ imm ops x s = some r) (h : ∀ d, x.dst = some d → d ∉ y.looksAt ops) (he : isEff Γ imm x = true → isEff Γ imm y = false ∧ readsO imm y = false) :
    evRes P Γ imm ops y (s.app x r) = evRes P Γ imm ops y s := by
  have hob : isEff Γ imm x = true ∨ ((s.app x r).ob = s.ob ∧ (s.app x r).nx = s.nx) := by
    cases hq : isEff Γ imm x with
    | true => exact .inl rfl
    | false =>
      right
      unfold evRes at hx
      have hr2 : r.2 = none := by
        split at hx
        · simp only [hq, Bool.false_eq_true, if_false, Option.map_eq_some_iff] at hx
          obtain ⟨p, _, rfl⟩ := hx
          rfl
        · cases hx; rfl
        · cases hx
      unfold AS.app
      rw [hr2]
      exact put_ob
  unfold evRes
  rw [guard_app h]
  cases evGuard ops s y with
  | none => rfl
  | some b =>
    cases b
    · rfl
    · dsimp only
      cases hy : isEff Γ imm y with
      | true =>
        simp only [if_true]
        rcases hob with hob | hob
        · rw [(he hob).1] at hy; cases hy
        · have e1 : evEff P Γ (s.app x r) (look (s.app x r).tm) y.op = evEff P Γ (s.app x r) (look s.tm) y.op := evEff_congr y.op (look_app h)
          have e2 : evEff P Γ (s.app x r) (look s.tm) y.op = evEff P Γ s (look s.tm) y.op := by
            unfold evEff
            rw [hob.1, hob.2]
          have e3 : effOk Γ imm (s.app x r).nx (look (s.app x r).tm) y.op = effOk Γ imm s.nx (look s.tm) y.op := by
            unfold effOk
            rw [hob.2, touch_congr y.op (look_app h)]
          rw [e1, e2, e3]
      | false =>
        simp only [Bool.false_eq_true, if_false]
        rw [evVal_congr y.op (look_app h)]
        rcases hob with hob | hob
        · rw [evVal_ob (he hob).2 (fun v hv => app_V hx hv) y.type]
        · rw [hob.1]
theorem put_comm {s : AS} {d e : Option Nat} {u v : PV} (h : ∀ x, d = some x → e ≠ some x) : (s.put d u).put e v = (s.put e v).put d u := by
  cases d with
  | none => rfl
  | some d =>
    cases e with
    | none => rfl
    | some e =>
      have hne : d ≠ e := fun q => h d rfl (by rw [q])
      simp only [AS.put]
      congr 1
      funext t
      unfold upd
      by_cases h1 : t = e
      · subst h1
        have hn : ¬ t = d := fun q => hne q.symm
        simp [hn]
      · by_cases h2 : t = d
        · subst h2; simp [h1]
        · simp [h1, h2]
theorem apart_parts {x y : Oper} (h : indep Γ imm ops x y = true) : (∀ d, x.dst = some d → d ∉ y.looksAt ops) ∧ (∀ d, x.dst = some d → y.dst ≠ some d) ∧ (∀ d, y.dst = some d → d ∉ x.looksAt ops) ∧
    (isEff Γ imm x = true → isEff Γ imm y = false ∧ readsO imm y = false) ∧ (isEff Γ imm y = true → isEff Γ imm x = false ∧ readsO imm x = false) := by
  unfold indep at h
  simp only [Bool.and_eq_true] at h
  obtain ⟨⟨h1, h2⟩, h3⟩ := h
  obtain ⟨a1, a2, a3⟩ := Oper.apart_spec h1
  refine ⟨a1, a2, a3, fun q => ?_, fun q => ?_⟩
  · cases hy : isEff Γ imm y <;> cases hr : readsO imm y <;> simp_all
  · cases hx : isEff Γ imm x <;> cases hr : readsO imm x <;> simp_all
theorem evOp_comm {x y : Oper} {s s1 s2 : AS} (hi : indep Γ imm ops x y = true) (h1 : evOp P Γ imm ops x s = some s1) (h2 : evOp P Γ imm ops y s1 = some s2) :
    ∃ s1', evOp P Γ imm ops y s = some s1' ∧ evOp P Γ imm ops x s1' = some s2 := by
  obtain ⟨a1, a2, a3, a4, a5⟩ := apart_parts hi
  rw [evOp_res, Option.map_eq_some_iff] at h1 h2
  obtain ⟨r1, k1, rfl⟩ := h1
  obtain ⟨r2, k2, rfl⟩ := h2
  rw [res_app k1 a1 a4] at k2
  refine ⟨s.app y r2, by rw [evOp_res, k2]; rfl, ?_⟩
  rw [evOp_res, res_app k2 a3 a5, k1]
  simp only [Option.map_some, Option.some.injEq]
  have hx2 : isEff Γ imm x = false → r1.2 = none := fun q => by
    unfold evRes at k1
    split at k1
    · simp only [q, Bool.false_eq_true, if_false, Option.map_eq_some_iff] at k1
      obtain ⟨p, _, rfl⟩ := k1
      rfl
    · cases k1; rfl
    · cases k1
  have hy2 : isEff Γ imm y = false → r2.2 = none := fun q => by
    unfold evRes at k2
    split at k2
    · simp only [q, Bool.false_eq_true, if_false, Option.map_eq_some_iff] at k2
      obtain ⟨p, _, rfl⟩ := k2
      rfl
    · cases k2; rfl
    · cases k2
  cases hq : isEff Γ imm x with
  | false =>
    have e1 := hx2 hq
    unfold AS.app
    rw [e1]
    dsimp only
    cases r2.2 with
    | none => exact (put_comm a2).symm
    | some q =>
      dsimp only
      have := put_comm (s := { s with ob := q.1, nx := q.2 }) (u := r1.1) (v := r2.1) a2
      rw [← this]
      cases x.dst <;> rfl
  | true =>
    have e2 := hy2 (a4 hq).1
    unfold AS.app
    rw [e2]
    dsimp only
    cases r1.2 with
    | none => exact (put_comm a2).symm
    | some q =>
      dsimp only
      have := put_comm (s := { s with ob := q.1, nx := q.2 }) (u := r1.1) (v := r2.1) a2
      rw [this]
      cases y.dst <;> rfl
def indepAt (Γ : Ctx) (imm : Md) (ops : Array Oper) (i j : Nat) : Bool :=
  match ops[i]?, ops[j]? with
  | some x, some y => indep Γ imm ops x y
  | _, _ => true
theorem evL_cons {i : Nat} {l : List Nat} {s : AS} : evL P Γ imm ops (i :: l) s = match ops[i]? with
    | none => evL P Γ imm ops l s
    | some o => match evOp P Γ imm ops o s with
      | some s' => evL P Γ imm ops l s'
      | none => none := rfl
theorem evL_swap {i j : Nat} {l : List Nat} {s s' : AS} (hi : indepAt Γ imm ops i j = true) (h : evL P Γ imm ops (i :: j :: l) s = some s') : evL P Γ imm ops (j :: i :: l) s = some s' := by
  unfold indepAt at hi
  cases hx : ops[i]? with
  | none =>
    simp only [evL_cons, hx] at h ⊢
    exact h
  | some x =>
    cases hy : ops[j]? with
    | none =>
      simp only [evL_cons, hx, hy] at h ⊢
      exact h
    | some y =>
      simp only [hx, hy] at hi
      simp only [evL_cons, hx, hy] at h ⊢
      split at h
      · rename_i s1 h1
        split at h
        · rename_i s2 h2
          obtain ⟨s1', h3, h4⟩ := evOp_comm hi h1 h2
          rw [h3]
          dsimp only
          rw [h4]
          exact h
        · cases h
      · cases h
theorem evL_front {i : Nat} {q : List Nat} {s' : AS} : ∀ {p : List Nat} {s : AS}, (∀ x ∈ p, indepAt Γ imm ops x i = true) → evL P Γ imm ops (p ++ i :: q) s = some s' → evL P Γ imm ops (i :: (p ++ q)) s = some s'
  | [], s, _, h => h
  | x :: p, s, hp, h => by
    refine evL_swap (hp x (by simp)) ?_
    rw [evL_cons]
    rw [List.cons_append, evL_cons] at h
    cases hx : ops[x]? with
    | none =>
      simp only [hx] at h ⊢
      exact evL_front (fun y hy => hp y (by simp [hy])) h
    | some o =>
      simp only [hx] at h ⊢
      cases ho : evOp P Γ imm ops o s with
      | none => simp [ho] at h
      | some s1 =>
        simp only [ho] at h ⊢
        exact evL_front (fun y hy => hp y (by simp [hy])) h
def ordB (ops : Array Oper) : Nat → Nat → Nat → Bool
  | 0, _, _ => false
  | f + 1, i, j => match ops[j]? with
    | none => false
    | some o => o.after.any (fun e => Region.binds .any e && e.on == i) || o.after.any (fun e => Region.binds .any e && ordB ops f i e.on)
def drawOk (Γ : Ctx) (imm : Md) (ops : Array Oper) : Bool :=
  (List.range ops.size).all fun j =>
    ((List.range j).all fun i => indepAt Γ imm ops i j || ordB ops ops.size i j) &&
    (match ops[j]? with | some o => o.after.all (fun e => !Region.binds .any e || decide (e.on < j)) | none => true)
theorem ord_listed {listed : Array Bool} (hcl : ∀ j o, ops[j]? = some o → listed.getD j true = true → ∀ e ∈ o.after, Region.binds .any e = true → listed.getD e.on false = true) : ∀ (f i j : Nat), ordB ops f i j = true →
    (∀ o, ops[j]? = some o → ∀ e ∈ o.after, Region.binds .any e = true → listed.getD e.on false = true) → listed.getD i false = true
  | 0, i, j, h, _ => by simp [ordB] at h
  | f + 1, i, j, h, hj => by
    unfold ordB at h
    split at h
    · cases h
    · rename_i o ho
      have h' : ∃ (k : Nat) (hk : k < o.after.size), Region.binds .any o.after[k] = true ∧ (o.after[k].on = i ∨ ordB ops f i o.after[k].on = true) := by
        rw [Bool.or_eq_true, Array.any_eq_true, Array.any_eq_true] at h
        rcases h with ⟨k, hk, h⟩ | ⟨k, hk, h⟩
        · simp only [Bool.and_eq_true, beq_iff_eq] at h
          exact ⟨k, hk, h.1, .inl h.2⟩
        · simp only [Bool.and_eq_true] at h
          exact ⟨k, hk, h.1, .inr h.2⟩
      obtain ⟨k, hk, hb, h⟩ := h'
      have hl := hj o ho o.after[k] (Array.getElem_mem hk) hb
      rcases h with h | h
      · rw [← h]; exact hl
      · refine ord_listed hcl f i _ h fun o' ho' e' he' hb' => ?_
        have hl' : listed.getD (o.after[k]).on true = true := by
          cases hq : listed[(o.after[k]).on]? with
          | none => simp [hq] at hl
          | some b => simp [hq] at hl ⊢; exact hl
        exact hcl _ o' ho' hl' e' he' hb'
variable {io : IoS} {w0 : World} {N : Nat}
theorem drawOk_facts (hok : drawOk Γ imm ops = true) : ∀ j, j < ops.size → (∀ i, i < j → indepAt Γ imm ops i j = true ∨ ordB ops ops.size i j = true) ∧ ∀ o, ops[j]? = some o → ∀ e ∈ o.after, Region.binds .any e = true → e.on < j := fun j hj => by
    unfold drawOk at hok
    rw [List.all_eq_true] at hok
    have h := hok j (by simpa using hj)
    simp only [Bool.and_eq_true, List.all_eq_true, List.mem_range, Bool.or_eq_true] at h
    refine ⟨h.1, fun o ho e he hb => ?_⟩
    have h2 := h.2
    rw [ho] at h2
    dsimp only at h2
    have := (Array.all_eq_true_iff_forall_mem.1 h2) e he
    simpa [hb] using this
theorem any_okX (hΓ : SoundΓ P Γ) (hio : ∀ b, io b → b < w0.heap.size) (hd : ops.all (dstOk N) = true) {X : Nat → Prop} (hfacts : ∀ j, j < ops.size → (∀ i, i < j → X i → X j → indepAt Γ imm ops i j = true ∨ ordB ops ops.size i j = true) ∧ ∀ o, ops[j]? = some o → ∀ e ∈ o.after, Region.binds .any e = true → e.on < j) {Q : Exit → Act → World → Prop} {s' : AS} (hQ : ∀ g' a' w', Rel io w0 N g' s' a' w' → Q .normal a' w') :
    ∀ (fuel : Nat) (listed : Array Bool) (rem : List Nat) (g : Gh) (s : AS) (a : Act) (w : World), rem.length ≤ fuel → listed.size = ops.size → (∀ i, i ∈ rem ↔ i < ops.size ∧ listed.getD i true = false) → rem.Pairwise (· < ·) → (∀ i ∈ rem, X i) →
      (∀ j o, ops[j]? = some o → listed.getD j true = true → ∀ e ∈ o.after, Region.binds .any e = true → listed.getD e.on false = true) →
      Rel io w0 N g s a w → evL P Γ imm ops rem s = some s' → wpAny P .any ops Q fuel listed a w := by
  have hready : ∀ (listed : Array Bool) (rem : List Nat), (∀ i, i ∈ rem ↔ i < ops.size ∧ listed.getD i true = false) → listed.size = ops.size → rem.Pairwise (· < ·) → Region.ready .any ops listed = [] → rem = [] := by
    intro listed rem hrem hsz hpw hnil
    cases rem with
    | nil => rfl
    | cons i0 q =>
      exfalso
      obtain ⟨hi1, hi2⟩ := (hrem i0).1 (by simp)
      have : i0 ∈ Region.ready .any ops listed := by
        rw [mem_ready]
        refine ⟨hi2, ops[i0], Array.getElem?_eq_getElem hi1, fun e he hb => ?_⟩
        have hlt := (hfacts i0 hi1).2 _ (Array.getElem?_eq_getElem hi1) e he hb
        have hnot : ¬ e.on ∈ i0 :: q := by
          intro hm
          rcases List.mem_cons.1 hm with hm | hm
          · omega
          · have := (List.pairwise_cons.1 hpw).1 _ hm
            omega
        rw [hrem] at hnot
        have hlt' : e.on < listed.size := by omega
        have : listed.getD e.on true ≠ false := fun h0 => hnot ⟨by omega, h0⟩
        simp [hlt'] at this ⊢
        exact this
      rw [hnil] at this
      cases this
  intro fuel
  induction fuel with
  | zero =>
    intro listed rem g s a w hlen hsz hrem hpw hX hcl h he
    have hnil : rem = [] := List.eq_nil_of_length_eq_zero (by omega)
    subst hnil
    simp only [evL, Option.some.injEq] at he
    subst he
    refine ⟨?_, hQ g a w h⟩
    cases hr : Region.ready .any ops listed with
    | nil => rfl
    | cons i l =>
      have hm : i ∈ Region.ready .any ops listed := by rw [hr]; simp
      rw [mem_ready] at hm
      obtain ⟨h1, o, h2, _⟩ := hm
      have := (hrem i).2 ⟨(Array.getElem?_eq_some_iff.1 h2).1, h1⟩
      cases this
  | succ fuel ih =>
    intro listed rem g s a w hlen hsz hrem hpw hX hcl h he
    refine ⟨fun hr => ?_, fun i hi => ?_⟩
    · have := hready listed rem hrem hsz hpw hr
      subst this
      simp only [evL, Option.some.injEq] at he
      subst he
      exact hQ g a w h
    · rw [mem_ready] at hi
      obtain ⟨h1, o, h2, h3⟩ := hi
      have hilt := (Array.getElem?_eq_some_iff.1 h2).1
      have hmem := (hrem i).2 ⟨hilt, h1⟩
      obtain ⟨p, q, rfl⟩ := List.append_of_mem hmem
      have hp : ∀ x ∈ p, indepAt Γ imm ops x i = true := fun x hx => by
        have hxi : x < i := by
          rw [List.pairwise_append] at hpw
          exact hpw.2.2 x hx i (by simp)
        rcases ((hfacts i hilt).1 x hxi (hX x (by simp [hx])) (hX i (by simp))).symm with ho | ho
        · exfalso
          have hxl := ord_listed hcl _ _ _ ho (fun o' ho' e he hb => by rw [h2] at ho'; cases ho'; exact h3 e he hb)
          have := ((hrem x).1 (by simp [hx])).2
          have hlt : x < listed.size := by have := ((hrem x).1 (by simp [hx])).1; omega
          simp [hlt] at this hxl
          rw [this] at hxl
          cases hxl
        · exact ho
      have hfr := evL_front hp he
      rw [evL_cons, h2] at hfr
      dsimp only at hfr
      split at hfr
      · rename_i s1 hs1
        have hdo : dstOk N o = true := (Array.all_eq_true_iff_forall_mem.1 hd) o (Array.mem_of_getElem? h2)
        refine op_ok h hΓ hio hdo hs1 h2 fun g' a' w' hr => ih _ (p ++ q) g' s1 a' w' (by simp at hlen ⊢; omega) (by simpa using hsz) (fun j => ?_) ?_ (fun y hy => hX y (by rcases List.mem_append.1 hy with hy | hy <;> simp [hy])) ?_ hr hfr
        · by_cases hji : j = i
          · subst hji
            have hnp : j ∉ p ++ q := by
              rw [List.pairwise_append] at hpw
              intro hm
              rcases List.mem_append.1 hm with hm | hm
              · have := hpw.2.2 j hm j (by simp)
                omega
              · have := (List.pairwise_cons.1 hpw.2.1).1 j hm
                omega
            constructor
            · intro hm; exact absurd hm hnp
            · rintro ⟨_, hf⟩
              have hlt : j < listed.size := by omega
              simp [hlt] at hf
          · rw [getD_set_ne true (fun e => hji e.symm), ← hrem j]
            simp [hji]
        · rw [List.pairwise_append] at hpw ⊢
          exact ⟨hpw.1, (List.pairwise_cons.1 hpw.2.1).2, fun x hx y hy => hpw.2.2 x hx y (by simp [hy])⟩
        · intro j o' ho' hl e he hb
          by_cases hji : j = i
          · subst hji
            rw [h2] at ho'
            cases ho'
            exact getD_set_true (h3 e he hb)
          · rw [getD_set_ne true (fun e => hji e.symm)] at hl
            exact getD_set_true (hcl j o' ho' hl e he hb)
      · cases hfr
theorem draw_ok {id : Nat} {Q : Exit → Act → World → Prop} {g : Gh} {s s' : AS} {a : Act} {w : World} (hm : P.follows .mixedOrders = true) (h : Rel io w0 N g s a w) (hΓ : SoundΓ P Γ) (hio : ∀ b, io b → b < w0.heap.size) (hd : ops.all (dstOk N) = true) (hok : drawOk Γ imm ops = true)
    (he : evSeq P Γ imm ops ops.toList s = some s') (hQ : ∀ g' a' w', Rel io w0 N g' s' a' w' → Q .normal a' w') : (Code.region id ops true).wp P Q a w := by
  refine wp_region_any hm ?_
  have hdrew : Rel io w0 N g s a { w with drawn := w.drawn + 1 } := ⟨h.nt, h.df, fun t => Rep.mono (w := w) (w' := { w with drawn := w.drawn + 1 }) (g := g) (g' := g) (Gh.le_refl g) (fun _ _ _ => rfl) _ _ (h.tm t), fun o c ho => by
    obtain ⟨k1, k2, k3, k4⟩ := h.ob o c ho
    exact ⟨k1, k2, k3, ObjAt.mono (w := w) (w' := { w with drawn := w.drawn + 1 }) (g := g) (g' := g) k4 (Gh.le_refl g) k1 (fun _ _ _ => rfl) rfl⟩, h.inj, h.nx, h.lt, h.new, ⟨h.fr.os, h.fr.tape, h.fr.output, h.fr.size, h.fr.block⟩, h.old, h.fix, h.hl, h.tab⟩
  refine any_okX hΓ hio hd (X := fun _ => True) (fun j hj => ⟨fun i hi _ _ => (drawOk_facts hok j hj).1 i hi, (drawOk_facts hok j hj).2⟩) hQ ops.size _ (List.range ops.size) g s a _ (by simp) (by simp) (fun i => ?_) List.pairwise_lt_range (fun _ _ => trivial) (fun j o ho hl => ?_) hdrew ?_
  · simp only [List.mem_range]
    constructor
    · intro hi; exact ⟨hi, by simp [hi]⟩
    · exact fun hi => hi.1
  · have hlt := (Array.getElem?_eq_some_iff.1 ho).1
    simp [hlt] at hl
  · have := evL_seq (P := P) (Γ := Γ) (imm := imm) (ops := ops) ops.toList 0 s rfl
    rw [List.range_eq_range']
    rw [← he, ← this]
    simp
end
end Go.Proofs.Ytngcedklbinhjaa
