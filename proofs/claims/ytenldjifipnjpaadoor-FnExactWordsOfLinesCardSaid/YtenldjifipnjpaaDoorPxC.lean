/- What an operation gives, in one function; and that the model's operations give just that. -/
import Derived.Test.YtenldjifipnjpaaDoorPxB
namespace Go.Proofs.YtenldjifipnjpaaDoor
open Go.RowKit
set_option linter.all false

abbrev Objs := Nat → Option (Nat × Nat × List PV)

/-- The elements of a slice. -/
def sliceEs (ob : Objs) (sz : Nat) : PV → Option (List PV)
  | .lst _ sz' es => if sz = sz' then some es else none
  | .row o sz' i n => match ob o with
    | some (_, sz'', es) => if sz = sz' ∧ sz = sz'' ∧ i + n ≤ es.length then some ((es.drop i).take n) else none
    | none => none
  | .val (.slice none 0 0) => some []
  | _ => none
def byteNs : List PV → Option (List Int)
  | [] => some []
  | .val (.int .u8 n) :: es => (byteNs es).map (n :: ·)
  | _ :: _ => none
def bytesOf (ns : List Int) : ByteArray := ns.foldl (fun r n => r.push (UInt8.ofNat n.toNat)) ByteArray.empty

/-- A value said without own objects: for an argument (fr = false), or for a result, which must lie in new memory (fr = true; objects below n came in). -/
def reify (fr : Bool) (n : Nat) (ob : Objs) : Nat → PV → Option PV
  | 0, _ => none
  | f + 1, p => match p with
    | .val v => some (.val v)
    | .dead => some .dead
    | .lst k sz es => if fr = true ∧ k = false ∧ es ≠ [] then none else (es.mapM (reify fr n ob f)).map (.lst fr sz)
    | .ptr k e o => if fr = true ∧ k = false then none else (reify fr n ob f e).map (.ptr fr · o)
    | .own o sz i c => if fr = true ∧ o < n then none else match ob o with
      | some (_, sz', es) => if sz = sz' then (es[i]?).bind fun e => (reify fr n ob f e).map (.ptr fr · c) else none
      | none => none
    | .row o sz i m => if fr = true ∧ o < n then none else match ob o with
      | some (_, sz', es) => if sz = sz' ∧ i + m ≤ es.length then (((es.drop i).take m).mapM (reify fr n ob f)).map (.lst fr sz) else none
      | none => none
    | .agg cs => (cs.mapM (reify fr n ob f)).map .agg
    | .tup cs => (cs.mapM (reify fr n ob f)).map .tup

section
variable {io : IoS} {w0 : World} {N : Nat} {g : Gh} {s : AS} {a : Act} {w : World}

theorem mapM_get {α β : Type} {f : α → Option β} : ∀ {l : List α} {l' : List β}, l.mapM f = some l' → l'.length = l.length ∧ ∀ (i : Nat) x, l[i]? = some x → ∃ y, l'[i]? = some y ∧ f x = some y
  | [], l', h => by simp only [List.mapM_nil, Option.pure_def, Option.some.injEq] at h; subst h; simp
  | x :: l, l', h => by
    simp only [List.mapM_cons, Option.bind_eq_bind, Option.bind_eq_some_iff, Option.pure_def, Option.some.injEq] at h
    obtain ⟨y, h1, ys, h2, rfl⟩ := h
    have ih := mapM_get h2
    refine ⟨by simp [ih.1], fun i z hz => ?_⟩
    cases i with
    | zero => simp only [List.getElem?_cons_zero, Option.some.injEq] at hz; subst hz; exact ⟨y, by simp, h1⟩
    | succ i => simpa using ih.2 i z (by simpa using hz)

/-- What a reader of the world may look at: all that is only read, and the own objects as they are. -/
structure Seen (fr : Bool) (n : Nat) (g : Gh) (s : AS) (g' : Gh) : Prop where
  F : fr = false → (∀ k b, g.I k b → g'.I false b) ∧ ∀ o, (s.ob o).isSome → g'.I false (g.β o)
  T : fr = true → (∀ b, g.I true b → g'.I true b) ∧ ∀ o, (s.ob o).isSome → n ≤ o → g'.I true (g.β o)

theorem RepEs.conv {F : PV → Option PV} {g' : Gh} (ih : ∀ p q v, Rep g w p v → F p = some q → Rep g' w q v) {sz : Nat} {es es' : List PV} {b off : Nat} (h : RepEs g w sz es b off) (hm : es.mapM F = some es') : RepEs g' w sz es' b off := by
  have hg := mapM_get hm
  refine RepEs.of fun i e he => ?_
  have hi : i < es.length := by rw [← hg.1]; exact (List.getElem?_eq_some_iff.1 he).1
  obtain ⟨y, hy, hf⟩ := hg.2 i es[i] (List.getElem?_eq_getElem hi)
  rw [hy] at he
  cases he
  obtain ⟨u, h1, h2, h3⟩ := h.get (List.getElem?_eq_getElem hi)
  exact ⟨u, ih es[i] e u h1 hf, h2, h3⟩
theorem RepL.conv {F : PV → Option PV} {g' : Gh} (ih : ∀ p q v, Rep g w p v → F p = some q → Rep g' w q v) {cs cs' : List PV} {vs : List Value} (h : RepL g w cs vs) (hm : cs.mapM F = some cs') : RepL g' w cs' vs := by
  have hg := mapM_get hm
  have hh := h.get
  refine RepL.of (by rw [hh.1, hg.1]) fun i c hc => ?_
  have hi : i < cs.length := by rw [← hg.1]; exact (List.getElem?_eq_some_iff.1 hc).1
  obtain ⟨y, hy, hf⟩ := hg.2 i cs[i] (List.getElem?_eq_getElem hi)
  rw [hy] at hc
  cases hc
  obtain ⟨v, h1, h2⟩ := hh.2 i cs[i] (List.getElem?_eq_getElem hi)
  exact ⟨v, h1, ih cs[i] c v h2 hf⟩
theorem Rep.seen {fr : Bool} {n : Nat} {g' : Gh} (hob : ∀ o c, s.ob o = some c → ObjAt g w o c) (hs : Seen fr n g s g') : ∀ (f : Nat) (p q : PV) (v : Value), Rep g w p v → reify fr n s.ob f p = some q → Rep g' w q v
  | 0, p, q, v, h, hr => by simp [reify] at hr
  | f + 1, p, q, v, h, hr => by
    cases p with
    | val u => simp only [reify, Option.some.injEq] at hr; subst hr; simpa [Rep] using h
    | dead => simp only [reify, Option.some.injEq] at hr; subst hr; simp [Rep]
    | lst k sz es =>
      simp only [reify] at hr
      split at hr
      · cases hr
      · rename_i hk
        simp only [Option.map_eq_some_iff] at hr
        obtain ⟨es', h1, rfl⟩ := hr
        have hl := (mapM_get h1).1
        simp only [Rep] at h ⊢
        obtain ⟨a, cap, rfl, h2, h3, h4⟩ := h
        refine ⟨a, cap, by rw [hl], by omega, h3, ?_⟩
        rcases h4 with rfl | ⟨b, off, rfl, h5, h6⟩
        · left; exact List.eq_nil_of_length_eq_zero (by simpa using hl)
        · by_cases hnil : es = []
          · left; subst hnil; exact List.eq_nil_of_length_eq_zero (by simpa using hl)
          · right
            refine ⟨b, off, rfl, ?_, RepEs.conv (Rep.seen hob hs f) h6 h1⟩
            cases fr with
            | false => exact (hs.F rfl).1 _ _ h5
            | true =>
              cases k with
              | true => exact (hs.T rfl).1 _ h5
              | false => simp [hnil] at hk
    | ptr k e o =>
      simp only [reify] at hr
      split at hr
      · cases hr
      · rename_i hk
        simp only [Option.map_eq_some_iff] at hr
        obtain ⟨e', h1, rfl⟩ := hr
        simp only [Rep] at h ⊢
        obtain ⟨b, off, rfl, h2, u, h3, h4⟩ := h
        refine ⟨b, off, rfl, ?_, u, Rep.seen hob hs f e e' u h3 h1, h4⟩
        cases fr with
        | false => exact (hs.F rfl).1 _ _ h2
        | true =>
          cases k with
          | true => exact (hs.T rfl).1 _ h2
          | false => simp at hk
    | own o sz i c =>
      simp only [reify] at hr
      split at hr
      · cases hr
      · rename_i hk
        split at hr
        · rename_i T sz' es ho
          split at hr
          case isFalse => cases hr
          case isTrue hsz =>
            subst hsz
            simp only [Option.bind_eq_some_iff, Option.map_eq_some_iff] at hr
            obtain ⟨e, he, e', h1, rfl⟩ := hr
            simp only [Rep] at h ⊢
            obtain ⟨rfl, hlt⟩ := h
            obtain ⟨u, h2, h3, h4⟩ := (hob o _ ho).2.2.get he
            refine ⟨g.β o, i * sz, by rw [Nat.zero_add] at *, ?_, u, Rep.seen hob hs f e e' u h2 h1, by simpa using h3⟩
            cases fr with
            | false => exact (hs.F rfl).2 o (by simp [ho])
            | true => exact (hs.T rfl).2 o (by simp [ho]) (by simp at hk; omega)
        · cases hr
    | row o sz i m =>
      simp only [reify] at hr
      split at hr
      · cases hr
      · rename_i hk
        split at hr
        · rename_i T sz' es ho
          split at hr
          case isFalse => cases hr
          case isTrue hsz =>
            obtain ⟨rfl, hle⟩ := hsz
            simp only [Option.map_eq_some_iff] at hr
            obtain ⟨es', h1, rfl⟩ := hr
            have hl := (mapM_get h1).1
            have hl2 : es'.length = m := by rw [hl]; simp; omega
            simp only [Rep] at h ⊢
            obtain ⟨c, rfl, h2, h3, h4, h5⟩ := h
            refine ⟨_, c, by rw [hl2], by omega, h3, .inr ⟨g.β o, i * sz, rfl, ?_, ?_⟩⟩
            · cases fr with
              | false => exact (hs.F rfl).2 o (by simp [ho])
              | true => exact (hs.T rfl).2 o (by simp [ho]) (by simp at hk; omega)
            · have := ((hob o _ ho).2.2.drop i).take m
              exact RepEs.conv (Rep.seen hob hs f) (by simpa using this) h1
        · cases hr
    | agg cs =>
      simp only [reify, Option.map_eq_some_iff] at hr
      obtain ⟨cs', h1, rfl⟩ := hr
      simp only [Rep] at h ⊢
      obtain ⟨vs, rfl, h2⟩ := h
      exact ⟨vs, rfl, RepL.conv (Rep.seen hob hs f) h2 h1⟩
    | tup cs =>
      simp only [reify, Option.map_eq_some_iff] at hr
      obtain ⟨cs', h1, rfl⟩ := hr
      simp only [Rep] at h ⊢
      obtain ⟨vs, rfl, h2⟩ := h
      exact ⟨vs, rfl, RepL.conv (Rep.seen hob hs f) h2 h1⟩
end

/-- What a function gives for what it is handed. -/
abbrev Fun := List PV → Option PV
def argG (J : Nat → Prop) : Gh := { I := fun k b => k = false ∧ J b, β := fun _ => 0, κ := fun _ => 0, nx := 0 }
/-- Called with what reads so, the function returns what reads so, in new memory, and leaves all memory as it was. -/
def Sound (P : Program) (f : Nat) (φ : Fun) : Prop :=
  ∀ (w : World) (J : Nat → Prop) (ps : List PV) (args : Array Value) (r : PV), φ ps = some r → (∀ b, J b → b < w.heap.size) → TabF w (fun _ => False) → RepL (argG J) w ps args.toList →
    Calls P f args w fun e w' => ∃ v, e = .returned v ∧ Below w.heap.size w w' ∧ ∀ g' : Gh, (∀ b, w.heap.size ≤ b → b < w'.heap.size → g'.I true b) → Rep g' w' r v
/-! Contracts with objects. -/
/-- An object: its element type, cells an element, elements. -/
abbrev CellIO := Nat × Nat × List PV
abbrev FunIO := List PV → List CellIO → Option (PV × List CellIO)
def addN (J : Bool → Nat → Prop) (M : Nat → Prop) : Bool → Nat → Prop := fun k b => J k b ∨ (k = true ∧ M b)
def ghIO (J : Bool → Nat → Prop) (β κ : Nat → Nat) (m : Nat) : Gh := { I := J, β := β, κ := κ, nx := m }
/-- The objects cs lie where β says, apart from one another and from J. -/
structure ObjsIO (J : Bool → Nat → Prop) (w : World) (β κ : Nat → Nat) (cs : List CellIO) : Prop where
  lt : ∀ o, o < cs.length → β o < w.heap.size ∧ ∀ k, ¬ J k (β o)
  inj : ∀ o o', o < cs.length → o' < cs.length → β o = β o' → o = o'
  at_ : ∀ o c, cs[o]? = some c → ObjAt (ghIO J β κ cs.length) w o c
/-- Called with arguments that read as ps and objects that read as cs, the function answers r and leaves the objects (and new ones behind them) as cs'. -/
def SoundIO (P : Program) (f : Nat) (Φ : FunIO) : Prop :=
  ∀ (w : World) (J : Bool → Nat → Prop) (β κ : Nat → Nat) (ps : List PV) (cs : List CellIO) (args : Array Value) (r : PV) (cs' : List CellIO),
    Φ ps cs = some (r, cs') → (∀ k b, J k b → b < w.heap.size) → ObjsIO J w β κ cs → TabF w (fun b => ∃ o, o < cs.length ∧ b = β o) → RepL (ghIO J β κ cs.length) w ps args.toList →
    Calls P f args w fun e w' => ∃ v β' κ' M, e = .returned v ∧ Fr (fun b => ∃ o, o < cs.length ∧ b = β o) w w' ∧ cs.length ≤ cs'.length ∧
      (∀ o, o < cs.length → β' o = β o ∧ κ' o = κ o) ∧ (∀ o, cs.length ≤ o → o < cs'.length → w.heap.size ≤ β' o) ∧ (∀ b, M b → w.heap.size ≤ b ∧ b < w'.heap.size) ∧
      ObjsIO (addN J M) w' β' κ' cs' ∧ Rep (ghIO (addN J M) β' κ' cs'.length) w' r v
/-- What the functions give: those without objects, and those with objects. -/
structure Ctx where
  fn : Nat → Option Fun
  io : Nat → Option FunIO
instance : CoeFun Ctx (fun _ => Nat → Option Fun) := ⟨Ctx.fn⟩
/-- Other names for own objects. -/
def renF (nm : Nat → Option Nat) : Nat → PV → Option PV
  | 0, _ => none
  | n + 1, p => match p with
    | .val v => some (.val v)
    | .dead => some .dead
    | .lst k sz es => (es.mapM (renF nm n)).map (.lst k sz)
    | .ptr k e o => (renF nm n e).map (.ptr k · o)
    | .own o sz i f => (nm o).map fun o' => .own o' sz i f
    | .row o sz i m => (nm o).map fun o' => .row o' sz i m
    | .agg cs => (cs.mapM (renF nm n)).map .agg
    | .tup cs => (cs.mapM (renF nm n)).map .tup
theorem Rep.ren {nm : Nat → Option Nat} {g g' : Gh} {w : World} (hI : ∀ k b, g.I k b → g'.I k b) (ho : ∀ o o', g.D o → nm o = some o' → g'.β o' = g.β o ∧ g'.κ o' = g.κ o ∧ g'.D o') :
    ∀ (f : Nat) (p q : PV) (v : Value), Rep g w p v → renF nm f p = some q → Rep g' w q v
  | 0, p, q, v, h, hr => by simp [renF] at hr
  | f + 1, p, q, v, h, hr => by
    cases p with
    | val u => simp only [renF, Option.some.injEq] at hr; subst hr; simpa [Rep] using h
    | dead => simp only [renF, Option.some.injEq] at hr; subst hr; simp [Rep]
    | lst k sz es =>
      simp only [renF, Option.map_eq_some_iff] at hr
      obtain ⟨es', h1, rfl⟩ := hr
      have hl := (mapM_get h1).1
      simp only [Rep] at h ⊢
      obtain ⟨a, cap, rfl, h2, h3, h4⟩ := h
      refine ⟨a, cap, by rw [hl], by omega, h3, ?_⟩
      rcases h4 with rfl | ⟨b, off, rfl, h5, h6⟩
      · left; exact List.eq_nil_of_length_eq_zero (by simpa using hl)
      · right
        exact ⟨b, off, rfl, hI _ _ h5, RepEs.conv (Rep.ren hI ho f) h6 h1⟩
    | ptr k e o =>
      simp only [renF, Option.map_eq_some_iff] at hr
      obtain ⟨e', h1, rfl⟩ := hr
      simp only [Rep] at h ⊢
      obtain ⟨b, off, rfl, h2, u, h3, h4⟩ := h
      exact ⟨b, off, rfl, hI _ _ h2, u, Rep.ren hI ho f e e' u h3 h1, h4⟩
    | own o sz i c =>
      simp only [renF, Option.map_eq_some_iff] at hr
      obtain ⟨o', hm, rfl⟩ := hr
      simp only [Rep] at h ⊢
      obtain ⟨e1, _, e3⟩ := ho o o' h.2 hm
      exact ⟨by rw [e1]; exact h.1, e3⟩
    | row o sz i m =>
      simp only [renF, Option.map_eq_some_iff] at hr
      obtain ⟨o', hm, rfl⟩ := hr
      simp only [Rep] at h ⊢
      obtain ⟨c, h1, h2, h3, h4, h5⟩ := h
      obtain ⟨e1, e2, e3⟩ := ho o o' h5 hm
      exact ⟨c, by rw [e1]; exact h1, h2, h3, by rw [e2]; exact h4, e3⟩
    | agg cs =>
      simp only [renF, Option.map_eq_some_iff] at hr
      obtain ⟨cs', h1, rfl⟩ := hr
      simp only [Rep] at h ⊢
      obtain ⟨vs, rfl, h2⟩ := h
      exact ⟨vs, rfl, RepL.conv (Rep.ren hI ho f) h2 h1⟩
    | tup cs =>
      simp only [renF, Option.map_eq_some_iff] at hr
      obtain ⟨cs', h1, rfl⟩ := hr
      simp only [Rep] at h ⊢
      obtain ⟨vs, rfl, h2⟩ := h
      exact ⟨vs, rfl, RepL.conv (Rep.ren hI ho f) h2 h1⟩
def renC (nm : Nat → Option Nat) (f : Nat) (c : CellIO) : Option CellIO := (c.2.2.mapM (renF nm f)).map fun es => (c.1, c.2.1, es)
/-- The objects that an argument names. -/
def refsOf : PV → List Nat
  | .own o _ _ _ => [o]
  | .row o _ _ _ => [o]
  | .agg cs => cs.flatMap fun c => match c with
    | .own o _ _ _ => [o]
    | .row o _ _ _ => [o]
    | _ => []
  | _ => []
def dedup : List Nat → List Nat
  | [] => []
  | o :: l => o :: (dedup l).filter (fun x => !(x == o))
theorem dedup_nodup : ∀ (l : List Nat), (dedup l).Nodup
  | [] => by simp [dedup]
  | o :: l => by
    simp only [dedup, List.nodup_cons]
    exact ⟨by simp, (dedup_nodup l).filter _⟩
def inn (os : List Nat) (o : Nat) : Option Nat := if o ∈ os then some (os.idxOf o) else none
def outn (os : List Nat) (nx i : Nat) : Nat := if i < os.length then os.getD i 0 else nx + (i - os.length)
def putObs (ob : Objs) : List (Nat × CellIO) → Objs
  | [] => ob
  | p :: l => putObs (upd ob p.1 (some p.2)) l
end Go.Proofs.YtenldjifipnjpaaDoor
