/- Operations that make or turn the call's own objects. -/
import Derived.Test.YtenldjifipnjpaaDoorPxE
namespace Go.Proofs.YtenldjifipnjpaaDoor
open Go.RowKit
set_option linter.all false

def Lays (g : Gh) (w : World) (arr : Array Value) (sz : Nat) (es : List PV) : Prop :=
  ∀ (i : Nat) e, es[i]? = some e → ∃ u, Rep g w e u ∧ u.cells.all (·.oneCell') = true ∧ u.cells.size = sz ∧ ∀ j, j < sz → arr[i * sz + j]? = u.cells[j]?

def Gh.add (g : Gh) (b k : Nat) : Gh := { g with β := upd g.β g.nx b, κ := upd g.κ g.nx k, nx := g.nx + 1, hole := fun o => g.hole o ∧ o ≠ g.nx }
theorem Gh.D_add {g : Gh} {b k : Nat} : (g.add b k).D g.nx := ⟨Nat.lt_succ_self _, fun h => h.2 rfl⟩
theorem Gh.le_add (g : Gh) (b k : Nat) : g.le (g.add b k) :=
  ⟨fun _ _ h => h, fun o h => ⟨Nat.lt_succ_of_lt h.1, fun q => h.2 q.1⟩, fun o ho => upd_ne _ _ _ (by have := ho.1; omega), fun o ho => upd_ne _ _ _ (by have := ho.1; omega)⟩
theorem Gh.le_refl (g : Gh) : g.le g := ⟨fun _ _ h => h, fun _ h => h, fun _ _ => rfl, fun _ _ => rfl⟩

section
variable {P : Program} {Γ : Ctx} {io : IoS} {w0 : World} {N : Nat} {g : Gh} {s : AS} {a : Act} {w w' : World} {o : Oper} {p : PV}

theorem Lays.repEs {arr : Array Value} {sz T b : Nat} {es : List PV} {g' : Gh} (h : Lays g w arr sz es) (hg : g.le g') (hw : ∀ k b, g.I k b → w'.heap[b]? = w.heap[b]?) (hb : w'.heap[b]? = some (.cells arr T (0, 0))) : RepEs g' w' sz es b 0 :=
  RepEs.of fun i e he => by
    obtain ⟨u, h1, h2, h3, h4⟩ := h i e he
    refine ⟨u, h1.mono hg hw, ⟨h2, fun j hj => ?_⟩, h3⟩
    simp only [World.cell?, hb, Nat.zero_add]
    simpa using h4 j (by omega)

theorem Rel.add (h : Rel io w0 N g s a w) (hio : ∀ b, io b → b < w0.heap.size) {arr : Array Value} {T sz : Nat} {es : List PV} (hb : Below w.heap.size w w') (hn : w'.heap[w.heap.size]? = some (.cells arr T (0, 0)))
    (hes : Lays g w arr sz es) (hlen : es.length * sz ≤ arr.size) :
    Rel io w0 N (g.add w.heap.size arr.size) { s with ob := upd s.ob s.nx (some (T, sz, es)), nx := s.nx + 1 } a w' := by
  have hw : ∀ k b, g.I k b → w'.heap[b]? = w.heap[b]? := fun k b hi => hb.block b (h.lt k b hi)
  have hle := Gh.le_add g w.heap.size arr.size
  have hdead : ∀ o, g.nx ≤ o → s.ob o = none := fun o ho => by
    cases hq : s.ob o with
    | none => rfl
    | some c => have := (h.ob o c hq).1.1; omega
  have hβn : (g.add w.heap.size arr.size).β g.nx = w.heap.size := upd_same _ _ _
  have hκn : (g.add w.heap.size arr.size).κ g.nx = arr.size := upd_same _ _ _
  have hold : ∀ o c, s.ob o = some c → g.D o ∧ g.β o < w.heap.size := fun o c ho => by
    obtain ⟨h1, _, _, h4⟩ := h.ob o c ho
    obtain ⟨arr', ha, _⟩ := h4.1
    exact ⟨h1, lt_of_heap ha⟩
  refine ⟨h.nt, h.df, fun t => (h.tm t).mono hle hw, fun o c ho => ?_, fun o o' ho ho' he => ?_, by simp [Gh.add, h.nx], fun k b hi => Nat.lt_of_lt_of_le (h.lt k b hi) hb.size, h.new, h.fr.below hb, h.old, ⟨fun o ho => hle.D o (h.fix.1 o ho), fun o ho => by have hk := h.fix.1 o ho; rw [hle.β o hk, hle.κ o hk]; exact h.fix.2 o ho⟩, fun o ho => ⟨⟨(h.hl o ho).1, by have := (h.hl o ho).2; omega⟩, Nat.lt_succ_of_lt (h.hl o ho).2⟩, h.tab⟩
  · dsimp only at ho
    rw [← h.nx] at ho
    unfold upd at ho
    split at ho
    · rename_i heq
      subst heq
      cases ho
      refine ⟨Gh.D_add, .inl (by rw [hβn]; exact h.fr.size), fun k hk => ?_, ⟨arr, by rw [hβn]; exact hn, hκn.symm⟩, by rw [hκn]; exact hlen, ?_⟩
      · rw [hβn] at hk
        have := h.lt k _ hk
        omega
      · rw [hβn]
        exact hes.repEs hle hw hn
    · obtain ⟨h1, h2, h3, h4⟩ := h.ob o c ho
      have hlt := (hold o c ho).2
      have hβ := hle.β o h1
      refine ⟨hle.D o h1, by rw [hβ]; exact h2, by rw [hβ]; exact h3, h4.mono hle h1 hw (hb.block _ hlt)⟩
  · dsimp only at ho ho'
    rw [← h.nx] at ho ho'
    have key : ∀ o, (upd s.ob g.nx (some (T, sz, es)) o).isSome → o = g.nx ∨ (s.ob o).isSome ∧ g.D o ∧ g.β o < w.heap.size := fun o ho => by
      unfold upd at ho
      split at ho
      · left; assumption
      · obtain ⟨c, hc⟩ := Option.isSome_iff_exists.1 ho
        exact .inr ⟨ho, hold o c hc⟩
    rcases key o ho with rfl | ⟨k1, k2, k3⟩
    · rcases key o' ho' with rfl | ⟨k1', k2', k3'⟩
      · rfl
      · rw [hβn, hle.β o' k2'] at he
        omega
    · rcases key o' ho' with rfl | ⟨k1', k2', k3'⟩
      · rw [hβn, hle.β o k2] at he
        omega
      · rw [hle.β o k2, hle.β o' k2'] at he
        exact h.inj o o' k1 k1' he

theorem Rel.set (h : Rel io w0 N g s a w) {ob T sz : Nat} {es es' : List PV} (hob : s.ob ob = some (T, sz, es)) {arr : Array Value}
    (hos : w'.os = w.os ∧ w'.tape = w.tape ∧ w'.output = w.output ∧ w'.heap.size = w.heap.size) (hbl : ∀ b, b ≠ g.β ob → w'.heap[b]? = w.heap[b]?) (hn : w'.heap[g.β ob]? = some (.cells arr T (0, 0))) (hsz : arr.size = g.κ ob)
    (hes : Lays g w arr sz es') (hlen : es'.length * sz ≤ g.κ ob) : Rel io w0 N g { s with ob := upd s.ob ob (some (T, sz, es')) } a w' := by
  obtain ⟨h1, h2, h3, h4⟩ := h.ob ob _ hob
  have hw : ∀ k b, g.I k b → w'.heap[b]? = w.heap[b]? := fun k b hi => hbl b (fun e => h3 k (e ▸ hi))
  refine ⟨h.nt, h.df, fun t => (h.tm t).mono (Gh.le_refl g) hw, fun o c ho => ?_, fun o o' ho ho' he => ?_, h.nx, fun k b hi => by rw [hos.2.2.2]; exact h.lt k b hi, h.new, ?_, h.old, h.fix, h.hl, h.tab⟩
  · dsimp only at ho
    unfold upd at ho
    split at ho
    · rename_i heq
      subst heq
      cases ho
      exact ⟨h1, h2, h3, ⟨arr, hn, hsz⟩, hlen, hes.repEs (Gh.le_refl g) hw hn⟩
    · rename_i hne
      obtain ⟨k1, k2, k3, k4⟩ := h.ob o c ho
      refine ⟨k1, k2, k3, k4.mono (Gh.le_refl g) k1 hw (hbl _ (fun e => hne (h.inj o ob (by simp [ho]) (by simp [hob]) e)))⟩
  · have key : ∀ o, (upd s.ob ob (some (T, sz, es')) o).isSome → (s.ob o).isSome := fun o ho => by
      unfold upd at ho
      split at ho
      · rename_i heq; subst heq; simp [hob]
      · exact ho
    exact h.inj o o' (key o ho) (key o' ho') he
  · refine ⟨hos.1.trans h.fr.os, hos.2.1.trans h.fr.tape, hos.2.2.1.trans h.fr.output, by rw [hos.2.2.2]; exact h.fr.size, fun b hb hi => ?_⟩
    rw [hbl b (fun e => ?_)]
    · exact h.fr.block b hb hi
    · subst e
      rcases h2 with h2 | h2
      · omega
      · exact hi h2

theorem Rel.del (h : Rel io w0 N g s a w) (ob : Nat) : Rel io w0 N g { s with ob := upd s.ob ob none } a w := by
  have key : ∀ o c, upd s.ob ob none o = some c → s.ob o = some c := fun o c ho => by
    unfold upd at ho
    split at ho
    · cases ho
    · exact ho
  refine ⟨h.nt, h.df, h.tm, fun o c ho => h.ob o c (key o c ho), fun o o' ho ho' he => ?_, h.nx, h.lt, h.new, h.fr, h.old, h.fix, h.hl, h.tab⟩
  obtain ⟨c, hc⟩ := Option.isSome_iff_exists.1 ho
  obtain ⟨c', hc'⟩ := Option.isSome_iff_exists.1 ho'
  exact h.inj o o' (by simp [key o c hc]) (by simp [key o' c' hc']) he

theorem upd_comm_eq {α : Type} (f : Nat → α) (d : Nat) (v v' : α) : upd (upd f d v) d v' = upd f d v' := by
  funext t; unfold upd; split <;> rfl

/-- An object gets a new name. -/
theorem Rel.rename (h : Rel io w0 N g s a w) {ob : Nat} {c : Nat × Nat × List PV} (hob : s.ob ob = some c) :
    Rel io w0 N (g.add (g.β ob) (g.κ ob)) { s with ob := upd (upd s.ob ob none) s.nx (some c), nx := s.nx + 1 } a w := by
  have hle := Gh.le_add g (g.β ob) (g.κ ob)
  have hw : ∀ k b, g.I k b → w.heap[b]? = w.heap[b]? := fun _ _ _ => rfl
  obtain ⟨h1, h2, h3, h4⟩ := h.ob ob _ hob
  have hβn : (g.add (g.β ob) (g.κ ob)).β g.nx = g.β ob := upd_same _ _ _
  have hκn : (g.add (g.β ob) (g.κ ob)).κ g.nx = g.κ ob := upd_same _ _ _
  have key : ∀ o c', upd (upd s.ob ob none) g.nx (some c) o = some c' → (o = g.nx ∧ c' = c) ∨ (o ≠ ob ∧ g.D o ∧ s.ob o = some c') := fun o c' ho => by
    unfold upd at ho
    split at ho
    · rename_i heq; cases ho; exact .inl ⟨heq, rfl⟩
    · split at ho
      · cases ho
      · rename_i hne; exact .inr ⟨hne, (h.ob o c' ho).1, ho⟩
  refine ⟨h.nt, h.df, fun t => (h.tm t).mono hle hw, fun o c' ho => ?_, fun o o' ho ho' he => ?_, by simp [Gh.add, h.nx], h.lt, h.new, h.fr, h.old, ⟨fun o ho => hle.D o (h.fix.1 o ho), fun o ho => by have hk := h.fix.1 o ho; rw [hle.β o hk, hle.κ o hk]; exact h.fix.2 o ho⟩, fun o ho => ⟨⟨(h.hl o ho).1, by have := (h.hl o ho).2; omega⟩, Nat.lt_succ_of_lt (h.hl o ho).2⟩, h.tab⟩
  · dsimp only at ho
    rw [← h.nx] at ho
    rcases key o c' ho with ⟨rfl, rfl⟩ | ⟨k1, k2, k3⟩
    · refine ⟨Gh.D_add, by rw [hβn]; exact h2, by rw [hβn]; exact h3, ?_⟩
      obtain ⟨⟨arr, m1, m2⟩, m3, m4⟩ := h4
      exact ⟨⟨arr, by rw [hβn]; exact m1, by rw [hκn]; exact m2⟩, by rw [hκn]; exact m3, by rw [hβn]; exact RepEs.mono hle hw _ _ _ _ rfl m4⟩
    · obtain ⟨l1, l2, l3, l4⟩ := h.ob o c' k3
      have hβ := hle.β o l1
      exact ⟨hle.D o l1, by rw [hβ]; exact l2, by rw [hβ]; exact l3, l4.mono hle l1 hw rfl⟩
  · dsimp only at ho ho'
    rw [← h.nx] at ho ho'
    obtain ⟨c1, hc1⟩ := Option.isSome_iff_exists.1 ho
    obtain ⟨c2, hc2⟩ := Option.isSome_iff_exists.1 ho'
    rcases key o c1 hc1 with ⟨rfl, _⟩ | ⟨k1, k2, k3⟩
    · rcases key o' c2 hc2 with ⟨rfl, _⟩ | ⟨k1', k2', k3'⟩
      · rfl
      · rw [hβn, hle.β o' k2'] at he
        exact absurd (h.inj ob o' (by simp [hob]) (by simp [k3']) he).symm k1'
    · rcases key o' c2 hc2 with ⟨rfl, _⟩ | ⟨k1', k2', k3'⟩
      · rw [hβn, hle.β o k2] at he
        exact absurd (h.inj o ob (by simp [k3]) (by simp [hob]) he) k1
      · rw [hle.β o k2, hle.β o' k2'] at he
        exact h.inj o o' (by simp [k3]) (by simp [k3']) he
end

def ofVal : Value → PV
  | .agg cs => .agg (cs.toList.map .val)
  | v => .val v
theorem ofVal_rep (g : Gh) (w : World) (v : Value) : Rep g w (ofVal v) v := by
  cases v with
  | agg cs => simp only [ofVal, Rep]; exact ⟨cs, rfl, RepL.vals _⟩
  | _ => simp [ofVal, Rep]
def tyBytes (P : Program) (t : Nat) : Option Nat := (P.info? t).map (·.bytes)
def setP (sz : Nat) (e : PV) (f : Nat) (y : PV) (cs : List PV) : Option PV :=
  match e with
  | .agg ecs => if f + cs.length ≤ ecs.length then some (.agg (setL ecs f cs)) else none
  | _ => if sz = 1 ∧ f = 0 ∧ oneP y = true then some y else none

/-- A call with objects. -/
def ioEv (Φ : FunIO) (ob : Objs) (nx : Nat) (ps : List PV) : Option (PV × Objs × Nat) :=
  let os := dedup (ps.flatMap refsOf)
  match os.mapM ob, ps.mapM (renF (inn os) fuel) with
  | some cs, some qs => match cs.mapM (renC (inn os) fuel) with
    | some cs1 => match Φ qs cs1 with
      | some (r, cs') => match renF (fun i => some (outn os nx i)) fuel r, cs'.mapM (renC (fun i => some (outn os nx i)) fuel) with
        | some r', some cs2 => some (r', putObs ob (((List.range cs2.length).map (outn os nx)).zip cs2), nx + (cs'.length - os.length))
        | _, _ => none
      | none => none
    | none => none
  | _, _ => none
def calleeIO (Γ : Ctx) (c : Call) : Option FunIO :=
  match c.callee with
  | .value (.func f) => Γ.io f
  | _ => none
/-- What a copy takes: the elements of a slice, the bytes of a string. -/
def srcEs (ob : Objs) (sz : Nat) : PV → Option (List PV)
  | .val (.string b) => if sz = 1 then some (b.data.toList.map fun x => .val (.int .u8 x.toNat)) else none
  | p => sliceEs ob sz p
def cpEv (P : Program) (ob : Objs) (nx : Nat) (t : Nat) (x y : PV) : Option (PV × Objs × Nat) :=
  match tyElem P t with
  | some e => match tySize P e with
    | some sz => match srcEs ob sz y, x with
      | some es2, .row o sz' i n => match ob o with
        | some (T, sz'', es) => if sz' = sz ∧ sz'' = sz ∧ i + n ≤ es.length then
            some (.val (.int .i64 (min es2.length n : Nat)), upd ob o (some (T, sz, es.take i ++ es2.take (min es2.length n) ++ es.drop (i + min es2.length n))), nx) else none
        | none => none
      | some _, .lst _ _ [] => some (.val (.int .i64 0), ob, nx)
      | _, _ => none
    | none => none
  | none => none
/-- An operation that makes or turns an object: what it gives, the objects, their number. -/
def evEff (P : Program) (Γ : Ctx) (s : AS) (ρ : Operand → PV) : Op → Option (PV × Objs × Nat)
  | .alloc t => match zeroOf P t with
    | some z => if z.cells.all (·.oneCell') = true then some (.own s.nx z.cells.size 0 0, upd s.ob s.nx (some (t, z.cells.size, [ofVal z])), s.nx + 1) else none
    | none => none
  | .box t x => match cellsL (ρ x) with
    | some cs => some (.own s.nx cs.length 0 0, upd s.ob s.nx (some (t, cs.length, [ρ x])), s.nx + 1)
    | none => none
  | .buildSlice t n ps => match rowEs P t n (partsOf ρ ps) with
    | some (e, sz, es) => some (.row s.nx sz 0 n, upd s.ob s.nx (some (e, sz, es)), s.nx + 1)
    | none => none
  | .makeSlice t l c => match tyElem P t with
    | some e => match zeroOf P e, tySize P e, tyBytes P e, ρ l, ρ c with
      | some z, some sz, some by_, .val (.int kl l), .val (.int kc c) =>
        if z.cells.all (·.oneCell') = true ∧ z.cells.size = sz ∧ 0 ≤ l ∧ l ≤ c ∧ (by_ : Int) * c ≤ 281474976710656 ∧ c ≤ 9223372036854775807 then
          some (.row s.nx sz 0 l.toNat, upd s.ob s.nx (some (e, sz, List.replicate l.toNat (ofVal z))), s.nx + 1) else none
      | _, _, _, _, _ => none
    | none => none
  | .store t x y => match ρ x with
    | .own o sz i f => match s.ob o with
      | some (T, sz', es) => match es[i]?, cellsL (ρ y) with
        | some e, some cs => if sz = sz' ∧ tySize P t = some cs.length then (setP sz e f (ρ y) cs).map fun e' => (.val undef, upd s.ob o (some (T, sz, es.set i e')), s.nx) else none
        | _, _ => none
      | none => none
    | _ => none
  | .call c => match c.callee with
    | .value x => match calleeIO Γ c with
      | some Φ => ioEv Φ s.ob s.nx (c.args.toList.map ρ)
      | none => none
    | .builtin .copy => match c.args.toList, c.argTypes.toList with
      | [x, y], [t, _] => cpEv P s.ob s.nx t (ρ x) (ρ y)
      | _, _ => none
    | .builtin .append => match c.args.toList, c.argTypes.toList with
      | [x, y], [t, t'] => match tyElem P t with
        | some e => match zeroOf P e, tySize P e, tyBytes P e with
          | some z, some sz, some by_ => match sliceEs s.ob sz (ρ y) with
            | some es2 =>
              if t = t' ∧ 0 < sz ∧ z.cells.size = sz then
                match ρ x with
                | .row o sz' i n => match s.ob o with
                  | some (T, sz'', es) => if i = 0 ∧ T = e ∧ sz' = sz ∧ sz'' = sz ∧ es.length = n ∧ n + es2.length ≤ 9223372036854775807 ∧ (n + es2.length) * by_ ≤ 140737488355328 then
                      some (.row s.nx sz 0 (n + es2.length), upd (upd s.ob o none) s.nx (some (e, sz, es ++ es2)), s.nx + 1) else none
                  | none => none
                | p => if isNil p = true ∧ es2.length ≤ 9223372036854775807 ∧ es2.length * by_ ≤ 140737488355328 then
                    (if es2.length = 0 then some (p, s.ob, s.nx) else some (.row s.nx sz 0 es2.length, upd s.ob s.nx (some (e, sz, es2)), s.nx + 1)) else none
              else none
            | none => none
          | _, _, _ => none
        | none => none
      | _, _ => none
    | _ => none
  | _ => none
end Go.Proofs.YtenldjifipnjpaaDoor
