/- Operations that give a value and turn no object: one function says what they give; the model's operations give just that. -/
import Derived.Test.YtenldjifipnjpaaDoorPxC
namespace Go.Proofs.YtenldjifipnjpaaDoor
open Go.RowKit
set_option linter.all false

def isByteSlice (P : Program) (t : Nat) : Bool :=
  match P.underlying t with
  | some (.slice e) => match P.underlying e with
    | some (.int .u8) => true
    | _ => false
  | _ => false
def isStr (P : Program) (t : Nat) : Bool := match P.underlying t with | some .string => true | _ => false
def optI : Option PV → Option (Option Int)
  | none => some none
  | some (.val (.int .i64 i)) => some (some i)
  | _ => none
def okP (sz : Nat) (p : PV) : Bool := match cellsL p with | some cs => cs.length == sz | none => false
/-- The elements of a literal. -/
def rowEs (P : Program) (t len : Nat) (ps : List (Nat × PV)) : Option (Nat × Nat × List PV) :=
  match tyElem P t with
  | some e => match tySize P e, zeroOf P e with
    | some sz, some _ => if len * sz ≤ 16777216 ∧ len ≤ 9223372036854775807 ∧ ps.map (·.1) = List.range len ∧ (ps.map (·.2)).all (okP sz) then some (e, sz, ps.map (·.2)) else none
    | _, _ => none
  | none => none
def partsOf (ρ : Operand → PV) (ps : Array (Nat × Operand)) : List (Nat × PV) := ps.toList.map fun p => (p.1, ρ p.2)
def fnOf : PV → Option Nat
  | .val (.func (.func f) first captured) => if first.size = 0 ∧ captured.size = 0 then some f else none
  | _ => none
def toValsA : List PV → Option (List Value)
  | [] => some []
  | p :: ps => match toVal p, toValsA ps with
    | some v, some vs => some (v :: vs)
    | _, _ => none
def valOf : Next → Option Value
  | .value v => some v
  | _ => none
def evLen (P : Program) (t : Nat) : PV → Option PV
  | .lst _ _ es => if (tyElem P t).isSome then some (.val (.int .i64 es.length)) else none
  | .row _ _ _ n => if (tyElem P t).isSome then some (.val (.int .i64 n)) else none
  | _ => none
def fuel : Nat := 8

def evVal (P : Program) (Γ : Ctx) (ob : Objs) (ρ : Operand → PV) (ty : Nat) : Op → Option PV
  | .move x => some (ρ x)
  | .assign x => some (ρ x)
  | .pick c x y => match ρ c with
    | .val (.bool b) => some (if b then ρ x else ρ y)
    | _ => none
  | .build t ps => evBuild P t (partsOf ρ ps)
  | .buildSlice t n ps => match rowEs P t n (partsOf ρ ps) with
    | some (_, sz, es) => some (.lst true sz es)
    | none => none
  | .load t x => match ρ x with
    | .own o sz i f => match ob o with
      | some (_, sz', es) => if sz = sz' then (es[i]?).bind (subP P t f) else none
      | none => none
    | .ptr _ e f => subP P t f e
    | _ => none
  | .nilCheck x => match ρ x with
    | .own o sz i f => some (.own o sz i f)
    | .ptr k e f => some (.ptr k e f)
    | _ => none
  | .binOp b t x y _ => match toVal (ρ x), toVal (ρ y) with
    | some u, some v => (pureRun P (do eqGuard b t x y u v; binOp b t u v)).map .val
    | _, _ => none
  | .unOp u _ x => match toVal (ρ x) with
    | some v => (pureRun P (Op.unary u v)).map .val
    | none => none
  | .convert src dst x =>
    if isByteSlice P src ∧ isStr P dst then ((sliceEs ob 1 (ρ x)).bind byteNs).map fun ns => .val (.string (bytesOf ns))
    else match toVal (ρ x) with
      | some v => (pureRun P (convert src dst v)).map .val
      | none => none
  | .slice t x lo hi none => match ρ x with
    | .val (.string s) => match optI (lo.map ρ), optI (hi.map ρ) with
      | some l, some h => (pureRun P (Instr.sliceAt t (.string s) (l.map (Value.int .i64)) (h.map (Value.int .i64)) none)).map .val
      | _, _ => none
    | p => match optI (lo.map ρ), optI (hi.map ρ) with
      | some l, some h => evSlice P t p l h
      | _, _ => none
  | .fieldAddr t x f => match ρ x, fieldOff P t f with
    | .own o sz i c, some k => some (.own o sz i (c + k))
    | .ptr b e c, some k => some (.ptr b e (c + k))
    | _, _ => none
  | .indexAddr t x i => match asI (ρ i) with
    | some n => evIndexAddr P t (ρ x) n
    | none => none
  | .index t x i => match toVal (ρ x), toVal (ρ i) with
    | some u, some v => (pureRun P (Instr.index t u v)).map .val
    | _, _ => none
  | .extract x i => match ρ x with
    | .tup vs => vs[i]?
    | _ => none
  | .call c => match c.callee with
    | .value x => match fnOf (ρ x) with
      | some f => match Γ f, (c.args.toList.map ρ).mapM (reify false 0 ob fuel) with
        | some φ, some ps => φ ps
        | _, _ => none
      | none => none
    | .builtin .len => match c.args.toList, c.argTypes.toList with
      | [x], [t] => match evLen P t (ρ x) with
        | some p => some p
        | none => match toVal (ρ x) with
          | some v => ((pureRun P (Builtin.len_ #[t] ty #[v]))).map .val
          | none => none
      | _, _ => none
    | .builtin .max => match toValsA (c.args.toList.map ρ) with
      | some vs => (pureRun P (Builtin.max_ c.argTypes ty vs.toArray)).map .val
      | none => none
    | .builtin .min => match toValsA (c.args.toList.map ρ) with
      | some vs => (pureRun P (Builtin.min_ c.argTypes ty vs.toArray)).map .val
      | none => none
    | _ => none
  | _ => none

def Fnd (P : Program) (f : Nat) : Prop := ∃ fn, P.funcs[f]? = some fn ∧ (fn.name == "runtime.NumGoroutine") = false ∧ fn.body.isNone = false
/-- What the functions named in Γ give, they give. -/
def SoundΓ (P : Program) (Γ : Ctx) : Prop := (∀ f φ, Γ.fn f = some φ → Fnd P f ∧ Sound P f φ) ∧ ∀ f Φ, Γ.io f = some Φ → Fnd P f ∧ SoundIO P f Φ

def look (tm : Nat → PV) : Operand → PV
  | .tmp t => tm t
  | .const v => .val v
  | .global b => .val (.pointer (some ⟨b, 0, none⟩))
  | .func f => .val (.func (.func f) #[] #[])

section
variable {P : Program} {Γ : Ctx} {io : IoS} {w0 : World} {N : Nat} {g : Gh} {s : AS} {a : Act} {w : World} {o : Oper} {p : PV}

theorem Rel.look (h : Rel io w0 N g s a w) (x : Operand) : Rep g w (look s.tm x) (a.eval x) := by
  cases x with
  | tmp t => exact h.tm t
  | const v => simp [Proofs.YtenldjifipnjpaaDoor.look, Act.eval, Rep]
  | global b => simp [Proofs.YtenldjifipnjpaaDoor.look, Act.eval, Rep]
  | func f => simp [Proofs.YtenldjifipnjpaaDoor.look, Act.eval, Rep]

def Yld (P : Program) (o : Oper) (a : Act) (w : World) (g : Gh) (p : PV) : Prop :=
  ∀ (K : Act → World → Prop) (Q : Exit → Act → World → Prop), (∀ v w', Below w.heap.size w w' → Rep (g.more w.heap.size w'.heap.size) w' p v → K (a.put o.dst v) w') → o.wp P a w K Q

theorem Yld.run {v : Value} (h : (execOp a.eval o).run P w = .ok (.value v) w) (hr : Rep g w p v) : Yld P o a w g p := fun K Q hk => by
  unfold Oper.wp
  rw [h, Oper.upon_value]
  exact hk v w (Below.refl _ _) (hr.mono (Gh.le_more _ _ _) (fun _ _ _ => rfl))

theorem toValsA_rep : ∀ {ps : List PV} {vs us : List Value}, RepL g w ps vs → toValsA ps = some us → vs = us
  | [], vs, us, h, ht => by simp only [RepL] at h; simp only [toValsA, Option.some.injEq] at ht; rw [h, ht]
  | p :: ps, vs, us, h, ht => by
    simp only [RepL] at h
    obtain ⟨v, vs', rfl, h1, h2⟩ := h
    simp only [toValsA] at ht
    split at ht
    · rename_i u us' h3 h4
      cases ht
      rw [toVal_rep h1 h3, toValsA_rep h2 h4]
    · cases ht

theorem Rel.looks (h : Rel io w0 N g s a w) : ∀ (xs : List Operand), RepL g w (xs.map (Proofs.YtenldjifipnjpaaDoor.look s.tm)) (xs.map a.eval)
  | [] => by simp [RepL]
  | x :: xs => by simp only [List.map_cons, RepL]; exact ⟨_, _, rfl, h.look x, h.looks xs⟩
theorem Rel.parts (h : Rel io w0 N g s a w) (ps : Array (Nat × Operand)) : RepPs g w (partsOf (Proofs.YtenldjifipnjpaaDoor.look s.tm) ps) (ps.map fun (i, x) => (i, a.eval x)).toList := by
  unfold partsOf
  rw [Array.toList_map]
  induction ps.toList with
  | nil => simp [RepPs]
  | cons q qs ih => simp only [List.map_cons, RepPs]; exact ⟨_, _, rfl, h.look q.2, ih⟩

theorem fill_row {sz : Nat} : ∀ (es : List PV) (m : Nat) (ps : List (Nat × PV)) (vs : List (Nat × Value)) (cells : Array Value),
    ps.map (·.2) = es → ps.map (·.1) = (List.range' m es.length) → RepPs g w ps vs → (∀ e ∈ es, ∃ cs, cellsL e = some cs ∧ cs.length = sz) → (m + es.length) * sz ≤ cells.size →
    ∃ cells', Instr.fill (fun i => some (i * sz, sz)) cells vs = some cells' ∧ cells'.size = cells.size ∧ (∀ i, i < m * sz → cells'[i]? = cells[i]?) ∧
      ∀ (i : Nat) e, es[i]? = some e → ∃ u, Rep g w e u ∧ u.cells.all (·.oneCell') = true ∧ u.cells.size = sz ∧ ∀ j, j < sz → cells'[(m + i) * sz + j]? = u.cells[j]?
  | [], m, ps, vs, cells, h1, h2, h3, h4, h5 => by
    have : ps = [] := by simpa using h1
    subst this
    simp only [RepPs] at h3
    subst h3
    exact ⟨cells, by simp [Instr.fill], rfl, fun _ _ => rfl, fun i e he => by simp at he⟩
  | e :: es, m, [], vs, cells, h1, h2, h3, h4, h5 => by simp at h1
  | e :: es, m, q :: ps, vs, cells, h1, h2, h3, h4, h5 => by
    simp only [List.map_cons, List.cons.injEq] at h1
    obtain ⟨hq2, h1⟩ := h1
    simp only [List.map_cons, List.length_cons, List.range'_succ, List.cons.injEq] at h2
    obtain ⟨hq1, h2⟩ := h2
    simp only [RepPs] at h3
    obtain ⟨v, vs', rfl, hv, h3⟩ := h3
    obtain ⟨cs, hc1, hc2⟩ := h4 e (by simp)
    rw [hq2] at hv
    obtain ⟨hv1, hv2, hv3⟩ := cellsL_rep hv hc1
    simp only [List.length_cons] at h5
    have hmul : (m + (es.length + 1)) * sz = m * sz + sz + es.length * sz := by simp only [Nat.add_mul, Nat.one_mul]; omega
    have hfold := zipIdx_foldl (m * sz) v.cells.toList 0 cells (by simp; omega)
    have hst : (v.cells.zipIdx.foldl (fun cs (x : Value × Nat) => cs.setIfInBounds (m * sz + x.2) x.1) cells).toList = setL cells.toList (m * sz) v.cells.toList := by
      rw [← Array.foldl_toList, Array.toList_zipIdx]
      simpa [setL] using hfold
    generalize hC : v.cells.zipIdx.foldl (fun cs (x : Value × Nat) => cs.setIfInBounds (m * sz + x.2) x.1) cells = C at hst
    have hsz : C.size = cells.size := by
      have := congrArg List.length hst
      simp only [setL, Array.length_toList, List.length_append, List.length_take, List.length_drop] at this
      omega
    have hCget : ∀ i, C[i]? = if m * sz ≤ i ∧ i < m * sz + sz then v.cells[i - m * sz]? else cells[i]? := by
      intro i
      have e0 : C[i]? = C.toList[i]? := by simp
      rw [e0, hst]
      unfold setL
      have hl1 : (cells.toList.take (m * sz)).length = m * sz := by simp; omega
      by_cases c1 : i < m * sz
      · rw [if_neg (by omega), List.append_assoc, List.getElem?_append_left (by omega)]
        simp [c1]
      · by_cases c2 : i < m * sz + sz
        · rw [if_pos (by omega), List.append_assoc, List.getElem?_append_right (by omega), hl1, List.getElem?_append_left (by simp; omega)]
          simp
        · rw [if_neg (by omega), List.getElem?_append_right (by simp; omega)]
          simp only [List.length_append, hl1, Array.length_toList, List.getElem?_drop]
          rw [show m * sz + v.cells.size + (i - (m * sz + v.cells.size)) = i by omega]
          simp
    obtain ⟨cells', g1, g2, g3, g4⟩ := fill_row es (m + 1) ps vs' C h1 h2 h3 (fun x hx => h4 x (by simp [hx])) (by rw [hsz, Nat.add_mul, Nat.add_mul]; omega)
    refine ⟨cells', ?_, by rw [g2, hsz], ?_, ?_⟩
    · simp only [Instr.fill, hq1]
      rw [if_neg (by simp; omega), hC]
      exact g1
    · intro i hi
      rw [g3 i (by rw [Nat.add_mul]; omega), hCget, if_neg (by omega)]
    · intro i x hx
      cases i with
      | zero =>
        simp only [List.getElem?_cons_zero, Option.some.injEq] at hx
        subst hx
        refine ⟨v, hv, hv1, by omega, fun j hj => ?_⟩
        rw [Nat.add_zero, g3 _ (by rw [Nat.add_mul]; omega), hCget, if_pos (by omega)]
        congr 1
        omega
      | succ i =>
        simp only [List.getElem?_cons_succ] at hx
        obtain ⟨u, k1, k2, k3, k4⟩ := g4 i x hx
        exact ⟨u, k1, k2, k3, fun j hj => by rw [show (m + (i + 1)) = (m + 1 + i) by omega]; exact k4 j hj⟩

/-- A new row of elements: in the world behind it they lie there. -/
theorem repEs_new {es : List PV} {arr : Array Value} {T sz : Nat} {g' : Gh} (hle : g.le g')
    (h : ∀ (i : Nat) e, es[i]? = some e → ∃ u, Rep g w e u ∧ u.cells.all (·.oneCell') = true ∧ u.cells.size = sz ∧ ∀ j, j < sz → arr[i * sz + j]? = u.cells[j]?)
    (hlt : ∀ k b, g.I k b → b < w.heap.size) : RepEs g' (w.alloc (.cells arr T)) sz es w.heap.size 0 := by
  refine RepEs.of fun i e he => ?_
  obtain ⟨u, h1, h2, h3, h4⟩ := h i e he
  refine ⟨u, h1.mono hle (fun k b hb => Below.heap_alloc _ _ _ (hlt k b hb)), ⟨h2, fun j hj => ?_⟩, h3⟩
  have := heap_alloc_new w (.cells arr T)
  simp only [World.cell?, this, Nat.zero_add]
  simpa using h4 j (by omega)

theorem rowEs_len {t n e sz : Nat} {es : List PV} {ps : List (Nat × PV)} (h : rowEs P t n ps = some (e, sz, es)) : n ≤ 9223372036854775807 := by
  unfold rowEs at h
  split at h
  · split at h
    · split at h
      · rename_i hc; exact hc.2.1
      · cases h
    · cases h
  · cases h

theorem run_buildSlice {t n e sz : Nat} {es : List PV} {ps : List (Nat × PV)} {vs : Array (Nat × Value)} (h : rowEs P t n ps = some (e, sz, es)) (hp : RepPs g w ps vs.toList) :
    es.length = n ∧ ∃ arr : Array Value, arr.size = n * sz ∧ (Instr.buildSlice t n vs).run P w = .ok (.slice (some ⟨w.heap.size, 0, none⟩) n n) (w.alloc (.cells arr e)) ∧
      ∀ (i : Nat) x, es[i]? = some x → ∃ u, Rep g w x u ∧ u.cells.all (·.oneCell') = true ∧ u.cells.size = sz ∧ ∀ j, j < sz → arr[i * sz + j]? = u.cells[j]? := by
  unfold rowEs at h
  split at h
  · rename_i e' he
    split at h
    · rename_i sz' z hs hz
      split at h
      case isFalse => cases h
      case isTrue hc =>
        obtain ⟨c1, c0, c2, c3⟩ := hc
        cases h
        have hlen : (ps.map (·.2)).length = n := by
          have := congrArg List.length c2
          simpa using this
        refine ⟨hlen, ?_⟩
        obtain ⟨cells', g1, g2, g3, g4⟩ := fill_row (g := g) (w := w) (ps.map (·.2)) 0 ps vs.toList ((Array.range (n * sz)).map ((if n * sz = 0 then (#[] : Array Value) else z.cells)[· % (if n * sz = 0 then (#[] : Array Value) else z.cells).size]!)) rfl
          (by rw [c2, hlen, List.range_eq_range']) hp
          (fun x hx => by
            rw [List.all_eq_true] at c3
            have := c3 x hx
            unfold okP at this
            split at this
            · rename_i cs hcs
              exact ⟨cs, hcs, by simpa using this⟩
            · cases this)
          (by rw [hlen]; simp)
        refine ⟨cells', by rw [g2]; simp, ?_, fun i x hx => by simpa using g4 i x hx⟩
        unfold tyElem at he
        split at he
        · rename_i e'' hu
          cases he
          by_cases h0 : n * sz = 0
          · simp only [h0, if_true] at g1
            simp [Instr.buildSlice, Sem.run_bind, run_underlying hu w, run_size hs w, h0, newRow] at g1 ⊢
            simp [g1]
          · simp only [h0, if_false] at g1
            have hnl : ¬ 16777216 < n * sz := by omega
            simp [Instr.buildSlice, Sem.run_bind, run_underlying hu w, run_size hs w, run_zero hz w, h0, hnl, newRow]
            simp [g1]
        · cases he
    · cases h
  · cases h
end
end Go.Proofs.YtenldjifipnjpaaDoor
