/- Walking code in the world without addresses. -/
import Derived.Test.YtenldjifipnjpaaDoorPxL
namespace Go.Proofs.YtenldjifipnjpaaDoor
open Go.RowKit
set_option linter.all false

/-- Does the address lead into a literal of this region? -/
def rootB (l : List Oper) : Nat → Operand → Bool
  | 0, _ => false
  | f + 1, .tmp t => match l.find? (fun o => o.dst == some t) with
    | some o => match o.op with
      | .buildSlice .. => true
      | .indexAddr _ x _ => rootB l f x
      | .fieldAddr _ x _ => rootB l f x
      | .nilCheck x => rootB l f x
      | .slice _ x _ _ _ => rootB l f x
      | _ => false
    | none => false
  | _, _ => false
/-- Is the slot what something is appended to? -/
def isBase (l : List Oper) (d : Option Nat) : Bool :=
  match d with
  | some d => l.any fun o => match o.op with
    | .call c => match c.callee with
      | .builtin .append => match c.args.toList with
        | .tmp t :: _ => t == d
        | _ => false
      | _ => false
    | _ => false
  | none => false
def immT (l : List Oper) (o : Oper) : Bool :=
  match o.op with
  | .buildSlice .. => !(isBase l o.dst)
  | .load _ x => rootB l 8 x
  | _ => false
def immL (draw : Bool) (ops : Array Oper) : List Nat :=
  match draw with
  | false => []
  | true => ops.toList.filterMap fun o => if immT ops.toList o = true then o.dst else none
/-- How a region is read where nothing else is said. -/
def stdM (draw : Bool) (ops : Array Oper) : Md := ⟨immL draw ops, [], []⟩
/-- The same as evSeq, with what is to hold behind it. -/
def evQ (P : Program) (Γ : Ctx) (imm : Md) (ops : Array Oper) : List Oper → (AS → Prop) → AS → Prop
  | [], Q, s => Q s
  | o :: l, Q, s => match evGuard ops s o with
    | some b => (b = true → match evDo P Γ imm s o with
        | some s' => evQ P Γ imm ops l Q s'
        | none => False) ∧ (b = false → evQ P Γ imm ops l Q (s.put o.dst (.val undef)))
    | none => False
theorem evQ_ok {P : Program} {Γ : Ctx} {imm : Md} {ops : Array Oper} {Q : AS → Prop} : ∀ (l : List Oper) (s : AS), evQ P Γ imm ops l Q s → ∃ s', evSeq P Γ imm ops l s = some s' ∧ Q s'
  | [], s, h => ⟨s, rfl, h⟩
  | o :: l, s, h => by
    simp only [evQ] at h
    split at h
    · rename_i b hb
      cases b with
      | true =>
        have h1 := h.1 rfl
        split at h1
        · rename_i s1 hs
          obtain ⟨s', h2, h3⟩ := evQ_ok l s1 h1
          exact ⟨s', by simp only [evSeq, evOp, hb, hs, h2], h3⟩
        · exact h1.elim
      | false =>
        obtain ⟨s', h2, h3⟩ := evQ_ok l _ (h.2 rfl)
        exact ⟨s', by simp only [evSeq, evOp, hb, h2], h3⟩
    · exact h.elim
theorem evQ_mono {P : Program} {Γ : Ctx} {imm : Md} {ops : Array Oper} {Q Q' : AS → Prop} (hq : ∀ s, Q s → Q' s) : ∀ (l : List Oper) (s : AS), evQ P Γ imm ops l Q s → evQ P Γ imm ops l Q' s
  | [], s, h => hq s h
  | o :: l, s, h => by
    simp only [evQ] at h ⊢
    split at h
    · rename_i b hb
      refine ⟨fun hb => ?_, fun hb => evQ_mono hq l _ (h.2 hb)⟩
      have h1 := h.1 hb
      split at h1
      · exact evQ_mono hq l _ h1
      · exact h1.elim
    · exact h.elim
/-- What the code leaves: said along its structure. -/
def pw (P : Program) (Γ : Ctx) (N : Nat) : Code → (X → AS → Prop) → AS → Prop
  | .skip, Q, s => Q .normal s
  | .region _ ops draw, Q, s => (∃ m : Md, (draw = true → drawOk Γ m ops = true) ∧ evQ P Γ m ops ops.toList (Q .normal) s) ∨
    (draw = true ∧ ∃ (m : Md) (k t d : Nat) (z : Value) (o : Oper), drawOkF Γ m ops k d = true ∧ ops[k]? = some o ∧ o.op = .alloc t ∧ o.dst = some d ∧ o.guard = none ∧ zeroOf P t = some z ∧ z.cells.all (·.oneCell') = true ∧
      evQ P Γ m ops (ops.toList.take k) (fun s1 => evQ P Γ m ops (ops.toList.drop (k + 1)) (Q .normal) (s1.flt s.nx t d z)) { s with nx := s.nx + 1 })
  | .seq a b, Q, s => pw P Γ N a (fun x s' => match x with
    | .normal => pw P Γ N b Q s'
    | .exit id => Q (.exit id) s'
    | .ret => Q .ret s') s
  | .cond c x y, Q, s => match look s.tm c with
    | .val (.bool b) => (b = true → pw P Γ N x Q s) ∧ (b = false → pw P Γ N y Q s)
    | _ => False
  | .block id c, Q, s => pw P Γ N c (fun x s' => Q (x.out id) s') s
  | .loop c, Q, s => ∃ x s', Ev P Γ N (.loop c) s x s' ∧ Q x s'
  | .exit id, Q, s => Q (.exit id) s
  | .ret, Q, s => Q .ret s
  | _, _, _ => False
def codeOk (Γ : Ctx) (mixed : Bool) (N : Nat) : Code → Bool
  | .region _ ops draw => ops.all (dstOk N) && (!draw || mixed)
  | .seq a b => codeOk Γ mixed N a && codeOk Γ mixed N b
  | .cond _ a b => codeOk Γ mixed N a && codeOk Γ mixed N b
  | .block _ c => codeOk Γ mixed N c
  | .loop c => codeOk Γ mixed N c
  | _ => true

section
variable {P : Program} {Γ : Ctx} {N : Nat}
theorem pw_mono {Q Q' : X → AS → Prop} (hq : ∀ x s, Q x s → Q' x s) : ∀ (c : Code) (s : AS), pw P Γ N c Q s → pw P Γ N c Q' s := by
  intro c
  induction c generalizing Q Q' with
  | skip => exact fun s h => hq _ _ h
  | region id ops draw =>
    intro s h
    simp only [pw] at h ⊢
    rcases h with ⟨m, h1, h2⟩ | ⟨hd, m, k, t, d, z, o, k1, k2, k3, k4, k5, k6, k7, h2⟩
    · exact .inl ⟨m, h1, evQ_mono (fun s => hq _ s) _ _ h2⟩
    · exact .inr ⟨hd, m, k, t, d, z, o, k1, k2, k3, k4, k5, k6, k7, evQ_mono (fun s1 h3 => evQ_mono (fun s => hq _ s) _ _ h3) _ _ h2⟩
  | seq a b iha ihb =>
    intro s h
    simp only [pw] at h ⊢
    refine iha (fun x s' hx => ?_) s h
    cases x with
    | normal => exact ihb hq s' hx
    | exit id => exact hq _ _ hx
    | ret => exact hq _ _ hx
  | cond c x y ihx ihy =>
    intro s h
    simp only [pw] at h ⊢
    split at h
    · exact ⟨fun hb => ihx hq s (h.1 hb), fun hb => ihy hq s (h.2 hb)⟩
    · exact h
  | block id c ih => exact fun s h => ih (fun x s' hx => hq _ _ hx) s h
  | loop c ih =>
    rintro s ⟨x, s', h1, h2⟩
    exact ⟨x, s', h1, hq _ _ h2⟩
  | exit id => exact fun s h => hq _ _ h
  | ret => exact fun s h => hq _ _ h
  | _ => exact fun s h => h

theorem pw_ok {mixed : Bool} (hm : mixed = true → P.follows .mixedOrders = true) : ∀ (c : Code) (Q : X → AS → Prop) (s : AS), codeOk Γ mixed N c = true → pw P Γ N c Q s → ∃ x s', Ev P Γ N c s x s' ∧ Q x s' := by
  intro c
  induction c with
  | skip => exact fun Q s _ h => ⟨_, _, .skip s, h⟩
  | region id ops draw =>
    intro Q s hc h
    simp only [pw] at h
    simp only [codeOk, Bool.and_eq_true, Bool.or_eq_true] at hc
    rcases h with ⟨m, hdr, h⟩ | ⟨hd, m, k, t, d, z, o, k1, k2, k3, k4, k5, k6, k7, h⟩
    · obtain ⟨s', he, h'⟩ := evQ_ok _ _ h
      cases draw with
      | false => exact ⟨_, _, .region _ hc.1 he, h'⟩
      | true =>
        have h2 := hc.2.resolve_left (by simp)
        exact ⟨_, _, .draw _ (hm h2) hc.1 (hdr rfl) he, h'⟩
    · subst hd
      have h2 := hc.2.resolve_left (by simp)
      obtain ⟨s1, he1, h3⟩ := evQ_ok _ _ h
      obtain ⟨s', he2, h'⟩ := evQ_ok _ _ h3
      exact ⟨_, _, .drawF _ (hm h2) hc.1 k1 k2 k3 k4 k5 k6 k7 he1 he2, h'⟩
  | seq a b iha ihb =>
    intro Q s hc h
    simp only [pw] at h
    simp only [codeOk, Bool.and_eq_true] at hc
    obtain ⟨x, s1, h1, h2⟩ := iha _ s hc.1 h
    cases x with
    | normal =>
      obtain ⟨x2, s2, h3, h4⟩ := ihb _ s1 hc.2 h2
      exact ⟨x2, s2, .seq h1 h3, h4⟩
    | exit id => exact ⟨_, s1, .seqX h1 (by simp), h2⟩
    | ret => exact ⟨_, s1, .seqX h1 (by simp), h2⟩
  | cond c x y ihx ihy =>
    intro Q s hc h
    simp only [pw] at h
    simp only [codeOk, Bool.and_eq_true] at hc
    split at h
    · rename_i b hb
      cases b with
      | true =>
        obtain ⟨e, s', h1, h2⟩ := ihx _ s hc.1 (h.1 rfl)
        exact ⟨e, s', .cond hb h1, h2⟩
      | false =>
        obtain ⟨e, s', h1, h2⟩ := ihy _ s hc.2 (h.2 rfl)
        exact ⟨e, s', .cond hb h1, h2⟩
    · exact h.elim
  | block id c ih =>
    intro Q s hc h
    obtain ⟨e, s', h1, h2⟩ := ih _ s hc h
    exact ⟨_, s', .block h1, h2⟩
  | loop c ih => exact fun Q s _ h => h
  | exit id => exact fun Q s _ h => ⟨_, _, .exit id s, h⟩
  | ret => exact fun Q s _ h => ⟨_, _, .ret s, h⟩
  | _ => exact fun Q s _ h => h.elim

/-- A loop: at its head the state says what S i says; every round lowers μ. -/
theorem pw_loop {mixed : Bool} (hm : mixed = true → P.follows .mixedOrders = true) {c : Code} {Q : X → AS → Prop} {α : Type} (S : α → AS) (I : α → Prop) (μ : α → Nat) {s : AS} (hc : codeOk Γ mixed N c = true) (i : α) (hi : I i) (hs : s.forget (S i))
    (h : ∀ i, I i → pw P Γ N c (fun x s' => match x with
      | .normal => ∃ j, I j ∧ μ j < μ i ∧ s'.forget (S j)
      | .exit id => Q (.exit id) s'
      | .ret => Q .ret s') (S i)) : pw P Γ N (.loop c) Q s := by
  have key : ∀ n i, μ i = n → I i → ∃ x s', Ev P Γ N (.loop c) (S i) x s' ∧ Q x s' := by
    intro n
    induction n using Nat.strongRecOn with
    | _ n ih =>
      intro i hn hi
      obtain ⟨x, s', h1, h2⟩ := pw_ok hm c _ _ hc (h i hi)
      cases x with
      | normal =>
        obtain ⟨j, hj, hlt, hf⟩ := h2
        obtain ⟨x2, s2, h3, h4⟩ := ih (μ j) (hn ▸ hlt) j rfl hj
        exact ⟨x2, s2, .loop h1 (.forget hf h3), h4⟩
      | exit id => exact ⟨_, s', .loopX h1 (by simp), h2⟩
      | ret => exact ⟨_, s', .loopX h1 (by simp), h2⟩
  obtain ⟨x, s', h1, h2⟩ := key _ i rfl hi
  exact ⟨x, s', .forget hs h1, h2⟩

/-- A state written out: the slots that matter, the objects, their number. -/
def mkS (l : List (Nat × PV)) (ob : List (Nat × Nat × Nat × List PV)) (nx : Nat) : AS :=
  { tm := fun t => (l.lookup t).getD .dead, ob := fun o => ob.lookup o, nx := nx }
theorem forget_mk {s : AS} {l : List (Nat × PV)} {ob : List (Nat × Nat × Nat × List PV)} {nx : Nat} (h1 : ∀ p ∈ l, s.tm p.1 = p.2) (h2 : ∀ p ∈ ob, s.ob p.1 = some p.2) (h3 : s.nx = nx) : s.forget (mkS l ob nx) := by
  refine ⟨fun t => ?_, fun o => ?_, h3.symm⟩
  · cases hl : l.lookup t with
    | none => right; simp [mkS, hl]
    | some p =>
      left
      simp only [mkS, hl, Option.getD_some]
      have := h1 (t, p) (by
        obtain ⟨l1, l2, h⟩ := List.lookup_eq_some_iff.1 hl
        rw [h.1]; simp)
      exact this.symm
  · cases hl : ob.lookup o with
    | none => right; simp [mkS, hl]
    | some p =>
      left
      simp only [mkS, hl]
      have := h2 (o, p) (by
        obtain ⟨l1, l2, h⟩ := List.lookup_eq_some_iff.1 hl
        rw [h.1]; simp)
      exact this.symm

theorem sound_of_pw {mixed : Bool} (hm : mixed = true → P.follows .mixedOrders = true) {f : Nat} {fn : Func} {c : Code} {φ : Fun} (hΓ : SoundΓ P Γ) (hf : P.funcs[f]? = some fn) (hb : fn.body = some c) (hc : codeOk Γ mixed fn.ntmps c = true)
    (h : ∀ ps r, φ ps = some r → ps.length ≤ fn.ntmps ∧ pw P Γ fn.ntmps c (fun x s' => (x = .normal ∨ x = .ret) ∧ ((resPs P s' fn.results.toList).bind fun qs => reify true 0 s'.ob fuel (onePV qs)) = some r) (initS ps)) : Sound P f φ := by
  refine sound_of_ev hΓ hf hb (fun ps r hr => (h ps r hr).1) fun ps r hr => ?_
  obtain ⟨x, s', h1, h2, h3⟩ := pw_ok hm c _ _ hc (h ps r hr).2
  rw [Option.bind_eq_some_iff] at h3
  obtain ⟨qs, h4, h5⟩ := h3
  exact ⟨x, s', qs, h1, h2, h4, h5⟩
end

abbrev iv (n : Int) : PV := .val (.int .i64 n)
abbrev bv (b : Bool) : PV := .val (.bool b)
abbrev sv (s : ByteArray) : PV := .val (.string s)
theorem upd_apply {α : Type} (f : Nat → α) (d : Nat) (v : α) (t : Nat) : upd f d v t = if t = d then v else f t := rfl

section
variable {P : Program} {t ty : Nat} {x y : Operand} {k : IntKind} {m n : Int}
theorem wrap_id {n : Int} (h1 : -9223372036854775808 ≤ n) (h2 : n ≤ 9223372036854775807) : IntKind.i64.wrap n = n := IntWalk.i64_in _ ⟨h1, h2⟩
theorem pr_add : pureRun P (do eqGuard .add t x y (.int k m) (.int k n); binOp .add t (.int k m) (.int k n)) = some (.int k (k.wrap (m + n))) := by
  simp [eqGuard, binOp, Op.intArith, bind, Sem.bind, pure, pureRun]
theorem pr_sub : pureRun P (do eqGuard .sub t x y (.int k m) (.int k n); binOp .sub t (.int k m) (.int k n)) = some (.int k (k.wrap (m - n))) := by
  simp [eqGuard, binOp, Op.intArith, bind, Sem.bind, pure, pureRun]
theorem pr_mul : pureRun P (do eqGuard .mul t x y (.int k m) (.int k n); binOp .mul t (.int k m) (.int k n)) = some (.int k (k.wrap (m * n))) := by
  simp [eqGuard, binOp, Op.intArith, bind, Sem.bind, pure, pureRun]
theorem pr_quo (h : n ≠ 0) : pureRun P (do eqGuard .quo t x y (.int k m) (.int k n); binOp .quo t (.int k m) (.int k n)) = some (.int k (k.wrap (m.tdiv n))) := by
  simp [eqGuard, binOp, Op.intDiv, bind, Sem.bind, pure, pureRun, h]
theorem pr_rem (h : n ≠ 0) : pureRun P (do eqGuard .rem t x y (.int k m) (.int k n); binOp .rem t (.int k m) (.int k n)) = some (.int k (m.tmod n)) := by
  simp [eqGuard, binOp, Op.intDiv, bind, Sem.bind, pure, pureRun, h]
theorem pr_lss : pureRun P (do eqGuard .lss t x y (.int k m) (.int k n); binOp .lss t (.int k m) (.int k n)) = some (.bool (decide (m < n))) := by
  simp [eqGuard, binOp, Op.intCmp, bind, Sem.bind, pure, pureRun]
theorem pr_leq : pureRun P (do eqGuard .leq t x y (.int k m) (.int k n); binOp .leq t (.int k m) (.int k n)) = some (.bool (decide (m ≤ n))) := by
  simp [eqGuard, binOp, Op.intCmp, bind, Sem.bind, pure, pureRun]
theorem pr_gtr : pureRun P (do eqGuard .gtr t x y (.int k m) (.int k n); binOp .gtr t (.int k m) (.int k n)) = some (.bool (decide (n < m))) := by
  simp [eqGuard, binOp, Op.intCmp, bind, Sem.bind, pure, pureRun]
theorem pr_geq : pureRun P (do eqGuard .geq t x y (.int k m) (.int k n); binOp .geq t (.int k m) (.int k n)) = some (.bool (decide (n ≤ m))) := by
  simp [eqGuard, binOp, Op.intCmp, bind, Sem.bind, pure, pureRun]
theorem pr_eql : pureRun P (do eqGuard .eql t x y (.int k m) (.int k n); binOp .eql t (.int k m) (.int k n)) = some (.bool (decide (m = n))) := by
  simp [eqGuard, binOp, Op.intCmp, bind, Sem.bind, pure, pureRun]; rfl
theorem pr_neq : pureRun P (do eqGuard .neq t x y (.int k m) (.int k n); binOp .neq t (.int k m) (.int k n)) = some (.bool (!decide (m = n))) := by
  simp [eqGuard, binOp, Op.intCmp, bind, Sem.bind, pure, pureRun]; rfl
theorem pr_not {b : Bool} : pureRun P (Op.unary .not (.bool b)) = some (.bool !b) := by simp [Op.unary, pure, pureRun]
theorem pr_neg : pureRun P (Op.unary .neg (.int k n)) = some (.int k (k.wrap (0 - n))) := by simp [Op.unary, Op.intArith, pure, pureRun]
theorem pr_lenS {s : ByteArray} (h : P.underlying t = some .string) : pureRun P (Builtin.len_ #[t] ty #[.string s]) = some (.int .i64 s.size) := by
  simp [Builtin.len_, underlying, Go.program, bind, Sem.bind, pure, pureRun, h, goInt]
theorem pr_max {a : Array TypeId} : pureRun P (Builtin.max_ a ty #[.int k m, .int k n]) = some (.int k (if n > m then n else m)) := by
  simp [Builtin.max_, Builtin.max2, bind, Sem.bind, pure, pureRun, List.foldlM]
theorem pr_min {a : Array TypeId} : pureRun P (Builtin.min_ a ty #[.int k m, .int k n]) = some (.int k (if n < m then n else m)) := by
  simp [Builtin.min_, Builtin.min2, bind, Sem.bind, pure, pureRun, List.foldlM]
theorem pr_conv {src dst : Nat} {d : TypeDesc} {k' : IntKind} (h : P.underlying src = some d) (h' : P.underlying dst = some (.int k')) : pureRun P (convert src dst (.int k n)) = some (.int k' (k'.wrap n)) := by
  simp [convert, underlying, Go.program, bind, Sem.bind, pure, pureRun, h, h', Conv.intToInt]
end
end Go.Proofs.YtenldjifipnjpaaDoor
