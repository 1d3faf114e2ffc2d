/- Rules by which simp walks code in the world without addresses: each fires only where the state is written out. -/
import Derived.Test.YtenldjifipnjpaaDoorPxM
namespace Go.Proofs.YtenldjifipnjpaaDoor
open Go.RowKit
set_option linter.all false

/-- Guards by the slots of the operations. -/
def gq (gs : List (Option Nat)) (tm : Nat → PV) : Option (Nat × Bool) → Option Bool
  | none => some true
  | some (j, want) => match gs[j]? with
    | some (some d) => (boolOf (tm d)).map fun b => b == some want
    | _ => some false
theorem gq_eq {ops : Array Oper} {s : AS} {o : Oper} : evGuard ops s o = gq (ops.toList.map (·.dst)) s.tm o.guard := by
  unfold evGuard gq
  cases o.guard with
  | none => rfl
  | some jw =>
    obtain ⟨j, want⟩ := jw
    dsimp only
    rw [List.getElem?_map]
    cases h : ops[j]? with
    | none =>
      have : ops.toList[j]? = none := by simpa using h
      rw [this]; rfl
    | some oj =>
      have : ops.toList[j]? = some oj := by simpa using h
      rw [this]
      dsimp only [Option.map_some]
      cases oj.dst <;> rfl
/-- What is to hold behind a list of operations. -/
def wq (P : Program) (Γ : Ctx) (imm : Md) (gs : List (Option Nat)) : List Oper → (AS → Prop) → (Nat → PV) → Objs → Nat → Prop
  | [], Q, tm, ob, nx => Q ⟨tm, ob, nx⟩
  | o :: l, Q, tm, ob, nx => match gq gs tm o.guard with
    | some b => (b = true → match evDo P Γ imm ⟨tm, ob, nx⟩ o with
        | some s' => wq P Γ imm gs l Q s'.tm s'.ob s'.nx
        | none => False) ∧ (b = false → wq P Γ imm gs l Q ((AS.mk tm ob nx).put o.dst (.val undef)).tm ob nx)
    | none => False
def thenV (r : Option PV) (k : PV → Prop) : Prop := match r with | some p => k p | none => False
def thenE (r : Option (PV × Objs × Nat)) (k : PV → Objs → Nat → Prop) : Prop := match r with | some (p, ob, nx) => k p ob nx | none => False
def thenG (r : Option Bool) (k j : Prop) : Prop := match r with | some b => (b = true → k) ∧ (b = false → j) | none => False

section
variable {P : Program} {Γ : Ctx} {imm : Md} {N : Nat} {gs : List (Option Nat)} {l : List Oper} {Q : AS → Prop} {tm : Nat → PV} {ob : Objs} {nx : Nat}

theorem evQ_wq {ops : Array Oper} : ∀ (l : List Oper) (tm : Nat → PV) (ob : Objs) (nx : Nat), evQ P Γ imm ops l Q ⟨tm, ob, nx⟩ = wq P Γ imm (ops.toList.map (·.dst)) l Q tm ob nx
  | [], tm, ob, nx => rfl
  | o :: l, tm, ob, nx => by
    simp only [wq, evQ, gq_eq]
    cases gq (ops.toList.map (·.dst)) tm o.guard with
    | none => rfl
    | some b =>
      dsimp only
      congr 1
      · congr 1
        cases evDo P Γ imm ⟨tm, ob, nx⟩ o with
        | none => rfl
        | some s' => exact evQ_wq l s'.tm s'.ob s'.nx
      · congr 1
        have e : (AS.mk tm ob nx).put o.dst (.val undef) = ⟨((AS.mk tm ob nx).put o.dst (.val undef)).tm, ob, nx⟩ := by cases o.dst <;> rfl
        rw [e]
        exact evQ_wq l _ _ _

/-- The continuation behind an operation that gives a value. -/
def kV (P : Program) (Γ : Ctx) (imm : Md) (gs : List (Option Nat)) (l : List Oper) (Q : AS → Prop) (tm : Nat → PV) (ob : Objs) (nx : Nat) (d : Nat) (p : PV) : Prop := wq P Γ imm gs l Q (upd tm d p) ob nx
def kE (P : Program) (Γ : Ctx) (imm : Md) (gs : List (Option Nat)) (l : List Oper) (Q : AS → Prop) (tm : Nat → PV) (d : Option Nat) (p : PV) (ob : Objs) (nx : Nat) : Prop :=
  wq P Γ imm gs l Q (match d with | some d => upd tm d p | none => tm) ob nx

theorem wq_nil : wq P Γ imm gs [] Q tm ob nx = Q ⟨tm, ob, nx⟩ := rfl
theorem wq_cons (d : Option Nat) (op : Op) (ty : Nat) (pos : String) (af : Array Edge) (g : Option (Nat × Bool)) :
    wq P Γ imm gs ({ dst := d, op := op, type := ty, pos := pos, after := af, guard := g } :: l) Q tm ob nx =
      thenG (gq gs tm g) (if isEff Γ imm { dst := d, op := op, type := ty, pos := pos, after := af, guard := g } then thenE (if effOk Γ imm nx (look tm) op then evEff P Γ ⟨tm, ob, nx⟩ (look tm) op else none) (kE P Γ imm gs l Q tm d)
        else thenV (evVal P Γ (obq imm { dst := d, op := op, type := ty, pos := pos, after := af, guard := g } ob) (look tm) ty op) (fun p => wq P Γ imm gs l Q (match d with | some d => upd tm d p | none => tm) ob nx))
        (wq P Γ imm gs l Q (match d with | some d => upd tm d (.val undef) | none => tm) ob nx) := by
  simp only [wq, thenG]
  cases gq gs tm g with
  | none => rfl
  | some b =>
    dsimp only
    congr 1
    · congr 1
      unfold evDo
      cases isEff Γ imm { dst := d, op := op, type := ty, pos := pos, after := af, guard := g } with
      | true =>
        simp only [if_true]
        cases h : (if effOk Γ imm nx (look tm) op = true then evEff P Γ ⟨tm, ob, nx⟩ (look tm) op else none) with
        | none => simp [thenE]
        | some r => cases d <;> simp [thenE, kE, AS.put]
      | false =>
        simp only [Bool.false_eq_true, if_false]
        cases h : evVal P Γ (obq imm { dst := d, op := op, type := ty, pos := pos, after := af, guard := g } ob) (look tm) ty op with
        | none => simp [thenV]
        | some r => cases d <;> simp [thenV, AS.put]
    · cases d <;> rfl
/-- Without a guard, a value. -/
theorem wq_V (d : Nat) (op : Op) (ty : Nat) (pos : String) (af : Array Edge) (h : isEff Γ imm { dst := some d, op := op, type := ty, pos := pos, after := af, guard := none } = false) (hq : quiet imm { dst := some d, op := op, type := ty, pos := pos, after := af, guard := none } = false) (hp : privy imm { dst := some d, op := op, type := ty, pos := pos, after := af, guard := none } = false) :
    wq P Γ imm gs ({ dst := some d, op := op, type := ty, pos := pos, after := af, guard := none } :: l) Q tm ob nx = thenV (evVal P Γ ob (look tm) ty op) (kV P Γ imm gs l Q tm ob nx d) := by
  rw [wq_cons]
  simp [gq, thenG, h, obq, hq, hp]
  rfl
theorem wq_Vq (d : Nat) (op : Op) (ty : Nat) (pos : String) (af : Array Edge) (h : isEff Γ imm { dst := some d, op := op, type := ty, pos := pos, after := af, guard := none } = false) (hq : quiet imm { dst := some d, op := op, type := ty, pos := pos, after := af, guard := none } = true) :
    wq P Γ imm gs ({ dst := some d, op := op, type := ty, pos := pos, after := af, guard := none } :: l) Q tm ob nx = thenV (evVal P Γ noObs (look tm) ty op) (kV P Γ imm gs l Q tm ob nx d) := by
  rw [wq_cons]
  simp [gq, thenG, h, obq, hq]
  rfl
theorem wq_Vp (d : Nat) (op : Op) (ty : Nat) (pos : String) (af : Array Edge) (h : isEff Γ imm { dst := some d, op := op, type := ty, pos := pos, after := af, guard := none } = false) (hq : quiet imm { dst := some d, op := op, type := ty, pos := pos, after := af, guard := none } = false) (hp : privy imm { dst := some d, op := op, type := ty, pos := pos, after := af, guard := none } = true) :
    wq P Γ imm gs ({ dst := some d, op := op, type := ty, pos := pos, after := af, guard := none } :: l) Q tm ob nx = thenV (evVal P Γ (onlyV imm.V ob) (look tm) ty op) (kV P Γ imm gs l Q tm ob nx d) := by
  rw [wq_cons]
  simp [gq, thenG, h, obq, hq, hp]
  rfl
theorem wq_E (d : Option Nat) (op : Op) (ty : Nat) (pos : String) (af : Array Edge) (h : isEff Γ imm { dst := d, op := op, type := ty, pos := pos, after := af, guard := none } = true) (hk : effOk Γ imm nx (look tm) op = true) :
    wq P Γ imm gs ({ dst := d, op := op, type := ty, pos := pos, after := af, guard := none } :: l) Q tm ob nx = thenE (evEff P Γ ⟨tm, ob, nx⟩ (look tm) op) (kE P Γ imm gs l Q tm d) := by
  rw [wq_cons]
  simp [gq, thenG, h, hk]
theorem kV_ap (d : Nat) (p : PV) : kV P Γ imm gs l Q tm ob nx d p = wq P Γ imm gs l Q (upd tm d p) ob nx := rfl
theorem kE_some (d : Nat) (p : PV) : kE P Γ imm gs l Q tm (some d) p ob nx = wq P Γ imm gs l Q (upd tm d p) ob nx := rfl
theorem kE_none (p : PV) : kE P Γ imm gs l Q tm none p ob nx = wq P Γ imm gs l Q tm ob nx := rfl
theorem thenV_some (p : PV) (k : PV → Prop) : thenV (some p) k = k p := rfl
theorem thenE_some (p : PV) (ob : Objs) (nx : Nat) (k : PV → Objs → Nat → Prop) : thenE (some (p, ob, nx)) k = k p ob nx := rfl
theorem thenG_true (k j : Prop) : thenG (some true) k j = k := by simp [thenG]
theorem thenG_false (k j : Prop) : thenG (some false) k j = j := by simp [thenG]
theorem thenG_some (b : Bool) (k j : Prop) : thenG (some b) k j = ((b = true → k) ∧ (b = false → j)) := rfl
theorem thenV_ite (c : Prop) [Decidable c] (x y : Option PV) (k : PV → Prop) : thenV (if c then x else y) k = if c then thenV x k else thenV y k := by split <;> rfl
theorem gq_some (d : Nat) (j : Nat) (want : Bool) (h : gs[j]? = some (some d)) : gq gs tm (some (j, want)) = (boolOf (tm d)).map fun b => b == some want := by simp [gq, h]

/-- The statement's code. -/
def pq (P : Program) (Γ : Ctx) (N : Nat) (c : Code) (Q : X → AS → Prop) (tm : Nat → PV) (ob : Objs) (nx : Nat) : Prop := pw P Γ N c Q ⟨tm, ob, nx⟩
def kS (P : Program) (Γ : Ctx) (N : Nat) (b : Code) (Q : X → AS → Prop) : X → AS → Prop := fun x s' => match x with
    | .normal => pw P Γ N b Q s'
    | .exit id => Q (.exit id) s'
    | .ret => Q .ret s'
def kB (id : Nat) (Q : X → AS → Prop) : X → AS → Prop := fun x s' => Q (x.out id) s'
variable {QX : X → AS → Prop}
theorem pw_pq {c : Code} : pw P Γ N c QX ⟨tm, ob, nx⟩ = pq P Γ N c QX tm ob nx := rfl
theorem pq_skip : pq P Γ N .skip QX tm ob nx = QX .normal ⟨tm, ob, nx⟩ := rfl
theorem pq_seq {a b : Code} : pq P Γ N (.seq a b) QX tm ob nx = pq P Γ N a (kS P Γ N b QX) tm ob nx := rfl
theorem pq_block {id : Nat} {c : Code} : pq P Γ N (.block id c) QX tm ob nx = pq P Γ N c (kB id QX) tm ob nx := rfl
theorem pq_exit {id : Nat} : pq P Γ N (.exit id) QX tm ob nx = QX (.exit id) ⟨tm, ob, nx⟩ := rfl
theorem pq_ret : pq P Γ N .ret QX tm ob nx = QX .ret ⟨tm, ob, nx⟩ := rfl
theorem kS_normal {b : Code} : kS P Γ N b QX .normal ⟨tm, ob, nx⟩ = pq P Γ N b QX tm ob nx := rfl
theorem kS_exit {b : Code} {id : Nat} {s : AS} : kS P Γ N b QX (.exit id) s = QX (.exit id) s := rfl
theorem kS_ret {b : Code} {s : AS} : kS P Γ N b QX .ret s = QX .ret s := rfl
theorem kB_normal {id : Nat} {s : AS} : kB id QX .normal s = QX .normal s := rfl
theorem kB_ret {id : Nat} {s : AS} : kB id QX .ret s = QX .ret s := rfl
theorem kB_exit {id id' : Nat} {s : AS} : kB id QX (.exit id') s = QX (if id' = id then .normal else .exit id') s := rfl
theorem kB_same {id : Nat} {s : AS} : kB id QX (.exit id) s = QX .normal s := by simp [kB_exit]
theorem pq_cond {c : Operand} {x y : Code} {b : Bool} (h : look tm c = .val (.bool b)) : pq P Γ N (.cond c x y) QX tm ob nx = ((b = true → pq P Γ N x QX tm ob nx) ∧ (b = false → pq P Γ N y QX tm ob nx)) := by
  simp only [pq, pw, h]
theorem pq_cond_true {c : Operand} {x y : Code} (h : look tm c = .val (.bool true)) : pq P Γ N (.cond c x y) QX tm ob nx = pq P Γ N x QX tm ob nx := by
  simp [pq, pw, h]
theorem pq_cond_false {c : Operand} {x y : Code} (h : look tm c = .val (.bool false)) : pq P Γ N (.cond c x y) QX tm ob nx = pq P Γ N y QX tm ob nx := by
  simp [pq, pw, h]
/-- A region is walked by its list of operations. -/
theorem pq_region {id : Nat} {os : List Oper} : pq P Γ N (.region id os.toArray false) QX tm ob nx = (∃ m : Md, wq P Γ m (os.map (·.dst)) os (QX .normal) tm ob nx) := by
  simp [pq, pw, evQ_wq]
end
section
variable {P : Program} {Γ : Ctx} {imm : Md} {N : Nat} {gs : List (Option Nat)} {l : List Oper} {Q : AS → Prop} {tm : Nat → PV} {ob ob' : Objs} {nx nx' : Nat} {QX : X → AS → Prop}
/-! The same, step by step: what is asked stands first. -/
theorem i_seq {a b : Code} (h : pq P Γ N a (kS P Γ N b QX) tm ob nx) : pq P Γ N (.seq a b) QX tm ob nx := h
theorem i_skip (h : QX .normal ⟨tm, ob, nx⟩) : pq P Γ N .skip QX tm ob nx := h
theorem i_block {id : Nat} {c : Code} (h : pq P Γ N c (kB id QX) tm ob nx) : pq P Γ N (.block id c) QX tm ob nx := h
theorem i_exit {id : Nat} (h : QX (.exit id) ⟨tm, ob, nx⟩) : pq P Γ N (.exit id) QX tm ob nx := h
theorem i_ret (h : QX .ret ⟨tm, ob, nx⟩) : pq P Γ N .ret QX tm ob nx := h
theorem i_kS {b : Code} (h : pq P Γ N b QX tm ob nx) : kS P Γ N b QX .normal ⟨tm, ob, nx⟩ := h
theorem i_kSx {b : Code} {id : Nat} (h : QX (.exit id) ⟨tm, ob, nx⟩) : kS P Γ N b QX (.exit id) ⟨tm, ob, nx⟩ := h
theorem i_kSr {b : Code} (h : QX .ret ⟨tm, ob, nx⟩) : kS P Γ N b QX .ret ⟨tm, ob, nx⟩ := h
theorem i_kB {id : Nat} (h : QX .normal ⟨tm, ob, nx⟩) : kB id QX .normal ⟨tm, ob, nx⟩ := h
theorem i_kBr {id : Nat} (h : QX .ret ⟨tm, ob, nx⟩) : kB id QX .ret ⟨tm, ob, nx⟩ := h
theorem i_kBs {id : Nat} (h : QX .normal ⟨tm, ob, nx⟩) : kB id QX (.exit id) ⟨tm, ob, nx⟩ := by simpa [kB, X.out] using h
theorem i_kBo {id id' : Nat} (hn : (id' == id) = false) (h : QX (.exit id') ⟨tm, ob, nx⟩) : kB id QX (.exit id') ⟨tm, ob, nx⟩ := by
  have : ¬ id' = id := by simpa using hn
  simpa [kB, X.out, this] using h
theorem i_region {id : Nat} {os : List Oper} {gs : List (Option Nat)} (hg : os.map (·.dst) = gs) (h : wq P Γ ⟨[], [], []⟩ gs os (QX .normal) tm ob nx) : pq P Γ N (.region id os.toArray false) QX tm ob nx := by
  subst hg
  exact Or.inl (Exists.intro ⟨[], [], []⟩ (And.intro (fun h => by cases h) (by rw [evQ_wq]; exact h)))
theorem i_draw {id : Nat} {os : List Oper} {gs : List (Option Nat)} (hg : os.map (·.dst) = gs) (hd : drawOk Γ (stdM true os.toArray) os.toArray = true) (h : wq P Γ (stdM true os.toArray) gs os (QX .normal) tm ob nx) : pq P Γ N (.region id os.toArray true) QX tm ob nx := by
  subst hg
  exact Or.inl (Exists.intro (stdM true os.toArray) (And.intro (fun _ => hd) (by rw [evQ_wq]; exact h)))
theorem i_drawM (m : Md) {id : Nat} {os : List Oper} {gs : List (Option Nat)} (hg : os.map (·.dst) = gs) (hd : drawOk Γ m os.toArray = true) (h : wq P Γ m gs os (QX .normal) tm ob nx) : pq P Γ N (.region id os.toArray true) QX tm ob nx := by
  subst hg
  exact Or.inl (Exists.intro m (And.intro (fun _ => hd) (by rw [evQ_wq]; exact h)))
/-- What is loaded into the slots pri comes from the objects V, which nothing else in the region touches. -/
theorem i_drawV (pri V : List Nat) {id : Nat} {os : List Oper} {gs : List (Option Nat)} (hg : os.map (·.dst) = gs) (hd : drawOk Γ ⟨immL true os.toArray, pri, V⟩ os.toArray = true) (h : wq P Γ ⟨immL true os.toArray, pri, V⟩ gs os (QX .normal) tm ob nx) : pq P Γ N (.region id os.toArray true) QX tm ob nx := by
  subst hg
  exact Or.inl (Exists.intro ⟨immL true os.toArray, pri, V⟩ (And.intro (fun _ => hd) (by rw [evQ_wq]; exact h)))
/-- The rest of the region, behind the object that floats. -/
def kF (P : Program) (Γ : Ctx) (imm : Md) (gs : List (Option Nat)) (l : List Oper) (Q : AS → Prop) (R t d : Nat) : AS → Prop := fun s1 =>
  ∃ p ob' nx', evEff P Γ ⟨s1.tm, s1.ob, R⟩ (look s1.tm) (.alloc t) = some (p, ob', nx') ∧ wq P Γ imm gs l Q (upd s1.tm d p) ob' s1.nx
theorem i_kF {R t d : Nat} {p : PV} {ob' : Objs} {nx' : Nat} (hp : evEff P Γ ⟨tm, ob, R⟩ (look tm) (.alloc t) = some (p, ob', nx')) (hk : wq P Γ imm gs l Q (upd tm d p) ob' nx) : kF P Γ imm gs l Q R t d ⟨tm, ob, nx⟩ := ⟨p, ob', nx', hp, hk⟩
/-- The operation k makes an object, at any time. -/
theorem i_drawF (k : Nat) (m : Md) {id t d ty : Nat} {pos : String} {af : Array Edge} {os l1 l2 : List Oper} {gs : List (Option Nat)} {z : Value} (hg : os.map (·.dst) = gs) (h1 : os.take k = l1) (h2 : os.drop k = { dst := some d, op := .alloc t, type := ty, pos := pos, after := af, guard := none } :: l2)
    (hz : zeroOf P t = some z) (hc : z.cells.all (·.oneCell') = true) (hd : drawOkF Γ m os.toArray k d = true) (h : wq P Γ m gs l1 (kF P Γ m gs l2 (QX .normal) nx t d) tm ob (nx + 1)) : pq P Γ N (.region id os.toArray true) QX tm ob nx := by
  subst hg h1
  have hk : os.toArray[k]? = some { dst := some d, op := .alloc t, type := ty, pos := pos, after := af, guard := none } := by
    have := congrArg (·[0]?) h2
    simpa using this
  have hl2 : os.drop (k + 1) = l2 := by
    rw [← List.drop_drop, h2]
    rfl
  refine Or.inr ⟨rfl, m, k, t, d, z, _, hd, hk, rfl, rfl, rfl, hz, hc, ?_⟩
  rw [evQ_wq]
  show wq P Γ m (os.map (·.dst)) (os.take k) _ tm ob (nx + 1)
  refine Eq.mp (congrArg (fun Q => wq P Γ m (os.map (·.dst)) (os.take k) Q tm ob (nx + 1)) (funext fun s1 => propext ?_)) h
  constructor
  · rintro ⟨p, ob', nx', h3, h4⟩
    simp only [evEff, hz, hc, if_true, Option.some.injEq, Prod.mk.injEq] at h3
    obtain ⟨rfl, rfl, rfl⟩ := h3
    show evQ P Γ m os.toArray (os.drop (k + 1)) (QX .normal) _
    rw [hl2]
    exact (evQ_wq l2 _ _ _).mpr h4
  · intro h3
    refine ⟨_, _, _, by simp only [evEff, hz, hc, if_true]; rfl, ?_⟩
    have h4 : evQ P Γ m os.toArray (os.drop (k + 1)) (QX .normal) (s1.flt nx t d z) := h3
    rw [hl2] at h4
    exact (evQ_wq l2 _ _ _).mp h4
theorem i_drawFS (k : Nat) {id t d ty : Nat} {pos : String} {af : Array Edge} {os l1 l2 : List Oper} {gs : List (Option Nat)} {z : Value} (hg : os.map (·.dst) = gs) (h1 : os.take k = l1) (h2 : os.drop k = { dst := some d, op := .alloc t, type := ty, pos := pos, after := af, guard := none } :: l2)
    (hz : zeroOf P t = some z) (hc : z.cells.all (·.oneCell') = true) (hd : drawOkF Γ (stdM true os.toArray) os.toArray k d = true) (h : wq P Γ (stdM true os.toArray) gs l1 (kF P Γ (stdM true os.toArray) gs l2 (QX .normal) nx t d) tm ob (nx + 1)) : pq P Γ N (.region id os.toArray true) QX tm ob nx :=
  i_drawF k _ hg h1 h2 hz hc hd h
theorem i_nil (h : Q ⟨tm, ob, nx⟩) : wq P Γ imm gs [] Q tm ob nx := h
theorem i_V {d : Nat} {op : Op} {ty : Nat} {pos : String} {af : Array Edge} {p : PV} (h : isEff Γ imm { dst := some d, op := op, type := ty, pos := pos, after := af, guard := none } = false) (hq : quiet imm { dst := some d, op := op, type := ty, pos := pos, after := af, guard := none } = false) (hv : privy imm { dst := some d, op := op, type := ty, pos := pos, after := af, guard := none } = false)
    (hp : evVal P Γ ob (look tm) ty op = some p) (hk : wq P Γ imm gs l Q (upd tm d p) ob nx) : wq P Γ imm gs ({ dst := some d, op := op, type := ty, pos := pos, after := af, guard := none } :: l) Q tm ob nx := by
  rw [wq_V _ _ _ _ _ h hq hv, hp]; exact hk
theorem i_Vp {d : Nat} {op : Op} {ty : Nat} {pos : String} {af : Array Edge} {p : PV} (h : isEff Γ imm { dst := some d, op := op, type := ty, pos := pos, after := af, guard := none } = false) (hq : quiet imm { dst := some d, op := op, type := ty, pos := pos, after := af, guard := none } = false) (hv : privy imm { dst := some d, op := op, type := ty, pos := pos, after := af, guard := none } = true)
    (hp : evVal P Γ (onlyV imm.V ob) (look tm) ty op = some p) (hk : wq P Γ imm gs l Q (upd tm d p) ob nx) : wq P Γ imm gs ({ dst := some d, op := op, type := ty, pos := pos, after := af, guard := none } :: l) Q tm ob nx := by
  rw [wq_Vp _ _ _ _ _ h hq hv, hp]; exact hk
theorem i_Vq {d : Nat} {op : Op} {ty : Nat} {pos : String} {af : Array Edge} {p : PV} (h : isEff Γ imm { dst := some d, op := op, type := ty, pos := pos, after := af, guard := none } = false) (hq : quiet imm { dst := some d, op := op, type := ty, pos := pos, after := af, guard := none } = true)
    (hp : evVal P Γ noObs (look tm) ty op = some p) (hk : wq P Γ imm gs l Q (upd tm d p) ob nx) : wq P Γ imm gs ({ dst := some d, op := op, type := ty, pos := pos, after := af, guard := none } :: l) Q tm ob nx := by
  rw [wq_Vq _ _ _ _ _ h hq, hp]; exact hk
theorem i_E {d : Nat} {op : Op} {ty : Nat} {pos : String} {af : Array Edge} {p : PV} (h : isEff Γ imm { dst := some d, op := op, type := ty, pos := pos, after := af, guard := none } = true) (hv : effOk Γ imm nx (look tm) op = true)
    (hp : evEff P Γ ⟨tm, ob, nx⟩ (look tm) op = some (p, ob', nx')) (hk : wq P Γ imm gs l Q (upd tm d p) ob' nx') : wq P Γ imm gs ({ dst := some d, op := op, type := ty, pos := pos, after := af, guard := none } :: l) Q tm ob nx := by
  rw [wq_E _ _ _ _ _ h hv, hp]; exact hk
theorem i_S {op : Op} {ty : Nat} {pos : String} {af : Array Edge} {p : PV} (h : isEff Γ imm { dst := none, op := op, type := ty, pos := pos, after := af, guard := none } = true) (hv : effOk Γ imm nx (look tm) op = true)
    (hp : evEff P Γ ⟨tm, ob, nx⟩ (look tm) op = some (p, ob', nx')) (hk : wq P Γ imm gs l Q tm ob' nx') : wq P Γ imm gs ({ dst := none, op := op, type := ty, pos := pos, after := af, guard := none } :: l) Q tm ob nx := by
  rw [wq_E _ _ _ _ _ h hv, hp]; exact hk
theorem i_Gt {d : Option Nat} {op : Op} {ty : Nat} {pos : String} {af : Array Edge} {g : Nat × Bool} (hg : gq gs tm (some g) = some true)
    (hk : wq P Γ imm gs ({ dst := d, op := op, type := ty, pos := pos, after := af, guard := none } :: l) Q tm ob nx) : wq P Γ imm gs ({ dst := d, op := op, type := ty, pos := pos, after := af, guard := some g } :: l) Q tm ob nx := by
  have : ∀ i, isEff Γ imm { dst := d, op := op, type := ty, pos := pos, after := af, guard := i } = isEff Γ imm { dst := d, op := op, type := ty, pos := pos, after := af, guard := none } := fun i => rfl
  have this2 : ∀ i, obq imm { dst := d, op := op, type := ty, pos := pos, after := af, guard := i } ob = obq imm { dst := d, op := op, type := ty, pos := pos, after := af, guard := none } ob := fun i => rfl
  rw [wq_cons, hg, thenG_true, this, this2]
  rw [wq_cons] at hk
  simpa [gq, thenG] using hk
theorem i_Gf {d : Nat} {op : Op} {ty : Nat} {pos : String} {af : Array Edge} {g : Nat × Bool} (hg : gq gs tm (some g) = some false)
    (hk : wq P Γ imm gs l Q (upd tm d (.val undef)) ob nx) : wq P Γ imm gs ({ dst := some d, op := op, type := ty, pos := pos, after := af, guard := some g } :: l) Q tm ob nx := by
  rw [wq_cons, hg, thenG_false]; exact hk
theorem i_Gb {d : Nat} {op : Op} {ty : Nat} {pos : String} {af : Array Edge} {g : Nat × Bool} {b : Bool} (hg : gq gs tm (some g) = some b)
    (ht : b = true → wq P Γ imm gs ({ dst := some d, op := op, type := ty, pos := pos, after := af, guard := none } :: l) Q tm ob nx) (hf : b = false → wq P Γ imm gs l Q (upd tm d (.val undef)) ob nx) :
    wq P Γ imm gs ({ dst := some d, op := op, type := ty, pos := pos, after := af, guard := some g } :: l) Q tm ob nx := by
  cases b with
  | true => exact i_Gt hg (ht rfl)
  | false => exact i_Gf hg (hf rfl)
theorem i_cond {c : Operand} {x y : Code} {b : Bool} (h : look tm c = .val (.bool b)) (ht : b = true → pq P Γ N x QX tm ob nx) (hf : b = false → pq P Γ N y QX tm ob nx) : pq P Γ N (.cond c x y) QX tm ob nx := by
  rw [pq_cond h]; exact ⟨ht, hf⟩
theorem i_condT {c : Operand} {x y : Code} (h : look tm c = .val (.bool true)) (ht : pq P Γ N x QX tm ob nx) : pq P Γ N (.cond c x y) QX tm ob nx := by
  rw [pq_cond_true h]; exact ht
theorem i_condF {c : Operand} {x y : Code} (h : look tm c = .val (.bool false)) (hf : pq P Γ N y QX tm ob nx) : pq P Γ N (.cond c x y) QX tm ob nx := by
  rw [pq_cond_false h]; exact hf
/-- Slots as a list tells them. -/
def lk (l : List (Nat × PV)) : Nat → PV := fun t => (l.lookup t).getD .dead
def lo (l : List (Nat × Nat × Nat × List PV)) : Objs := fun o => l.lookup o
def agree (tm : Nat → PV) : List (Nat × PV) → Prop
  | [] => True
  | p :: l => tm p.1 = p.2 ∧ agree tm l
def agreeO (ob : Objs) : List (Nat × Nat × Nat × List PV) → Prop
  | [] => True
  | p :: l => ob p.1 = some p.2 ∧ agreeO ob l
theorem agree_all {tm : Nat → PV} : ∀ {l : List (Nat × PV)}, agree tm l → ∀ p ∈ l, tm p.1 = p.2
  | [], _, p, hp => by simp at hp
  | q :: l, h, p, hp => by
    rcases List.mem_cons.1 hp with rfl | hp
    · exact h.1
    · exact agree_all h.2 p hp
theorem agreeO_all {ob : Objs} : ∀ {l : List (Nat × Nat × Nat × List PV)}, agreeO ob l → ∀ p ∈ l, ob p.1 = some p.2
  | [], _, p, hp => by simp at hp
  | q :: l, h, p, hp => by
    rcases List.mem_cons.1 hp with rfl | hp
    · exact h.1
    · exact agreeO_all h.2 p hp
/-- What is said at a loop's head. -/
def Heads {α : Type} (I : α → Prop) (μ : α → Nat) (L : α → List (Nat × PV)) (O : α → List (Nat × Nat × Nat × List PV)) (X : α → Nat) (m : Nat) (tm : Nat → PV) (ob : Objs) (nx : Nat) : Prop :=
  ∃ j, I j ∧ μ j < m ∧ agree tm (L j) ∧ agreeO ob (O j) ∧ nx = X j
def kL {α : Type} (I : α → Prop) (μ : α → Nat) (L : α → List (Nat × PV)) (O : α → List (Nat × Nat × Nat × List PV)) (XX : α → Nat) (m : Nat) (QX : X → AS → Prop) : X → AS → Prop := fun x s' => match x with
  | .normal => Heads I μ L O XX m s'.tm s'.ob s'.nx
  | .exit id => QX (.exit id) s'
  | .ret => QX .ret s'
theorem i_loop (hm : P.follows .mixedOrders = true) {c : Code} {α : Type} (L : α → List (Nat × PV)) (O : α → List (Nat × Nat × Nat × List PV)) (XX : α → Nat) (I : α → Prop) (μ : α → Nat) (hc : codeOk Γ true N c = true) (i : α) (hi : I i)
    (h1 : agree tm (L i)) (h2 : agreeO ob (O i)) (h3 : nx = XX i)
    (h : ∀ i, I i → pq P Γ N c (kL I μ L O XX (μ i) QX) (lk (L i)) (lo (O i)) (XX i)) : pq P Γ N (.loop c) QX tm ob nx := by
  refine pw_loop (mixed := true) (fun _ => hm) (fun i => mkS (L i) (O i) (XX i)) I μ hc i hi (forget_mk (agree_all h1) (agreeO_all h2) h3) fun i hi => ?_
  refine pw_mono (fun x s' hx => ?_) _ _ (h i hi)
  cases x with
  | normal =>
    obtain ⟨j, k1, k2, k3, k4, k5⟩ := hx
    exact ⟨j, k1, k2, forget_mk (agree_all k3) (agreeO_all k4) k5⟩
  | exit id => exact hx
  | ret => exact hx
section
variable {α : Type} {I : α → Prop} {μ : α → Nat} {L : α → List (Nat × PV)} {O : α → List (Nat × Nat × Nat × List PV)} {XX : α → Nat} {m : Nat}
theorem i_kL (h : Heads I μ L O XX m tm ob nx) : kL I μ L O XX m QX .normal ⟨tm, ob, nx⟩ := h
theorem i_kLx {id : Nat} (h : QX (.exit id) ⟨tm, ob, nx⟩) : kL I μ L O XX m QX (.exit id) ⟨tm, ob, nx⟩ := h
theorem i_kLr (h : QX .ret ⟨tm, ob, nx⟩) : kL I μ L O XX m QX .ret ⟨tm, ob, nx⟩ := h
end
theorem i_start {c : Code} {ps : List PV} (h : pq P Γ N c QX (initS ps).tm (fun _ => none) 0) : pw P Γ N c QX (initS ps) := h
end
/-- The end of a function. -/
def Post (P : Program) (rs : List ResultVar) (r : PV) : X → AS → Prop := fun x s' => (x = .normal ∨ x = .ret) ∧ ((resPs P s' rs).bind fun qs => reify true 0 s'.ob fuel (onePV qs)) = some r
section
variable {P : Program} {Γ : Ctx} {tm : Nat → PV} {ob : Objs} {nx : Nat}
theorem i_end {rs : List ResultVar} {r : PV} (h : ((resPs P ⟨tm, ob, nx⟩ rs).bind fun qs => reify true 0 ob fuel (onePV qs)) = some r) : Post P rs r .ret ⟨tm, ob, nx⟩ := ⟨.inr rfl, h⟩
theorem i_endN {rs : List ResultVar} {r : PV} (h : ((resPs P ⟨tm, ob, nx⟩ rs).bind fun qs => reify true 0 ob fuel (onePV qs)) = some r) : Post P rs r .normal ⟨tm, ob, nx⟩ := ⟨.inl rfl, h⟩
theorem sound_pq (hm : P.follows .mixedOrders = true) {f : Nat} {fn : Func} {c : Code} {φ : Fun} (hΓ : SoundΓ P Γ) (hf : P.funcs[f]? = some fn) (hb : fn.body = some c) (N : Nat) (hN : fn.ntmps = N) (rs : List ResultVar) (hrs : fn.results.toList = rs) (hc : codeOk Γ true N c = true)
    (h : ∀ ps r, φ ps = some r → ps.length ≤ N ∧ pq P Γ N c (Post P rs r) (initS ps).tm (fun _ => none) 0) : Sound P f φ := by
  subst hN hrs
  exact sound_of_pw (mixed := true) (fun _ => hm) hΓ hf hb hc h
end
theorem reify_val (fr : Bool) (n : Nat) (ob : Objs) (v : Value) : reify fr n ob fuel (.val v) = some (.val v) := rfl
theorem onePV_one (p : PV) : onePV [p] = p := rfl
theorem onePV_two (p q : PV) : onePV [p, q] = .tup [p, q] := rfl
theorem resPs_nil (P : Program) (s : AS) : resPs P s [] = some [] := rfl
theorem resPs_tmp (P : Program) (s : AS) (t : Nat) (l : List ResultVar) : resPs P s (.tmp t :: l) = (resPs P s l).map (s.tm t :: ·) := rfl
theorem pick_ite {b : Bool} {x y : PV} : (some (if b = true then x else y) : Option PV) = some (if b = true then x else y) := rfl
theorem boolOf_bool (b : Bool) : boolOf (.val (.bool b)) = some (some b) := rfl
theorem beq_some_true (b : Bool) : (some b == some true) = b := by cases b <;> rfl
theorem beq_some_false (b : Bool) : (some b == some false) = !b := by cases b <;> rfl
theorem toVal_val (v : Value) : toVal (.val v) = some v := rfl

section
variable {P : Program} {t e sz : Nat}
theorem ix_lst {k : Bool} {es : List PV} {i : Int} (hu : P.underlying t = some (.slice e)) (hs : tySize P e = some sz) (h0 : 0 ≤ i) (h1 : i < (es.length : Int)) : evIndexAddr P t (.lst k sz es) i = some (.ptr k ((es[i.toNat]?).getD .dead) 0) := by
  have hlt : i.toNat < es.length := by omega
  simp [evIndexAddr, hu, hs, h0, hlt]
theorem ix_row {o j n : Nat} {i : Int} (hu : P.underlying t = some (.slice e)) (hs : tySize P e = some sz) (h0 : 0 ≤ i) (h1 : i < (n : Int)) : evIndexAddr P t (.row o sz j n) i = some (.own o sz (j + i.toNat) 0) := by
  simp [evIndexAddr, hu, hs, h0, h1]
theorem sl_lst {k : Bool} {es : List PV} {lo hi : Option Int} (hu : P.underlying t = some (.slice e)) (hs : tySize P e = some sz) (h0 : 0 ≤ lo.getD 0) (h1 : lo.getD 0 ≤ hi.getD es.length) (h2 : hi.getD es.length ≤ es.length) :
    evSlice P t (.lst k sz es) lo hi = some (.lst k sz ((es.drop (lo.getD 0).toNat).take ((hi.getD es.length).toNat - (lo.getD 0).toNat))) := by
  simp [evSlice, hu, hs, h0, h1, h2]
theorem sl_rowlt {o i n : Nat} {lo hi : Option Int} (hu : P.underlying t = some (.slice e)) (hs : tySize P e = some sz) (h0 : 0 ≤ lo.getD 0) (h1 : lo.getD 0 < hi.getD n) (h2 : hi.getD n ≤ n) :
    evSlice P t (.row o sz i n) lo hi = some (.row o sz (i + (lo.getD 0).toNat) ((hi.getD n).toNat - (lo.getD 0).toNat)) := by
  have h3 : lo.getD 0 ≤ hi.getD (n : Int) := by omega
  have h4 : ¬ lo.getD 0 = hi.getD (n : Int) := by omega
  simp only [evSlice, hu, hs]
  rw [if_pos ⟨trivial, h0, h3, h2⟩, if_neg h4]
theorem sl_roweq {o i n : Nat} {lo hi : Option Int} (hu : P.underlying t = some (.slice e)) (hs : tySize P e = some sz) (h0 : 0 ≤ lo.getD 0) (h1 : lo.getD 0 = hi.getD n) (h2 : hi.getD n ≤ n) :
    evSlice P t (.row o sz i n) lo hi = some (.lst true sz []) := by
  have h3 : lo.getD 0 ≤ hi.getD (n : Int) := by omega
  simp only [evSlice, hu, hs]
  rw [if_pos ⟨trivial, h0, h3, h2⟩, if_pos h1]
end
/-- A call. -/
def evCall (Γ : Ctx) (ob : Objs) (f : Nat) (ps : List PV) : Option PV :=
  match Γ f, ps.mapM (reify false 0 ob fuel) with
  | some φ, some qs => φ qs
  | _, _ => none
theorem ev_call {P : Program} {Γ : Ctx} {ob : Objs} {tm : Nat → PV} {ty f : Nat} {xs : Array Operand} {ts : Array TypeId} : evVal P Γ ob (look tm) ty (.call { callee := .value (.func f), args := xs, argTypes := ts }) = evCall Γ ob f (xs.toList.map (look tm)) := rfl
theorem evCall_of {Γ : Ctx} {ob : Objs} {f : Nat} {φ : Fun} {ps qs : List PV} {r : Option PV} (h1 : Γ f = some φ) (h2 : ps.mapM (reify false 0 ob fuel) = some qs) (h3 : φ qs = r) : evCall Γ ob f ps = r := by
  simp [evCall, h1, h2, h3]
/-- A value that reifies as it stands. -/
theorem mapM_self {F : PV → Option PV} : ∀ {es : List PV}, (∀ e ∈ es, F e = some e) → es.mapM F = some es
  | [], _ => rfl
  | e :: es, h => by
    rw [List.mapM_cons, h e (by simp), mapM_self fun x hx => h x (by simp [hx])]
    rfl
theorem reify_lst {n sz : Nat} {ob : Objs} {k : Bool} {es : List PV} (h : ∀ e ∈ es, ∃ v, e = .val v) : reify false n ob fuel (.lst k sz es) = some (.lst false sz es) := by
  show (if false = true ∧ k = false ∧ es ≠ [] then none else (es.mapM (reify false n ob 7)).map (PV.lst false sz)) = _
  rw [if_neg (by simp), mapM_self fun e he => by obtain ⟨v, rfl⟩ := h e he; rfl]
  rfl
theorem reify_vals {α : Type} {n sz : Nat} {ob : Objs} {k : Bool} {f : α → Value} {l : List α} : reify false n ob fuel (.lst k sz (l.map fun x => .val (f x))) = some (.lst false sz (l.map fun x => .val (f x))) :=
  reify_lst fun e he => by obtain ⟨x, _, rfl⟩ := List.mem_map.1 he; exact ⟨_, rfl⟩
theorem reify_fuel (fr : Bool) (n : Nat) (ob : Objs) (p : PV) : reify fr n ob fuel p = reify fr n ob 8 p := rfl
theorem reifyS_val (fr : Bool) (n : Nat) (ob : Objs) (f : Nat) (v : Value) : reify fr n ob (f + 1) (.val v) = some (.val v) := rfl
theorem reifyS_agg (fr : Bool) (n : Nat) (ob : Objs) (f : Nat) (cs : List PV) : reify fr n ob (f + 1) (.agg cs) = (cs.mapM (reify fr n ob f)).map .agg := by simp only [reify]
theorem reifyS_tup (fr : Bool) (n : Nat) (ob : Objs) (f : Nat) (cs : List PV) : reify fr n ob (f + 1) (.tup cs) = (cs.mapM (reify fr n ob f)).map .tup := by simp only [reify]
theorem reifyS_vals {α : Type} {n sz : Nat} {ob : Objs} {f : Nat} {k : Bool} {g : α → Value} {l : List α} : reify false n ob (f + 2) (.lst k sz (l.map fun x => .val (g x))) = some (.lst false sz (l.map fun x => .val (g x))) := by
  have : (l.map fun x => PV.val (g x)).mapM (reify false n ob (f + 1)) = some (l.map fun x => PV.val (g x)) := mapM_self fun e he => by
    obtain ⟨x, _, rfl⟩ := List.mem_map.1 he
    rfl
  show (if false = true ∧ k = false ∧ (l.map fun x => PV.val (g x)) ≠ [] then none else ((l.map fun x => PV.val (g x)).mapM (reify false n ob (f + 1))).map (PV.lst false sz)) = _
  rw [this]
  simp
theorem reifyT_vals {α : Type} {n sz : Nat} {ob : Objs} {f : Nat} {g : α → Value} {l : List α} : reify true n ob (f + 2) (.lst true sz (l.map fun x => .val (g x))) = some (.lst true sz (l.map fun x => .val (g x))) := by
  have : (l.map fun x => PV.val (g x)).mapM (reify true n ob (f + 1)) = some (l.map fun x => PV.val (g x)) := mapM_self fun e he => by
    obtain ⟨x, _, rfl⟩ := List.mem_map.1 he
    rfl
  show (if true = true ∧ true = false ∧ (l.map fun x => PV.val (g x)) ≠ [] then none else ((l.map fun x => PV.val (g x)).mapM (reify true n ob (f + 1))).map (PV.lst true sz)) = _
  rw [this]
  simp
def rowRe (fr : Bool) (f : Nat) (ob : Objs) (sz i m : Nat) : Option (Nat × Nat × List PV) → Option PV
  | some (_, sz', es) => if sz = sz' ∧ i + m ≤ es.length then (((es.drop i).take m).mapM (reify fr 0 ob f)).map (.lst fr sz) else none
  | none => none
theorem reifyS_row (fr : Bool) (ob : Objs) (f o sz i m : Nat) : reify fr 0 ob (f + 1) (.row o sz i m) = rowRe fr f ob sz i m (ob o) := by
  simp only [reify, rowRe, Nat.not_lt_zero, and_false, if_false]
  cases ob o with
  | none => rfl
  | some c => rfl
theorem rowRe_vals {α : Type} {fr : Bool} {f sz m T : Nat} {ob : Objs} {g : α → Value} {l : List α} (hm : m = l.length) : rowRe fr (f + 1) ob sz 0 m (some (T, sz, l.map fun x => .val (g x))) = some (.lst fr sz (l.map fun x => .val (g x))) := by
  have : (l.map fun x => PV.val (g x)).mapM (reify fr 0 ob (f + 1)) = some (l.map fun x => PV.val (g x)) := mapM_self fun e he => by
    obtain ⟨x, _, rfl⟩ := List.mem_map.1 he
    rfl
  subst hm
  have e : ((l.map fun x => PV.val (g x)).drop 0).take l.length = l.map fun x => PV.val (g x) := by
    rw [List.drop_zero, List.take_of_length_le (by simp)]
  simp only [rowRe, e, this, Nat.zero_add, List.length_map, Nat.le_refl, and_self, if_true, Option.map_some]
def resC (P : Program) (ty : Nat) (x : PV) (e : Option PV) (ps : Option (List PV)) : Option (List PV) :=
  match x with
  | .own _ _ _ f => (e.bind (subP P ty f)).bind fun p => ps.map (p :: ·)
  | _ => none
def elOf (x : PV) (c : Option (Nat × Nat × List PV)) : Option PV :=
  match x, c with
  | .own _ sz i _, some (_, sz', es) => if sz = sz' then es[i]? else none
  | _, _ => none
theorem elOf_own {o sz i f T : Nat} {es : List PV} : elOf (.own o sz i f) (some (T, sz, es)) = es[i]? := by simp [elOf]
theorem resPs_cell (P : Program) (s : AS) (t ty : Nat) (l : List ResultVar) : resPs P s (.cell t ty :: l) = resC P ty (s.tm t) (elOf (s.tm t) (match s.tm t with | .own o _ _ _ => s.ob o | _ => none)) (resPs P s l) := by
  simp only [resPs, resC, elOf]
  cases s.tm t with
  | own o sz i f =>
    dsimp only
    cases s.ob o with
    | none => rfl
    | some c =>
      obtain ⟨T, sz', es⟩ := c
      dsimp only
      by_cases h : sz = sz'
      · simp only [h, if_true]
        cases hq : (es[i]?).bind (subP P ty f) with
        | none => rfl
        | some p => cases resPs P s l <;> rfl
      · simp only [h, if_false]
        rfl
  | _ => rfl
theorem resC_own {P : Program} {ty o sz i f : Nat} {e : Option PV} {ps : Option (List PV)} : resC P ty (.own o sz i f) e ps = (e.bind (subP P ty f)).bind fun p => ps.map (p :: ·) := rfl

/-- An element of a list of values. -/
theorem get_map {α : Type} {f : α → PV} {l : List α} {i : Nat} (d : α) (h : i < l.length) : ((l[i]?).map f).getD .dead = f ((l[i]?).getD d) := by
  rw [List.getElem?_eq_getElem h]; rfl
theorem get_iv {l : List Int} {i : Nat} (h : i < l.length) : ((l[i]?).map fun n => PV.val (.int .i64 n)).getD .dead = .val (.int .i64 ((l[i]?).getD 0)) := get_map 0 h
theorem get_nv {l : List Int} {i : Nat} (h : i < l.length) : ((l[i]?).map fun n => PV.val (.int .u8 n)).getD .dead = .val (.int .u8 ((l[i]?).getD 0)) := get_map 0 h
theorem get_sv {l : List ByteArray} {i : Nat} (h : i < l.length) : ((l[i]?).map fun s => PV.val (.string s)).getD .dead = .val (.string ((l[i]?).getD ByteArray.empty)) := get_map _ h
theorem get_bv {l : List Bool} {i : Nat} (h : i < l.length) : ((l[i]?).map fun b => PV.val (.bool b)).getD .dead = .val (.bool ((l[i]?).getD false)) := get_map _ h
theorem subP_val {P : Program} {t : Nat} {v : Value} (h : tyAgg P t = some false) (h1 : v.oneCell' = true) : subP P t 0 (.val v) = some (.val v) := by
  simp [subP, cellsL, oneP, h, h1]
theorem mapM_nil' {α β : Type} {F : α → Option β} : ([] : List α).mapM F = some [] := rfl
theorem mapM_cons' {α β : Type} {F : α → Option β} {e : α} {es : List α} : (e :: es).mapM F = (F e).bind fun x => (es.mapM F).map (x :: ·) := by
  rw [List.mapM_cons]
  cases F e with
  | none => rfl
  | some x => cases es.mapM F <;> rfl
theorem lk_apply (l : List (Nat × PV)) (t : Nat) : lk l t = (l.lookup t).getD .dead := rfl
theorem lo_apply (l : List (Nat × Nat × Nat × List PV)) (o : Nat) : lo l o = l.lookup o := rfl
theorem initS_tm (ps : List PV) (t : Nat) : (initS ps).tm t = (ps[t]?).getD (.val undef) := rfl
def gqd (tm : Nat → PV) (want : Bool) : Option (Option Nat) → Option Bool
  | some (some d) => (boolOf (tm d)).map fun b => b == some want
  | _ => some false
theorem gq_gqd (gs : List (Option Nat)) (tm : Nat → PV) (j : Nat) (want : Bool) : gq gs tm (some (j, want)) = gqd tm want gs[j]? := rfl
theorem gqd_some (tm : Nat → PV) (want : Bool) (d : Nat) : gqd tm want (some (some d)) = (boolOf (tm d)).map fun b => b == some want := rfl
theorem boolOf_undef : boolOf (.val undef) = some none := rfl
theorem beq_none (b : Bool) : ((none : Option Bool) == some b) = false := rfl
theorem toNat_pred (k : Nat) : ((k : Int) - 1).toNat = k - 1 := by omega
theorem toNat_succ (k : Nat) : ((k : Int) + 1).toNat = k + 1 := by omega
theorem toNat_add (k n : Nat) : ((k : Int) + (n : Int)).toNat = k + n := by omega
/-- An entry of a literal. -/
def sel {α : Type} (d : α) (l : List α) (j : Nat) : α := (l[j]?).getD d
theorem sel_all {α : Type} {d : α} {p : α → Prop} : ∀ {l : List α} {j : Nat}, (∀ x ∈ l, p x) → j < l.length → p (sel d l j) := fun {l j} h hj => by
  unfold sel
  rw [List.getElem?_eq_getElem hj]
  exact h _ (List.getElem_mem hj)
theorem sel_lt {l : List Int} {c : Int} {j : Nat} (h : l.all (fun x => decide (x < c)) = true) (hj : j < l.length) : sel 0 l j < c :=
  sel_all (p := fun x => x < c) (fun x hx => by simpa using List.all_eq_true.1 h x hx) hj
theorem sel_ge {l : List Int} {c : Int} {j : Nat} (h : l.all (fun x => decide (c ≤ x)) = true) (hj : j < l.length) : c ≤ sel 0 l j :=
  sel_all (p := fun x => c ≤ x) (fun x hx => by simpa using List.all_eq_true.1 h x hx) hj
end Go.Proofs.YtenldjifipnjpaaDoor
