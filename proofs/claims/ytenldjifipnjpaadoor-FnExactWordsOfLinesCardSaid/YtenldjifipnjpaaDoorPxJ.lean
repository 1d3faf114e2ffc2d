/- Regions: one order stands for all. -/
import Derived.Test.YtenldjifipnjpaaDoorPxI
namespace Go.Proofs.YtenldjifipnjpaaDoor
open Go.RowKit
set_option linter.all false

/-- How a region is read: literals in the slots imm are only read, and so is what is loaded there; what is loaded into the slots pri comes from the objects V, which nothing else touches. -/
structure Md where
  imm : List Nat
  pri : List Nat
  V : List Nat
def inD (l : List Nat) (o : Oper) : Bool := match o.dst with | some d => l.contains d | none => false
/-- Does the operation make or turn an object? -/
def isEff (Γ : Ctx) (imm : Md) (o : Oper) : Bool :=
  match o.op with
  | .alloc _ | .box .. | .makeSlice .. | .store .. => true
  | .buildSlice .. => !(inD imm.imm o)
  | .call c => match c.callee with
    | .builtin .append | .builtin .copy => true
    | .value _ => (calleeIO Γ c).isSome
    | _ => false
  | _ => false
/-- Looks at memory that no object is: it may be read with no object in sight. -/
def quiet (imm : Md) (o : Oper) : Bool :=
  match o.op with
  | .load .. | .convert .. => inD imm.imm o
  | .call c => match c.callee with
    | .value _ => inD imm.imm o
    | _ => false
  | _ => false
/-- Looks at the objects V alone. -/
def privy (imm : Md) (o : Oper) : Bool :=
  match o.op with
  | .load .. => inD imm.pri o
  | _ => false
/-- May the operation look at an object other than V? -/
def readsO (imm : Md) (o : Oper) : Bool :=
  match o.op with
  | .load .. => !(inD imm.imm o) && !(inD imm.pri o)
  | .convert .. => !(inD imm.imm o)
  | .call c => match c.callee with
    | .value _ => !(inD imm.imm o)
    | _ => false
  | _ => false
def noObs : Objs := fun _ => none
def onlyV (V : List Nat) (ob : Objs) : Objs := fun o => if V.contains o then ob o else none
def obq (imm : Md) (o : Oper) (ob : Objs) : Objs := if quiet imm o = true then noObs else if privy imm o = true then onlyV imm.V ob else ob
/-- The objects that an operation turns. -/
def touch (Γ : Ctx) (ρ : Operand → PV) : Op → List Nat
  | .store _ x _ => refsOf (ρ x)
  | .call c => c.args.toList.flatMap fun x => refsOf (ρ x)
  | _ => []
def effOk (Γ : Ctx) (imm : Md) (nx : Nat) (ρ : Operand → PV) (op : Op) : Bool := imm.V.all fun v => decide (v < nx) && !((touch Γ ρ op).contains v)
theorem mapM_imp {α β : Type} {F G : α → Option β} : ∀ {l : List α} {l' : List β}, (∀ x ∈ l, ∀ y, F x = some y → G x = some y) → l.mapM F = some l' → l.mapM G = some l'
  | [], l', _, h => h
  | x :: l, l', hi, h => by
    simp only [List.mapM_cons, Option.bind_eq_bind, Option.bind_eq_some_iff, Option.pure_def, Option.some.injEq] at h ⊢
    obtain ⟨y, h1, ys, h2, rfl⟩ := h
    exact ⟨y, hi x (by simp) y h1, ys, mapM_imp (fun z hz => hi z (by simp [hz])) h2, rfl⟩
theorem reify_noObs {fr : Bool} {n : Nat} {ob : Objs} : ∀ (f : Nat) (p q : PV), reify fr n noObs f p = some q → reify fr n ob f p = some q
  | 0, p, q, h => by simp [reify] at h
  | f + 1, p, q, h => by
    cases p with
    | val v => exact h
    | dead => exact h
    | lst k sz es =>
      simp only [reify] at h ⊢
      split at h
      · cases h
      · rename_i hk
        rw [if_neg hk]
        simp only [Option.map_eq_some_iff] at h ⊢
        obtain ⟨es', h1, rfl⟩ := h
        exact ⟨es', mapM_imp (fun x _ y => reify_noObs f x y) h1, rfl⟩
    | ptr k e o =>
      simp only [reify] at h ⊢
      split at h
      · cases h
      · rename_i hk
        rw [if_neg hk]
        simp only [Option.map_eq_some_iff] at h ⊢
        obtain ⟨e', h1, rfl⟩ := h
        exact ⟨e', reify_noObs f _ _ h1, rfl⟩
    | own o sz i c => simp [reify, noObs] at h
    | row o sz i m => simp [reify, noObs] at h
    | agg cs =>
      simp only [reify, Option.map_eq_some_iff] at h ⊢
      obtain ⟨es', h1, rfl⟩ := h
      exact ⟨es', mapM_imp (fun x _ y => reify_noObs f x y) h1, rfl⟩
    | tup cs =>
      simp only [reify, Option.map_eq_some_iff] at h ⊢
      obtain ⟨es', h1, rfl⟩ := h
      exact ⟨es', mapM_imp (fun x _ y => reify_noObs f x y) h1, rfl⟩
theorem sliceEs_noObs {ob : Objs} {sz : Nat} {x : PV} {es : List PV} (h : sliceEs noObs sz x = some es) : sliceEs ob sz x = some es := by
  cases x with
  | row o s i n => simp [sliceEs, noObs] at h
  | val v =>
    have e : sliceEs ob sz (.val v) = sliceEs noObs sz (.val v) := by unfold sliceEs; split <;> (first | rfl | (simp_all; done))
    rw [e]; exact h
  | _ => exact h
theorem evVal_onlyV {P : Program} {Γ : Ctx} {ob : Objs} {V : List Nat} {ρ : Operand → PV} {ty t : Nat} {x : Operand} {p : PV} (h : evVal P Γ (onlyV V ob) ρ ty (.load t x) = some p) : evVal P Γ ob ρ ty (.load t x) = some p := by
  simp only [evVal] at h ⊢
  split at h
  · rename_i o sz i f hx
    unfold onlyV at h
    split at h
    · rename_i T sz' es ho
      split at ho
      · rw [ho]; exact h
      · cases ho
    · cases h
  · exact h
  · cases h
theorem evVal_noObs {P : Program} {Γ : Ctx} {ob : Objs} {ρ : Operand → PV} {ty : Nat} {op : Op} {p : PV} (h : evVal P Γ noObs ρ ty op = some p) : evVal P Γ ob ρ ty op = some p := by
  cases op with
  | load t x =>
    simp only [evVal] at h ⊢
    split at h
    · simp [noObs] at h
    · exact h
    · cases h
  | convert s d x =>
    simp only [evVal] at h ⊢
    split at h
    · rename_i hc
      rw [if_pos hc]
      simp only [Option.map_eq_some_iff, Option.bind_eq_some_iff] at h ⊢
      obtain ⟨ns, ⟨es, h1, h2⟩, rfl⟩ := h
      exact ⟨ns, ⟨es, sliceEs_noObs h1, h2⟩, rfl⟩
    · rename_i hc
      rw [if_neg hc]
      exact h
  | call c =>
    simp only [evVal] at h ⊢
    cases hc : c.callee with
    | value x =>
      simp only [hc] at h ⊢
      split at h
      · rename_i f hf
        split at h
        · rename_i φ ps h1 h2
          have h3 := mapM_imp (G := reify false 0 ob fuel) (fun x _ y => reify_noObs fuel x y) h2
          simp only [hf, h1, h3]
          exact h
        · cases h
      · cases h
    | invoke r m => simp [hc] at h
    | builtin b => cases b <;> (simp only [hc] at h ⊢; exact h)
  | slice t x lo hi mx => cases mx <;> exact h
  | _ => exact h
def evDo (P : Program) (Γ : Ctx) (imm : Md) (s : AS) (o : Oper) : Option AS :=
  if isEff Γ imm o then (if effOk Γ imm s.nx (look s.tm) o.op then evEff P Γ s (look s.tm) o.op else none).map fun r => ({ s with ob := r.2.1, nx := r.2.2 } : AS).put o.dst r.1
  else (evVal P Γ (obq imm o s.ob) (look s.tm) o.type o.op).map fun p => s.put o.dst p
def boolOf : PV → Option (Option Bool)
  | .val (.bool b) => some (some b)
  | .val _ => some none
  | _ => none
def evGuard (ops : Array Oper) (s : AS) (o : Oper) : Option Bool :=
  match o.guard with
  | none => some true
  | some (j, want) => match ops[j]? with
    | none => some false
    | some oj => match oj.dst with
      | none => some false
      | some d => (boolOf (s.tm d)).map fun b => b == some want
def evOp (P : Program) (Γ : Ctx) (imm : Md) (ops : Array Oper) (o : Oper) (s : AS) : Option AS :=
  match evGuard ops s o with
  | some true => evDo P Γ imm s o
  | some false => some (s.put o.dst (.val undef))
  | none => none
def evSeq (P : Program) (Γ : Ctx) (imm : Md) (ops : Array Oper) : List Oper → AS → Option AS
  | [], s => some s
  | o :: l, s => match evOp P Γ imm ops o s with
    | some s' => evSeq P Γ imm ops l s'
    | none => none
def dstOk (N : Nat) (o : Oper) : Bool := match o.dst with | some d => decide (d < N) | none => true

section
variable {P : Program} {Γ : Ctx} {imm : Md} {ops : Array Oper} {io : IoS} {w0 : World} {N : Nat} {g : Gh} {s s' : AS} {a : Act} {w w' : World} {o : Oper} {p : PV}

theorem guard_rep (h : Rel io w0 N g s a w) {b : Bool} (hg : evGuard ops s o = some b) : Region.wanted o (yielded ops a.tmps) = b := by
  unfold evGuard at hg
  unfold Region.wanted
  split at hg
  · rename_i hn; cases hg; simp [hn]
  · rename_i j want hn
    simp only [hn]
    split at hg
    · rename_i hj; cases hg; simp [yielded, hj]
    · rename_i oj hj
      split at hg
      · rename_i hd; cases hg; simp [yielded, hj, hd]
      · rename_i d hd
        simp only [Option.map_eq_some_iff] at hg
        obtain ⟨ob, hb, rfl⟩ := hg
        have ht := h.tm d
        have : yielded ops a.tmps j = ob := by
          unfold yielded
          simp only [hj, hd, Option.bind_some]
          unfold boolOf at hb
          split at hb
          · rename_i b' hl
            cases hb
            rw [hl] at ht
            simp only [Rep] at ht
            cases hq : a.tmps[d]? with
            | none => simp [hq, undef] at ht
            | some v => simp [hq] at ht; subst ht; rfl
          · rename_i v hl hnb
            cases hb
            rw [hnb] at ht
            simp only [Rep] at ht
            cases hq : a.tmps[d]? with
            | none => rfl
            | some u =>
              simp [hq] at ht
              subst ht
              cases u <;> first | rfl | (exfalso; exact hl _ rfl)
          · cases hb
        rw [this]

theorem op_ok (h : Rel io w0 N g s a w) (hΓ : SoundΓ P Γ) (hio : ∀ b, io b → b < w0.heap.size) (hd : dstOk N o = true) (he : evOp P Γ imm ops o s = some s') {i : Nat} (hi : ops[i]? = some o) {Q : Exit → Act → World → Prop} {K : Act → World → Prop}
    (hK : ∀ g' a' w', Rel io w0 N g' s' a' w' → K a' w') : wpOp P ops Q i K a w := by
  have hdst : ∀ x, o.dst = some x → x < N := fun x hx => by
    unfold dstOk at hd
    simpa [hx] using hd
  unfold wpOp
  simp only [hi]
  unfold evOp at he
  split at he
  · rename_i hg
    rw [guard_rep h hg]
    simp only [if_true]
    left
    unfold evDo at he
    split at he
    · simp only [Option.map_eq_some_iff] at he
      obtain ⟨r, hr, rfl⟩ := he
      split at hr
      case isFalse => cases hr
      case isTrue =>
      exact evEff_ok h hΓ hio hr _ _ fun v w' g' hrel hrep => hK _ _ _ (hrel.put hdst hrep)
    · simp only [Option.map_eq_some_iff] at he
      obtain ⟨q, hq, rfl⟩ := he
      have hq : evVal P Γ s.ob (look s.tm) o.type o.op = some q := by
        unfold obq at hq
        split at hq
        · exact evVal_noObs hq
        · split at hq
          · rename_i hp
            unfold privy at hp
            split at hp
            · rename_i hop; rw [hop] at hq ⊢; exact evVal_onlyV hq
            · cases hp
          · exact hq
      exact evVal_ok h hΓ hq _ _ fun v w' hb hrep => hK _ _ _ ((h.grow hb hio).put hdst hrep)
  · rename_i hg
    rw [guard_rep h hg]
    simp only [Bool.false_eq_true, if_false]
    cases he
    exact hK _ _ _ (h.put hdst (by simp [Rep]))
  · cases he

theorem seq_ok (hΓ : SoundΓ P Γ) (hio : ∀ b, io b → b < w0.heap.size) (hd : ∀ o ∈ ops.toList, dstOk N o = true) {Q : Exit → Act → World → Prop} : ∀ (l : List Oper) (k : Nat) {g : Gh} {s : AS} {a : Act} {w : World}, ops.toList.drop k = l → Rel io w0 N g s a w →
    evSeq P Γ imm ops l s = some s' → (∀ g' a' w', Rel io w0 N g' s' a' w' → Q .normal a' w') → wpOps P ops Q (List.range' k l.length) a w
  | [], k, g, s, a, w, hl, h, he, hQ => by
    simp only [evSeq, Option.some.injEq] at he
    subst he
    exact hQ g a w h
  | o :: l, k, g, s, a, w, hl, h, he, hQ => by
    have hk : ops.toList[k]? = some o := by
      have := congrArg (·[0]?) hl
      simpa using this
    have hk' : ops[k]? = some o := by simpa using hk
    have hl' : ops.toList.drop (k + 1) = l := by
      rw [← List.drop_drop, hl]
      rfl
    simp only [evSeq] at he
    split at he
    · rename_i s1 h1
      simp only [List.length_cons, List.range'_succ]
      rw [wpOps_cons]
      exact op_ok h hΓ hio (hd o (List.mem_of_getElem? hk)) h1 hk' fun g' a' w' hr => seq_ok hΓ hio hd l (k + 1) hl' hr he hQ
    · cases he

theorem region_ok {id : Nat} {Q : Exit → Act → World → Prop} (h : Rel io w0 N g s a w) (hΓ : SoundΓ P Γ) (hio : ∀ b, io b → b < w0.heap.size) (hd : ops.all (dstOk N) = true) (he : evSeq P Γ imm ops ops.toList s = some s')
    (hQ : ∀ g' a' w', Rel io w0 N g' s' a' w' → Q .normal a' w') : (Code.region id ops false).wp P Q a w := by
  refine wp_region ?_
  have := seq_ok hΓ hio (fun o ho => (Array.all_eq_true_iff_forall_mem.1 hd) o (by simpa using ho)) ops.toList 0 rfl h he hQ
  rw [List.range_eq_range']
  simpa using this

/-- Over the numbers of operations. -/
def evL (P : Program) (Γ : Ctx) (imm : Md) (ops : Array Oper) : List Nat → AS → Option AS
  | [], s => some s
  | i :: l, s => match ops[i]? with
    | none => evL P Γ imm ops l s
    | some o => match evOp P Γ imm ops o s with
      | some s' => evL P Γ imm ops l s'
      | none => none
theorem evL_seq : ∀ (l : List Oper) (k : Nat) (s : AS), ops.toList.drop k = l → evL P Γ imm ops (List.range' k l.length) s = evSeq P Γ imm ops l s
  | [], k, s, hl => rfl
  | o :: l, k, s, hl => by
    have hk : ops[k]? = some o := by
      have := congrArg (·[0]?) hl
      simpa using this
    have hl' : ops.toList.drop (k + 1) = l := by
      rw [← List.drop_drop, hl]
      rfl
    simp only [List.length_cons, List.range'_succ, evL, hk, evSeq]
    cases evOp P Γ imm ops o s with
    | none => rfl
    | some s' => exact evL_seq l (k + 1) s' hl'

theorem look_congr {tm tm' : Nat → PV} {x : Operand} (h : ∀ t, x = .tmp t → tm t = tm' t) : look tm x = look tm' x := by
  cases x with
  | tmp t => exact h t rfl
  | _ => rfl
theorem partsOf_congr {ρ ρ' : Operand → PV} {ps : Array (Nat × Operand)} (h : ∀ x ∈ (ps.toList.map (·.2)), ρ x = ρ' x) : partsOf ρ ps = partsOf ρ' ps := by
  unfold partsOf
  refine List.map_congr_left fun q hq => ?_
  rw [h q.2 (List.mem_map.2 ⟨q, hq, rfl⟩)]

theorem evVal_congr {ρ ρ' : Operand → PV} {ob : Objs} {ty : Nat} (op : Op) (h : ∀ x ∈ op.operands, ρ x = ρ' x) : evVal P Γ ob ρ ty op = evVal P Γ ob ρ' ty op := by
  cases op <;> simp only [Op.operands] at h <;> simp only [evVal]
  case build t ps => rw [partsOf_congr fun x hx => h x (by simpa using hx)]
  case buildSlice t n ps => rw [partsOf_congr fun x hx => h x (by simpa using hx)]
  case slice t x lo hi mx => cases lo <;> cases hi <;> cases mx <;> simp_all [evVal]
  case call c =>
    have hargs : c.args.toList.map ρ = c.args.toList.map ρ' := List.map_congr_left fun x hx => h x (by simp [Call.operands]; right; simpa using hx)
    cases hc : c.callee with
    | value x => have hf := h x (by simp [Call.operands, hc]); simp only [hargs, hf]
    | invoke r m => rfl
    | builtin b =>
      cases b <;> simp only [hargs]
      case len =>
        cases ha : c.args.toList with
        | nil => rfl
        | cons x xs =>
          cases xs with
          | nil =>
            have hm : x ∈ c.args.toList := by rw [ha]; exact List.mem_cons_self
            have hx := h x (by simpa [Call.operands, hc] using hm)
            cases hq : c.argTypes.toList with
            | nil => rfl
            | cons t ts =>
              cases ts with
              | nil => dsimp only; rw [hx]
              | cons t2 ts => rfl
          | cons y ys => rfl
  all_goals (first | rfl | (simp_all; done))
theorem evEff_congr {ρ ρ' : Operand → PV} {s : AS} (op : Op) (h : ∀ x ∈ op.operands, ρ x = ρ' x) : evEff P Γ s ρ op = evEff P Γ s ρ' op := by
  cases op <;> simp only [Op.operands] at h <;> simp only [evEff]
  case buildSlice t n ps => rw [partsOf_congr fun x hx => h x (by simpa using hx)]
  case call c =>
    have hargs : c.args.toList.map ρ = c.args.toList.map ρ' := List.map_congr_left fun x hx => h x (by simp [Call.operands]; right; simpa using hx)
    cases hc : c.callee with
    | value x => simp only [hargs]
    | invoke r m => rfl
    | builtin b =>
      cases b <;> try rfl
      case copy =>
        cases ha : c.args.toList with
        | nil => rfl
        | cons x xs =>
          cases xs with
          | nil => rfl
          | cons y ys =>
            cases ys with
            | nil =>
              have hmx : x ∈ c.args.toList := by rw [ha]; exact List.mem_cons_self
              have hmy : y ∈ c.args.toList := by rw [ha]; exact List.mem_cons_of_mem _ List.mem_cons_self
              have hx := h x (by simpa [Call.operands, hc] using hmx)
              have hy := h y (by simpa [Call.operands, hc] using hmy)
              cases hq : c.argTypes.toList with
              | nil => rfl
              | cons t ts =>
                cases ts with
                | nil => rfl
                | cons t2 ts =>
                  cases ts with
                  | nil => dsimp only; rw [hx, hy]
                  | cons t3 ts => rfl
            | cons z zs => rfl
      case append =>
        cases ha : c.args.toList with
        | nil => rfl
        | cons x xs =>
          cases xs with
          | nil => rfl
          | cons y ys =>
            cases ys with
            | nil =>
              have hmx : x ∈ c.args.toList := by rw [ha]; exact List.mem_cons_self
              have hmy : y ∈ c.args.toList := by rw [ha]; exact List.mem_cons_of_mem _ List.mem_cons_self
              have hx := h x (by simpa [Call.operands, hc] using hmx)
              have hy := h y (by simpa [Call.operands, hc] using hmy)
              cases hq : c.argTypes.toList with
              | nil => rfl
              | cons t ts =>
                cases ts with
                | nil => rfl
                | cons t2 ts =>
                  cases ts with
                  | nil => dsimp only; rw [hx, hy]
                  | cons t3 ts => rfl
            | cons z zs => rfl
  all_goals (first | rfl | (simp_all; done))
theorem evVal_ob {ρ : Operand → PV} {ob ob' : Objs} {o : Oper} (h : readsO imm o = false) (hV : ∀ v, imm.V.contains v = true → ob v = ob' v) (ty : Nat) : evVal P Γ (obq imm o ob) ρ ty o.op = evVal P Γ (obq imm o ob') ρ ty o.op := by
  cases hq : quiet imm o with
  | true => simp [obq, hq]
  | false =>
  cases hp : privy imm o with
  | true =>
    have : onlyV imm.V ob = onlyV imm.V ob' := by
      funext v
      unfold onlyV
      split
      · rename_i hv; exact hV v hv
      · rfl
    simp [obq, hq, hp, this]
  | false =>
  simp only [obq, hq, hp, Bool.false_eq_true, if_false]
  unfold readsO at h
  unfold quiet at hq
  unfold privy at hp
  cases ho : o.op with
  | load t x => simp [ho] at h hq hp; rw [h hq] at hp; cases hp
  | convert s d x => simp [ho] at h hq; simp [h] at hq
  | call c =>
    simp only [ho] at h hq
    simp only [evVal]
    cases hc : c.callee with
    | value x => simp [hc] at h hq; simp [h] at hq
    | invoke r m => rfl
    | builtin b => cases b <;> rfl
  | slice t x lo hi mx => cases mx <;> rfl
  | _ => rfl
theorem upd_other {α : Type} (f : Nat → α) {d t : Nat} (v : α) (h : t ≠ d) : upd f d v t = f t := by simp [upd, h]
theorem putObs_other : ∀ (l : List (Nat × CellIO)) (ob : Objs) (o : Nat), o ∉ l.map (·.1) → putObs ob l o = ob o
  | [], ob, o, h => rfl
  | p :: l, ob, o, h => by
    simp only [List.map_cons, List.mem_cons, not_or] at h
    simp only [putObs]
    rw [putObs_other l _ o h.2, upd_other _ _ h.1]
theorem mem_dedup {o : Nat} : ∀ {l : List Nat}, o ∈ dedup l → o ∈ l
  | [], h => by simp [dedup] at h
  | a :: l, h => by
    simp only [dedup, List.mem_cons, List.mem_filter] at h
    rcases h with rfl | h
    · simp
    · exact List.mem_cons_of_mem _ (mem_dedup h.1)
theorem cpEv_keeps {ob : Objs} {nx t : Nat} {x y : PV} {r : PV × Objs × Nat} (h : cpEv P ob nx t x y = some r) {v : Nat} (hv : v ∉ refsOf x) : r.2.1 v = ob v := by
  unfold cpEv at h
  split at h
  case h_2 => cases h
  split at h
  case h_2 => cases h
  split at h
  case h_3 => cases h
  case h_2 => cases h; rfl
  split at h
  case h_2 => cases h
  split at h
  · cases h
    exact upd_other _ _ fun e => hv (by simp [refsOf, e])
  · cases h
/-- Other objects stay. -/
theorem evEff_keeps {ρ : Operand → PV} {s : AS} {op : Op} {r : PV × Objs × Nat} (h : evEff P Γ s ρ op = some r) {v : Nat} (hv : v < s.nx) (ht : (touch Γ ρ op).contains v = false) : r.2.1 v = s.ob v := by
  have hn : v ≠ s.nx := by omega
  have ht' : v ∉ touch Γ ρ op := by simpa using ht
  cases op with
  | alloc t =>
    simp only [evEff] at h
    split at h
    · split at h
      · cases h; exact upd_other _ _ hn
      · cases h
    · cases h
  | box t x =>
    simp only [evEff] at h
    split at h
    · cases h; exact upd_other _ _ hn
    · cases h
  | buildSlice t n ps =>
    simp only [evEff] at h
    split at h
    · cases h; exact upd_other _ _ hn
    · cases h
  | makeSlice t l c =>
    simp only [evEff] at h
    split at h
    · split at h
      · split at h
        · cases h; exact upd_other _ _ hn
        · cases h
      · cases h
    · cases h
  | store t x y =>
    simp only [evEff] at h
    split at h
    · rename_i o sz i f hx
      have hvo : v ≠ o := fun e => ht' (by simp [touch, hx, refsOf, e])
      split at h
      · split at h
        · split at h
          · simp only [Option.map_eq_some_iff] at h
            obtain ⟨e', _, rfl⟩ := h
            exact upd_other _ _ hvo
          · cases h
        · cases h
      · cases h
    · cases h
  | call c =>
    simp only [evEff] at h
    split at h
    · split at h
      · rename_i Φ hΦ
        unfold ioEv at h
        dsimp only at h
        split at h
        case h_2 => cases h
        split at h
        case h_2 => cases h
        split at h
        case h_2 => cases h
        split at h
        case h_2 => cases h
        rename_i cs2 _ _
        cases h
        refine putObs_other _ _ _ fun hm => ?_
        rw [List.map_fst_zip (by simp), List.mem_map] at hm
        obtain ⟨i, hi, hm⟩ := hm
        unfold outn at hm
        split at hm
        · rename_i hlt
          apply ht'
          have h1 : v ∈ dedup ((c.args.toList.map ρ).flatMap refsOf) := by
            rw [← hm]
            refine List.mem_of_getElem? (i := i) ?_
            rw [List.getD_eq_getElem?_getD, List.getElem?_eq_getElem hlt]
            rfl
          have h2 := mem_dedup h1
          simpa [touch, List.flatMap_map] using h2
        · omega
      · cases h
    · split at h
      · rename_i x y t t' ha _
        exact cpEv_keeps h fun hm => ht' (by simp only [touch, ha, List.flatMap_cons, List.mem_append]; exact .inl hm)
      · cases h
    · split at h
      · rename_i x y t t' ha _
        split at h
        · split at h
          · split at h
            · split at h
              · split at h
                · rename_i o sz' i n hx
                  split at h
                  · split at h
                    · cases h
                      have hvo : v ≠ o := fun e => ht' (by simp [touch, ha, hx, refsOf, e])
                      dsimp only
                      rw [upd_other _ _ hn, upd_other _ _ hvo]
                    · cases h
                  · cases h
                · split at h
                  · split at h
                    · cases h; rfl
                    · cases h; exact upd_other _ _ hn
                  · cases h
              · cases h
            · cases h
          · cases h
        · cases h
      · cases h
    · cases h
  | _ => simp [evEff] at h
end
end Go.Proofs.YtenldjifipnjpaaDoor
