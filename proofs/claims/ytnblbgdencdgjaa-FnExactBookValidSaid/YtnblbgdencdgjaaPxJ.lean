/- Regions: one order stands for all. -/
import Derived.Test.YtnblbgdencdgjaaPxI
namespace Go.Proofs.Ytnblbgdencdgjaa
open Go.RowKit
set_option linter.all false

/-- Does the operation make or turn an object? (imm: literals in these slots are only read.) -/
def isEff (imm : Nat → Bool) (o : Oper) : Bool :=
  match o.op with
  | .alloc _ | .box .. | .makeSlice .. | .store .. => true
  | .buildSlice .. => !(match o.dst with | some d => imm d | none => false)
  | .call c => match c.callee with
    | .builtin .append | .builtin .copy => true
    | _ => false
  | _ => false
/-- May the operation look at an object? -/
def readsO (o : Oper) : Bool :=
  match o.op with
  | .load .. | .convert .. => true
  | .call c => match c.callee with
    | .value _ => true
    | _ => false
  | _ => false
def evDo (P : Program) (Γ : Nat → Option Fun) (imm : Nat → Bool) (s : AS) (o : Oper) : Option AS :=
  if isEff imm o then (evEff P s (look s.tm) o.op).map fun r => ({ s with ob := r.2.1, nx := r.2.2 } : AS).put o.dst r.1
  else (evVal P Γ s.ob (look s.tm) o.type o.op).map fun p => s.put o.dst p
def boolOf : PV → Option (Option Bool)
  | .val (.bool b) => some (some b)
  | .val _ => some none
  | _ => none
def evGuard (ops : Array Oper) (s : AS) (o : Oper) : Option Bool :=
  match o.guard with
  | none => some true
  | some (j, want) => match ops[j]? with
    | none => some false
    | some oj => match oj.dst with
      | none => some false
      | some d => (boolOf (s.tm d)).map fun b => b == some want
def evOp (P : Program) (Γ : Nat → Option Fun) (imm : Nat → Bool) (ops : Array Oper) (o : Oper) (s : AS) : Option AS :=
  match evGuard ops s o with
  | some true => evDo P Γ imm s o
  | some false => some (s.put o.dst (.val undef))
  | none => none
def evSeq (P : Program) (Γ : Nat → Option Fun) (imm : Nat → Bool) (ops : Array Oper) : List Oper → AS → Option AS
  | [], s => some s
  | o :: l, s => match evOp P Γ imm ops o s with
    | some s' => evSeq P Γ imm ops l s'
    | none => none
def dstOk (N : Nat) (o : Oper) : Bool := match o.dst with | some d => decide (d < N) | none => true

section
variable {P : Program} {Γ : Nat → Option Fun} {imm : Nat → Bool} {ops : Array Oper} {io : Nat → Prop} {w0 : World} {N : Nat} {g : Gh} {s s' : AS} {a : Act} {w w' : World} {o : Oper} {p : PV}

theorem guard_rep (h : Rel io w0 N g s a w) {b : Bool} (hg : evGuard ops s o = some b) : Region.wanted o (yielded ops a.tmps) = b := by
  unfold evGuard at hg
  unfold Region.wanted
  split at hg
  · rename_i hn; cases hg; simp [hn]
  · rename_i j want hn
    simp only [hn]
    split at hg
    · rename_i hj; cases hg; simp [yielded, hj]
    · rename_i oj hj
      split at hg
      · rename_i hd; cases hg; simp [yielded, hj, hd]
      · rename_i d hd
        simp only [Option.map_eq_some_iff] at hg
        obtain ⟨ob, hb, rfl⟩ := hg
        have ht := h.tm d
        have : yielded ops a.tmps j = ob := by
          unfold yielded
          simp only [hj, hd, Option.bind_some]
          unfold boolOf at hb
          split at hb
          · rename_i b' hl
            cases hb
            rw [hl] at ht
            simp only [Rep] at ht
            cases hq : a.tmps[d]? with
            | none => simp [hq, undef] at ht
            | some v => simp [hq] at ht; subst ht; rfl
          · rename_i v hl hnb
            cases hb
            rw [hnb] at ht
            simp only [Rep] at ht
            cases hq : a.tmps[d]? with
            | none => rfl
            | some u =>
              simp [hq] at ht
              subst ht
              cases u <;> first | rfl | (exfalso; exact hl _ rfl)
          · cases hb
        rw [this]

theorem op_ok (h : Rel io w0 N g s a w) (hΓ : SoundΓ P Γ) (hio : ∀ b, io b → b < w0.heap.size) (hd : dstOk N o = true) (he : evOp P Γ imm ops o s = some s') {i : Nat} (hi : ops[i]? = some o) {Q : Exit → Act → World → Prop} {K : Act → World → Prop}
    (hK : ∀ g' a' w', Rel io w0 N g' s' a' w' → K a' w') : wpOp P ops Q i K a w := by
  have hdst : ∀ x, o.dst = some x → x < N := fun x hx => by
    unfold dstOk at hd
    simpa [hx] using hd
  unfold wpOp
  simp only [hi]
  unfold evOp at he
  split at he
  · rename_i hg
    rw [guard_rep h hg]
    simp only [if_true]
    left
    unfold evDo at he
    split at he
    · simp only [Option.map_eq_some_iff] at he
      obtain ⟨r, hr, rfl⟩ := he
      exact evEff_ok h hio hr _ _ fun v w' g' hrel hrep => hK _ _ _ (hrel.put hdst hrep)
    · simp only [Option.map_eq_some_iff] at he
      obtain ⟨q, hq, rfl⟩ := he
      exact evVal_ok h hΓ hq _ _ fun v w' hb hrep => hK _ _ _ ((h.grow hb hio).put hdst hrep)
  · rename_i hg
    rw [guard_rep h hg]
    simp only [Bool.false_eq_true, if_false]
    cases he
    exact hK _ _ _ (h.put hdst (by simp [Rep]))
  · cases he

theorem seq_ok (hΓ : SoundΓ P Γ) (hio : ∀ b, io b → b < w0.heap.size) (hd : ∀ o ∈ ops.toList, dstOk N o = true) {Q : Exit → Act → World → Prop} : ∀ (l : List Oper) (k : Nat) {g : Gh} {s : AS} {a : Act} {w : World}, ops.toList.drop k = l → Rel io w0 N g s a w →
    evSeq P Γ imm ops l s = some s' → (∀ g' a' w', Rel io w0 N g' s' a' w' → Q .normal a' w') → wpOps P ops Q (List.range' k l.length) a w
  | [], k, g, s, a, w, hl, h, he, hQ => by
    simp only [evSeq, Option.some.injEq] at he
    subst he
    exact hQ g a w h
  | o :: l, k, g, s, a, w, hl, h, he, hQ => by
    have hk : ops.toList[k]? = some o := by
      have := congrArg (·[0]?) hl
      simpa using this
    have hk' : ops[k]? = some o := by simpa using hk
    have hl' : ops.toList.drop (k + 1) = l := by
      rw [← List.drop_drop, hl]
      rfl
    simp only [evSeq] at he
    split at he
    · rename_i s1 h1
      simp only [List.length_cons, List.range'_succ]
      rw [wpOps_cons]
      exact op_ok h hΓ hio (hd o (List.mem_of_getElem? hk)) h1 hk' fun g' a' w' hr => seq_ok hΓ hio hd l (k + 1) hl' hr he hQ
    · cases he

theorem region_ok {id : Nat} {Q : Exit → Act → World → Prop} (h : Rel io w0 N g s a w) (hΓ : SoundΓ P Γ) (hio : ∀ b, io b → b < w0.heap.size) (hd : ops.all (dstOk N) = true) (he : evSeq P Γ imm ops ops.toList s = some s')
    (hQ : ∀ g' a' w', Rel io w0 N g' s' a' w' → Q .normal a' w') : (Code.region id ops false).wp P Q a w := by
  refine wp_region ?_
  have := seq_ok hΓ hio (fun o ho => (Array.all_eq_true_iff_forall_mem.1 hd) o (by simpa using ho)) ops.toList 0 rfl h he hQ
  rw [List.range_eq_range']
  simpa using this

/-- Over the numbers of operations. -/
def evL (P : Program) (Γ : Nat → Option Fun) (imm : Nat → Bool) (ops : Array Oper) : List Nat → AS → Option AS
  | [], s => some s
  | i :: l, s => match ops[i]? with
    | none => evL P Γ imm ops l s
    | some o => match evOp P Γ imm ops o s with
      | some s' => evL P Γ imm ops l s'
      | none => none
theorem evL_seq : ∀ (l : List Oper) (k : Nat) (s : AS), ops.toList.drop k = l → evL P Γ imm ops (List.range' k l.length) s = evSeq P Γ imm ops l s
  | [], k, s, hl => rfl
  | o :: l, k, s, hl => by
    have hk : ops[k]? = some o := by
      have := congrArg (·[0]?) hl
      simpa using this
    have hl' : ops.toList.drop (k + 1) = l := by
      rw [← List.drop_drop, hl]
      rfl
    simp only [List.length_cons, List.range'_succ, evL, hk, evSeq]
    cases evOp P Γ imm ops o s with
    | none => rfl
    | some s' => exact evL_seq l (k + 1) s' hl'

theorem look_congr {tm tm' : Nat → PV} {x : Operand} (h : ∀ t, x = .tmp t → tm t = tm' t) : look tm x = look tm' x := by
  cases x with
  | tmp t => exact h t rfl
  | _ => rfl
theorem partsOf_congr {ρ ρ' : Operand → PV} {ps : Array (Nat × Operand)} (h : ∀ x ∈ (ps.toList.map (·.2)), ρ x = ρ' x) : partsOf ρ ps = partsOf ρ' ps := by
  unfold partsOf
  refine List.map_congr_left fun q hq => ?_
  rw [h q.2 (List.mem_map.2 ⟨q, hq, rfl⟩)]

theorem evVal_congr {ρ ρ' : Operand → PV} {ob : Objs} {ty : Nat} (op : Op) (h : ∀ x ∈ op.operands, ρ x = ρ' x) : evVal P Γ ob ρ ty op = evVal P Γ ob ρ' ty op := by
  cases op <;> simp only [Op.operands] at h <;> simp only [evVal]
  case build t ps => rw [partsOf_congr fun x hx => h x (by simpa using hx)]
  case buildSlice t n ps => rw [partsOf_congr fun x hx => h x (by simpa using hx)]
  case slice t x lo hi mx => cases lo <;> cases hi <;> cases mx <;> simp_all [evVal]
  case call c =>
    have hargs : c.args.toList.map ρ = c.args.toList.map ρ' := List.map_congr_left fun x hx => h x (by simp [Call.operands]; right; simpa using hx)
    cases hc : c.callee with
    | value x => have hf := h x (by simp [Call.operands, hc]); simp only [hargs, hf]
    | invoke r m => rfl
    | builtin b =>
      cases b <;> simp only [hargs]
      case len =>
        cases ha : c.args.toList with
        | nil => rfl
        | cons x xs =>
          cases xs with
          | nil =>
            have hm : x ∈ c.args.toList := by rw [ha]; exact List.mem_cons_self
            have hx := h x (by simpa [Call.operands, hc] using hm)
            cases hq : c.argTypes.toList with
            | nil => rfl
            | cons t ts =>
              cases ts with
              | nil => dsimp only; rw [hx]
              | cons t2 ts => rfl
          | cons y ys => rfl
  all_goals (first | rfl | (simp_all; done))
theorem evEff_congr {ρ ρ' : Operand → PV} {s : AS} (op : Op) (h : ∀ x ∈ op.operands, ρ x = ρ' x) : evEff P s ρ op = evEff P s ρ' op := by
  cases op <;> simp only [Op.operands] at h <;> simp only [evEff]
  case buildSlice t n ps => rw [partsOf_congr fun x hx => h x (by simpa using hx)]
  case call c =>
    cases hc : c.callee with
    | value x => rfl
    | invoke r m => rfl
    | builtin b =>
      cases b <;> try rfl
      case append =>
        cases ha : c.args.toList with
        | nil => rfl
        | cons x xs =>
          cases xs with
          | nil => rfl
          | cons y ys =>
            cases ys with
            | nil =>
              have hmx : x ∈ c.args.toList := by rw [ha]; exact List.mem_cons_self
              have hmy : y ∈ c.args.toList := by rw [ha]; exact List.mem_cons_of_mem _ List.mem_cons_self
              have hx := h x (by simpa [Call.operands, hc] using hmx)
              have hy := h y (by simpa [Call.operands, hc] using hmy)
              cases hq : c.argTypes.toList with
              | nil => rfl
              | cons t ts =>
                cases ts with
                | nil => rfl
                | cons t2 ts =>
                  cases ts with
                  | nil => dsimp only; rw [hx, hy]
                  | cons t3 ts => rfl
            | cons z zs => rfl
  all_goals (first | rfl | (simp_all; done))
theorem evVal_ob {ρ : Operand → PV} {ob ob' : Objs} {o : Oper} (h : readsO o = false) (ty : Nat) : evVal P Γ ob ρ ty o.op = evVal P Γ ob' ρ ty o.op := by
  unfold readsO at h
  cases ho : o.op with
  | load t x => simp [ho] at h
  | convert s d x => simp [ho] at h
  | call c =>
    simp only [ho] at h
    simp only [evVal]
    cases hc : c.callee with
    | value x => simp [hc] at h
    | invoke r m => rfl
    | builtin b => cases b <;> rfl
  | slice t x lo hi mx => cases mx <;> rfl
  | _ => rfl
end
end Go.Proofs.Ytnblbgdencdgjaa
