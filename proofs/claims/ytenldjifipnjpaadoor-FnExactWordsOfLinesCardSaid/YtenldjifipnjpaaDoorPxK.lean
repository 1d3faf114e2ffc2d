/- Regions that draw their order: operations that do not touch each other may change places. -/
import Derived.Test.YtenldjifipnjpaaDoorPxJ2
namespace Go.Proofs.YtenldjifipnjpaaDoor
open Go.RowKit
set_option linter.all false

def evRes (P : Program) (Γ : Ctx) (imm : Md) (ops : Array Oper) (o : Oper) (s : AS) : Option (PV × Option (Objs × Nat)) :=
  match evGuard ops s o with
  | some true => if isEff Γ imm o then (if effOk Γ imm s.nx (look s.tm) o.op then evEff P Γ s (look s.tm) o.op else none).map fun r => (r.1, some r.2) else (evVal P Γ (obq imm o s.ob) (look s.tm) o.type o.op).map fun p => (p, none)
  | some false => some (.val undef, none)
  | none => none
def AS.app (s : AS) (o : Oper) (r : PV × Option (Objs × Nat)) : AS :=
  match r.2 with
  | some q => ({ s with ob := q.1, nx := q.2 } : AS).put o.dst r.1
  | none => s.put o.dst r.1

section
variable {P : Program} {Γ : Ctx} {imm : Md} {ops : Array Oper}

theorem evOp_res (o : Oper) (s : AS) : evOp P Γ imm ops o s = (evRes P Γ imm ops o s).map (s.app o) := by
  unfold evOp evRes evDo
  cases evGuard ops s o with
  | none => rfl
  | some b =>
    cases b
    · rfl
    · cases isEff Γ imm o
      · simp only [Bool.false_eq_true, if_false]; cases evVal P Γ (obq imm o s.ob) (look s.tm) o.type o.op <;> rfl
      · simp only [if_true]; cases (if effOk Γ imm s.nx (look s.tm) o.op = true then evEff P Γ s (look s.tm) o.op else none) <;> rfl

/-- Two operations that do not touch each other. -/
def indep (Γ : Ctx) (imm : Md) (ops : Array Oper) (x y : Oper) : Bool :=
  x.apart ops y && !(isEff Γ imm x && (isEff Γ imm y || readsO imm y)) && !(isEff Γ imm y && readsO imm x)

theorem put_tm_ne {s : AS} {d : Option Nat} {v : PV} {t : Nat} (h : d ≠ some t) : (s.put d v).tm t = s.tm t := by
  cases d with
  | none => rfl
  | some d => simp only [AS.put]; exact upd_ne _ _ _ (fun e => h (by rw [e]))
theorem app_tm_ne {s : AS} {o : Oper} {r : PV × Option (Objs × Nat)} {t : Nat} (h : o.dst ≠ some t) : (s.app o r).tm t = s.tm t := by
  unfold AS.app
  split
  · rw [put_tm_ne h]
  · rw [put_tm_ne h]
theorem put_ob {s : AS} {d : Option Nat} {v : PV} : (s.put d v).ob = s.ob ∧ (s.put d v).nx = s.nx := by cases d <;> exact ⟨rfl, rfl⟩

theorem guard_app {s : AS} {x y : Oper} {r : PV × Option (Objs × Nat)} (h : ∀ d, x.dst = some d → d ∉ y.looksAt ops) : evGuard ops (s.app x r) y = evGuard ops s y := by
  unfold evGuard
  cases hg : y.guard with
  | none => rfl
  | some jw =>
    obtain ⟨j, want⟩ := jw
    dsimp only
    cases hj : ops[j]? with
    | none => rfl
    | some oj =>
      dsimp only
      cases hd : oj.dst with
      | none => rfl
      | some d =>
        dsimp only
        rw [app_tm_ne (fun e => h d e (by simp [Oper.looksAt, hg, hj, hd]))]

theorem look_app {s : AS} {x y : Oper} {r : PV × Option (Objs × Nat)} (h : ∀ d, x.dst = some d → d ∉ y.looksAt ops) : ∀ z ∈ y.op.operands, look (s.app x r).tm z = look s.tm z := fun z hz =>
  look_congr fun t ht => app_tm_ne fun e => h t e (by
    subst ht
    exact List.mem_append_left _ (List.mem_filterMap.2 ⟨.tmp t, by simpa using hz, rfl⟩))

theorem touch_congr {ρ ρ' : Operand → PV} (op : Op) (h : ∀ x ∈ op.operands, ρ x = ρ' x) : touch Γ ρ op = touch Γ ρ' op := by
  cases op with
  | store t x y => simp only [touch]; rw [h x (by simp [Op.operands])]
  | call c =>
    simp only [touch]
    have hargs : c.args.toList.map ρ = c.args.toList.map ρ' := List.map_congr_left fun x hx => h x (by simp [Op.operands, Call.operands]; right; simpa using hx)
    have e : ∀ τ : Operand → PV, (c.args.toList.flatMap fun x => refsOf (τ x)) = (c.args.toList.map τ).flatMap refsOf := fun τ => by rw [List.flatMap_map]
    rw [e, e, hargs]
  | _ => rfl
theorem app_V {s : AS} {x : Oper} {r : PV × Option (Objs × Nat)} (hx : evRes P Γ imm ops x s = some r) {v : Nat} (hv : imm.V.contains v = true) : (s.app x r).ob v = s.ob v := by
  unfold AS.app
  cases hr : r.2 with
  | none => exact congrFun put_ob.1 v
  | some q =>
    dsimp only
    rw [put_ob.1]
    dsimp only
    unfold evRes at hx
    split at hx
    · split at hx
      · simp only [Option.map_eq_some_iff] at hx
        obtain ⟨r0, h0, rfl⟩ := hx
        split at h0
        case isFalse => cases h0
        case isTrue hok =>
        simp only [Option.some.injEq] at hr
        subst hr
        unfold effOk at hok
        rw [List.all_eq_true] at hok
        have h1 := hok v (by simpa using hv)
        simp only [Bool.and_eq_true, decide_eq_true_eq, Bool.not_eq_true'] at h1
        exact evEff_keeps h0 h1.1 h1.2
      · simp only [Option.map_eq_some_iff] at hx
        obtain ⟨p, _, rfl⟩ := hx
        cases hr
    · cases hx; cases hr
    · cases hx
/-- What y gives does not hang on x. -/
theorem res_app {s : AS} {x y : Oper} {r : PV × Option (Objs × Nat)} (hx : evRes P Γ imm ops x s = some r) (h : ∀ d, x.dst = some d → d ∉ y.looksAt ops) (he : isEff Γ imm x = true → isEff Γ imm y = false ∧ readsO imm y = false) :
    evRes P Γ imm ops y (s.app x r) = evRes P Γ imm ops y s := by
  have hob : isEff Γ imm x = true ∨ ((s.app x r).ob = s.ob ∧ (s.app x r).nx = s.nx) := by
    cases hq : isEff Γ imm x with
    | true => exact .inl rfl
    | false =>
      right
      unfold evRes at hx
      have hr2 : r.2 = none := by
        split at hx
        · simp only [hq, Bool.false_eq_true, if_false, Option.map_eq_some_iff] at hx
          obtain ⟨p, _, rfl⟩ := hx
          rfl
        · cases hx; rfl
        · cases hx
      unfold AS.app
      rw [hr2]
      exact put_ob
  unfold evRes
  rw [guard_app h]
  cases evGuard ops s y with
  | none => rfl
  | some b =>
    cases b
    · rfl
    · dsimp only
      cases hy : isEff Γ imm y with
      | true =>
        simp only [if_true]
        rcases hob with hob | hob
        · rw [(he hob).1] at hy; cases hy
        · have e1 : evEff P Γ (s.app x r) (look (s.app x r).tm) y.op = evEff P Γ (s.app x r) (look s.tm) y.op := evEff_congr y.op (look_app h)
          have e2 : evEff P Γ (s.app x r) (look s.tm) y.op = evEff P Γ s (look s.tm) y.op := by
            unfold evEff
            rw [hob.1, hob.2]
          have e3 : effOk Γ imm (s.app x r).nx (look (s.app x r).tm) y.op = effOk Γ imm s.nx (look s.tm) y.op := by
            unfold effOk
            rw [hob.2, touch_congr y.op (look_app h)]
          rw [e1, e2, e3]
      | false =>
        simp only [Bool.false_eq_true, if_false]
        rw [evVal_congr y.op (look_app h)]
        rcases hob with hob | hob
        · rw [evVal_ob (he hob).2 (fun v hv => app_V hx hv) y.type]
        · rw [hob.1]

theorem put_comm {s : AS} {d e : Option Nat} {u v : PV} (h : ∀ x, d = some x → e ≠ some x) : (s.put d u).put e v = (s.put e v).put d u := by
  cases d with
  | none => rfl
  | some d =>
    cases e with
    | none => rfl
    | some e =>
      have hne : d ≠ e := fun q => h d rfl (by rw [q])
      simp only [AS.put]
      congr 1
      funext t
      unfold upd
      by_cases h1 : t = e
      · subst h1
        have hn : ¬ t = d := fun q => hne q.symm
        simp [hn]
      · by_cases h2 : t = d
        · subst h2; simp [h1]
        · simp [h1, h2]

theorem apart_parts {x y : Oper} (h : indep Γ imm ops x y = true) : (∀ d, x.dst = some d → d ∉ y.looksAt ops) ∧ (∀ d, x.dst = some d → y.dst ≠ some d) ∧ (∀ d, y.dst = some d → d ∉ x.looksAt ops) ∧
    (isEff Γ imm x = true → isEff Γ imm y = false ∧ readsO imm y = false) ∧ (isEff Γ imm y = true → isEff Γ imm x = false ∧ readsO imm x = false) := by
  unfold indep at h
  simp only [Bool.and_eq_true] at h
  obtain ⟨⟨h1, h2⟩, h3⟩ := h
  obtain ⟨a1, a2, a3⟩ := Oper.apart_spec h1
  refine ⟨a1, a2, a3, fun q => ?_, fun q => ?_⟩
  · cases hy : isEff Γ imm y <;> cases hr : readsO imm y <;> simp_all
  · cases hx : isEff Γ imm x <;> cases hr : readsO imm x <;> simp_all

theorem evOp_comm {x y : Oper} {s s1 s2 : AS} (hi : indep Γ imm ops x y = true) (h1 : evOp P Γ imm ops x s = some s1) (h2 : evOp P Γ imm ops y s1 = some s2) :
    ∃ s1', evOp P Γ imm ops y s = some s1' ∧ evOp P Γ imm ops x s1' = some s2 := by
  obtain ⟨a1, a2, a3, a4, a5⟩ := apart_parts hi
  rw [evOp_res, Option.map_eq_some_iff] at h1 h2
  obtain ⟨r1, k1, rfl⟩ := h1
  obtain ⟨r2, k2, rfl⟩ := h2
  rw [res_app k1 a1 a4] at k2
  refine ⟨s.app y r2, by rw [evOp_res, k2]; rfl, ?_⟩
  rw [evOp_res, res_app k2 a3 a5, k1]
  simp only [Option.map_some, Option.some.injEq]
  have hx2 : isEff Γ imm x = false → r1.2 = none := fun q => by
    unfold evRes at k1
    split at k1
    · simp only [q, Bool.false_eq_true, if_false, Option.map_eq_some_iff] at k1
      obtain ⟨p, _, rfl⟩ := k1
      rfl
    · cases k1; rfl
    · cases k1
  have hy2 : isEff Γ imm y = false → r2.2 = none := fun q => by
    unfold evRes at k2
    split at k2
    · simp only [q, Bool.false_eq_true, if_false, Option.map_eq_some_iff] at k2
      obtain ⟨p, _, rfl⟩ := k2
      rfl
    · cases k2; rfl
    · cases k2
  cases hq : isEff Γ imm x with
  | false =>
    have e1 := hx2 hq
    unfold AS.app
    rw [e1]
    dsimp only
    cases r2.2 with
    | none => exact (put_comm a2).symm
    | some q =>
      dsimp only
      have := put_comm (s := { s with ob := q.1, nx := q.2 }) (u := r1.1) (v := r2.1) a2
      rw [← this]
      cases x.dst <;> rfl
  | true =>
    have e2 := hy2 (a4 hq).1
    unfold AS.app
    rw [e2]
    dsimp only
    cases r1.2 with
    | none => exact (put_comm a2).symm
    | some q =>
      dsimp only
      have := put_comm (s := { s with ob := q.1, nx := q.2 }) (u := r1.1) (v := r2.1) a2
      rw [this]
      cases y.dst <;> rfl

def indepAt (Γ : Ctx) (imm : Md) (ops : Array Oper) (i j : Nat) : Bool :=
  match ops[i]?, ops[j]? with
  | some x, some y => indep Γ imm ops x y
  | _, _ => true

theorem evL_cons {i : Nat} {l : List Nat} {s : AS} : evL P Γ imm ops (i :: l) s = match ops[i]? with
    | none => evL P Γ imm ops l s
    | some o => match evOp P Γ imm ops o s with
      | some s' => evL P Γ imm ops l s'
      | none => none := rfl
theorem evL_swap {i j : Nat} {l : List Nat} {s s' : AS} (hi : indepAt Γ imm ops i j = true) (h : evL P Γ imm ops (i :: j :: l) s = some s') : evL P Γ imm ops (j :: i :: l) s = some s' := by
  unfold indepAt at hi
  cases hx : ops[i]? with
  | none =>
    simp only [evL_cons, hx] at h ⊢
    exact h
  | some x =>
    cases hy : ops[j]? with
    | none =>
      simp only [evL_cons, hx, hy] at h ⊢
      exact h
    | some y =>
      simp only [hx, hy] at hi
      simp only [evL_cons, hx, hy] at h ⊢
      split at h
      · rename_i s1 h1
        split at h
        · rename_i s2 h2
          obtain ⟨s1', h3, h4⟩ := evOp_comm hi h1 h2
          rw [h3]
          dsimp only
          rw [h4]
          exact h
        · cases h
      · cases h
theorem evL_front {i : Nat} {q : List Nat} {s' : AS} : ∀ {p : List Nat} {s : AS}, (∀ x ∈ p, indepAt Γ imm ops x i = true) → evL P Γ imm ops (p ++ i :: q) s = some s' → evL P Γ imm ops (i :: (p ++ q)) s = some s'
  | [], s, _, h => h
  | x :: p, s, hp, h => by
    refine evL_swap (hp x (by simp)) ?_
    rw [evL_cons]
    rw [List.cons_append, evL_cons] at h
    cases hx : ops[x]? with
    | none =>
      simp only [hx] at h ⊢
      exact evL_front (fun y hy => hp y (by simp [hy])) h
    | some o =>
      simp only [hx] at h ⊢
      cases ho : evOp P Γ imm ops o s with
      | none => simp [ho] at h
      | some s1 =>
        simp only [ho] at h ⊢
        exact evL_front (fun y hy => hp y (by simp [hy])) h

/-- Is i listed before j in every order? -/
def ordB (ops : Array Oper) : Nat → Nat → Nat → Bool
  | 0, _, _ => false
  | f + 1, i, j => match ops[j]? with
    | none => false
    | some o => o.after.any (fun e => Region.binds .any e && e.on == i) || o.after.any (fun e => Region.binds .any e && ordB ops f i e.on)
def drawOk (Γ : Ctx) (imm : Md) (ops : Array Oper) : Bool :=
  (List.range ops.size).all fun j =>
    ((List.range j).all fun i => indepAt Γ imm ops i j || ordB ops ops.size i j) &&
    (match ops[j]? with | some o => o.after.all (fun e => !Region.binds .any e || decide (e.on < j)) | none => true)

theorem ord_listed {listed : Array Bool} (hcl : ∀ j o, ops[j]? = some o → listed.getD j true = true → ∀ e ∈ o.after, Region.binds .any e = true → listed.getD e.on false = true) : ∀ (f i j : Nat), ordB ops f i j = true →
    (∀ o, ops[j]? = some o → ∀ e ∈ o.after, Region.binds .any e = true → listed.getD e.on false = true) → listed.getD i false = true
  | 0, i, j, h, _ => by simp [ordB] at h
  | f + 1, i, j, h, hj => by
    unfold ordB at h
    split at h
    · cases h
    · rename_i o ho
      have h' : ∃ (k : Nat) (hk : k < o.after.size), Region.binds .any o.after[k] = true ∧ (o.after[k].on = i ∨ ordB ops f i o.after[k].on = true) := by
        rw [Bool.or_eq_true, Array.any_eq_true, Array.any_eq_true] at h
        rcases h with ⟨k, hk, h⟩ | ⟨k, hk, h⟩
        · simp only [Bool.and_eq_true, beq_iff_eq] at h
          exact ⟨k, hk, h.1, .inl h.2⟩
        · simp only [Bool.and_eq_true] at h
          exact ⟨k, hk, h.1, .inr h.2⟩
      obtain ⟨k, hk, hb, h⟩ := h'
      have hl := hj o ho o.after[k] (Array.getElem_mem hk) hb
      rcases h with h | h
      · rw [← h]; exact hl
      · refine ord_listed hcl f i _ h fun o' ho' e' he' hb' => ?_
        have hl' : listed.getD (o.after[k]).on true = true := by
          cases hq : listed[(o.after[k]).on]? with
          | none => simp [hq] at hl
          | some b => simp [hq] at hl ⊢; exact hl
        exact hcl _ o' ho' hl' e' he' hb'

variable {io : IoS} {w0 : World} {N : Nat}
theorem drawOk_facts (hok : drawOk Γ imm ops = true) : ∀ j, j < ops.size → (∀ i, i < j → indepAt Γ imm ops i j = true ∨ ordB ops ops.size i j = true) ∧ ∀ o, ops[j]? = some o → ∀ e ∈ o.after, Region.binds .any e = true → e.on < j := fun j hj => by
    unfold drawOk at hok
    rw [List.all_eq_true] at hok
    have h := hok j (by simpa using hj)
    simp only [Bool.and_eq_true, List.all_eq_true, List.mem_range, Bool.or_eq_true] at h
    refine ⟨h.1, fun o ho e he hb => ?_⟩
    have h2 := h.2
    rw [ho] at h2
    dsimp only at h2
    have := (Array.all_eq_true_iff_forall_mem.1 h2) e he
    simpa [hb] using this

theorem any_okX (hΓ : SoundΓ P Γ) (hio : ∀ b, io b → b < w0.heap.size) (hd : ops.all (dstOk N) = true) {X : Nat → Prop} (hfacts : ∀ j, j < ops.size → (∀ i, i < j → X i → X j → indepAt Γ imm ops i j = true ∨ ordB ops ops.size i j = true) ∧ ∀ o, ops[j]? = some o → ∀ e ∈ o.after, Region.binds .any e = true → e.on < j) {Q : Exit → Act → World → Prop} {s' : AS} (hQ : ∀ g' a' w', Rel io w0 N g' s' a' w' → Q .normal a' w') :
    ∀ (fuel : Nat) (listed : Array Bool) (rem : List Nat) (g : Gh) (s : AS) (a : Act) (w : World), rem.length ≤ fuel → listed.size = ops.size → (∀ i, i ∈ rem ↔ i < ops.size ∧ listed.getD i true = false) → rem.Pairwise (· < ·) → (∀ i ∈ rem, X i) →
      (∀ j o, ops[j]? = some o → listed.getD j true = true → ∀ e ∈ o.after, Region.binds .any e = true → listed.getD e.on false = true) →
      Rel io w0 N g s a w → evL P Γ imm ops rem s = some s' → wpAny P .any ops Q fuel listed a w := by
  have hready : ∀ (listed : Array Bool) (rem : List Nat), (∀ i, i ∈ rem ↔ i < ops.size ∧ listed.getD i true = false) → listed.size = ops.size → rem.Pairwise (· < ·) → Region.ready .any ops listed = [] → rem = [] := by
    intro listed rem hrem hsz hpw hnil
    cases rem with
    | nil => rfl
    | cons i0 q =>
      exfalso
      obtain ⟨hi1, hi2⟩ := (hrem i0).1 (by simp)
      have : i0 ∈ Region.ready .any ops listed := by
        rw [mem_ready]
        refine ⟨hi2, ops[i0], Array.getElem?_eq_getElem hi1, fun e he hb => ?_⟩
        have hlt := (hfacts i0 hi1).2 _ (Array.getElem?_eq_getElem hi1) e he hb
        have hnot : ¬ e.on ∈ i0 :: q := by
          intro hm
          rcases List.mem_cons.1 hm with hm | hm
          · omega
          · have := (List.pairwise_cons.1 hpw).1 _ hm
            omega
        rw [hrem] at hnot
        have hlt' : e.on < listed.size := by omega
        have : listed.getD e.on true ≠ false := fun h0 => hnot ⟨by omega, h0⟩
        simp [hlt'] at this ⊢
        exact this
      rw [hnil] at this
      cases this
  intro fuel
  induction fuel with
  | zero =>
    intro listed rem g s a w hlen hsz hrem hpw hX hcl h he
    have hnil : rem = [] := List.eq_nil_of_length_eq_zero (by omega)
    subst hnil
    simp only [evL, Option.some.injEq] at he
    subst he
    refine ⟨?_, hQ g a w h⟩
    cases hr : Region.ready .any ops listed with
    | nil => rfl
    | cons i l =>
      have hm : i ∈ Region.ready .any ops listed := by rw [hr]; simp
      rw [mem_ready] at hm
      obtain ⟨h1, o, h2, _⟩ := hm
      have := (hrem i).2 ⟨(Array.getElem?_eq_some_iff.1 h2).1, h1⟩
      cases this
  | succ fuel ih =>
    intro listed rem g s a w hlen hsz hrem hpw hX hcl h he
    refine ⟨fun hr => ?_, fun i hi => ?_⟩
    · have := hready listed rem hrem hsz hpw hr
      subst this
      simp only [evL, Option.some.injEq] at he
      subst he
      exact hQ g a w h
    · rw [mem_ready] at hi
      obtain ⟨h1, o, h2, h3⟩ := hi
      have hilt := (Array.getElem?_eq_some_iff.1 h2).1
      have hmem := (hrem i).2 ⟨hilt, h1⟩
      obtain ⟨p, q, rfl⟩ := List.append_of_mem hmem
      have hp : ∀ x ∈ p, indepAt Γ imm ops x i = true := fun x hx => by
        have hxi : x < i := by
          rw [List.pairwise_append] at hpw
          exact hpw.2.2 x hx i (by simp)
        rcases ((hfacts i hilt).1 x hxi (hX x (by simp [hx])) (hX i (by simp))).symm with ho | ho
        · exfalso
          have hxl := ord_listed hcl _ _ _ ho (fun o' ho' e he hb => by rw [h2] at ho'; cases ho'; exact h3 e he hb)
          have := ((hrem x).1 (by simp [hx])).2
          have hlt : x < listed.size := by have := ((hrem x).1 (by simp [hx])).1; omega
          simp [hlt] at this hxl
          rw [this] at hxl
          cases hxl
        · exact ho
      have hfr := evL_front hp he
      rw [evL_cons, h2] at hfr
      dsimp only at hfr
      split at hfr
      · rename_i s1 hs1
        have hdo : dstOk N o = true := (Array.all_eq_true_iff_forall_mem.1 hd) o (Array.mem_of_getElem? h2)
        refine op_ok h hΓ hio hdo hs1 h2 fun g' a' w' hr => ih _ (p ++ q) g' s1 a' w' (by simp at hlen ⊢; omega) (by simpa using hsz) (fun j => ?_) ?_ (fun y hy => hX y (by rcases List.mem_append.1 hy with hy | hy <;> simp [hy])) ?_ hr hfr
        · by_cases hji : j = i
          · subst hji
            have hnp : j ∉ p ++ q := by
              rw [List.pairwise_append] at hpw
              intro hm
              rcases List.mem_append.1 hm with hm | hm
              · have := hpw.2.2 j hm j (by simp)
                omega
              · have := (List.pairwise_cons.1 hpw.2.1).1 j hm
                omega
            constructor
            · intro hm; exact absurd hm hnp
            · rintro ⟨_, hf⟩
              have hlt : j < listed.size := by omega
              simp [hlt] at hf
          · rw [getD_set_ne true (fun e => hji e.symm), ← hrem j]
            simp [hji]
        · rw [List.pairwise_append] at hpw ⊢
          exact ⟨hpw.1, (List.pairwise_cons.1 hpw.2.1).2, fun x hx y hy => hpw.2.2 x hx y (by simp [hy])⟩
        · intro j o' ho' hl e he hb
          by_cases hji : j = i
          · subst hji
            rw [h2] at ho'
            cases ho'
            exact getD_set_true (h3 e he hb)
          · rw [getD_set_ne true (fun e => hji e.symm)] at hl
            exact getD_set_true (hcl j o' ho' hl e he hb)
      · cases hfr

theorem draw_ok {id : Nat} {Q : Exit → Act → World → Prop} {g : Gh} {s s' : AS} {a : Act} {w : World} (hm : P.follows .mixedOrders = true) (h : Rel io w0 N g s a w) (hΓ : SoundΓ P Γ) (hio : ∀ b, io b → b < w0.heap.size) (hd : ops.all (dstOk N) = true) (hok : drawOk Γ imm ops = true)
    (he : evSeq P Γ imm ops ops.toList s = some s') (hQ : ∀ g' a' w', Rel io w0 N g' s' a' w' → Q .normal a' w') : (Code.region id ops true).wp P Q a w := by
  refine wp_region_any hm ?_
  have hdrew : Rel io w0 N g s a { w with drawn := w.drawn + 1 } := ⟨h.nt, h.df, fun t => Rep.mono (w := w) (w' := { w with drawn := w.drawn + 1 }) (g := g) (g' := g) (Gh.le_refl g) (fun _ _ _ => rfl) _ _ (h.tm t), fun o c ho => by
    obtain ⟨k1, k2, k3, k4⟩ := h.ob o c ho
    exact ⟨k1, k2, k3, ObjAt.mono (w := w) (w' := { w with drawn := w.drawn + 1 }) (g := g) (g' := g) k4 (Gh.le_refl g) k1 (fun _ _ _ => rfl) rfl⟩, h.inj, h.nx, h.lt, h.new, ⟨h.fr.os, h.fr.tape, h.fr.output, h.fr.size, h.fr.block⟩, h.old, h.fix, h.hl, h.tab⟩
  refine any_okX hΓ hio hd (X := fun _ => True) (fun j hj => ⟨fun i hi _ _ => (drawOk_facts hok j hj).1 i hi, (drawOk_facts hok j hj).2⟩) hQ ops.size _ (List.range ops.size) g s a _ (by simp) (by simp) (fun i => ?_) List.pairwise_lt_range (fun _ _ => trivial) (fun j o ho hl => ?_) hdrew ?_
  · simp only [List.mem_range]
    constructor
    · intro hi; exact ⟨hi, by simp [hi]⟩
    · exact fun hi => hi.1
  · have hlt := (Array.getElem?_eq_some_iff.1 ho).1
    simp [hlt] at hl
  · have := evL_seq (P := P) (Γ := Γ) (imm := imm) (ops := ops) ops.toList 0 s rfl
    rw [List.range_eq_range']
    rw [← he, ← this]
    simp
end
end Go.Proofs.YtenldjifipnjpaaDoor
