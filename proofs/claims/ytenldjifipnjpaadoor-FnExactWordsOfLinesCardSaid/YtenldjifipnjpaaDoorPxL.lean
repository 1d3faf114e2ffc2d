/- Statements and functions. -/
import Derived.Test.YtenldjifipnjpaaDoorPxK2
namespace Go.Proofs.YtenldjifipnjpaaDoor
open Go.RowKit
set_option linter.all false

inductive X where
  | normal
  | exit (id : Nat)
  | ret
  deriving DecidableEq
def X.toExit : X → Exit
  | .normal => .normal
  | .exit id => .exit id
  | .ret => .ret
def X.out (id : Nat) : X → X
  | .exit id' => if id' = id then .normal else .exit id'
  | x => x

/-- Less is said of the slots and the objects. -/
structure AS.forget (s s' : AS) : Prop where
  tm : ∀ t, s'.tm t = s.tm t ∨ s'.tm t = .dead
  ob : ∀ o, s'.ob o = s.ob o ∨ s'.ob o = none
  nx : s'.nx = s.nx

/-- From s the code c comes to s' and leaves by x. -/
inductive Ev (P : Program) (Γ : Ctx) (N : Nat) : Code → AS → X → AS → Prop
  | skip (s : AS) : Ev P Γ N .skip s .normal s
  | region {id : Nat} {ops : Array Oper} {s s' : AS} (imm : Md) (hd : ops.all (dstOk N) = true) (he : evSeq P Γ imm ops ops.toList s = some s') : Ev P Γ N (.region id ops false) s .normal s'
  | draw {id : Nat} {ops : Array Oper} {s s' : AS} (imm : Md) (hm : P.follows .mixedOrders = true) (hd : ops.all (dstOk N) = true) (hok : drawOk Γ imm ops = true) (he : evSeq P Γ imm ops ops.toList s = some s') : Ev P Γ N (.region id ops true) s .normal s'
  | drawF {id : Nat} {ops : Array Oper} {s s1 s' : AS} {k t d : Nat} {z : Value} {o : Oper} (imm : Md) (hm : P.follows .mixedOrders = true) (hd : ops.all (dstOk N) = true) (hok : drawOkF Γ imm ops k d = true) (hk : ops[k]? = some o) (ho : o.op = .alloc t) (hdst : o.dst = some d) (hg : o.guard = none)
      (hz : zeroOf P t = some z) (h1 : z.cells.all (·.oneCell') = true) (he1 : evSeq P Γ imm ops (ops.toList.take k) { s with nx := s.nx + 1 } = some s1) (he2 : evSeq P Γ imm ops (ops.toList.drop (k + 1)) (s1.flt s.nx t d z) = some s') : Ev P Γ N (.region id ops true) s .normal s'
  | seq {x y : Code} {s s1 s2 : AS} {e : X} (h1 : Ev P Γ N x s .normal s1) (h2 : Ev P Γ N y s1 e s2) : Ev P Γ N (.seq x y) s e s2
  | seqX {x y : Code} {s s1 : AS} {e : X} (h1 : Ev P Γ N x s e s1) (he : e ≠ .normal) : Ev P Γ N (.seq x y) s e s1
  | cond {c : Operand} {x y : Code} {s s1 : AS} {e : X} {b : Bool} (hc : look s.tm c = .val (.bool b)) (h : Ev P Γ N (if b then x else y) s e s1) : Ev P Γ N (.cond c x y) s e s1
  | block {id : Nat} {x : Code} {s s1 : AS} {e : X} (h : Ev P Γ N x s e s1) : Ev P Γ N (.block id x) s (e.out id) s1
  | loop {x : Code} {s s1 s2 : AS} {e : X} (h1 : Ev P Γ N x s .normal s1) (h2 : Ev P Γ N (.loop x) s1 e s2) : Ev P Γ N (.loop x) s e s2
  | loopX {x : Code} {s s1 : AS} {e : X} (h : Ev P Γ N x s e s1) (he : e ≠ .normal) : Ev P Γ N (.loop x) s e s1
  | exit (id : Nat) (s : AS) : Ev P Γ N (.exit id) s (.exit id) s
  | ret (s : AS) : Ev P Γ N .ret s .ret s
  | forget {x : Code} {s s1 s2 : AS} {e : X} (hf : s.forget s1) (h : Ev P Γ N x s1 e s2) : Ev P Γ N x s e s2

section
variable {P : Program} {Γ : Ctx} {io : IoS} {w0 : World} {N : Nat} {g : Gh} {s s' : AS} {a : Act} {w w' : World}

theorem Rel.forget (h : Rel io w0 N g s a w) (hf : s.forget s') : Rel io w0 N g s' a w := by
  have key : ∀ o c, s'.ob o = some c → s.ob o = some c := fun o c ho => by
    rcases hf.ob o with h1 | h1
    · rw [← h1]; exact ho
    · rw [h1] at ho; cases ho
  have keyS : ∀ o, (s'.ob o).isSome → (s.ob o).isSome := fun o ho => by
    obtain ⟨c, hc⟩ := Option.isSome_iff_exists.1 ho
    rw [key o c hc]; rfl
  refine ⟨h.nt, h.df, fun t => ?_, fun o c ho => h.ob o c (key o c ho), fun o o' ho ho' he => h.inj o o' (keyS o ho) (keyS o' ho') he, by rw [hf.nx]; exact h.nx, h.lt, h.new, h.fr, h.old, h.fix, h.hl, h.tab⟩
  rcases hf.tm t with h1 | h1
  · rw [h1]; exact h.tm t
  · rw [h1]; simp [Rep]

def LoopWp (P : Program) (c : Code) (Q : Exit → Act → World → Prop) (a : Act) (w : World) : Prop :=
  ∀ (b : Frame) (k : List Item) (cs : List Frame), ∃ e a' w', Q e a' w' ∧ Arrives P (lone (b.at a (.code c :: .inLoop c :: k)) cs w) b k cs e a' w'
theorem LoopWp.wp {c : Code} {Q : Exit → Act → World → Prop} (h : LoopWp P c Q a w) : (Code.loop c).wp P Q a w := fun b k cs => by
  obtain ⟨e, a', w', hq, harr⟩ := h b k cs
  exact ⟨e, a', w', hq, .of_steps (.one step_loop) harr⟩
theorem LoopWp.step {c : Code} {Q : Exit → Act → World → Prop} (h : c.wp P (Exit.then (fun a' w' => LoopWp P c Q a' w') Q) a w) : LoopWp P c Q a w := fun b k cs => by
  obtain ⟨e, a₁, w₁, hq, harr⟩ := h b (.inLoop c :: k) cs
  cases e with
  | normal =>
    obtain ⟨e₂, a₂, w₂, hq₂, harr₂⟩ := hq b k cs
    exact ⟨e₂, a₂, w₂, hq₂, .of_steps (Steps.trans harr (.one step_inLoop)) harr₂⟩
  | exit id => exact ⟨_, a₁, w₁, hq, .pass (x := .inLoop c) rfl (fun _ _ => .inl (by simp)) harr⟩
  | goto l => exact ⟨_, a₁, w₁, hq, .pass (x := .inLoop c) rfl (fun _ _ => .inl (by simp)) harr⟩
  | ret => exact ⟨_, a₁, w₁, hq, .pass (x := .inLoop c) rfl (fun _ _ => .inl (by simp)) harr⟩
  | panic ch => exact ⟨_, a₁, w₁, hq, .pass (x := .inLoop c) rfl (fun _ _ => .inl (by simp)) harr⟩
  | outgrown => exact ⟨_, a₁, w₁, hq, .pass (x := .inLoop c) rfl (fun _ _ => .inl (by simp)) harr⟩

def CWp (P : Program) (c : Code) (Q : Exit → Act → World → Prop) (a : Act) (w : World) : Prop :=
  match c with
  | .loop x => LoopWp P x Q a w
  | c => c.wp P Q a w
theorem CWp.wp {c : Code} {Q : Exit → Act → World → Prop} (h : CWp P c Q a w) : c.wp P Q a w := by
  cases c with
  | loop x => exact LoopWp.wp h
  | _ => exact h

theorem Ev.cwp (hΓ : SoundΓ P Γ) (hio : ∀ b, io b → b < w0.heap.size) {c : Code} {s : AS} {x : X} {s' : AS} (h : Ev P Γ N c s x s') : ∀ (g : Gh) (a : Act) (w : World) (Q : Exit → Act → World → Prop), Rel io w0 N g s a w →
    (∀ g' a' w', Rel io w0 N g' s' a' w' → Q x.toExit a' w') → CWp P c Q a w := by
  induction h with
  | skip s => exact fun g a w Q hr hq => wp_skip (hq g a w hr)
  | region imm hd he => exact fun g a w Q hr hq => region_ok hr hΓ hio hd he hq
  | draw imm hm hd hok he => exact fun g a w Q hr hq => draw_ok hm hr hΓ hio hd hok he hq
  | drawF imm hm hd hok hk ho hdst hg hz h1 he1 he2 => exact fun g a w Q hr hq => drawF_ok hm hr (fun q => by have := (hr.hl _ q).2; have := hr.nx; omega) hΓ hio hd hok hk ho hdst hg hz h1 he1 he2 hq
  | seq h1 h2 ih1 ih2 =>
    exact fun g a w Q hr hq => wp_seq (CWp.wp (ih1 g a w _ hr fun g' a' w' hr' => (ih2 g' a' w' Q hr' hq).wp))
  | seqX h1 he ih =>
    rename_i e
    exact fun g a w Q hr hq => wp_seq (CWp.wp (ih g a w _ hr fun g' a' w' hr' => by
      cases e with
      | normal => exact absurd rfl he
      | exit id => exact hq g' a' w' hr'
      | ret => exact hq g' a' w' hr'))
  | cond hc h ih =>
    exact fun g a w Q hr hq => wp_cond (by have := hr.look _ |> fun q => (by rw [hc] at q; simpa [Rep] using q); exact this) (ih g a w Q hr hq).wp
  | block h ih =>
    rename_i id _ _ _ e
    exact fun g a w Q hr hq => wp_block (CWp.wp (ih g a w _ hr fun g' a' w' hr' => by
      have := hq g' a' w' hr'
      cases e with
      | normal => exact this
      | ret => exact this
      | exit id' =>
        simp only [X.toExit, Exit.inBlock, X.out] at this ⊢
        split
        · rename_i hid; simpa [hid] using this
        · rename_i hid; simpa [hid] using this))
  | loop h1 h2 ih1 ih2 =>
    exact fun g a w Q hr hq => LoopWp.step (CWp.wp (ih1 g a w _ hr fun g' a' w' hr' => ih2 g' a' w' Q hr' hq))
  | loopX h he ih =>
    rename_i e
    exact fun g a w Q hr hq => LoopWp.step (CWp.wp (ih g a w _ hr fun g' a' w' hr' => by
      cases e with
      | normal => exact absurd rfl he
      | exit id => exact hq g' a' w' hr'
      | ret => exact hq g' a' w' hr'))
  | exit id s => exact fun g a w Q hr hq => wp_exit (hq g a w hr)
  | ret s => exact fun g a w Q hr hq => wp_ret (hq g a w hr)
  | forget hf h ih => exact fun g a w Q hr hq => ih g a w Q (hr.forget hf) hq

/-- The results, where they stand. -/
def resPs (P : Program) (s : AS) : List ResultVar → Option (List PV)
  | [] => some []
  | .tmp t :: l => (resPs P s l).map (s.tm t :: ·)
  | .cell t ty :: l => match s.tm t with
    | .own o sz i f => match s.ob o with
      | some (_, sz', es) => if sz = sz' then
          match (es[i]?).bind (subP P ty f), resPs P s l with
          | some p, some ps => some (p :: ps)
          | _, _ => none
        else none
      | none => none
    | _ => none
def onePV : List PV → PV
  | [p] => p
  | ps => .tup ps
def initS (ps : List PV) : AS := { tm := fun t => (ps[t]?).getD (.val undef), ob := fun _ => none, nx := 0 }

def resF (tmps : Array Value) : ResultVar → Sem Value
  | .tmp t => pure (tmps.getD t undef)
  | .cell a t => do loadVar t (← asAddr (tmps.getD a undef))
theorem results_eq (fn : Func) (tmps : Array Value) : results fn tmps = (do let vs ← fn.results.mapM (resF tmps); pure (if h : vs.size = 1 then vs[0] else .tuple vs)) := by
  unfold results
  congr 1
theorem run_loadVar_of {t b c : Nat} {v : Value} (h : (Instr.loadAt t (.pointer (some ⟨b, c, none⟩))).run P w = .ok v w) : (loadVar t ⟨b, c, none⟩).run P w = .ok v w := by
  simpa [Instr.loadAt, Instr.sureAddr] using h

theorem res_ok (h : Rel io w0 N g s a w) : ∀ (l : List ResultVar) {ps : List PV}, resPs P s l = some ps →
    ∃ vs : List Value, (l.mapM (resF a.tmps)).run P w = .ok vs w ∧ RepL g w ps vs
  | [], ps, hr => by
    simp only [resPs, Option.some.injEq] at hr
    subst hr
    exact ⟨[], by simp, by simp [RepL]⟩
  | .tmp t :: l, ps, hr => by
    simp only [resPs, Option.map_eq_some_iff] at hr
    obtain ⟨qs, h1, rfl⟩ := hr
    obtain ⟨vs, h2, h3⟩ := res_ok h l h1
    refine ⟨a.tmps.getD t undef :: vs, ?_, ?_⟩
    · rw [List.mapM_cons, Sem.run_bind]
      simp only [resF, Sem.run_pure, Result.andThen_ok, Sem.run_bind]
      change ((l.mapM (resF a.tmps)).run P w).andThen _ = _
      rw [h2]
      rfl
    · simp only [RepL]
      exact ⟨_, _, rfl, h.tm t, h3⟩
  | .cell t ty :: l, ps, hr => by
    simp only [resPs] at hr
    split at hr
    · rename_i o sz i f ht
      split at hr
      · rename_i T sz' es ho
        split at hr
        case isFalse => cases hr
        case isTrue hs =>
          subst hs
          split at hr
          · rename_i p qs h1 h2
            cases hr
            obtain ⟨vs, h3, h4⟩ := res_ok h l h2
            rw [Option.bind_eq_some_iff] at h1
            obtain ⟨e, he, hsub⟩ := h1
            have hT := h.tm t
            rw [ht] at hT
            simp only [Rep] at hT
            obtain ⟨hT, _⟩ := hT
            obtain ⟨u, k1, k2, k3⟩ := (h.ob o _ ho).2.2.2.2.2.get he
            dsimp only at k2
            obtain ⟨v, k4, k5⟩ := run_loadAt_sub k1 k2 hsub
            rw [Nat.zero_add] at k4
            have k6 := run_loadVar_of k4
            refine ⟨v :: vs, ?_, ?_⟩
            · have e1 : (resF a.tmps (.cell t ty)).run P w = .ok v w := by
                simp only [resF, hT, asAddr, Sem.run_bind, Sem.run_pure, Result.andThen_ok, k6]
              rw [List.mapM_cons, Sem.run_bind, e1, Result.andThen_ok, Sem.run_bind, h3]
              rfl
            · simp only [RepL]
              exact ⟨_, _, rfl, k5, h4⟩
          · cases hr
      · cases hr
    · cases hr

theorem results_ok (h : Rel io w0 N g s a w) {fn : Func} {ps : List PV} (hr : resPs P s fn.results.toList = some ps) : ∃ v, (results fn a.tmps).run P w = .ok v w ∧ Rep g w (onePV ps) v := by
  obtain ⟨vs, h1, h2⟩ := res_ok h _ hr
  have hlen := h2.get.1
  refine ⟨if h : vs.toArray.size = 1 then vs.toArray[0] else .tuple vs.toArray, ?_, ?_⟩
  · rw [results_eq, Sem.run_bind, Array.mapM_eq_mapM_toList, Sem.run_map, h1]
    rfl
  · cases ps with
    | nil =>
      have : vs = [] := List.eq_nil_of_length_eq_zero (by simpa using hlen)
      subst this
      simp only [onePV, Rep]
      exact ⟨#[], by simp, h2⟩
    | cons p qs =>
      cases qs with
      | nil =>
        simp only [RepL] at h2
        obtain ⟨v, vs', rfl, h3, rfl⟩ := h2
        simpa [onePV] using h3
      | cons q qs =>
        have hl : ¬ vs.length = 1 := by rw [hlen]; simp
        simp only [onePV, Rep]
        exact ⟨vs.toArray, by simp [hl], by simpa using h2⟩

theorem sound_of_ev {f : Nat} {fn : Func} {c : Code} {φ : Fun} (hΓ : SoundΓ P Γ) (hf : P.funcs[f]? = some fn) (hb : fn.body = some c)
    (hlen : ∀ ps r, φ ps = some r → ps.length ≤ fn.ntmps)
    (h : ∀ ps r, φ ps = some r → ∃ x s' qs, Ev P Γ fn.ntmps c (initS ps) x s' ∧ (x = .normal ∨ x = .ret) ∧ resPs P s' fn.results.toList = some qs ∧ reify true 0 s'.ob fuel (onePV qs) = some r) : Sound P f φ := by
  intro w J ps args r hr hJ hT hargs
  obtain ⟨x, s', qs, hev, hx, hres, hreify⟩ := h ps r hr
  have hsz : args.size = ps.length := by simpa using hargs.get.1
  have hle := hlen ps r hr
  have hinit : Rel ⟨fun _ => False, J, 0, fun _ => 0, fun _ => 0, fun _ => False, fun _ => False⟩ w fn.ntmps (argG J) (initS ps) { tmps := args ++ Array.replicate (fn.ntmps - args.size) undef, defers := [] } w := by
    refine ⟨by simp; omega, rfl, fun t => ?_, fun o c ho => (by cases ho), fun o o' ho => (by cases ho), rfl, fun k b hi => hJ b hi.2, fun b hi => (by cases hi.1), Fr.refl _ _, fun b hi => hi.2, ⟨fun o ho => (Nat.not_lt_zero o ho).elim, fun o ho => (Nat.not_lt_zero o ho).elim⟩, fun o ho => False.elim ho, hT⟩
    simp only [initS]
    cases hp : ps[t]? with
    | none =>
      have hge : ps.length ≤ t := by simpa using hp
      have : (args ++ Array.replicate (fn.ntmps - args.size) undef).getD t undef = undef := by
        simp only [Array.getD_eq_getD_getElem?]
        rw [Array.getElem?_append_right (by omega)]
        simp only [Array.getElem?_replicate]
        split <;> rfl
      rw [this]
      simp [Rep]
    | some p =>
      obtain ⟨v, hv, hrep⟩ := hargs.get.2 t p hp
      have hlt : t < args.size := by have := (List.getElem?_eq_some_iff.1 hp).1; omega
      have : (args ++ Array.replicate (fn.ntmps - args.size) undef).getD t undef = v := by
        simp only [Array.getD_eq_getD_getElem?]
        rw [Array.getElem?_append_left hlt]
        have : args[t]? = some v := by simpa using hv
        simp [this]
      rw [this]
      exact hrep
  refine calls_of_wp hf hb (CWp.wp (hev.cwp hΓ (fun b hb => False.elim hb) _ _ _ _ hinit fun g' a' w' hrel => ?_))
  have hend : a'.defers = [] ∧ ∃ v, (results fn a'.tmps).run P w' = .ok v w' ∧ ((∃ v', Ending.returned v = .returned v' ∧ Below w.heap.size w w' ∧ ∀ g'' : Gh, (∀ b, w.heap.size ≤ b → b < w'.heap.size → g''.I true b) → Rep g'' w' r v')) := by
    obtain ⟨v, h1, h2⟩ := results_ok hrel hres
    refine ⟨hrel.df, v, h1, v, rfl, ⟨hrel.fr.os, hrel.fr.tape, hrel.fr.output, hrel.fr.size, fun b hb => hrel.fr.block b hb id⟩, fun g'' hg => ?_⟩
    refine Rep.seen (fun o c ho => (hrel.ob o c ho).2.2.2) ⟨fun hh => (by cases hh), fun _ => ⟨fun b hb => hg b ((hrel.new b hb).resolve_right id).1 (hrel.lt true b hb), fun o ho _ => ?_⟩⟩ fuel _ _ _ h2 hreify
    obtain ⟨c, hc⟩ := Option.isSome_iff_exists.1 ho
    obtain ⟨_, k2, _, ⟨arr, k3, _⟩, _⟩ := hrel.ob o c hc
    exact hg _ (k2.resolve_right id) (lt_of_heap k3)
  rcases hx with rfl | rfl <;> exact hend
end
end Go.Proofs.YtenldjifipnjpaaDoor
