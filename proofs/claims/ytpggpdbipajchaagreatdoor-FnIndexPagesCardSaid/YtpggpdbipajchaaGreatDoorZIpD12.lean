/- What the proof rests on, part 12: contracts of functions. No condition beyond what each states. -/
import Derived.Test.YtpggpdbipajchaaGreatDoorZIpD11
namespace Go.Proofs.YtpggpdbipajchaaGreatDoor
open Go.RowKit
set_option linter.all false
theorem repL_toVals {g : Gh} {w : World} : ∀ {cs : List PV} {vs : List Value}, toVals cs = some vs → RepL g w cs vs
  | [], vs, h => by simp only [toVals, Option.some.injEq] at h; subst h; simp [RepL]
  | .val v :: cs, vs, h => by
    simp only [toVals, Option.map_eq_some_iff] at h
    obtain ⟨us, h1, rfl⟩ := h
    simp only [RepL]
    exact ⟨v, us, rfl, by simp [Rep], repL_toVals h1⟩
  | .dead :: _, _, h | .lst .. :: _, _, h | .ptr .. :: _, _, h | .own .. :: _, _, h | .row .. :: _, _, h | .agg _ :: _, _, h | .tup _ :: _, _, h => by simp [toVals] at h
theorem rep_toVal {g : Gh} {w : World} {p : PV} {v : Value} (h : toVal p = some v) : Rep g w p v := by
  cases p with
  | val u => simp only [toVal, Option.some.injEq] at h; subst h; simp [Rep]
  | agg cs =>
    simp only [toVal, Option.map_eq_some_iff] at h
    obtain ⟨vs, h1, rfl⟩ := h
    simp only [Rep]
    exact ⟨_, rfl, by simpa using repL_toVals h1⟩
  | _ => simp [toVal] at h
noncomputable def ansOne (c0 : Bool) (k0 : Value) (p : PV) : Value → Bool → Option PV := open Classical in fun key c => if key = k0 ∧ c = c0 then some p else none
theorem ansOne_some {c0 c : Bool} {k0 key : Value} {p q : PV} (h : ansOne c0 k0 p key c = some q) : key = k0 ∧ c = c0 ∧ q = p := by
  unfold ansOne at h
  split at h
  · rename_i hc; cases h; exact ⟨hc.1, hc.2, rfl⟩
  · cases h
theorem lk_one {Γ : Ctx} {t b : Nat} {c : Bool} {k0 : Value} {p : PV} : lkP (Γ.see ⟨t, b, ansOne c k0 p⟩).mp t (.val (.map (some b))) (some k0) c = some p := by
  simp [Ctx.see, lkP, ansOne]
section
variable {P : Program} {k : TypeId} {N B : Nat} {w00 : World} {Γ : Ctx} {imm : Md} {ops : Array Oper} {io : IoS} {w0 : World}
theorem evL_pre {l2 : List Oper} : ∀ (l : List Oper) (j : Nat) (s : AS), ops.toList.drop j = l ++ l2 → evL P Γ imm ops (List.range' j l.length) s = evSeq P Γ imm ops l s
  | [], j, s, hl => rfl
  | o :: l, j, s, hl => by
    have hk : ops[j]? = some o := by
      have := congrArg (·[0]?) hl
      simpa using this
    have hl' : ops.toList.drop (j + 1) = l ++ l2 := by
      rw [← List.drop_drop, hl]
      rfl
    simp only [List.length_cons, List.range'_succ, evL, hk, evSeq]
    cases evOp P Γ imm ops o s with
    | none => rfl
    | some s' => exact evL_pre l (j + 1) s' hl'
theorem any_done {Q : Exit → Act → World → Prop} {a : Act} {w : World} {listed : Array Bool} (h : ∀ i, i < ops.size → listed.getD i true = true) (hQ : Q .normal a w) : ∀ fuel, wpAny P .any ops Q fuel listed a w := by
  have hnil : Region.ready .any ops listed = [] := by
    cases hr : Region.ready .any ops listed with
    | nil => rfl
    | cons i l =>
      have hm : i ∈ Region.ready .any ops listed := by rw [hr]; simp
      rw [mem_ready] at hm
      obtain ⟨h1, o, h2, _⟩ := hm
      rw [h i (Array.getElem?_eq_some_iff.1 h2).1] at h1
      cases h1
  intro fuel
  cases fuel with
  | zero => exact ⟨hnil, hQ⟩
  | succ fuel => exact ⟨fun _ => hQ, fun i hi => by rw [hnil] at hi; cases hi⟩
variable {c : Code} {K : X → AS → Sg → Prop} {J : AS → Sg → Prop} {s : AS} {σ : Sg} {b : Nat} {L : VL}
inductive Upd (L : VL) (key val : Value) : VL → Prop
  | new (h : ∀ p ∈ L, p.1 ≠ key) : Upd L key val (L ++ [(key, val)])
  | old {L1 L2 : VL} {v0 : Value} (h : L = L1 ++ (key, v0) :: L2) : Upd L key val (L1 ++ (key, val) :: L2)
theorem MapL.upd {t e : TypeId} {w : World} {key val : Value} {kl : Lit} (h : MapL P k w b L) (Ky : Go.Maps.Keyed P k) (ht : P.underlying t = some (.map k e)) (hkey : keyOf P k key = some kl) :
    ∃ w' L', (Instr.mapUpdate t (.map (some b)) key val).run P w = .ok () w' ∧ MapL P k w' b L' ∧ w.grownBy w' (some b) ∧ Upd L key val L' := by
  by_cases hm : ∃ v0, (key, v0) ∈ L
  · obtain ⟨v0, hm⟩ := hm
    obtain ⟨L1, L2, rfl⟩ := List.append_of_mem hm
    obtain ⟨w', q1, q2, q3, _⟩ := h.upd_old (v := val) Ky ht hkey
    exact ⟨w', _, q1, q2, q3, .old rfl⟩
  · have hm' : ∀ p ∈ L, p.1 ≠ key := fun p hp e1 => hm ⟨p.2, by rw [← e1]; exact hp⟩
    obtain ⟨w', q1, q2, q3, _⟩ := h.upd_new (v := val) Ky ht hkey hm'
    exact ⟨w', _, q1, q2, q3, .new hm'⟩
theorem upd_wp {o : Oper} {t e : TypeId} {x y z : Operand} {key val : Value} {kl : Lit} (Ky : Go.Maps.Keyed P k) (ht : P.underlying t = some (.map k e)) (ho : o.op = .mapUpdate t x y z) (hdst : o.dst = none) (hx : look s.tm x = .val (.map (some b))) (hy : toVal (look s.tm y) = some key) (hz : toVal (look s.tm z) = some val) (hkey : keyOf P k key = some kl)
    {a : Act} {w : World} (hs : St P k N B w00 s (some (b, L)) a w) {Kn : Act → World → Prop} {Q : Exit → Act → World → Prop} (hK : ∀ L' w', St P k N B w00 s (some (b, L')) a w' → Upd L key val L' → Kn a w') : o.wp P a w Kn Q := by
  have hs0 := hs
  obtain ⟨⟨io, w0, g, hr, hC⟩, hM⟩ := hs
  have ex := hr.look x
  rw [hx] at ex
  simp only [Rep] at ex
  have ey := toVal_rep (hr.look y) hy
  have ez := toVal_rep (hr.look z) hz
  obtain ⟨w', L', q1, q2, q3, q4⟩ := (hM _ _ rfl).upd (val := val) Ky ht hkey
  have hrun : (execOp a.eval o).run P w = .ok .skip w' := by
    unfold execOp
    simp only [ho, ex, ey, ez, Sem.run_bind, q1, Result.andThen_ok, Sem.run_pure]
  unfold Oper.wp
  rw [hrun, Oper.upon_skip, hdst]
  exact hK L' w' (hs0.rebase q3 q2) q4
theorem HO.upd {o : Oper} {j : Nat} {l : List Oper} {t e : TypeId} {x y z : Operand} {key val : Value} {kl : Lit} (Ky : Go.Maps.Keyed P k) (ht : P.underlying t = some (.map k e)) (ho : o.op = .mapUpdate t x y z) (hdst : o.dst = none) (hg : o.guard = none) (hx : look s.tm x = .val (.map (some b))) (hy : toVal (look s.tm y) = some key) (hz : toVal (look s.tm z) = some val) (hkey : keyOf P k key = some kl)
    (h : ∀ L', Upd L key val L' → HO P k N B w00 ops (j + 1) l J s (some (b, L'))) : HO P k N B w00 ops j (o :: l) J s (some (b, L)) :=
  HO.one hg fun a w hs Kn Q hK => upd_wp Ky ht ho hdst hx hy hz hkey hs fun L' w' hs' hu => hK s _ a w' hs' (h L' hu)
theorem HY.cut {Lf : List (Nat × PV)} {O : List (Nat × Nat × Nat × List PV)} {x : Nat} (h1 : agree s.tm Lf) (h2 : agreeO s.ob O) (h3 : s.nx = x) (h : HY P k N B w00 c K ⟨lk Lf, lo O, x⟩ σ) : HY P k N B w00 c K s σ :=
  HY.forget (s' := mkS Lf O x) (forget_mk (agree_all h1) (agreeO_all h2) h3) h
theorem HY.loopA {α : Type} (Lf : α → List (Nat × PV)) (O : α → List (Nat × Nat × Nat × List PV)) (XX : α → Nat) (I : α → Sg → Prop) (μ : α → Nat) (i : α) (hi : I i σ) (h1 : agree s.tm (Lf i)) (h2 : agreeO s.ob (O i)) (h3 : s.nx = XX i)
    (h : ∀ i σ, I i σ → HY P k N B w00 c (fun x s' σ' => match x with | .normal => ∃ j, I j σ' ∧ μ j < μ i ∧ agree s'.tm (Lf j) ∧ agreeO s'.ob (O j) ∧ s'.nx = XX j | .exit id => K (.exit id) s' σ' | .ret => K .ret s' σ') ⟨lk (Lf i), lo (O i), XX i⟩ σ) : HY P k N B w00 (.loop c) K s σ := by
  refine HY.loop (fun i => mkS (Lf i) (O i) (XX i)) I μ i hi (forget_mk (agree_all h1) (agreeO_all h2) h3) fun i σ hi => ⟨fun a w hs Q hQ => (h i σ hi).go a w hs Q fun x s' σ' a' w' hs' hk => hQ x s' σ' a' w' hs' ?_⟩
  cases x with
  | normal =>
    obtain ⟨j, k1, k2, k3, k4, k5⟩ := hk
    exact ⟨j, k1, k2, forget_mk (agree_all k3) (agreeO_all k4) k5⟩
  | exit id => exact hk
  | ret => exact hk
theorem HY.start {ps : List PV} (h : HY P k N B w00 c K ⟨(initS ps).tm, fun _ => none, 0⟩ σ) : HY P k N B w00 c K (initS ps) σ := h
theorem initRel {fn : Func} {ps : List PV} {args : Array Value} {w : World} {Jm : Nat → Prop} (hJ : ∀ b, Jm b → b < w.heap.size) (hT : TabF w (fun _ => False)) (hargs : RepL (argG Jm) w ps args.toList) (hle : ps.length ≤ fn.ntmps) :
    Rel ⟨fun _ => False, Jm, 0, fun _ => 0, fun _ => 0, fun _ => False, fun _ => False⟩ w fn.ntmps (argG Jm) (initS ps) { tmps := args ++ Array.replicate (fn.ntmps - args.size) undef, defers := [] } w := by
  have hsz : args.size = ps.length := by simpa using hargs.get.1
  refine ⟨by simp; omega, rfl, fun t => ?_, fun o c ho => (by cases ho), fun o o' ho => (by cases ho), rfl, fun k b hi => hJ b hi.2, fun b hi => (by cases hi.1), Fr.refl _ _, fun b hi => hi.2, ⟨fun o ho => (Nat.not_lt_zero o ho).elim, fun o ho => (Nat.not_lt_zero o ho).elim⟩, fun o ho => False.elim ho, hT⟩
  simp only [initS]
  cases hp : ps[t]? with
  | none =>
    have hge : ps.length ≤ t := by simpa using hp
    have : (args ++ Array.replicate (fn.ntmps - args.size) undef).getD t undef = undef := by
      simp only [Array.getD_eq_getD_getElem?]
      rw [Array.getElem?_append_right (by omega)]
      simp only [Array.getElem?_replicate]
      split <;> rfl
    rw [this]
    simp [Rep]
  | some p =>
    obtain ⟨v, hv, hrep⟩ := hargs.get.2 t p hp
    have hlt : t < args.size := by have := (List.getElem?_eq_some_iff.1 hp).1; omega
    have : (args ++ Array.replicate (fn.ntmps - args.size) undef).getD t undef = v := by
      simp only [Array.getD_eq_getD_getElem?]
      rw [Array.getElem?_append_left hlt]
      have : args[t]? = some v := by simpa using hv
      simp [this]
    rw [this]
    exact hrep
theorem tks_lt {w : World} {io : Nat → Prop} (hT : TabF w io) : ∀ t ∈ tks, t < w.heap.size := fun t ht => hT.lt t ht
theorem HY.calls {f : Nat} {fn : Func} {rs : List ResultVar} {ps : List PV} {args : Array Value} {w : World} {Jm : Nat → Prop} {R : PV → VL → Prop} (hf : P.funcs[f]? = some fn) (hb : fn.body = some c) (hN : fn.ntmps = N) (hrs : fn.results.toList = rs) (hlen : ps.length ≤ N)
    (hJ : ∀ i, Jm i → i < w.heap.size ∧ i ≠ b) (hargs : RepL (argG Jm) w ps args.toList) (hM : MapL P k w b L) (hT : TabF w (fun i => i = b))
    (h : HY P k N w.heap.size w c (fun x s' σ' => (x = .normal ∨ x = .ret) ∧ ∃ p v L', ((resPs P s' rs).map onePV) = some p ∧ toVal p = some v ∧ σ' = some (b, L') ∧ R p L') (initS ps) (some (b, L))) :
    Calls P f args w fun e w' => ∃ p v L', e = .returned v ∧ (∀ (g : Gh) (w : World), Rep g w p v) ∧ w.grownBy w' (some b) ∧ MapL P k w' b L' ∧ R p L' := by
  subst hN hrs
  have hb1 : ∀ i, i ≠ b → some i ≠ some b := fun i h e => h (by cases e; rfl)
  refine calls_of_wp hf hb (CWp.wp (h.go _ _ ⟨⟨_, w, _, initRel (fun i hi => (hJ i hi).1) (hT.io fun _ _ q => q) hargs hlen, ⟨fun i hi => ?_, fun i hi => ?_, fun i hi => False.elim hi, fun b' e => ?_, Nat.le_refl _, Fr.refl _ _, fun t ht => ⟨tks_lt hT t ht, hb1 _ (hT.apart t ht)⟩⟩⟩, fun b' L2 e => ?_⟩ _ fun x s' σ' a' w' hs' hk => ?_))
  · rcases hi with hi | hi | hi
    · exact False.elim hi
    · exact hb1 _ (hJ i hi).2
    · exact False.elim hi
  · rcases hi with hi | hi <;> exact False.elim hi
  · cases e; exact hM.lt
  · cases e; exact hM
  · obtain ⟨hx, p, v, L', h1, h2, rfl, h3⟩ := hk
    obtain ⟨⟨io, w0, g, hr, hC⟩, hM'⟩ := hs'
    rw [Option.map_eq_some_iff] at h1
    obtain ⟨qs, h1, rfl⟩ := h1
    obtain ⟨u, e1, e2⟩ := results_ok hr h1
    have huv := toVal_rep e2 h2
    have hpv : ∀ (g : Gh) (w : World), Rep g w (onePV qs) v := fun g w => rep_toVal h2
    have hgr : w.grownBy w' (some b) := by
      have hf1 : Fr (fun i => some i = some b ∨ w.heap.size ≤ i) w0 w' := ⟨hr.fr.os, hr.fr.tape, hr.fr.output, hr.fr.size, fun i hi hn => hr.fr.block i hi fun q => hn (.inr (hC.lo i (.inl q)))⟩
      refine ⟨hf1.os.trans hC.fr.os, hf1.tape.trans hC.fr.tape, hf1.output.trans hC.fr.output, Nat.le_trans hC.fr.size hf1.size, fun i hi hn => ?_⟩
      have hn' : ¬ (some i = some b ∨ w.heap.size ≤ i) := fun q => q.elim hn fun q => by omega
      exact (hf1.block i (Nat.lt_of_lt_of_le hi hC.fr.size) hn').trans (hC.fr.block i hi hn')
    have hend : a'.defers = [] ∧ ∃ v, (results fn a'.tmps).run P w' = .ok v w' ∧ ∃ p u L', Ending.returned v = .returned u ∧ (∀ (g : Gh) (w : World), Rep g w p u) ∧ w.grownBy w' (some b) ∧ MapL P k w' b L' ∧ R p L' :=
      ⟨hr.df, u, e1, onePV qs, u, L', rfl, huv ▸ hpv, hgr, hM' _ _ rfl, h3⟩
    rcases hx with rfl | rfl <;> exact hend
end
end Go.Proofs.YtpggpdbipajchaaGreatDoor
namespace Go.Proofs.YtpggpdbipajchaaGreatDoor
open Go.RowKit
set_option linter.all false
section
variable {P : Program} {Γ : Ctx} {imm : Md} {ops : Array Oper} {N B : Nat} {w00 : World}
def pairsOk (Γ : Ctx) (imm : Md) (ops : Array Oper) (n : Nat) : Bool := (List.range n).all fun j => (List.range j).all fun i => indepAt Γ imm ops i j || ordB ops ops.size i j
def edgesOk (ops : Array Oper) : Bool := (List.range ops.size).all fun j => match ops[j]? with | some o => o.after.all (fun e => !Region.binds .any e || decide (e.on < j)) | none => true
theorem pairs_at {n : Nat} (h : pairsOk Γ imm ops n = true) {i j : Nat} (hj : j < n) (hi : i < j) : indepAt Γ imm ops i j = true ∨ ordB ops ops.size i j = true := by
  have h1 := List.all_eq_true.1 (List.all_eq_true.1 h j (List.mem_range.2 hj)) i (List.mem_range.2 hi)
  simpa [Bool.or_eq_true] using h1
theorem edges_at (h : edgesOk ops = true) {j : Nat} {o : Oper} (ho : ops[j]? = some o) : ∀ e ∈ o.after, Region.binds .any e = true → e.on < j := fun e he hb => by
  have hlt := (Array.getElem?_eq_some_iff.1 ho).1
  have h1 := List.all_eq_true.1 h j (List.mem_range.2 hlt)
  rw [ho] at h1
  dsimp only at h1
  have h2 := (Array.all_eq_true_iff_forall_mem.1 h1) e he
  simpa [hb] using h2
theorem any_rest {io : IoS} {w0 : World} (hΓ : SoundW P Γ io.wr w0) (hio : ∀ b, io b → b < w0.heap.size) (hd : ops.all (dstOk N) = true) {n : Nat} (hn : ops.size = n + 2) (hp : pairsOk Γ imm ops n = true) (hed : edgesOk ops = true) (hlast : ∀ i, i < n + 1 → ordB ops ops.size i (n + 1) = true) {Q : Exit → Act → World → Prop} {s' : AS}
    (hQ : ∀ g' a' w', Rel io w0 N g' s' a' w' → wpOp P ops Q (n + 1) (Q .normal) a' w') :
    ∀ (fuel : Nat) (listed : Array Bool) (rem : List Nat) (g : Gh) (s : AS) (a : Act) (w : World), rem.length + 1 ≤ fuel → listed.size = ops.size → (∀ i, i ∈ rem ↔ i < n ∧ listed.getD i true = false) → listed.getD n false = true → listed.getD (n + 1) true = false → rem.Pairwise (· < ·) →
      (∀ j o, ops[j]? = some o → listed.getD j true = true → ∀ e ∈ o.after, Region.binds .any e = true → listed.getD e.on false = true) →
      Rel io w0 N g s a w → evL P Γ imm ops rem s = some s' → wpAny P .any ops Q fuel listed a w := by
  intro fuel
  induction fuel with
  | zero => intro listed rem g s a w hlen; omega
  | succ fuel ih =>
    intro listed rem g s a w hlen hsz hrem hA hln hpw hcl h he
    have hl' : ∀ x, x < n + 1 → ¬ x ∈ rem → listed.getD x false = true := fun x hx hm => by
      by_cases hxn : x = n
      · rw [hxn]; exact hA
      · rw [hrem] at hm
        have hlt' : x < listed.size := by omega
        have : listed.getD x true ≠ false := fun h0 => hm ⟨by omega, h0⟩
        simp [hlt'] at this ⊢
        exact this
    have hne : Region.ready .any ops listed ≠ [] := by
      intro hnil
      cases rem with
      | nil =>
        have : n + 1 ∈ Region.ready .any ops listed := by
          rw [mem_ready]
          refine ⟨hln, ops[n + 1], Array.getElem?_eq_getElem (by omega), fun e he hb => ?_⟩
          exact hl' _ (edges_at hed (Array.getElem?_eq_getElem (by omega)) e he hb) (by simp)
        rw [hnil] at this
        cases this
      | cons i0 q =>
        obtain ⟨hi1, hi2⟩ := (hrem i0).1 (by simp)
        have : i0 ∈ Region.ready .any ops listed := by
          rw [mem_ready]
          refine ⟨hi2, ops[i0], Array.getElem?_eq_getElem (by omega), fun e he hb => ?_⟩
          have hlt := edges_at hed (Array.getElem?_eq_getElem (by omega)) e he hb
          refine hl' _ (by omega) fun hm => ?_
          rcases List.mem_cons.1 hm with hm | hm
          · omega
          · have := (List.pairwise_cons.1 hpw).1 _ hm
            omega
        rw [hnil] at this
        cases this
    refine ⟨fun hr => absurd hr hne, fun i hi => ?_⟩
    rw [mem_ready] at hi
    obtain ⟨h1, o, h2, h3⟩ := hi
    have hilt := (Array.getElem?_eq_some_iff.1 h2).1
    by_cases hin : i = n + 1
    · subst hin
      have hnil : rem = [] := by
        cases rem with
        | nil => rfl
        | cons i0 q =>
          exfalso
          obtain ⟨hi1, hi2⟩ := (hrem i0).1 (by simp)
          have hxl := ord_listed hcl _ _ _ (hlast i0 (by omega)) (fun o' ho' e he hb => by rw [h2] at ho'; cases ho'; exact h3 e he hb)
          have hlt : i0 < listed.size := by omega
          simp [hlt] at hi2 hxl
          rw [hi2] at hxl
          cases hxl
      subst hnil
      simp only [evL, Option.some.injEq] at he
      subst he
      refine wpOp_mono (fun a' w' hq => ?_) (hQ g a w h)
      refine any_done (fun x hx => ?_) hq fuel
      by_cases hxi : x = n + 1
      · subst hxi
        have hlt : n + 1 < listed.size := by omega
        simp [hlt]
      · rw [getD_set_ne true (fun e => hxi e.symm)]
        have := hl' x (by omega) (by simp)
        have hlt : x < listed.size := by omega
        simp [hlt] at this ⊢
        exact this
    · have hin2 : i ≠ n := fun e => by
        subst e
        have hlt : i < listed.size := by omega
        simp [hlt] at hA h1
        rw [hA] at h1
        cases h1
      have hmem := (hrem i).2 ⟨by omega, h1⟩
      obtain ⟨p, q, rfl⟩ := List.append_of_mem hmem
      have hpi : ∀ x ∈ p, indepAt Γ imm ops x i = true := fun x hx => by
        have hxi : x < i := by
          rw [List.pairwise_append] at hpw
          exact hpw.2.2 x hx i (by simp)
        rcases (pairs_at hp (show i < n by omega) hxi).symm with ho | ho
        · exfalso
          have hxl := ord_listed hcl _ _ _ ho (fun o' ho' e he hb => by rw [h2] at ho'; cases ho'; exact h3 e he hb)
          have := ((hrem x).1 (by simp [hx])).2
          have hlt : x < listed.size := by have := ((hrem x).1 (by simp [hx])).1; omega
          simp [hlt] at this hxl
          rw [this] at hxl
          cases hxl
        · exact ho
      have hfr := evL_front hpi he
      rw [evL_cons, h2] at hfr
      dsimp only at hfr
      split at hfr
      · rename_i s1 hs1
        have hdo : dstOk N o = true := (Array.all_eq_true_iff_forall_mem.1 hd) o (Array.mem_of_getElem? h2)
        refine op_ok h hΓ hio hdo hs1 h2 fun g' a' w' hr => ih _ (p ++ q) g' s1 a' w' (by simp at hlen ⊢; omega) (by simpa using hsz) (fun j => ?_) ?_ ?_ ?_ ?_ hr hfr
        · by_cases hji : j = i
          · subst hji
            have hnp : j ∉ p ++ q := by
              rw [List.pairwise_append] at hpw
              intro hm
              rcases List.mem_append.1 hm with hm | hm
              · have := hpw.2.2 j hm j (by simp)
                omega
              · have := (List.pairwise_cons.1 hpw.2.1).1 j hm
                omega
            constructor
            · intro hm; exact absurd hm hnp
            · rintro ⟨_, hf⟩
              have hlt : j < listed.size := by omega
              simp [hlt] at hf
          · rw [getD_set_ne true (fun e => hji e.symm), ← hrem j]
            simp [hji]
        · exact getD_set_true hA
        · rw [getD_set_ne true hin]
          exact hln
        · rw [List.pairwise_append] at hpw ⊢
          exact ⟨hpw.1, (List.pairwise_cons.1 hpw.2.1).2, fun x hx y hy => hpw.2.2 x hx y (by simp [hy])⟩
        · intro j o' ho' hl e he hb
          by_cases hji : j = i
          · subst hji
            rw [h2] at ho'
            cases ho'
            exact getD_set_true (h3 e he hb)
          · rw [getD_set_ne true (fun e => hji e.symm)] at hl
            exact getD_set_true (hcl j o' ho' hl e he hb)
      · cases hfr
def freeB (Γ : Ctx) (imm : Md) (ops : Array Oper) (xs : List Nat) (i : Nat) : Bool := match ops[i]? with | some o => !isEff Γ imm o && (match o.dst with | some d => !xs.contains d | none => true) | none => true
theorem evOp_free {o : Oper} {s s1 : AS} (h : isEff Γ imm o = false) (he : evOp P Γ imm ops o s = some s1) : s1.ob = s.ob ∧ s1.nx = s.nx ∧ ∀ t, o.dst ≠ some t → s1.tm t = s.tm t := by
  have key : ∀ p, s1 = s.put o.dst p → s1.ob = s.ob ∧ s1.nx = s.nx ∧ ∀ t, o.dst ≠ some t → s1.tm t = s.tm t := fun p e => by
    subst e
    exact ⟨put_ob.1, put_ob.2, fun t ht => put_tm_ne ht⟩
  unfold evOp at he
  split at he
  · unfold evDo at he
    rw [h] at he
    simp only [Bool.false_eq_true, if_false, Option.map_eq_some_iff] at he
    obtain ⟨p, -, rfl⟩ := he
    exact key p rfl
  · cases he
    exact key _ rfl
  · cases he
theorem evL_free {xs : List Nat} : ∀ {rem : List Nat} {s s' : AS}, (∀ x ∈ rem, freeB Γ imm ops xs x = true) → evL P Γ imm ops rem s = some s' → s'.ob = s.ob ∧ s'.nx = s.nx ∧ ∀ t ∈ xs, s'.tm t = s.tm t
  | [], s, s', _, h => by simp only [evL, Option.some.injEq] at h; subst h; exact ⟨rfl, rfl, fun _ _ => rfl⟩
  | i :: rem, s, s', hf, h => by
    rw [evL_cons] at h
    have h0 := hf i (by simp)
    have ht := fun x hx => hf x (List.mem_cons_of_mem _ hx)
    unfold freeB at h0
    cases ho : ops[i]? with
    | none =>
      rw [ho] at h
      exact evL_free ht h
    | some o =>
      rw [ho] at h h0
      dsimp only at h h0
      split at h
      · rename_i s1 hs1
        simp only [Bool.and_eq_true, Bool.not_eq_true'] at h0
        obtain ⟨k1, k2, k3⟩ := evOp_free h0.1 hs1
        obtain ⟨j1, j2, j3⟩ := evL_free ht h
        refine ⟨j1.trans k1, j2.trans k2, fun t hx => (j3 t hx).trans (k3 t fun e => ?_)⟩
        have := h0.2
        rw [e] at this
        simp [hx] at this
      · cases h
def surr (d : Nat) (v : Value) : Oper := { dst := some d, op := .move (.const v), type := 0, pos := "", after := #[], guard := none }
theorem evL_set {i n : Nat} {o : Oper} (hn : n < ops.size) : ∀ {rem : List Nat} {s : AS}, (∀ x ∈ rem, x < n) → (∀ x ∈ rem, ∀ o', ops[x]? = some o' → o'.guard = none) → evL P Γ imm (ops.setIfInBounds n o) rem s = evL P Γ imm ops rem s
  | [], _, _, _ => rfl
  | x :: rem, s, h, hg => by
    rw [evL_cons, evL_cons]
    have hx := h x (by simp)
    have e : (ops.setIfInBounds n o)[x]? = ops[x]? := by
      rw [Array.getElem?_setIfInBounds, if_neg (by omega)]
    rw [e]
    cases ho : ops[x]? with
    | none => exact evL_set (i := i) hn (fun y hy => h y (by simp [hy])) fun y hy => hg y (by simp [hy])
    | some o' =>
      dsimp only
      have hgd := hg x (by simp) o' ho
      have e2 : evOp P Γ imm (ops.setIfInBounds n o) o' s = evOp P Γ imm ops o' s := by
        unfold evOp evGuard
        rw [hgd]
      rw [e2]
      cases evOp P Γ imm ops o' s with
      | none => rfl
      | some s1 => exact evL_set (i := i) hn (fun y hy => h y (by simp [hy])) fun y hy => hg y (by simp [hy])
theorem evL_snoc {n : Nat} {o : Oper} (hn : ops[n]? = some o) : ∀ {rem : List Nat} {s s1 s2 : AS}, evL P Γ imm ops rem s = some s1 → evOp P Γ imm ops o s1 = some s2 → evL P Γ imm ops (rem ++ [n]) s = some s2
  | [], s, s1, s2, h, h2 => by
    simp only [evL, Option.some.injEq] at h
    subst h
    rw [List.nil_append, evL_cons, hn]
    dsimp only
    rw [h2]
    rfl
  | x :: rem, s, s1, s2, h, h2 => by
    rw [List.cons_append, evL_cons]
    rw [evL_cons] at h
    cases ho : ops[x]? with
    | none => rw [ho] at h; exact evL_snoc hn h h2
    | some o' =>
      rw [ho] at h
      dsimp only at h ⊢
      cases he : evOp P Γ imm ops o' s with
      | none => rw [he] at h; cases h
      | some s3 => rw [he] at h; exact evL_snoc hn h h2
theorem evL_early {n d : Nat} {v : Value} (hn : n < ops.size) {rem : List Nat} {s s1 : AS} (hlt : ∀ x ∈ rem, x < n) (hg : ∀ x ∈ rem, ∀ o', ops[x]? = some o' → o'.guard = none) (hi : ∀ x ∈ rem, indepAt Γ imm (ops.setIfInBounds n (surr d v)) x n = true) (h : evL P Γ imm ops rem s = some s1) : evL P Γ imm ops rem (s.put (some d) (.val v)) = some (s1.put (some d) (.val v)) := by
  have hs : ∀ s : AS, evOp P Γ imm (ops.setIfInBounds n (surr d v)) (surr d v) s = some (s.put (some d) (.val v)) := fun s => rfl
  have hnn : (ops.setIfInBounds n (surr d v))[n]? = some (surr d v) := by
    rw [Array.getElem?_setIfInBounds, if_pos rfl, if_pos hn]
  have h1 : evL P Γ imm (ops.setIfInBounds n (surr d v)) rem s = some s1 := by rw [evL_set (i := n) hn hlt hg]; exact h
  have h2 := evL_snoc hnn h1 (hs s1)
  have h3 := evL_front (q := []) hi h2
  rw [List.append_nil, evL_cons, hnn] at h3
  dsimp only at h3
  rw [hs] at h3
  dsimp only at h3
  rw [evL_set (i := n) hn hlt hg] at h3
  exact h3
theorem any_two {σ : Fgn} {n d : Nat} (hn : ops.size = n + 2) {A : Oper} (hA : ops[n]? = some A) (hAg : A.guard = none) (hd : ops.all (dstOk N) = true) (hp : pairsOk Γ imm ops n = true) (hed : edgesOk ops = true) (hlast : ∀ i, i < n + 1 → ordB ops ops.size i (n + 1) = true) {xs : List Nat}
    (hfree : ∀ i, i < n → ordB ops ops.size i n = true ∨ freeB Γ imm ops xs i = true) (hsur : ∀ v i, i < n → ordB ops ops.size i n = true ∨ indepAt Γ imm (ops.setIfInBounds n (surr d v)) i n = true) (hgd : ∀ i, i < n → ∀ o', ops[i]? = some o' → o'.guard = none)
    {RA : Value → Fgn → Prop} {Q : Exit → Act → World → Prop} {s' : AS}
    (hΓ : ∀ io w0 g s a w, Rel io w0 N g s a w → HzC io w00 w0 B σ.bk → σ.at_ w → SoundW P Γ io.wr w0)
    (hΓ' : ∀ v σ', RA v σ' → ∀ io w0 g s a w, Rel io w0 N g s a w → HzC io w00 w0 B σ'.bk → σ'.at_ w → SoundW P Γ io.wr w0)
    (hAw : ∀ s a w, Zt P N B w00 s σ a w → s'.ob = s.ob → s'.nx = s.nx → (∀ t ∈ xs, s'.tm t = s.tm t) → ∀ (Kn : Act → World → Prop) (Q' : Exit → Act → World → Prop), (∀ v σ' a' w', Zt P N B w00 (s.put (some d) (.val v)) σ' a' w' → RA v σ' → Kn a' w') → A.wp P a w Kn Q')
    (hU : ∀ v σ', RA v σ' → ∀ a' w', Zt P N B w00 (s'.put (some d) (.val v)) σ' a' w' → wpOp P ops Q (n + 1) (Q .normal) a' w') :
    ∀ (fuel : Nat) (listed : Array Bool) (rem : List Nat) (io : IoS) (w0 : World) (g : Gh) (s : AS) (a : Act) (w : World), Rel io w0 N g s a w → HzC io w00 w0 B σ.bk → σ.at_ w → rem.length + 2 ≤ fuel → listed.size = ops.size → (∀ i, i ∈ rem ↔ i < n ∧ listed.getD i true = false) → listed.getD n true = false → listed.getD (n + 1) true = false → rem.Pairwise (· < ·) →
      (∀ j o, ops[j]? = some o → listed.getD j true = true → ∀ e ∈ o.after, Region.binds .any e = true → listed.getD e.on false = true) →
      evL P Γ imm ops rem s = some s' → wpAny P .any ops Q fuel listed a w := by
  intro fuel
  induction fuel with
  | zero => intro listed rem io w0 g s a w _ _ _ hlen; omega
  | succ fuel ih =>
    intro listed rem io w0 g s a w h hC hM hlen hsz hrem hAn hln hpw hcl he
    have hl' : ∀ x, x < n → ¬ x ∈ rem → listed.getD x false = true := fun x hx hm => by
      rw [hrem] at hm
      have hlt' : x < listed.size := by omega
      have : listed.getD x true ≠ false := fun h0 => hm ⟨hx, h0⟩
      simp [hlt'] at this ⊢
      exact this
    have hne : Region.ready .any ops listed ≠ [] := by
      intro hnil
      cases rem with
      | nil =>
        have : n ∈ Region.ready .any ops listed := by
          rw [mem_ready]
          refine ⟨hAn, A, hA, fun e he hb => ?_⟩
          exact hl' _ (edges_at hed hA e he hb) (by simp)
        rw [hnil] at this
        cases this
      | cons i0 q =>
        obtain ⟨hi1, hi2⟩ := (hrem i0).1 (by simp)
        have : i0 ∈ Region.ready .any ops listed := by
          rw [mem_ready]
          refine ⟨hi2, ops[i0], Array.getElem?_eq_getElem (by omega), fun e he hb => ?_⟩
          have hlt := edges_at hed (Array.getElem?_eq_getElem (by omega)) e he hb
          refine hl' _ (by omega) fun hm => ?_
          rcases List.mem_cons.1 hm with hm | hm
          · omega
          · have := (List.pairwise_cons.1 hpw).1 _ hm
            omega
        rw [hnil] at this
        cases this
    refine ⟨fun hr => absurd hr hne, fun i hi => ?_⟩
    rw [mem_ready] at hi
    obtain ⟨h1, o, h2, h3⟩ := hi
    have hilt := (Array.getElem?_eq_some_iff.1 h2).1
    have hordl : ∀ x, ordB ops ops.size x i = true → x < n → ¬ x ∈ rem := fun x hox hxn hm => by
      have hxl := ord_listed hcl _ _ _ hox (fun o' ho' e he hb => by rw [h2] at ho'; cases ho'; exact h3 e he hb)
      have := ((hrem x).1 hm).2
      have hlt : x < listed.size := by omega
      simp [hlt] at this hxl
      rw [this] at hxl
      cases hxl
    by_cases hiU : i = n + 1
    · exfalso
      subst hiU
      have hxl := ord_listed hcl _ _ _ (hlast n (by omega)) (fun o' ho' e he hb => by rw [h2] at ho'; cases ho'; exact h3 e he hb)
      have hlt : n < listed.size := by omega
      simp [hlt] at hAn hxl
      rw [hAn] at hxl
      cases hxl
    · by_cases hin : i = n
      · subst hin
        rw [hA] at h2
        cases h2
        have hrl : ∀ x ∈ rem, x < i := fun x hx => ((hrem x).1 hx).1
        have hrf : ∀ x ∈ rem, freeB Γ imm ops xs x = true := fun x hx => by
          rcases hfree x (hrl x hx) with q | q
          · exact absurd hx (hordl x q (hrl x hx))
          · exact q
        obtain ⟨k1, k2, k3⟩ := evL_free hrf he
        unfold wpOp
        simp only [hA]
        have hw : Region.wanted A (yielded ops a.tmps) = true := by simp [Region.wanted, hAg]
        rw [hw]
        simp only [if_true]
        left
        refine hAw s a w ⟨⟨io, w0, g, h, hC⟩, hM⟩ k1 k2 k3 _ _ fun v σ' a' w' hz hR => ?_
        obtain ⟨⟨io', w0', g', hr', hC'⟩, hM'⟩ := hz
        have he2 := evL_early (d := d) (v := v) (by omega) hrl (fun x hx => hgd x (hrl x hx)) (fun x hx => by
          rcases hsur v x (hrl x hx) with q | q
          · exact absurd hx (hordl x q (hrl x hx))
          · exact q) he
        have hrun := hΓ' v σ' hR io' w0' g' _ a' w' hr' hC' hM'
        refine any_rest hrun hC'.lt hd hn hp hed hlast (s' := s'.put (some d) (.val v)) (fun g2 a2 w2 hr2 => hU v σ' hR a2 w2 ⟨⟨io', w0', g2, hr2, hC'⟩, Fgn.same hC' hr' hr2 hM'⟩) fuel _ rem g' _ a' w' (by omega) (by simpa using hsz) (fun j => ?_) ?_ ?_ hpw ?_ hr' he2
        · by_cases hji : j = i
          · subst hji
            constructor
            · intro hm; exact absurd (hrl j hm) (by omega)
            · rintro ⟨hf, _⟩; omega
          · rw [getD_set_ne true (fun e => hji e.symm), ← hrem j]
        · have hlt : i < listed.size := by omega
          simp [hlt]
        · rw [getD_set_ne true (by omega)]
          exact hln
        · intro j o' ho' hl e he hb
          by_cases hji : j = i
          · subst hji
            rw [hA] at ho'
            cases ho'
            exact getD_set_true (h3 e he hb)
          · rw [getD_set_ne true (fun e => hji e.symm)] at hl
            exact getD_set_true (hcl j o' ho' hl e he hb)
      · have hmem := (hrem i).2 ⟨by omega, h1⟩
        obtain ⟨p, q, rfl⟩ := List.append_of_mem hmem
        have hpi : ∀ x ∈ p, indepAt Γ imm ops x i = true := fun x hx => by
          have hxi : x < i := by
            rw [List.pairwise_append] at hpw
            exact hpw.2.2 x hx i (by simp)
          rcases (pairs_at hp (show i < n by omega) hxi).symm with ho | ho
          · exact absurd (by simp [hx]) (hordl x ho (by omega))
          · exact ho
        have hfr := evL_front hpi he
        rw [evL_cons, h2] at hfr
        dsimp only at hfr
        split at hfr
        · rename_i s1 hs1
          have hdo : dstOk N o = true := (Array.all_eq_true_iff_forall_mem.1 hd) o (Array.mem_of_getElem? h2)
          refine op_ok h (hΓ io w0 g s a w h hC hM) hC.lt hdo hs1 h2 fun g' a' w' hr => ih _ (p ++ q) io w0 g' s1 a' w' hr hC (Fgn.same hC h hr hM) (by simp at hlen ⊢; omega) (by simpa using hsz) (fun j => ?_) ?_ ?_ ?_ ?_ hfr
          · by_cases hji : j = i
            · subst hji
              have hnp : j ∉ p ++ q := by
                rw [List.pairwise_append] at hpw
                intro hm
                rcases List.mem_append.1 hm with hm | hm
                · have := hpw.2.2 j hm j (by simp)
                  omega
                · have := (List.pairwise_cons.1 hpw.2.1).1 j hm
                  omega
              constructor
              · intro hm; exact absurd hm hnp
              · rintro ⟨_, hf⟩
                have hlt : j < listed.size := by omega
                simp [hlt] at hf
            · rw [getD_set_ne true (fun e => hji e.symm), ← hrem j]
              simp [hji]
          · rw [getD_set_ne true hin]
            exact hAn
          · rw [getD_set_ne true hiU]
            exact hln
          · rw [List.pairwise_append] at hpw ⊢
            exact ⟨hpw.1, (List.pairwise_cons.1 hpw.2.1).2, fun x hx y hy => hpw.2.2 x hx y (by simp [hy])⟩
          · intro j o' ho' hl e he hb
            by_cases hji : j = i
            · subst hji
              rw [h2] at ho'
              cases ho'
              exact getD_set_true (h3 e he hb)
            · rw [getD_set_ne true (fun e => hji e.symm)] at hl
              exact getD_set_true (hcl j o' ho' hl e he hb)
        · cases hfr
variable {c : Code} {K : X → AS → Fgn → Prop} {s : AS} {σ : Fgn}
theorem HZ.draw2 {id d : Nat} (n : Nat) {os pre : List Oper} {A U : Oper} {xs : List Nat} {RA : Value → Fgn → Prop} (hm : P.follows .mixedOrders = true) (h1 : os.take n = pre) (h2 : os.drop n = [A, U]) {gs : List (Option Nat)} (hgs : os.map (·.dst) = gs) (hnl : pre.length = n) (hAg : A.guard = none) (hUg : U.guard = none) (hgd : pre.all (fun o => o.guard.isNone) = true) (hd : os.toArray.all (dstOk N) = true) (hp : pairsOk Γ imm os.toArray n = true) (hed : edgesOk os.toArray = true) (hlast : (List.range (n + 1)).all (fun i => ordB os.toArray os.toArray.size i (n + 1)) = true)
    (hfree : (List.range n).all (fun i => ordB os.toArray os.toArray.size i n || freeB Γ imm os.toArray xs i) = true) (hsur : ∀ v, (List.range n).all (fun i => ordB os.toArray os.toArray.size i n || indepAt Γ imm (os.toArray.setIfInBounds n (surr d v)) i n) = true)
    (hΓ : ∀ io w0 g s a w, Rel io w0 N g s a w → HzC io w00 w0 B σ.bk → σ.at_ w → SoundW P Γ io.wr w0)
    (hwq : wq P Γ imm gs pre (fun s1 => (∀ v σ', RA v σ' → ∀ io w0 g s a w, Rel io w0 N g s a w → HzC io w00 w0 B σ'.bk → σ'.at_ w → SoundW P Γ io.wr w0) ∧
      (∀ s a w, Zt P N B w00 s σ a w → s1.ob = s.ob → s1.nx = s.nx → (∀ t ∈ xs, s1.tm t = s.tm t) → ∀ (Kn : Act → World → Prop) (Q' : Exit → Act → World → Prop), (∀ v σ' a' w', Zt P N B w00 (s.put (some d) (.val v)) σ' a' w' → RA v σ' → Kn a' w') → A.wp P a w Kn Q') ∧
      (∀ v σ', RA v σ' → ∀ a w, Zt P N B w00 (s1.put (some d) (.val v)) σ' a w → ∀ (Kn : Act → World → Prop) (Q' : Exit → Act → World → Prop), (∀ s2 σ2 a' w', Zt P N B w00 s2 σ2 a' w' → K .normal s2 σ2 → Kn a' w') → U.wp P a w Kn Q')) s.tm s.ob s.nx) : HZ P N B w00 (.region id os.toArray true) K s σ := HZ.mk fun a w hs Q hQ => by
  obtain ⟨⟨io, w0, g, hr, hC⟩, hM⟩ := hs
  subst hgs
  rw [show os.map (·.dst) = os.toArray.toList.map (·.dst) by simp, ← evQ_wq] at hwq
  obtain ⟨s1, e1, q1, q2, q3⟩ := evQ_ok _ _ hwq
  have hops : os = pre ++ [A, U] := by rw [← h1, ← h2, List.take_append_drop]
  have hsz : os.toArray.size = n + 2 := by
    show os.length = n + 2
    rw [hops, List.length_append, hnl]
    rfl
  have hlen2 : os.length = n + 2 := hsz
  have hAn : os.toArray[n]? = some A := by
    have : os[n]? = some A := by rw [hops, ← hnl]; simp
    simpa using this
  have hUn : os.toArray[n + 1]? = some U := by
    have : os[n + 1]? = some U := by rw [hops, ← hnl, List.getElem?_append_right (by omega)]; simp
    simpa using this
  refine wp_region_any hm ?_
  have hdrew : Rel io w0 N g s a { w with drawn := w.drawn + 1 } := ⟨hr.nt, hr.df, fun t => Rep.mono (w := w) (w' := { w with drawn := w.drawn + 1 }) (g := g) (g' := g) (Gh.le_refl g) (fun _ _ _ => rfl) _ _ (hr.tm t), fun o c ho => by
    obtain ⟨k1, k2, k3, k4⟩ := hr.ob o c ho
    exact ⟨k1, k2, k3, ObjAt.mono (w := w) (w' := { w with drawn := w.drawn + 1 }) (g := g) (g' := g) k4 (Gh.le_refl g) k1 (fun _ _ _ => rfl) rfl⟩, hr.inj, hr.nx, hr.lt, hr.new, ⟨hr.fr.os, hr.fr.tape, hr.fr.output, hr.fr.size, hr.fr.block⟩, hr.old, hr.fix, hr.hl, hr.tab⟩
  have hall : ∀ {f : Nat → Bool} {m : Nat}, (List.range m).all f = true → ∀ i, i < m → f i = true := fun h i hi => (List.all_eq_true.1 h) i (by simpa using hi)
  refine any_two (A := A) (d := d) (xs := xs) (RA := RA) hsz hAn hAg hd hp hed (fun i hi => hall hlast i hi) (fun i hi => by simpa [Bool.or_eq_true] using hall hfree i hi) (fun v i hi => by simpa [Bool.or_eq_true] using hall (hsur v) i hi) (fun i hi o' ho' => ?_) (s' := s1) hΓ q1 q2 (fun v σ' hR a' w' hz => ?_) os.toArray.size _ (List.range n) io w0 g s a _ hdrew hC (σ.keep w _ (fun _ _ => rfl) hM) (by simp; omega) (by simp) (fun i => ?_) (by simp [hsz]) (by simp [hsz]) List.pairwise_lt_range (fun j o ho hl => ?_) ?_
  · have ho2 : os[i]? = some o' := by simpa using ho'
    rw [hops, List.getElem?_append_left (by omega)] at ho2
    have := (List.all_eq_true.1 hgd) o' (List.mem_of_getElem? ho2)
    simpa using this
  · unfold wpOp
    simp only [hUn]
    have hw : Region.wanted U (yielded os.toArray a'.tmps) = true := by simp [Region.wanted, hUg]
    rw [hw]
    simp only [if_true]
    left
    exact q3 v σ' hR a' w' hz _ _ fun s2 σ2 a2 w2 hz2 hk => hQ .normal s2 σ2 a2 w2 hz2 hk
  · simp only [List.mem_range]
    constructor
    · intro hi; exact ⟨hi, by have : i < os.length := (by omega); simp [this]⟩
    · exact fun hi => hi.1
  · have hlt := (Array.getElem?_eq_some_iff.1 ho).1
    simp at hlt
    simp [hlt] at hl
  · have := evL_pre (P := P) (Γ := Γ) (imm := imm) (ops := os.toArray) (l2 := [A, U]) pre 0 s (by rw [List.drop_zero]; exact hops)
    rw [List.range_eq_range', ← hnl, this]
    exact e1
end
end Go.Proofs.YtpggpdbipajchaaGreatDoor
namespace Go.Proofs.YtpggpdbipajchaaGreatDoor
open Go.RowKit
set_option linter.all false
structure En where
  w : ByteArray
  v : Value
  ns : List Int
def En.kv (m : En) : Value × Value := (.string m.w, m.v)
def intsV (l : List Int) : List Value := l.map (Value.int .i64)
theorem ownsRow_same {w w' : World} {B e n : Nat} {v : Value} {xs : List Value} (h : w.ownsRow B e 1 v n xs) (hs : ∀ g, v.ownBlock = some g → w'.heap[g]? = w.heap[g]?) : w'.ownsRow B e 1 v n xs := by
  refine ⟨h.1, ?_⟩
  rcases h.2 with h0 | ⟨g, cap, cur, rfl, h1, h2, h3⟩
  · exact .inl h0
  · exact .inr ⟨g, cap, cur, rfl, h1, (hs g rfl).trans h2, h3⟩
structure IxA (P : Program) (k T B b : Nat) (M : List En) (w : World) : Prop where
  map : MapL P k w b (M.map En.kv)
  row : ∀ m ∈ M, w.ownsRow B T 1 m.v m.ns.length (intsV m.ns)
  own : ∀ m ∈ M, ∃ g, m.v.ownBlock = some g ∧ g ≠ b
  dis : M.Pairwise fun x y => x.v.ownBlock ≠ y.v.ownBlock
def inG (G : Nat → Prop) (b : Nat) (M : List En) : Prop := G b ∧ ∀ m ∈ M, ∀ g, m.v.ownBlock = some g → G g
section
variable {P : Program} {k T B b : Nat} {M : List En} {w w' : World} {G : Nat → Prop}
theorem IxA.same (h : IxA P k T B b M w) (hb : w'.heap[b]? = w.heap[b]?) (hs : ∀ m ∈ M, ∀ g, m.v.ownBlock = some g → w'.heap[g]? = w.heap[g]?) : IxA P k T B b M w' :=
  ⟨h.map.same hb, fun m hm => ownsRow_same (h.row m hm) (hs m hm), h.own, h.dis⟩
def ixF (P : Program) (k T B b : Nat) (G : Nat → Prop) (M : List En) : Fgn := ⟨G, fun w => inG G b M ∧ IxA P k T B b M w, fun w w' h hM => ⟨hM.1, hM.2.same (h b hM.1.1) fun m hm g hg => h g (hM.1.2 m hm g hg)⟩⟩
theorem IxA.lt (h : IxA P k T B b M w) {m : En} (hm : m ∈ M) {g : Nat} (hg : m.v.ownBlock = some g) : B ≤ g ∧ g < w.heap.size := (h.row m hm).lt g hg
theorem IxA.made (w : World) : IxA P k T B w.heap.size [] (w.alloc (.map #[] 0)) := ⟨MapL.made w, by simp, by simp, by simp⟩
structure IxH (P : Program) (k T B b : Nat) (M : List En) (m' : En) (w : World) : Prop where
  map : MapL P k w b (M.map En.kv)
  row : ∀ m ∈ M, m.w ≠ m'.w → w.ownsRow B T 1 m.v m.ns.length (intsV m.ns)
  own : ∀ m ∈ M, ∃ g, m.v.ownBlock = some g ∧ g ≠ b
  dis : M.Pairwise fun x y => x.v.ownBlock ≠ y.v.ownBlock
  new : w.ownsRow B T 1 m'.v m'.ns.length (intsV m'.ns)
  news : ∃ g, m'.v.ownBlock = some g ∧ g ≠ b
  newd : ∀ m ∈ M, m.w ≠ m'.w → m.v.ownBlock ≠ m'.v.ownBlock
theorem IxH.same {m' : En} (h : IxH P k T B b M m' w) (hb : w'.heap[b]? = w.heap[b]?) (hs : ∀ m ∈ M, ∀ g, m.v.ownBlock = some g → w'.heap[g]? = w.heap[g]?) (hn : ∀ g, m'.v.ownBlock = some g → w'.heap[g]? = w.heap[g]?) : IxH P k T B b M m' w' :=
  ⟨h.map.same hb, fun m hm hw => ownsRow_same (h.row m hm hw) (hs m hm), h.own, h.dis, ownsRow_same h.new hn, h.news, h.newd⟩
def ixH (P : Program) (k T B b : Nat) (G : Nat → Prop) (M : List En) (m' : En) : Fgn := ⟨G, fun w => (inG G b M ∧ ∀ g, m'.v.ownBlock = some g → G g) ∧ IxH P k T B b M m' w, fun w w' h hM => ⟨hM.1, hM.2.same (h b hM.1.1.1) (fun m hm g hg => h g (hM.1.1.2 m hm g hg)) fun g hg => h g (hM.1.2 g hg)⟩⟩
def putE : List En → En → List En
  | [], m' => [m']
  | m :: M, m' => if m.w = m'.w then m' :: M else m :: putE M m'
theorem putE_mem {M : List En} {m' m : En} (h : m ∈ putE M m') : m = m' ∨ m ∈ M := by
  induction M with
  | nil => exact .inl (by simpa [putE] using h)
  | cons x M ih =>
    unfold putE at h
    split at h
    · rcases List.mem_cons.1 h with h | h
      · exact .inl h
      · exact .inr (by simp [h])
    · rcases List.mem_cons.1 h with h | h
      · exact .inr (by simp [h])
      · exact (ih h).imp id fun q => by simp [q]
theorem putE_new : ∀ {M : List En} {m' : En}, (∀ m ∈ M, m.w ≠ m'.w) → putE M m' = M ++ [m']
  | [], m', h => rfl
  | m :: M, m', h => by
    unfold putE
    rw [if_neg (h m (by simp)), putE_new fun x hx => h x (by simp [hx])]
    rfl
theorem putE_old : ∀ {M1 M2 : List En} {m m' : En}, (∀ x ∈ M1, x.w ≠ m'.w) → m.w = m'.w → putE (M1 ++ m :: M2) m' = M1 ++ m' :: M2
  | [], M2, m, m', h, e => by simp [putE, e]
  | x :: M1, M2, m, m', h, e => by
    rw [List.cons_append, putE, if_neg (h x (by simp)), putE_old (fun y hy => h y (by simp [hy])) e]
    rfl
theorem split_w {M : List En} {s : ByteArray} : (∀ m ∈ M, m.w ≠ s) ∨ ∃ M1 m M2, M = M1 ++ m :: M2 ∧ m.w = s ∧ ∀ x ∈ M1, x.w ≠ s := by
  induction M with
  | nil => exact .inl (by simp)
  | cons x M ih =>
    by_cases h : x.w = s
    · exact .inr ⟨[], x, M, rfl, h, by simp⟩
    · rcases ih with h2 | ⟨M1, m, M2, rfl, h2, h3⟩
      · exact .inl fun m hm => by
          rcases List.mem_cons.1 hm with rfl | hm
          · exact h
          · exact h2 m hm
      · exact .inr ⟨x :: M1, m, M2, rfl, h2, fun y hy => by
          rcases List.mem_cons.1 hy with rfl | hy
          · exact h
          · exact h3 y hy⟩
theorem MapL.uniq {M1 M2 : List En} {m : En} (h : MapL P k w b ((M1 ++ m :: M2).map En.kv)) : ∀ x, x ∈ M1 ∨ x ∈ M2 → x.w ≠ m.w := by
  obtain ⟨es, clock, _, H⟩ := h
  have hk := H.keys
  rw [List.map_map, List.map_append, List.map_cons, List.nodup_append] at hk
  obtain ⟨k1, k2, k3⟩ := hk
  rw [List.nodup_cons] at k2
  intro x hx e
  rcases hx with hx | hx
  · exact k3 _ (List.mem_map.2 ⟨x, hx, rfl⟩) _ (List.mem_cons_self ..) (by simp [En.kv, e])
  · exact k2.1 (List.mem_map.2 ⟨x, hx, by simp [En.kv, e]⟩)
theorem IxH.upd {m' : En} {t e : TypeId} {kl : Lit} (h : IxH P k T B b M m' w) (K : Go.Maps.Keyed P k) (ht : P.underlying t = some (.map k e)) (hkey : keyOf P k (.string m'.w) = some kl) :
    ∃ w', (Instr.mapUpdate t (.map (some b)) (.string m'.w) m'.v).run P w = .ok () w' ∧ IxA P k T B b (putE M m') w' ∧ w.grownBy w' (some b) ∧ w'.heap.size = w.heap.size := by
  rcases split_w (M := M) (s := m'.w) with hn | ⟨M1, m, M2, rfl, hm, h1⟩
  · obtain ⟨w', k1, k2, k3, k4⟩ := h.map.upd_new (v := m'.v) K ht hkey (fun p hp => by
      obtain ⟨x, hx, rfl⟩ := List.mem_map.1 hp
      intro e
      cases e2 : x with
      | mk a v n => subst e2; simp only [En.kv, Value.string.injEq] at e; exact hn _ hx e)
    rw [putE_new hn]
    refine ⟨w', k1, ⟨by simpa [En.kv] using k2, fun x hx => ?_, fun x hx => ?_, ?_⟩, k3, k4⟩
    · rcases List.mem_append.1 hx with hx | hx
      · obtain ⟨g, hg, hgb⟩ := h.own x hx
        exact (h.row x hx (hn x hx)).kept k3 (.inr (by rw [hg]; simpa using hgb))
      · rw [List.mem_singleton.1 hx]
        obtain ⟨g, hg, hgb⟩ := h.news
        exact h.new.kept k3 (.inr (by rw [hg]; simpa using hgb))
    · rcases List.mem_append.1 hx with hx | hx
      · exact h.own x hx
      · rw [List.mem_singleton.1 hx]; exact h.news
    · rw [List.pairwise_append]
      exact ⟨h.dis, by simp, fun x hx y hy => by rw [List.mem_singleton.1 hy]; exact h.newd x hx (hn x hx)⟩
  · have hu := MapL.uniq h.map
    have hmap := h.map
    rw [List.map_append, List.map_cons, show m.kv = (.string m'.w, m.v) by rw [En.kv, hm]] at hmap
    obtain ⟨w', k1, k2, k3, k4⟩ := hmap.upd_old (v := m'.v) K ht hkey
    have hne : ∀ x, x ∈ M1 ∨ x ∈ M2 → x.w ≠ m'.w := fun x hx => hm ▸ hu x hx
    have hin : ∀ x, x ∈ M1 ∨ x ∈ M2 → x ∈ M1 ++ m :: M2 := fun x hx => by rcases hx with hx | hx <;> simp [hx]
    have hcase : ∀ x ∈ M1 ++ m' :: M2, x = m' ∨ (x ∈ M1 ∨ x ∈ M2) := fun x hx => by
      rcases List.mem_append.1 hx with hx | hx
      · exact .inr (.inl hx)
      · exact (List.mem_cons.1 hx).imp id .inr
    rw [putE_old h1 hm]
    refine ⟨w', k1, ⟨by simpa [En.kv] using k2, fun x hx => ?_, fun x hx => ?_, ?_⟩, k3, k4⟩
    · rcases hcase x hx with rfl | hx
      · obtain ⟨g, hg, hgb⟩ := h.news
        exact h.new.kept k3 (.inr (by rw [hg]; simpa using hgb))
      · obtain ⟨g, hg, hgb⟩ := h.own x (hin x hx)
        exact (h.row x (hin x hx) (hne x hx)).kept k3 (.inr (by rw [hg]; simpa using hgb))
    · rcases hcase x hx with rfl | hx
      · exact h.news
      · exact h.own x (hin x hx)
    · have hd := h.dis
      rw [List.pairwise_append, List.pairwise_cons] at hd ⊢
      refine ⟨hd.1, ⟨fun y hy => fun e => h.newd y (hin y (.inr hy)) (hne y (.inr hy)) e.symm, hd.2.1.2⟩, fun x hx y hy => ?_⟩
      rcases List.mem_cons.1 hy with rfl | hy
      · exact h.newd x (hin x (.inl hx)) (hne x (.inl hx))
      · exact hd.2.2 x hx y (by simp [hy])
end
end Go.Proofs.YtpggpdbipajchaaGreatDoor
namespace Go.Proofs.YtpggpdbipajchaaGreatDoor
open Go.RowKit
set_option linter.all false
section
variable {P : Program} {N B : Nat} {w00 : World} {σ : Fgn} {Γ : Ctx} {imm : Md} {c : Code} {K : X → AS → Fgn → Prop} {s : AS} {k T b : Nat} {M : List En} {G : Nat → Prop}
def SoundZ (P : Program) (N B : Nat) (w00 : World) (Γ : Ctx) (σ : Fgn) : Prop := ∀ io w0 g s a w, Rel io w0 N g s a w → HzC io w00 w0 B σ.bk → σ.at_ w → SoundW P Γ io.wr w0
theorem SoundΓ.z (h : SoundΓ P Γ) : SoundZ P N B w00 Γ σ := fun _ _ _ _ _ _ _ _ _ => h.w
theorem see_z {Mo : MpO} {L : VL} (hΓ : SoundΓ P Γ) (hat : ∀ w, σ.at_ w → σ.bk Mo.b ∧ MapL P k w Mo.b L) (hans : ∀ key c p, Mo.ans key c = some p → ∀ (w : World) (g : Gh), MapL P k w Mo.b L → ∃ v, (Instr.lookup Mo.t (.map (some Mo.b)) key c).run P w = .ok v w ∧ Rep g w p v) : SoundZ P N B w00 (Γ.see Mo) σ := by
  intro io w0 g s a w hr hC hM
  refine ⟨hΓ.1, hΓ.2.1, fun M' hM' => ?_⟩
  cases hM'
  have hb := (hat w hM).1
  refine ⟨hC.hb _ hb, fun q => hC.ne _ (.inl q) hb, fun key c p hp w1 g1 he => hans key c p hp w1 g1 ((hat w hM).2.same ?_)⟩
  rw [he]
  exact (hr.fr.block _ (hC.hb _ hb) fun q => hC.ne _ (.inl q) hb).symm
variable {ops : Array Oper} {J : AS → Fgn → Prop} {j : Nat} {o : Oper} {l l1 l2 : List Oper}
theorem ZO.preW {os : List Oper} (n : Nat) (hΓ : SoundZ P N B w00 Γ σ) (hd : os.toArray.all (dstOk N) = true) (h1 : l.take n = l1) (h2 : l.drop n = l2) {gs : List (Option Nat)} (hg : os.map (·.dst) = gs) (hp : wq P Γ imm gs l1 (fun s1 => ZO P N B w00 os.toArray (j + l1.length) l2 J s1 σ) s.tm s.ob s.nx) : ZO P N B w00 os.toArray j l J s σ := ZO.mk fun hl a w hs Q hQ => by
  obtain ⟨⟨io, w0, g, hr, hC⟩, hM⟩ := hs
  have hl12 : l = l1 ++ l2 := by rw [← h1, ← h2, List.take_append_drop]
  subst hg
  rw [show os.map (·.dst) = os.toArray.toList.map (·.dst) by simp, ← evQ_wq] at hp
  obtain ⟨s1, e1, e2⟩ := evQ_ok _ _ hp
  rw [hl12] at hl ⊢
  refine seqPreZ (hΓ io w0 g s a w hr hC hM) (fun b hb => hC.lt b hb) (fun o ho => (Array.all_eq_true_iff_forall_mem.1 hd) o (by simpa using ho)) l1 j hl hr e1 fun g' a' w' hr' => ?_
  refine e2.go ?_ a' w' ⟨⟨io, w0, g', hr', hC⟩, Fgn.same hC hr hr' hM⟩ Q hQ
  rw [← List.drop_drop, hl]
  simp
theorem ZO.makeM {t d : Nat} (ho : o.op = .makeMap t none) (hdst : o.dst = some d) (hd : d < N) (hg : o.guard = none) (h : ∀ b, B ≤ b → ZO P N B w00 ops (j + 1) l J (s.put (some d) (.val (.map (some b)))) (ixF P k T B b (fun i => i = b) [])) : ZO P N B w00 ops j (o :: l) J s Fgn.no := by
  refine ZO.one hg fun a w hs Kn Q hK => ?_
  have hs0 := hs
  obtain ⟨⟨io, w0, g, hr, hC⟩, hM⟩ := hs0
  have hrun : (execOp a.eval o).run P w = .ok (.value (.map (some w.heap.size))) (w.alloc (.map #[] 0)) := by
    simp [execOp, ho, run_makeMap]
  unfold Oper.wp
  rw [hrun, Oper.upon_value, hdst]
  have hg1 := World.grownBy_alloc w (.map #[] 0) none
  have hz := hs.rebase (σ' := ixF P k T B w.heap.size (fun i => i = w.heap.size) []) (w' := w.alloc (.map #[] 0)) ⟨hg1.os, hg1.tape, hg1.output, hg1.size, fun i hi _ => hg1.block i hi (by simp)⟩ (fun i hi e => by have : i = w.heap.size := e; omega) (fun i e => False.elim e) (fun b' e => by have e : b' = w.heap.size := e; rw [e]; simp) ⟨⟨rfl, by simp⟩, IxA.made w⟩
  exact hK _ _ _ _ (hz.put (fun x e => by cases e; exact hd) fun g w => by simp [Rep]) (h _ (Nat.le_trans hC.sz hr.fr.size))
theorem pw_ne {M : List En} (h : M.Pairwise fun x y => x.v.ownBlock ≠ y.v.ownBlock) : ∀ x ∈ M, ∀ y ∈ M, x.w ≠ y.w → x.v.ownBlock ≠ y.v.ownBlock := by
  induction M with
  | nil => simp
  | cons z M ih =>
    rw [List.pairwise_cons] at h
    intro x hx y hy hw
    rcases List.mem_cons.1 hx with e1 | h1
    · rcases List.mem_cons.1 hy with e2 | h2
      · rw [e1, e2] at hw
        exact absurd rfl hw
      · rw [e1]
        exact h.1 y h2
    · rcases List.mem_cons.1 hy with e2 | h2
      · rw [e2]
        exact fun e => h.1 x h1 e.symm
      · exact ih h.2 x h1 y h2 hw
def Fnd1 (M : List En) (wd : ByteArray) (v : Value) (ns : List Int) : Prop := (v = .slice none 0 0 ∧ ns = [] ∧ ∀ m ∈ M, m.w ≠ wd) ∨ ∃ m ∈ M, m.w = wd ∧ m.v = v ∧ m.ns = ns
theorem Fnd1.ans {t e : TypeId} {wd : ByteArray} {v0 : Value} {ns : List Int} {kl : Lit} (hF : Fnd1 M wd v0 ns) (Ky : Go.Maps.Keyed P k) (ht : P.underlying t = some (.map k e)) (hkey : keyOf P k (.string wd) = some kl) (hz : ∀ w, (zeroValue e).run P w = .ok (.slice none 0 0) w) : ∀ key c p, ansOne false (.string wd) (.val v0) key c = some p → ∀ (w : World) (g : Gh), MapL P k w b (M.map En.kv) → ∃ v, (Instr.lookup t (.map (some b)) key c).run P w = .ok v w ∧ Rep g w p v := by
  intro key c p hp w g hm
  obtain ⟨rfl, rfl, rfl⟩ := ansOne_some hp
  refine ⟨v0, ?_, by simp [Rep]⟩
  rcases hF with ⟨rfl, _, h0⟩ | ⟨m, hm0, hw, rfl, _⟩
  · exact hm.look_no Ky ht false hkey (hz w) fun q hq => by
      obtain ⟨m, hm1, rfl⟩ := List.mem_map.1 hq
      intro e
      cases e2 : m with
      | mk a v n => subst e2; simp only [En.kv, Value.string.injEq] at e; exact h0 _ hm1 e
  · exact hm.look_yes Ky ht false hkey (List.mem_map.2 ⟨m, hm0, by rw [En.kv, hw]⟩)
theorem Zt.append {x y : Operand} {cl : Call} {t by_ : Nat} {z : Value} {wd : ByteArray} {v0 : Value} {ns : List Int} {p : Int} {d : Nat} (ho : o.op = .call cl) (hcl : cl = { callee := .builtin .append, args := #[x, y], argTypes := #[t, t] }) (hdst : o.dst = some d) (hdN : d < N)
    (he : tyElem P t = some T) (hz : zeroOf P T = some z) (hs1 : tySize P T = some 1) (hb : tyBytes P T = some by_) (hzs : z.cells.size = 1) (hx : look s.tm x = .val v0) (h2 : sliceEs s.ob 1 (look s.tm y) = some [.val (.int .i64 p)]) (hF : Fnd1 M wd v0 ns) (h63 : ns.length + 1 ≤ 1000000) (hby : by_ ≤ 8)
    {a : Act} {w : World} (hst : Zt P N B w00 s (ixF P k T B b G M) a w) {Kn : Act → World → Prop} {Q : Exit → Act → World → Prop}
    (h : ∀ v' G' a' w', Zt P N B w00 (s.put (some d) (.val v')) (ixH P k T B b G' M ⟨wd, v', ns ++ [p]⟩) a' w' → (∀ i, G i → G' i) → (∀ i, G' i → G i ∨ B ≤ i) → Kn a' w') : o.wp P a w Kn Q := by
  have hst0 := hst
  obtain ⟨⟨io, w0, g, hr, hC⟩, ⟨hGb, hGm⟩, hM⟩ := hst0
  have hu := elem_info he
  obtain ⟨i, hi, hib⟩ := run_bytes hb
  have hisz := size_info hi hs1
  have hiz := zero_info hi hz
  have hX := hr.look x
  rw [hx] at hX
  simp only [Rep] at hX
  obtain ⟨ad, cap2, hY, q1, q2⟩ := sliceEs_rep hr (hr.look y) h2
  rcases q2 with q2 | ⟨b2, off, rfl, q3⟩
  · cases q2
  obtain ⟨news, n1, n2, n3, n4⟩ := q3.news
  have hnews : news = [.int .i64 p] := by
    obtain ⟨u, m1, m2, m3, m4⟩ := n4 0 _ rfl
    simp only [Rep] at m1
    subst m1
    have := m4 0 (by decide)
    match news, n1, this with
    | [x], _, e => simpa [Value.cells] using e
  subst hnews
  have hBw : B ≤ w.heap.size := Nat.le_trans hC.sz hr.fr.size
  have hown : w.ownsRow B T 1 v0 ns.length (intsV ns) := by
    rcases hF with ⟨rfl, rfl, _⟩ | ⟨m, hm, _, rfl, rfl⟩
    · exact World.ownsRow_nil _ _ _ _
    · exact hM.row m hm
  obtain ⟨v', w', k1, k2, k3, k4, k5⟩ := run_append_own_at (P := P) w B t o.type T i z 1 by_ hu hi hiz hisz hib hzs (by decide) v0 ns.length (intsV ns) hown ⟨b2, off, none⟩ 1 cap2 [.int .i64 p] (by simp) (fun j u hj => by rw [Addr.add_mid]; exact n2 j u hj) n3 (by simp only [maxLen]; omega) (by
      have : (ns.length + 1) * by_ ≤ 1000000 * 8 := Nat.mul_le_mul h63 hby
      omega) hBw
  have hrun : (execOp a.eval o).run P w = .ok (.value v') w' := by
    unfold execOp
    simp only [ho, hcl, resolve, invoke, builtin, Sem.run_bind, Sem.run_pure, Result.andThen_ok, List.map_toArray, List.map_cons, List.map_nil, hX, hY, List.length_cons, List.length_nil, k1]
  unfold Oper.wp
  rw [hrun, Oper.upon_value, hdst]
  have hbw : b < w.heap.size := hM.map.lt
  have hv0 : ∀ g0, v0.ownBlock = some g0 → G g0 ∧ g0 ≠ b := fun g0 hg0 => by
    rcases hF with ⟨rfl, _, _⟩ | ⟨m, hm, _, rfl, _⟩
    · cases hg0
    · obtain ⟨g1, e1, e2⟩ := hM.own m hm
      rw [e1] at hg0
      cases hg0
      exact ⟨hGm m hm _ e1, e2⟩
  obtain ⟨g', hg', hg'b, hg'w, hg'G⟩ : ∃ g', v'.ownBlock = some g' ∧ B ≤ g' ∧ g' < w'.heap.size ∧ (G g' ∧ v0.ownBlock = some g' ∨ g' = w.heap.size) := by
    have hne : v' ≠ .slice none 0 0 := fun e => by have := (k4.1 e).2; omega
    rcases k2.2 with ⟨e, _⟩ | ⟨g', cap, cur, rfl, e1, e2, _⟩
    · exact absurd e hne
    · refine ⟨g', rfl, e1, (Array.getElem?_eq_some_iff.1 e2).1, ?_⟩
      rcases k5 with k5 | k5
      · exact .inl ⟨(hv0 g' k5.symm).1, k5.symm⟩
      · exact .inr (by simpa [Value.ownBlock] using k5)
  have hmne : ∀ m ∈ M, m.w ≠ wd → m.v.ownBlock = none ∨ m.v.ownBlock ≠ v0.ownBlock := fun m hm hw => by
    rcases hF with ⟨rfl, _, _⟩ | ⟨m0, hm0, rfl, rfl, _⟩
    · obtain ⟨g1, e1, _⟩ := hM.own m hm
      exact .inr (by rw [e1]; simp [Value.ownBlock])
    · exact .inr (pw_ne hM.dis m hm m0 hm0 hw)
  refine h v' (fun i => G i ∨ i = g') _ _ ((hst.rebase (σ' := ixH P k T B b (fun i => G i ∨ i = g') M ⟨wd, v', ns ++ [p]⟩) ⟨k3.os, k3.tape, k3.output, k3.size, fun i hi hn => k3.block i hi fun e => hn (.inl (hv0 i e.symm).1)⟩ (fun i hi e => ?_) (fun i e => .inl e) (fun b' e => ?_) ⟨⟨⟨.inl hGb, fun m hm g1 e => .inl (hGm m hm g1 e)⟩, fun g1 e => .inr (by rw [hg'] at e; cases e; rfl)⟩, ?_⟩).put (fun x e => by cases e; exact hdN) fun g w => by simp [Rep]) (fun i e => .inl e) fun i e => ?_
  · rcases e with e | rfl
    · exact e
    · rcases hg'G with ⟨e, _⟩ | e
      · exact e
      · omega
  · rcases e with e | rfl
    · exact Nat.lt_of_lt_of_le (hC.hb b' e) (Nat.le_trans hr.fr.size k3.size)
    · exact hg'w
  · refine ⟨hM.map.kept k3 fun e => (hv0 b e.symm).2 rfl, fun m hm hw => (hM.row m hm).kept k3 (hmne m hm hw), hM.own, hM.dis, by simpa [intsV] using k2, ⟨g', hg', ?_⟩, fun m hm hw e => ?_⟩
    · rcases hg'G with ⟨_, e⟩ | e
      · exact (hv0 g' e).2
      · omega
    · dsimp only at e
      rw [hg'] at e
      rcases hg'G with ⟨_, e2⟩ | e2
      · rcases hmne m hm hw with e3 | e3
        · rw [e3] at e; cases e
        · exact e3 (by rw [e, e2])
      · have := (hM.lt hm e).2
        omega
  · rcases e with e | rfl
    · exact .inl e
    · exact .inr hg'b
theorem Zt.told {x y z : Operand} {t e : TypeId} {m' : En} {kl : Lit} (ho : o.op = .mapUpdate t x y z) (hdst : o.dst = none) (Ky : Go.Maps.Keyed P k) (ht : P.underlying t = some (.map k e)) (hkey : keyOf P k (.string m'.w) = some kl) (hx : look s.tm x = .val (.map (some b))) (hy : look s.tm y = .val (.string m'.w)) (hz : look s.tm z = .val m'.v)
    {a : Act} {w : World} (hst : Zt P N B w00 s (ixH P k T B b G M m') a w) {Kn : Act → World → Prop} {Q : Exit → Act → World → Prop} (h : ∀ a' w', Zt P N B w00 s (ixF P k T B b G (putE M m')) a' w' → Kn a' w') : o.wp P a w Kn Q := by
  have hst0 := hst
  obtain ⟨⟨io, w0, g, hr, hC⟩, ⟨⟨hGb, hGm⟩, hGn⟩, hM⟩ := hst0
  have hX := hr.look x
  have hY := hr.look y
  have hZ := hr.look z
  rw [hx] at hX
  rw [hy] at hY
  rw [hz] at hZ
  simp only [Rep] at hX hY hZ
  obtain ⟨w', k1, k2, k3, k4⟩ := hM.upd Ky ht hkey
  have hrun : (execOp a.eval o).run P w = .ok .skip w' := by
    unfold execOp
    simp only [ho, hX, hY, hZ, Sem.run_bind, k1, Result.andThen_ok, Sem.run_pure]
  unfold Oper.wp
  rw [hrun, Oper.upon_skip, hdst]
  refine h _ _ (hst.rebase (σ' := ixF P k T B b G (putE M m')) ⟨k3.os, k3.tape, k3.output, k3.size, fun i hi hn => k3.block i hi fun e => hn (by cases e; exact hGb)⟩ (fun i _ e => e) (fun i e => e) (fun b' e => ?_) ⟨⟨hGb, fun m hm g1 e => ?_⟩, k2⟩)
  · rw [k4]
    exact Nat.lt_of_lt_of_le (hC.hb b' e) hr.fr.size
  · rcases putE_mem hm with rfl | hm
    · exact hGn g1 e
    · exact hGm m hm g1 e
end
end Go.Proofs.YtpggpdbipajchaaGreatDoor
namespace Go.Proofs.YtpggpdbipajchaaGreatDoor
open Go.RowKit
set_option linter.all false
def numsOf (l : List W2) (w : ByteArray) : List Int := (l.filter fun x => decide (x.1 = w)).map (·.2)
structure GrI (l : List W2) (M : List En) : Prop where
  ns : ∀ m ∈ M, m.ns = numsOf l m.w
  all : ∀ x ∈ l, ∃ m ∈ M, m.w = x.1
  of : ∀ m ∈ M, ∃ x ∈ l, x.1 = m.w
  nd : (M.map (·.w)).Nodup
theorem numsOf_snoc (l : List W2) (x : W2) (w : ByteArray) : numsOf (l ++ [x]) w = numsOf l w ++ (if x.1 = w then [x.2] else []) := by
  unfold numsOf
  rw [List.filter_append, List.map_append]
  by_cases h : x.1 = w <;> simp [h]
theorem numsOf_len (l : List W2) (w : ByteArray) : (numsOf l w).length ≤ l.length := by
  unfold numsOf
  rw [List.length_map]
  exact List.length_filter_le _ _
theorem GrI.len {l : List W2} {M : List En} {wd : ByteArray} {v : Value} {ns : List Int} (h : GrI l M) (hF : Fnd1 M wd v ns) : ns.length ≤ l.length := by
  rcases hF with ⟨_, rfl, _⟩ | ⟨m, hm, _, _, rfl⟩
  · exact Nat.zero_le _
  · rw [h.ns m hm]
    exact numsOf_len _ _
theorem putE_w {M : List En} {m' : En} (h : ∃ m ∈ M, m.w = m'.w) : (putE M m').map (·.w) = M.map (·.w) := by
  induction M with
  | nil => obtain ⟨m, hm, _⟩ := h; cases hm
  | cons x M ih =>
    unfold putE
    split
    · rename_i hx
      simp [hx]
    · rename_i hx
      rw [List.map_cons, List.map_cons, ih]
      obtain ⟨m, hm, e⟩ := h
      rcases List.mem_cons.1 hm with rfl | hm
      · exact absurd e hx
      · exact ⟨m, hm, e⟩
theorem GrI.nil : GrI [] [] := ⟨by simp, by simp, by simp, by simp⟩
theorem putE_has {M : List En} {m' : En} : m' ∈ putE M m' := by
  induction M with
  | nil => simp [putE]
  | cons x M ih =>
    unfold putE
    split
    · simp
    · simp [ih]
theorem putE_keep {M : List En} {m m' : En} (h : m ∈ M) (hw : m.w ≠ m'.w) : m ∈ putE M m' := by
  induction M with
  | nil => cases h
  | cons x M ih =>
    unfold putE
    split
    · rename_i hx
      rcases List.mem_cons.1 h with rfl | h
      · exact absurd hx hw
      · simp [h]
    · rcases List.mem_cons.1 h with rfl | h
      · simp
      · simp [ih h]
theorem putE_mem2 {M : List En} {m m' : En} (hn : (M.map (·.w)).Nodup) (h : m ∈ putE M m') : m = m' ∨ (m ∈ M ∧ m.w ≠ m'.w) := by
  induction M with
  | nil => exact .inl (by simpa [putE] using h)
  | cons x M ih =>
    rw [List.map_cons, List.nodup_cons] at hn
    unfold putE at h
    split at h
    · rename_i hx
      rcases List.mem_cons.1 h with h | h
      · exact .inl h
      · exact .inr ⟨by simp [h], fun e => hn.1 (List.mem_map.2 ⟨m, h, by rw [e, hx]⟩)⟩
    · rename_i hx
      rcases List.mem_cons.1 h with rfl | h
      · exact .inr ⟨by simp, hx⟩
      · exact (ih hn.2 h).imp id fun q => ⟨by simp [q.1], q.2⟩
theorem GrI.step {l : List W2} {M : List En} {x : W2} {v0 v' : Value} {ns : List Int} (h : GrI l M) (hF : Fnd1 M x.1 v0 ns) : GrI (l ++ [x]) (putE M ⟨x.1, v', ns ++ [x.2]⟩) := by
  have hns : ns = numsOf l x.1 := by
    rcases hF with ⟨_, rfl, h0⟩ | ⟨m, hm, e, _, rfl⟩
    · unfold numsOf
      have : (l.filter fun y => decide (y.1 = x.1)) = [] := List.filter_eq_nil_iff.2 fun y hy e => by
        obtain ⟨m, hm, e2⟩ := h.all y hy
        exact h0 m hm (e2.trans (by simpa using e))
      rw [this]
      rfl
    · rw [h.ns m hm, e]
  refine ⟨fun m hm => ?_, fun y hy => ?_, fun m hm => ?_, ?_⟩
  · rcases putE_mem2 h.nd hm with rfl | ⟨h1, h2⟩
    · dsimp only
      rw [numsOf_snoc, if_pos rfl, hns]
    · rw [numsOf_snoc, if_neg (fun e => h2 e.symm), List.append_nil]
      exact h.ns m h1
  · by_cases hw : y.1 = x.1
    · exact ⟨_, putE_has, hw.symm⟩
    · rcases List.mem_append.1 hy with hy | hy
      · obtain ⟨m, hm, e⟩ := h.all y hy
        exact ⟨m, putE_keep hm (by rw [e]; exact hw), e⟩
      · rw [List.mem_singleton.1 hy] at hw
        exact absurd rfl hw
  · rcases putE_mem2 h.nd hm with rfl | ⟨h1, h2⟩
    · exact ⟨x, by simp, rfl⟩
    · obtain ⟨y, hy, e⟩ := h.of m h1
      exact ⟨y, by simp [hy], e⟩
  · rcases hF with ⟨_, _, h0⟩ | ⟨m, hm, e, _⟩
    · rw [putE_new (fun m hm => h0 m hm), List.map_append, List.nodup_append]
      refine ⟨h.nd, by simp, fun a ha b hb => ?_⟩
      obtain ⟨m, hm, rfl⟩ := List.mem_map.1 ha
      have hb : b = x.1 := by simpa using hb
      rw [hb]
      exact h0 m hm
    · rw [putE_w ⟨m, hm, e⟩]
      exact h.nd
end Go.Proofs.YtpggpdbipajchaaGreatDoor
namespace Go.Proofs.YtpggpdbipajchaaGreatDoor
open Go.RowKit
set_option linter.all false
structure IxI (P : Program) (k T B b r : Nat) (M : List En) (left : List Value) (w : World) : Prop where
  it : IterL P k w r b (M.map En.kv) left
  row : ∀ m ∈ M, w.ownsRow B T 1 m.v m.ns.length (intsV m.ns)
  own : ∀ m ∈ M, ∃ g, m.v.ownBlock = some g ∧ g ≠ b ∧ g ≠ r
  dis : M.Pairwise fun x y => x.v.ownBlock ≠ y.v.ownBlock
def EntAt (P : Program) (b r : Nat) (cur : Option (ByteArray × Value)) (w : World) : Prop := ∀ p, cur = some p → ∀ w2 : World, w2.heap[r]? = w.heap[r]? → w2.heap[b]? = w.heap[b]? → (Instr.entry (.pointer (some ⟨r, 0, none⟩))).run P w2 = .ok (.tuple #[.string p.1, p.2]) w2
section
variable {P : Program} {k T B b r : Nat} {M : List En} {left : List Value} {w w' : World} {G : Nat → Prop}
theorem IterL.same {L : VL} (h : IterL P k w r b L left) (hb : w'.heap[b]? = w.heap[b]?) (hr : w'.heap[r]? = w.heap[r]?) : IterL P k w' r b L left := by
  obtain ⟨es, clock, since, seen, c0, h1, H, h2, rest⟩ := h
  exact ⟨es, clock, since, seen, c0, hb.trans h1, H, hr.trans h2, rest⟩
theorem IxI.same (h : IxI P k T B b r M left w) (hb : w'.heap[b]? = w.heap[b]?) (hr : w'.heap[r]? = w.heap[r]?) (hs : ∀ m ∈ M, ∀ g, m.v.ownBlock = some g → w'.heap[g]? = w.heap[g]?) : IxI P k T B b r M left w' :=
  ⟨h.it.same hb hr, fun m hm => ownsRow_same (h.row m hm) (hs m hm), h.own, h.dis⟩
def ixI (P : Program) (k T B b r : Nat) (G : Nat → Prop) (M : List En) (left : List Value) (cur : Option (ByteArray × Value)) : Fgn := ⟨G, fun w => (inG G b M ∧ G r) ∧ IxI P k T B b r M left w ∧ EntAt P b r cur w, fun w w' h hM => ⟨hM.1, hM.2.1.same (h b hM.1.1.1) (h r hM.1.2) (fun m hm g hg => h g (hM.1.1.2 m hm g hg)), fun p hp w2 h1 h2 => hM.2.2 p hp w2 (h1.trans (h r hM.1.2)) (h2.trans (h b hM.1.1.1))⟩⟩
variable {N : Nat} {w00 : World} {s : AS} {ops : Array Oper} {J : AS → Fgn → Prop} {j : Nat} {o : Oper} {l : List Oper}
theorem ZO.rangeM {x : Operand} {t e : TypeId} {d : Nat} (ho : o.op = .range t x) (hdst : o.dst = some d) (hd : d < N) (hg : o.guard = none) (ht : P.underlying t = some (.map k e)) (hx : look s.tm x = .val (.map (some b)))
    (h : ∀ r, B ≤ r → ZO P N B w00 ops (j + 1) l J (s.put (some d) (.val (.pointer (some ⟨r, 0, none⟩)))) (ixI P k T B b r (fun i => G i ∨ i = r) M ((M.map En.kv).map Prod.fst) none)) : ZO P N B w00 ops j (o :: l) J s (ixF P k T B b G M) := by
  refine ZO.one hg fun a w hs Kn Q hK => ?_
  have hs0 := hs
  obtain ⟨⟨io, w0, g, hr, hC⟩, ⟨hGb, hGm⟩, hM⟩ := hs0
  have hX := hr.look x
  rw [hx] at hX
  simp only [Rep] at hX
  obtain ⟨w', k1, k2, k3, k4⟩ := hM.map.range ht
  have hrun : (execOp a.eval o).run P w = .ok (.value (.pointer (some ⟨w.heap.size, 0, none⟩))) w' := by
    unfold execOp
    simp only [ho, hX, Sem.run_bind, k1, Result.andThen_ok, Sem.run_pure]
  unfold Oper.wp
  rw [hrun, Oper.upon_value, hdst]
  have hlt : ∀ i, G i → i < w.heap.size := fun i e => Nat.lt_of_lt_of_le (hC.hb i e) hr.fr.size
  have hz := hs.rebase (σ' := ixI P k T B b w.heap.size (fun i => G i ∨ i = w.heap.size) M ((M.map En.kv).map Prod.fst) none) (w' := w') ⟨k3.os, k3.tape, k3.output, k3.size, fun i hi _ => k3.block i hi (by simp)⟩ (fun i hi e => e.elim id fun e => by omega) (fun i e => .inl e) (fun b' e => by
    rw [k4]
    rcases e with e | rfl
    · have := hlt b' e; omega
    · omega) ⟨⟨⟨.inl hGb, fun m hm g1 e => .inl (hGm m hm g1 e)⟩, .inr rfl⟩, ⟨k2, fun m hm => (hM.row m hm).kept k3 (by
      obtain ⟨g1, e1, _⟩ := hM.own m hm
      exact .inr (by rw [e1]; simp)), fun m hm => by
        obtain ⟨g1, e1, e2⟩ := hM.own m hm
        exact ⟨g1, e1, e2, fun e => by have := hlt g1 (hGm m hm g1 e1); omega⟩, hM.dis⟩, fun p hp => by cases hp⟩
  exact hK _ _ _ _ (hz.put (fun x e => by cases e; exact hd) fun g w => by simp [Rep]) (h _ (Nat.le_trans hC.sz hr.fr.size))
theorem ZO.nextM {x : Operand} {d : Nat} {cur : Option (ByteArray × Value)} (ho : o.op = .next x false) (hdst : o.dst = some d) (hd : d < N) (hg : o.guard = none) (hx : look s.tm x = .val (.pointer (some ⟨r, 0, none⟩)))
    (h0 : left = [] → ZO P N B w00 ops (j + 1) l J (s.put (some d) (.tup [.val (.bool false)])) (ixI P k T B b r G M left cur))
    (h1 : ∀ m ∈ M, Value.string m.w ∈ left → ∀ left', (∀ x, x ∈ left' ↔ x ∈ left ∧ x ≠ .string m.w) → left'.length < left.length → ZO P N B w00 ops (j + 1) l J (s.put (some d) (.tup [.val (.bool true), .val (.string m.w), .val m.v])) (ixI P k T B b r G M left' (some (m.w, m.v)))) : ZO P N B w00 ops j (o :: l) J s (ixI P k T B b r G M left cur) := by
  refine ZO.one hg fun a w hs Kn Q hK => ?_
  have hs0 := hs
  obtain ⟨⟨io, w0, g, hr, hC⟩, ⟨⟨hGb, hGm⟩, hGr⟩, hM, hE⟩ := hs0
  have hX := hr.look x
  rw [hx] at hX
  simp only [Rep] at hX
  have hlt : ∀ i, G i → i < w.heap.size := fun i e => Nat.lt_of_lt_of_le (hC.hb i e) hr.fr.size
  rcases hM.it.next o.type with ⟨hl, k1⟩ | ⟨key, v, w', left', q1, q2, k1, k2, k3, k4, k5, k6, k7⟩
  · have hrun : (execOp a.eval o).run P w = .ok (.value (.tuple #[.bool false])) w := by
      unfold execOp
      simp only [ho, hX, Sem.run_bind, k1, Result.andThen_ok, Sem.run_pure]
    unfold Oper.wp
    rw [hrun, Oper.upon_value, hdst]
    exact hK _ _ _ _ (hs.put (fun x e => by cases e; exact hd) fun g w => by simp [Rep, RepL]) (h0 hl)
  · obtain ⟨m, hm, e⟩ := List.mem_map.1 q2
    have e1 : Value.string m.w = key := congrArg Prod.fst e
    have e2 : m.v = v := congrArg Prod.snd e
    subst e1 e2
    have hrun : (execOp a.eval o).run P w = .ok (.value (.tuple #[.bool true, .string m.w, m.v])) w' := by
      unfold execOp
      simp only [ho, hX, Sem.run_bind, k1, Result.andThen_ok, Sem.run_pure]
    unfold Oper.wp
    rw [hrun, Oper.upon_value, hdst]
    have hz := hs.rebase (σ' := ixI P k T B b r G M left' (some (m.w, m.v))) (w' := w') ⟨k5.os, k5.tape, k5.output, k5.size, fun i hi hn => k5.block i hi fun e => hn (by cases e; exact hGr)⟩ (fun i _ e => e) (fun i e => e) (fun b' e => by rw [k6]; exact hlt b' e) ⟨⟨⟨hGb, hGm⟩, hGr⟩, ⟨k2, fun m1 hm1 => (hM.row m1 hm1).kept k5 (by
      obtain ⟨g1, e1, _, e3⟩ := hM.own m1 hm1
      exact .inr (by rw [e1]; simpa using e3)), hM.own, hM.dis⟩, fun p hp w2 g1 g2 => by cases hp; exact k7 w2 g1 g2⟩
    exact hK _ _ _ _ (hz.put (fun x e => by cases e; exact hd) fun g w => by simp [Rep, RepL]) (h1 m hm q1 left' k3 k4)
theorem ZO.entryM {x : Operand} {d : Nat} {p : ByteArray × Value} (ho : o.op = .entry x) (hdst : o.dst = some d) (hd : d < N) (hg : o.guard = none) (hx : look s.tm x = .val (.pointer (some ⟨r, 0, none⟩)))
    (h : ZO P N B w00 ops (j + 1) l J (s.put (some d) (.tup [.val (.string p.1), .val p.2])) (ixI P k T B b r G M left (some p))) : ZO P N B w00 ops j (o :: l) J s (ixI P k T B b r G M left (some p)) := by
  refine ZO.one hg fun a w hs Kn Q hK => ?_
  have hs0 := hs
  obtain ⟨⟨io, w0, g, hr, hC⟩, _, hM, hE⟩ := hs0
  have hX := hr.look x
  rw [hx] at hX
  simp only [Rep] at hX
  have k1 := hE p rfl w rfl rfl
  have hrun : (execOp a.eval o).run P w = .ok (.value (.tuple #[.string p.1, p.2])) w := by
    unfold execOp
    simp only [ho, hX, Sem.run_bind, k1, Result.andThen_ok, Sem.run_pure]
  unfold Oper.wp
  rw [hrun, Oper.upon_value, hdst]
  exact hK _ _ _ _ (hs.put (fun x e => by cases e; exact hd) fun g w => by simp [Rep, RepL]) h
end
end Go.Proofs.YtpggpdbipajchaaGreatDoor
namespace Go.Proofs.YtpggpdbipajchaaGreatDoor
open Go.RowKit
set_option linter.all false
section
variable {P : Program} {k T B b r : Nat} {M M1 M2 : List En} {m : En} {left : List Value} {w w' : World} {G : Nat → Prop}
theorem IxI.turn {g : Nat} {ns' : List Int} (h : IxI P k T B b r (M1 ++ m :: M2) left w) (hg : m.v.ownBlock = some g) (hw : w.grownBy w' (some g)) (ho : w'.ownsRow B T 1 m.v ns'.length (intsV ns')) : IxI P k T B b r (M1 ++ ⟨m.w, m.v, ns'⟩ :: M2) left w' := by
  have hm : m ∈ M1 ++ m :: M2 := by simp
  obtain ⟨g1, e1, e2, e3⟩ := h.own m hm
  rw [hg] at e1
  cases e1
  have hd := h.dis
  rw [List.pairwise_append, List.pairwise_cons] at hd
  have hne : ∀ x, x ∈ M1 ∨ x ∈ M2 → x.v.ownBlock ≠ some g := fun x hx => by
    rcases hx with hx | hx
    · rw [← hg]; exact hd.2.2 x hx m (by simp)
    · rw [← hg]; exact fun e => hd.2.1.1 x hx e.symm
  have hin : ∀ x, x ∈ M1 ∨ x ∈ M2 → x ∈ M1 ++ m :: M2 := fun x hx => by rcases hx with hx | hx <;> simp [hx]
  have hcase : ∀ x ∈ M1 ++ (⟨m.w, m.v, ns'⟩ : En) :: M2, x = ⟨m.w, m.v, ns'⟩ ∨ (x ∈ M1 ∨ x ∈ M2) := fun x hx => by
    rcases List.mem_append.1 hx with hx | hx
    · exact .inr (.inl hx)
    · exact (List.mem_cons.1 hx).imp id .inr
  refine ⟨?_, fun x hx => ?_, fun x hx => ?_, ?_⟩
  · have := h.it.kept hw (by simpa using fun e => e2 e.symm) (by simpa using fun e => e3 e.symm)
    simpa [En.kv] using this
  · rcases hcase x hx with rfl | hx
    · exact ho
    · exact (h.row x (hin x hx)).kept hw (.inr (hne x hx))
  · rcases hcase x hx with rfl | hx
    · exact ⟨g, hg, e2, e3⟩
    · exact h.own x (hin x hx)
  · rw [List.pairwise_append, List.pairwise_cons]
    refine ⟨hd.1, hd.2.1, fun x hx y hy => ?_⟩
    rcases List.mem_cons.1 hy with rfl | hy
    · exact hd.2.2 x hx m (by simp)
    · exact hd.2.2 x hx y (by simp [hy])
theorem EntAt.kept {cur : Option (ByteArray × Value)} (h : EntAt P b r cur w) (hb : w'.heap[b]? = w.heap[b]?) (hr : w'.heap[r]? = w.heap[r]?) : EntAt P b r cur w' := fun p hp w2 h1 h2 => h p hp w2 (h1.trans hr) (h2.trans hb)
theorem ownsRow_pre {e g n c j : Nat} {xs : List Value} (h : w.ownsRow B e 1 (.slice (some ⟨g, 0, none⟩) n c) n xs) (hj : j ≤ n) : w.ownsRow B e 1 (.slice (some ⟨g, 0, none⟩) j c) j (xs.take j) := by
  obtain ⟨h1, h2⟩ := h
  rcases h2 with ⟨e0, _⟩ | ⟨g', cap, cur, e0, k1, k2, k3, k4, k5, k6⟩
  · cases e0
  · cases e0
    refine ⟨by rw [List.length_take, h1]; omega, .inr ⟨g, c, cur, rfl, k1, k2, by omega, k4, k5, ?_⟩⟩
    rw [← k6, List.take_take]
    congr 1
    omega
theorem IxI.told {t e : TypeId} {kl : Lit} {g n c j : Nat} (h : IxI P k T B b r (M1 ++ m :: M2) left w) (hv : m.v = .slice (some ⟨g, 0, none⟩) n c) (hn : m.ns.length = n) (hj : j ≤ n) (K : Go.Maps.Keyed P k) (ht : P.underlying t = some (.map k e)) (hkey : keyOf P k (.string m.w) = some kl) :
    ∃ w', (Instr.mapUpdate t (.map (some b)) (.string m.w) (.slice (some ⟨g, 0, none⟩) j c)).run P w = .ok () w' ∧ IxI P k T B b r (M1 ++ ⟨m.w, .slice (some ⟨g, 0, none⟩) j c, m.ns.take j⟩ :: M2) left w' ∧ w.grownBy w' (some b) ∧ w'.heap.size = w.heap.size := by
  have hm : m ∈ M1 ++ m :: M2 := by simp
  obtain ⟨g1, e1, e2, e3⟩ := h.own m hm
  have hg1 : g1 = g := by rw [hv] at e1; cases e1; rfl
  subst hg1
  have hmap := h.it
  rw [List.map_append, List.map_cons, show m.kv = (.string m.w, m.v) from rfl] at hmap
  obtain ⟨w', k1, k2, k3, k4⟩ := hmap.upd (v := .slice (some ⟨g1, 0, none⟩) j c) K ht hkey
  have hin : ∀ x, x ∈ M1 ∨ x ∈ M2 → x ∈ M1 ++ m :: M2 := fun x hx => by rcases hx with hx | hx <;> simp [hx]
  have hcase : ∀ x ∈ M1 ++ (⟨m.w, .slice (some ⟨g1, 0, none⟩) j c, m.ns.take j⟩ : En) :: M2, x = ⟨m.w, .slice (some ⟨g1, 0, none⟩) j c, m.ns.take j⟩ ∨ (x ∈ M1 ∨ x ∈ M2) := fun x hx => by
    rcases List.mem_append.1 hx with hx | hx
    · exact .inr (.inl hx)
    · exact (List.mem_cons.1 hx).imp id .inr
  refine ⟨w', k1, ⟨by simpa [En.kv] using k2, fun x hx => ?_, fun x hx => ?_, ?_⟩, k3, k4⟩
  · rcases hcase x hx with rfl | hx
    · have h1 := h.row m hm
      rw [hv, hn] at h1
      have h2 := ownsRow_pre h1 hj
      dsimp only
      rw [List.length_take, hn, Nat.min_eq_left hj]
      refine World.ownsRow.kept ?_ k3 (.inr (by simpa [Value.ownBlock] using e2))
      simpa [intsV, List.map_take] using h2
    · obtain ⟨g2, q1, q2, _⟩ := h.own x (hin x hx)
      exact (h.row x (hin x hx)).kept k3 (.inr (by rw [q1]; simpa using q2))
  · rcases hcase x hx with rfl | hx
    · exact ⟨g1, rfl, e2, e3⟩
    · exact h.own x (hin x hx)
  · have hd := h.dis
    rw [List.pairwise_append, List.pairwise_cons] at hd ⊢
    have hb1 : m.v.ownBlock = (Value.slice (some ⟨g1, 0, none⟩) j c).ownBlock := by rw [hv]; rfl
    refine ⟨hd.1, ⟨fun y hy => ?_, hd.2.1.2⟩, fun x hx y hy => ?_⟩
    · dsimp only
      rw [← hb1]
      exact hd.2.1.1 y hy
    · rcases List.mem_cons.1 hy with rfl | hy
      · dsimp only
        rw [← hb1]
        exact hd.2.2 x hx m (by simp)
      · exact hd.2.2 x hx y (by simp [hy])
end
end Go.Proofs.YtpggpdbipajchaaGreatDoor
