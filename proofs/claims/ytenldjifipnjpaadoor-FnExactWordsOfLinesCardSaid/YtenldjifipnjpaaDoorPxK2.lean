/- Regions that draw their order and make one object at a place of its own choice. -/
import Derived.Test.YtenldjifipnjpaaDoorPxK
namespace Go.Proofs.YtenldjifipnjpaaDoor
open Go.RowKit
set_option linter.all false
section
variable {P : Program} {Γ : Ctx} {imm : Md} {ops : Array Oper} {io : IoS} {w0 : World} {N : Nat} {g : Gh} {s s' : AS} {a : Act} {w w' : World} {o : Oper}

/-- A number is kept free. -/
def IoS.keep (io : IoS) (R : Nat) : IoS := { io with hole := fun o => io.hole o ∨ o = R }
def Gh.keep (g : Gh) : Gh := { g with nx := g.nx + 1, hole := fun o => g.hole o ∨ o = g.nx }
def Gh.fill (g : Gh) (R b k : Nat) : Gh := { g with β := upd g.β R b, κ := upd g.κ R k, hole := fun o => g.hole o ∧ o ≠ R }
theorem Gh.le_keep (g : Gh) : g.le g.keep :=
  ⟨fun _ _ h => h, fun o h => ⟨Nat.lt_succ_of_lt h.1, fun q => q.elim h.2 fun e => by have := h.1; omega⟩, fun _ _ => rfl, fun _ _ => rfl⟩
theorem Rel.keep (h : Rel io w0 N g s a w) : Rel (io.keep s.nx) w0 N g.keep { s with nx := s.nx + 1 } a w :=
  ⟨h.nt, h.df, fun t => (h.tm t).mono g.le_keep fun _ _ _ => rfl, fun o c ho => by
      obtain ⟨k1, k2, k3, k4⟩ := h.ob o c ho
      exact ⟨g.le_keep.D o k1, k2, k3, k4.mono g.le_keep k1 (fun _ _ _ => rfl) rfl⟩,
    h.inj, congrArg (· + 1) h.nx, h.lt, h.new, h.fr, h.old, ⟨fun o ho => g.le_keep.D o (h.fix.1 o ho), h.fix.2⟩,
    fun o ho => ho.elim (fun q => ⟨.inl (h.hl o q).1, Nat.lt_succ_of_lt (h.hl o q).2⟩) fun e => ⟨.inr (e.trans h.nx.symm), by subst e; rw [← h.nx]; exact Nat.lt_succ_self _⟩, h.tab⟩
theorem Rel.hole_none {R : Nat} (h : Rel (io.keep R) w0 N g s a w) : s.ob R = none ∧ R < s.nx := by
  have h1 := h.hl R (.inr rfl)
  refine ⟨?_, h.nx ▸ h1.2⟩
  cases hq : s.ob R with
  | none => rfl
  | some c => exact absurd h1.1 (h.ob R c hq).1.2
theorem Gh.le_fill {R : Nat} (hR : g.hole R) (b k : Nat) : g.le (g.fill R b k) :=
  ⟨fun _ _ h => h, fun o h => ⟨h.1, fun q => h.2 q.1⟩, fun o ho => upd_no fun e => ho.2 (e ▸ hR), fun o ho => upd_no fun e => ho.2 (e ▸ hR)⟩
theorem Rel.fill {R : Nat} (h : Rel (io.keep R) w0 N g s a w) (hio : ∀ b, io b → b < w0.heap.size) (hRio : ¬ io.hole R) {arr : Array Value} {T sz : Nat} {es : List PV} (hb : Below w.heap.size w w') (hn : w'.heap[w.heap.size]? = some (.cells arr T (0, 0)))
    (hes : Lays g w arr sz es) (hlen : es.length * sz ≤ arr.size) :
    Rel io w0 N (g.fill R w.heap.size arr.size) { s with ob := upd s.ob R (some (T, sz, es)) } a w' := by
  have hw : ∀ k b, g.I k b → w'.heap[b]? = w.heap[b]? := fun k b hi => hb.block b (h.lt k b hi)
  have hR := h.hl R (.inr rfl)
  have hle := Gh.le_fill hR.1 w.heap.size arr.size
  have hβn : (g.fill R w.heap.size arr.size).β R = w.heap.size := upd_same _ _ _
  have hκn : (g.fill R w.heap.size arr.size).κ R = arr.size := upd_same _ _ _
  have hDn : (g.fill R w.heap.size arr.size).D R := ⟨hR.2, fun q => q.2 rfl⟩
  have hold : ∀ o c, s.ob o = some c → g.D o ∧ g.β o < w.heap.size := fun o c ho => by
    obtain ⟨h1, _, _, h4⟩ := h.ob o c ho
    obtain ⟨arr', ha, _⟩ := h4.1
    exact ⟨h1, lt_of_heap ha⟩
  refine ⟨h.nt, h.df, fun t => (h.tm t).mono hle hw, fun o c ho => ?_, fun o o' ho ho' he => ?_, h.nx, fun k b hi => Nat.lt_of_lt_of_le (h.lt k b hi) hb.size, h.new, h.fr.below hb, h.old, ⟨fun o ho => hle.D o (h.fix.1 o ho), fun o ho => ?_⟩, fun o ho => ?_, h.tab⟩
  · dsimp only at ho
    unfold upd at ho
    split at ho
    · rename_i heq
      subst heq
      cases ho
      refine ⟨hDn, .inl (by rw [hβn]; exact h.fr.size), fun k hk => ?_, ⟨arr, by rw [hβn]; exact hn, hκn.symm⟩, by rw [hκn]; exact hlen, ?_⟩
      · rw [hβn] at hk
        have := h.lt k _ hk
        omega
      · rw [hβn]
        exact hes.repEs hle hw hn
    · obtain ⟨h1, h2, h3, h4⟩ := h.ob o c ho
      have hlt := (hold o c ho).2
      have hβ := hle.β o h1
      refine ⟨hle.D o h1, by rw [hβ]; exact h2, by rw [hβ]; exact h3, h4.mono hle h1 hw (hb.block _ hlt)⟩
  · dsimp only at ho ho'
    have key : ∀ o, (upd s.ob R (some (T, sz, es)) o).isSome → o = R ∨ (s.ob o).isSome ∧ g.D o ∧ g.β o < w.heap.size := fun o ho => by
      unfold upd at ho
      split at ho
      · left; assumption
      · obtain ⟨c, hc⟩ := Option.isSome_iff_exists.1 ho
        exact .inr ⟨ho, hold o c hc⟩
    rcases key o ho with rfl | ⟨k1, k2, k3⟩
    · rcases key o' ho' with rfl | ⟨k1', k2', k3'⟩
      · rfl
      · rw [hβn, hle.β o' k2'] at he
        omega
    · rcases key o' ho' with rfl | ⟨k1', k2', k3'⟩
      · rw [hβn, hle.β o k2] at he
        omega
      · rw [hle.β o k2, hle.β o' k2'] at he
        exact h.inj o o' k1 k1' he
  · have hk := h.fix.1 o ho
    rw [hle.β o hk, hle.κ o hk]
    exact h.fix.2 o ho
  · have h1 := h.hl o (.inl ho)
    exact ⟨⟨h1.1, fun e => hRio (e ▸ ho)⟩, h1.2⟩

/-- The object is made, under the number kept. -/
def AS.flt (s : AS) (R t d : Nat) (z : Value) : AS := ({ s with ob := upd s.ob R (some (t, z.cells.size, [ofVal z])) } : AS).put (some d) (.own R z.cells.size 0 0)
theorem flt_ok {R t d i : Nat} {z : Value} (h : Rel (io.keep R) w0 N g s a w) (hio : ∀ b, io b → b < w0.heap.size) (hRio : ¬ io.hole R) (hi : ops[i]? = some o) (ho : o.op = .alloc t) (hd : o.dst = some d) (hdN : d < N) (hg : o.guard = none)
    (hz : zeroOf P t = some z) (h1 : z.cells.all (·.oneCell') = true) {Q : Exit → Act → World → Prop} {K : Act → World → Prop}
    (hK : ∀ g' a' w', Rel io w0 N g' (s.flt R t d z) a' w' → K a' w') : wpOp P ops Q i K a w := by
  have hr : (execOp a.eval o).run P w = .ok (.value (.pointer (some ⟨w.heap.size, 0, none⟩))) (w.alloc (.cells z.cells t)) := by
    simp [execOp, ho, Instr.alloc, Sem.run_bind, run_zero hz w, newVar, newRow]
  unfold wpOp
  simp only [hi]
  have hw : Region.wanted o (yielded ops a.tmps) = true := by simp [Region.wanted, hg]
  rw [hw]
  simp only [if_true]
  left
  unfold Oper.wp
  rw [hr, Oper.upon_value]
  have hrel := Rel.fill (T := t) h hio hRio (below_new _ _) (heap_alloc_new _ _) (Lays.one (ofVal_rep g w z) h1) (by simp)
  have hR := h.hl R (.inr rfl)
  rw [hd]
  refine hK _ _ _ (hrel.put (fun x hx => by cases hx; exact hdN) ?_)
  simp only [Rep, Gh.fill, upd_same]
  exact ⟨by simp, hR.2, fun q => q.2 rfl⟩
theorem flt_app {R t d : Nat} {z : Value} (hd : o.dst = some d) : s.flt R t d z = s.app o (.own R z.cells.size 0 0, some (upd s.ob R (some (t, z.cells.size, [ofVal z])), s.nx)) := by
  unfold AS.flt AS.app
  rw [hd]
theorem evRes_flt {R t d : Nat} {z : Value} {x : Oper} {r : PV × Option (Objs × Nat)} (hd : o.dst = some d) (ha : d ∉ x.looksAt ops) (hR : s.ob R = none) (hlt : R < s.nx) (h : evRes P Γ imm ops x s = some r) :
    (∀ q, r.2 = some q → q.1 R = none ∧ R < q.2) ∧ evRes P Γ imm ops x (s.flt R t d z) = some (r.1, r.2.map fun q => (upd q.1 R (some (t, z.cells.size, [ofVal z])), q.2)) := by
  have hl : ∀ e, o.dst = some e → e ∉ x.looksAt ops := fun e he => by rw [hd] at he; cases he; exact ha
  have hlook := look_app (s := s) (x := o) (y := x) (r := (.own R z.cells.size 0 0, some (upd s.ob R (some (t, z.cells.size, [ofVal z])), s.nx))) hl
  rw [← flt_app hd] at hlook
  have hguard := guard_app (ops := ops) (s := s) (x := o) (y := x) (r := (.own R z.cells.size 0 0, some (upd s.ob R (some (t, z.cells.size, [ofVal z])), s.nx))) hl
  rw [← flt_app hd] at hguard
  have hob : (s.flt R t d z).ob = upd s.ob R (some (t, z.cells.size, [ofVal z])) := rfl
  have hnx : (s.flt R t d z).nx = s.nx := rfl
  unfold evRes at h ⊢
  rw [hguard]
  cases hg : evGuard ops s x with
  | none => rw [hg] at h; cases h
  | some b =>
    rw [hg] at h
    cases b with
    | false =>
      dsimp only at h ⊢
      cases h
      exact ⟨fun q hq => (by cases hq), rfl⟩
    | true =>
      dsimp only at h ⊢
      cases hx : isEff Γ imm x with
      | true =>
        rw [hx] at h
        simp only [if_true] at h ⊢
        rw [Option.map_eq_some_iff] at h
        obtain ⟨r0, h0, rfl⟩ := h
        split at h0
        case isFalse => cases h0
        case isTrue hok =>
        obtain ⟨k1, k2, k3⟩ := evEff_more (c := (t, z.cells.size, [ofVal z])) hR hlt h0
        have e1 : evEff P Γ (s.flt R t d z) (look (s.flt R t d z).tm) x.op = evEff P Γ (s.flt R t d z) (look s.tm) x.op := evEff_congr x.op hlook
        have e2 : evEff P Γ (s.flt R t d z) (look s.tm) x.op = evEff P Γ { s with ob := upd s.ob R (some (t, z.cells.size, [ofVal z])) } (look s.tm) x.op := by
          unfold evEff
          rw [hob, hnx]
        have e3 : effOk Γ imm (s.flt R t d z).nx (look (s.flt R t d z).tm) x.op = effOk Γ imm s.nx (look s.tm) x.op := by
          unfold effOk
          rw [hnx, touch_congr x.op hlook]
        rw [e1, e2, e3, if_pos hok, k3]
        refine ⟨fun q hq => ?_, rfl⟩
        cases hq
        exact ⟨k1, Nat.lt_of_lt_of_le hlt k2⟩
      | false =>
        rw [hx] at h
        simp only [Bool.false_eq_true, if_false] at h ⊢
        rw [Option.map_eq_some_iff] at h
        obtain ⟨p, h0, rfl⟩ := h
        have e1 : evVal P Γ (obq imm x (s.flt R t d z).ob) (look (s.flt R t d z).tm) x.type x.op = evVal P Γ (obq imm x (s.flt R t d z).ob) (look s.tm) x.type x.op := evVal_congr x.op hlook
        have H := more_upd (c := (t, z.cells.size, [ofVal z])) hR
        have e2 := evVal_more (ob' := obq imm x (s.flt R t d z).ob) (fun o c ho => by
          rw [hob]
          unfold obq at ho ⊢
          split at ho
          · cases ho
          · split at ho
            · rename_i h1 h2
              rw [if_neg h1, if_pos h2]
              unfold onlyV at ho ⊢
              split at ho
              · rename_i h3
                rw [if_pos h3]
                exact H o c ho
              · cases ho
            · rename_i h1 h2
              rw [if_neg h1, if_neg h2]
              exact H o c ho) h0
        rw [e1, e2]
        exact ⟨fun q hq => (by cases hq), rfl⟩
theorem evOp_flt {R t d : Nat} {z : Value} {x : Oper} {s1 : AS} (hd : o.dst = some d) (ha : d ∉ x.looksAt ops) (hne : x.dst ≠ some d) (hR : s.ob R = none) (hlt : R < s.nx) (h : evOp P Γ imm ops x s = some s1) :
    s1.ob R = none ∧ R < s1.nx ∧ evOp P Γ imm ops x (s.flt R t d z) = some (s1.flt R t d z) := by
  rw [evOp_res, Option.map_eq_some_iff] at h
  obtain ⟨r, h0, rfl⟩ := h
  obtain ⟨k1, k2⟩ := evRes_flt (z := z) (t := t) hd ha hR hlt h0
  rw [evOp_res, k2]
  cases hr : r.2 with
  | none =>
    have e : s.app x r = s.put x.dst r.1 := by unfold AS.app; rw [hr]
    rw [e]
    refine ⟨by rw [put_ob.1]; exact hR, by rw [put_ob.2]; exact hlt, ?_⟩
    simp only [Option.map_none, Option.map_some, Option.some.injEq, AS.app]
    unfold AS.flt
    rw [put_comm (s := ({ s with ob := upd s.ob R (some (t, z.cells.size, [ofVal z])) } : AS)) (d := some d) (e := x.dst) (fun y hy => by cases hy; exact hne)]
    cases x.dst <;> rfl
  | some q =>
    obtain ⟨m1, m2⟩ := k1 q hr
    have e : s.app x r = ({ s with ob := q.1, nx := q.2 } : AS).put x.dst r.1 := by unfold AS.app; rw [hr]
    rw [e]
    refine ⟨by rw [put_ob.1]; exact m1, by rw [put_ob.2]; exact m2, ?_⟩
    simp only [Option.map_some, Option.some.injEq, AS.app]
    unfold AS.flt
    have := put_comm (s := ({ s with ob := upd q.1 R (some (t, z.cells.size, [ofVal z])), nx := q.2 } : AS)) (d := some d) (e := x.dst) (u := .own R z.cells.size 0 0) (v := r.1) (fun y hy => by cases hy; exact hne)
    cases hxd : x.dst with
    | none => rfl
    | some e =>
      rw [hxd] at this
      exact this
theorem evL_flt {R t d : Nat} {z : Value} (hd : o.dst = some d) (hR : s.ob R = none) (hlt : R < s.nx) : ∀ (p : List Nat) {s s1 : AS}, (∀ i ∈ p, ∀ x, ops[i]? = some x → d ∉ x.looksAt ops ∧ x.dst ≠ some d) → s.ob R = none → R < s.nx → evL P Γ imm ops p s = some s1 →
    evL P Γ imm ops p (s.flt R t d z) = some (s1.flt R t d z)
  | [], s, s1, hp, h1, h2, h => by cases h; rfl
  | i :: p, s, s1, hp, h1, h2, h => by
    rw [evL_cons] at h ⊢
    cases hx : ops[i]? with
    | none =>
      simp only [hx] at h ⊢
      exact evL_flt hd hR hlt p (fun j hj => hp j (by simp [hj])) h1 h2 h
    | some x =>
      simp only [hx] at h ⊢
      cases hq : evOp P Γ imm ops x s with
      | none => simp [hq] at h
      | some s2 =>
        simp only [hq] at h
        obtain ⟨m1, m2⟩ := hp i (by simp) x hx
        obtain ⟨k1, k2, k3⟩ := evOp_flt (z := z) (t := t) hd m1 m2 h1 h2 hq
        rw [k3]
        exact evL_flt hd hR hlt p (fun j hj => hp j (by simp [hj])) k1 k2 h
theorem evL_app {p q : List Nat} {s s1 s' : AS} (h1 : evL P Γ imm ops p s = some s1) (h2 : evL P Γ imm ops q s1 = some s') : evL P Γ imm ops (p ++ q) s = some s' := by
  induction p generalizing s with
  | nil => cases h1; exact h2
  | cons i p ih =>
    rw [List.cons_append, evL_cons]
    rw [evL_cons] at h1
    cases hx : ops[i]? with
    | none => simp only [hx] at h1 ⊢; exact ih h1
    | some x =>
      simp only [hx] at h1 ⊢
      cases hq : evOp P Γ imm ops x s with
      | none => simp [hq] at h1
      | some s2 => simp only [hq] at h1 ⊢; exact ih h1
def apartD (ops : Array Oper) (i d : Nat) : Bool := match ops[i]? with
  | some x => !((x.looksAt ops).contains d) && decide (x.dst ≠ some d)
  | none => true
/-- Every pair of operations may change places or is ordered; the operation k makes an object at the slot d. -/
def drawOkF (Γ : Ctx) (imm : Md) (ops : Array Oper) (k d : Nat) : Bool :=
  (List.range ops.size).all fun j =>
    ((List.range j).all fun i => if j = k then apartD ops i d else if i = k then ordB ops ops.size i j else indepAt Γ imm ops i j || ordB ops ops.size i j) &&
    (match ops[j]? with | some o => o.after.all (fun e => !Region.binds .any e || decide (e.on < j)) | none => true)
theorem drawOkF_facts {k d : Nat} (hok : drawOkF Γ imm ops k d = true) : ∀ j, j < ops.size →
    (∀ i, i < j → (j = k → ∀ x, ops[i]? = some x → d ∉ x.looksAt ops ∧ x.dst ≠ some d) ∧ (i = k → ordB ops ops.size i j = true) ∧ (i ≠ k → j ≠ k → indepAt Γ imm ops i j = true ∨ ordB ops ops.size i j = true)) ∧
    ∀ o, ops[j]? = some o → ∀ e ∈ o.after, Region.binds .any e = true → e.on < j := fun j hj => by
  unfold drawOkF at hok
  rw [List.all_eq_true] at hok
  have h := hok j (by simpa using hj)
  simp only [Bool.and_eq_true, List.all_eq_true, List.mem_range] at h
  refine ⟨fun i hi => ?_, fun o ho e he hb => ?_⟩
  · have h1 := h.1 i hi
    refine ⟨fun hjk x hx => ?_, fun hik => ?_, fun hik hjk => ?_⟩
    · rw [if_pos hjk] at h1
      unfold apartD at h1
      rw [hx] at h1
      simp only [Bool.and_eq_true, Bool.not_eq_true', decide_eq_true_eq] at h1
      exact ⟨by simpa using h1.1, h1.2⟩
    · rw [if_neg (by omega), if_pos hik] at h1
      exact h1
    · rw [if_neg hjk, if_neg hik] at h1
      simpa using h1
  · have h2 := h.2
    rw [ho] at h2
    dsimp only at h2
    have := (Array.all_eq_true_iff_forall_mem.1 h2) e he
    simpa [hb] using this
theorem list_step {listed : Array Bool} {p q : List Nat} {i : Nat} {x : Oper} (h2 : ops[i]? = some x) (h3 : ∀ e ∈ x.after, Region.binds .any e = true → listed.getD e.on false = true) (hsz : listed.size = ops.size)
    (hrem : ∀ j, j ∈ p ++ i :: q ↔ j < ops.size ∧ listed.getD j true = false) (hpw : (p ++ i :: q).Pairwise (· < ·))
    (hcl : ∀ j o, ops[j]? = some o → listed.getD j true = true → ∀ e ∈ o.after, Region.binds .any e = true → listed.getD e.on false = true) :
    (∀ j, j ∈ p ++ q ↔ j < ops.size ∧ (listed.setIfInBounds i true).getD j true = false) ∧ (p ++ q).Pairwise (· < ·) ∧
    (∀ j o, ops[j]? = some o → (listed.setIfInBounds i true).getD j true = true → ∀ e ∈ o.after, Region.binds .any e = true → (listed.setIfInBounds i true).getD e.on false = true) := by
  have hilt := (Array.getElem?_eq_some_iff.1 h2).1
  refine ⟨fun j => ?_, ?_, ?_⟩
  · by_cases hji : j = i
    · subst hji
      have hnp : j ∉ p ++ q := by
        rw [List.pairwise_append] at hpw
        intro hm
        rcases List.mem_append.1 hm with hm | hm
        · have := hpw.2.2 j hm j (by simp)
          omega
        · have := (List.pairwise_cons.1 hpw.2.1).1 j hm
          omega
      constructor
      · intro hm; exact absurd hm hnp
      · rintro ⟨_, hf⟩
        have hlt : j < listed.size := by omega
        simp [hlt] at hf
    · rw [getD_set_ne true (fun e => hji e.symm), ← hrem j]
      simp [hji]
  · rw [List.pairwise_append] at hpw ⊢
    exact ⟨hpw.1, (List.pairwise_cons.1 hpw.2.1).2, fun x hx y hy => hpw.2.2 x hx y (by simp [hy])⟩
  · intro j o' ho' hl e he hb
    by_cases hji : j = i
    · subst hji
      rw [h2] at ho'
      cases ho'
      exact getD_set_true (h3 e he hb)
    · rw [getD_set_ne true (fun e => hji e.symm)] at hl
      exact getD_set_true (hcl j o' ho' hl e he hb)
theorem anyF_ok {R k t d : Nat} {z : Value} (hΓ : SoundΓ P Γ) (hio : ∀ b, io b → b < w0.heap.size) (hRio : ¬ io.hole R) (hd : ops.all (dstOk N) = true) (hok : drawOkF Γ imm ops k d = true) (hk : ops[k]? = some o) (ho : o.op = .alloc t) (hdst : o.dst = some d) (hg : o.guard = none)
    (hz : zeroOf P t = some z) (h1 : z.cells.all (·.oneCell') = true) {Q : Exit → Act → World → Prop} {s' : AS} (hQ : ∀ g' a' w', Rel io w0 N g' s' a' w' → Q .normal a' w') :
    ∀ (fuel : Nat) (listed : Array Bool) (p q : List Nat) (g : Gh) (s s1 : AS) (a : Act) (w : World), (p ++ k :: q).length ≤ fuel → listed.size = ops.size → (∀ i, i ∈ p ++ k :: q ↔ i < ops.size ∧ listed.getD i true = false) → (p ++ k :: q).Pairwise (· < ·) →
      (∀ j o, ops[j]? = some o → listed.getD j true = true → ∀ e ∈ o.after, Region.binds .any e = true → listed.getD e.on false = true) →
      Rel (io.keep R) w0 N g s a w → evL P Γ imm ops p s = some s1 → evL P Γ imm ops q (s1.flt R t d z) = some s' → wpAny P .any ops Q fuel listed a w := by
  have hfacts := drawOkF_facts hok
  have hdN : d < N := by
    have := (Array.all_eq_true_iff_forall_mem.1 hd) o (Array.mem_of_getElem? hk)
    unfold dstOk at this
    rw [hdst] at this
    simpa using this
  intro fuel
  induction fuel with
  | zero => intro listed p q g s s1 a w hlen; simp at hlen
  | succ fuel ih =>
    intro listed p q g s s1 a w hlen hsz hrem hpw hcl h he1 he2
    refine ⟨fun hr => ?_, fun i hi => ?_⟩
    · exfalso
      have hne : p ++ k :: q ≠ [] := by simp
      obtain ⟨i0, r0, hp0⟩ := List.exists_cons_of_ne_nil hne
      obtain ⟨hi1, hi2⟩ := (hrem i0).1 (by rw [hp0]; simp)
      have : i0 ∈ Region.ready .any ops listed := by
        rw [mem_ready]
        refine ⟨hi2, ops[i0], Array.getElem?_eq_getElem hi1, fun e he hb => ?_⟩
        have hlt := (hfacts i0 hi1).2 _ (Array.getElem?_eq_getElem hi1) e he hb
        have hnot : ¬ e.on ∈ p ++ k :: q := by
          rw [hp0]
          rw [hp0] at hpw
          intro hm
          rcases List.mem_cons.1 hm with hm | hm
          · omega
          · have := (List.pairwise_cons.1 hpw).1 _ hm
            omega
        rw [hrem] at hnot
        have hlt' : e.on < listed.size := by omega
        have : listed.getD e.on true ≠ false := fun h0 => hnot ⟨by omega, h0⟩
        simp [hlt'] at this ⊢
        exact this
      rw [hr] at this
      cases this
    · rw [mem_ready] at hi
      obtain ⟨g1, x, g2, g3⟩ := hi
      have hilt := (Array.getElem?_eq_some_iff.1 g2).1
      have hmem := (hrem i).2 ⟨hilt, g1⟩
      have hunl : ∀ y, y ∈ p ++ k :: q → ordB ops ops.size y i = true → False := fun y hy hord => by
        have hxl := ord_listed hcl _ _ _ hord (fun o' ho' e he hb => by rw [g2] at ho'; cases ho'; exact g3 e he hb)
        have := ((hrem y).1 hy).2
        have hlt : y < listed.size := by have := ((hrem y).1 hy).1; omega
        simp [hlt] at this hxl
        rw [this] at hxl
        cases hxl
      have hpw0 := hpw
      rw [List.pairwise_append] at hpw0
      rcases List.mem_append.1 hmem with hip | hiq
      · -- before the object is made
        obtain ⟨p1, p2, rfl⟩ := List.append_of_mem hip
        have hik : i < k := hpw0.2.2 i (by simp) k (by simp)
        have hp : ∀ y ∈ p1, indepAt Γ imm ops y i = true := fun y hy => by
          have hyi : y < i := by
            have := hpw0.1
            rw [List.pairwise_append] at this
            exact this.2.2 y hy i (by simp)
          rcases ((hfacts i hilt).1 y hyi).2.2 (by omega) (by omega) with q1 | q1
          · exact q1
          · exact (hunl y (by simp [hy]) q1).elim
        have hfr := evL_front hp he1
        rw [evL_cons, g2] at hfr
        dsimp only at hfr
        split at hfr
        · rename_i s2 hs2
          have hdo : dstOk N x = true := (Array.all_eq_true_iff_forall_mem.1 hd) x (Array.mem_of_getElem? g2)
          have hrem' : ∀ j, j ∈ p1 ++ i :: (p2 ++ k :: q) ↔ j < ops.size ∧ listed.getD j true = false := fun j => by rw [← hrem j]; simp
          have hpw' : (p1 ++ i :: (p2 ++ k :: q)).Pairwise (· < ·) := by simpa using hpw
          obtain ⟨m1, m2, m3⟩ := list_step g2 g3 hsz hrem' hpw' hcl
          refine op_ok h hΓ hio hdo hs2 g2 fun g' a' w' hr => ih _ (p1 ++ p2) q g' s2 s1 a' w' (by simp at hlen ⊢; omega) (by simpa using hsz) (fun j => ?_) ?_ m3 hr hfr he2
          · rw [← m1 j]; simp
          · simpa using m2
        · cases hfr
      · rcases List.mem_cons.1 hiq with rfl | hiq
        · -- the object is made
          rw [hk] at g2
          cases g2
          obtain ⟨m1, m2, m3⟩ := list_step hk g3 hsz hrem hpw hcl
          obtain ⟨n1, n2⟩ := h.hole_none
          refine flt_ok h hio hRio hk ho hdst hdN hg hz h1 fun g' a' w' hr => any_okX hΓ hio hd (X := fun j => j ≠ i) (fun j hj => ⟨fun y hy hyk hjk => ((hfacts j hj).1 y hy).2.2 hyk hjk, (hfacts j hj).2⟩) hQ fuel _ (p ++ q) g' (s.flt R t d z) a' w' (by simp at hlen ⊢; omega) (by simpa using hsz) m1 m2 (fun y hy => ?_) m3 hr
            (evL_app (evL_flt (z := z) (t := t) hdst n1 n2 p (fun y hy x hx => ((hfacts i hilt).1 y (hpw0.2.2 y hy i (by simp))).1 rfl x hx) n1 n2 he1) he2)
          rcases List.mem_append.1 hy with hy | hy
          · have := hpw0.2.2 y hy i (by simp)
            omega
          · have := (List.pairwise_cons.1 hpw0.2.1).1 y hy
            omega
        · -- behind it
          have hki : k < i := (List.pairwise_cons.1 hpw0.2.1).1 i hiq
          exact (hunl k (by simp) (((hfacts i hilt).1 k hki).2.1 rfl)).elim
theorem evL_part : ∀ (n j : Nat) (s : AS), j + n ≤ ops.size → evL P Γ imm ops (List.range' j n) s = evSeq P Γ imm ops ((ops.toList.drop j).take n) s
  | 0, j, s, hj => rfl
  | n + 1, j, s, hj => by
    have hlt : j < ops.size := by omega
    have hk : ops[j]? = some ops[j] := Array.getElem?_eq_getElem hlt
    have hd : ops.toList.drop j = ops[j] :: ops.toList.drop (j + 1) := by
      rw [List.drop_eq_getElem_cons (by simpa using hlt)]
      rfl
    rw [hd, List.take_succ_cons]
    simp only [List.range'_succ, evL, hk, evSeq]
    cases evOp P Γ imm ops ops[j] s with
    | none => rfl
    | some s' => exact evL_part n (j + 1) s' (by omega)
theorem drawF_ok {id k t d : Nat} {z : Value} {Q : Exit → Act → World → Prop} {s1 : AS} (hm : P.follows .mixedOrders = true) (h : Rel io w0 N g s a w) (hRio : ¬ io.hole s.nx) (hΓ : SoundΓ P Γ) (hio : ∀ b, io b → b < w0.heap.size) (hd : ops.all (dstOk N) = true)
    (hok : drawOkF Γ imm ops k d = true) (hk : ops[k]? = some o) (ho : o.op = .alloc t) (hdst : o.dst = some d) (hg : o.guard = none) (hz : zeroOf P t = some z) (h1 : z.cells.all (·.oneCell') = true)
    (he1 : evSeq P Γ imm ops (ops.toList.take k) { s with nx := s.nx + 1 } = some s1) (he2 : evSeq P Γ imm ops (ops.toList.drop (k + 1)) (s1.flt s.nx t d z) = some s') (hQ : ∀ g' a' w', Rel io w0 N g' s' a' w' → Q .normal a' w') : (Code.region id ops true).wp P Q a w := by
  refine wp_region_any hm ?_
  have hdrew : Rel io w0 N g s a { w with drawn := w.drawn + 1 } := ⟨h.nt, h.df, fun t => Rep.mono (w := w) (w' := { w with drawn := w.drawn + 1 }) (g := g) (g' := g) (Gh.le_refl g) (fun _ _ _ => rfl) _ _ (h.tm t), fun o c ho => by
    obtain ⟨k1, k2, k3, k4⟩ := h.ob o c ho
    exact ⟨k1, k2, k3, ObjAt.mono (w := w) (w' := { w with drawn := w.drawn + 1 }) (g := g) (g' := g) k4 (Gh.le_refl g) k1 (fun _ _ _ => rfl) rfl⟩, h.inj, h.nx, h.lt, h.new, ⟨h.fr.os, h.fr.tape, h.fr.output, h.fr.size, h.fr.block⟩, h.old, h.fix, h.hl, h.tab⟩
  have hkl := (Array.getElem?_eq_some_iff.1 hk).1
  have hrange : List.range ops.size = List.range' 0 k ++ k :: List.range' (k + 1) (ops.size - (k + 1)) := by
    rw [List.range_eq_range', show ops.size = k + (1 + (ops.size - (k + 1))) by omega, ← List.range'_append_1]
    congr 1
    rw [Nat.zero_add, Nat.add_comm 1, List.range'_succ]
    congr 2
    omega
  have hall : ∀ i, i ∈ List.range' 0 k ++ k :: List.range' (k + 1) (ops.size - (k + 1)) ↔ i < ops.size := fun i => by rw [← hrange, List.mem_range]
  refine anyF_ok hΓ hio hRio hd hok hk ho hdst hg hz h1 hQ ops.size _ (List.range' 0 k) (List.range' (k + 1) (ops.size - (k + 1))) g.keep { s with nx := s.nx + 1 } s1 a _ (by simp; omega) (by simp) (fun i => ?_) (by rw [← hrange]; exact List.pairwise_lt_range) (fun j o ho hl => ?_) hdrew.keep ?_ ?_
  · rw [hall]
    constructor
    · intro hi; exact ⟨hi, by simp [hi]⟩
    · exact fun hi => hi.1
  · have hlt := (Array.getElem?_eq_some_iff.1 ho).1
    simp [hlt] at hl
  · rw [evL_part k 0 _ (by omega)]
    exact he1
  · rw [evL_part (ops.size - (k + 1)) (k + 1) _ (by omega), List.take_of_length_le (by simp)]
    exact he2
end
end Go.Proofs.YtenldjifipnjpaaDoor
