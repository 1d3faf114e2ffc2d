/- What the proof rests on, part 2: contracts of functions. No condition beyond what each states. -/
import Derived.Test.YtngcedklbinhjaaZHy1
namespace Go.Proofs.Ytngcedklbinhjaa
open Go.RowKit
set_option linter.all false
section
variable {P : Program} {Γ : Ctx} {imm : Md} {ops : Array Oper} {io : IoS} {w0 : World} {N : Nat} {g : Gh} {s s' : AS} {a : Act} {w w' : World} {o : Oper}
def IoS.keep (io : IoS) (R : Nat) : IoS := { io with hole := fun o => io.hole o ∨ o = R }
def Gh.keep (g : Gh) : Gh := { g with nx := g.nx + 1, hole := fun o => g.hole o ∨ o = g.nx }
def Gh.fill (g : Gh) (R b k : Nat) : Gh := { g with β := upd g.β R b, κ := upd g.κ R k, hole := fun o => g.hole o ∧ o ≠ R }
theorem Gh.le_keep (g : Gh) : g.le g.keep :=
  ⟨fun _ _ h => h, fun o h => ⟨Nat.lt_succ_of_lt h.1, fun q => q.elim h.2 fun e => by have := h.1; omega⟩, fun _ _ => rfl, fun _ _ => rfl⟩
theorem Rel.keep (h : Rel io w0 N g s a w) : Rel (io.keep s.nx) w0 N g.keep { s with nx := s.nx + 1 } a w :=
  ⟨h.nt, h.df, fun t => (h.tm t).mono g.le_keep fun _ _ _ => rfl, fun o c ho => by
      obtain ⟨k1, k2, k3, k4⟩ := h.ob o c ho
      exact ⟨g.le_keep.D o k1, k2, k3, k4.mono g.le_keep k1 (fun _ _ _ => rfl) rfl⟩,
    h.inj, congrArg (· + 1) h.nx, h.lt, h.new, h.fr, h.old, ⟨fun o ho => g.le_keep.D o (h.fix.1 o ho), h.fix.2⟩,
    fun o ho => ho.elim (fun q => ⟨.inl (h.hl o q).1, Nat.lt_succ_of_lt (h.hl o q).2⟩) fun e => ⟨.inr (e.trans h.nx.symm), by subst e; rw [← h.nx]; exact Nat.lt_succ_self _⟩, h.tab⟩
theorem Rel.hole_none {R : Nat} (h : Rel (io.keep R) w0 N g s a w) : s.ob R = none ∧ R < s.nx := by
  have h1 := h.hl R (.inr rfl)
  refine ⟨?_, h.nx ▸ h1.2⟩
  cases hq : s.ob R with
  | none => rfl
  | some c => exact absurd h1.1 (h.ob R c hq).1.2
theorem Gh.le_fill {R : Nat} (hR : g.hole R) (b k : Nat) : g.le (g.fill R b k) :=
  ⟨fun _ _ h => h, fun o h => ⟨h.1, fun q => h.2 q.1⟩, fun o ho => upd_no fun e => ho.2 (e ▸ hR), fun o ho => upd_no fun e => ho.2 (e ▸ hR)⟩
theorem Rel.fill {R : Nat} (h : Rel (io.keep R) w0 N g s a w) (hio : ∀ b, io b → b < w0.heap.size) (hRio : ¬ io.hole R) {arr : Array Value} {T sz : Nat} {es : List PV} (hb : Below w.heap.size w w') (hn : w'.heap[w.heap.size]? = some (.cells arr T (0, 0)))
    (hes : Lays g w arr sz es) (hlen : es.length * sz ≤ arr.size) :
    Rel io w0 N (g.fill R w.heap.size arr.size) { s with ob := upd s.ob R (some (T, sz, es)) } a w' := by
  have hw : ∀ k b, g.I k b → w'.heap[b]? = w.heap[b]? := fun k b hi => hb.block b (h.lt k b hi)
  have hR := h.hl R (.inr rfl)
  have hle := Gh.le_fill hR.1 w.heap.size arr.size
  have hβn : (g.fill R w.heap.size arr.size).β R = w.heap.size := upd_same _ _ _
  have hκn : (g.fill R w.heap.size arr.size).κ R = arr.size := upd_same _ _ _
  have hDn : (g.fill R w.heap.size arr.size).D R := ⟨hR.2, fun q => q.2 rfl⟩
  have hold : ∀ o c, s.ob o = some c → g.D o ∧ g.β o < w.heap.size := fun o c ho => by
    obtain ⟨h1, _, _, h4⟩ := h.ob o c ho
    obtain ⟨arr', ha, _⟩ := h4.1
    exact ⟨h1, lt_of_heap ha⟩
  refine ⟨h.nt, h.df, fun t => (h.tm t).mono hle hw, fun o c ho => ?_, fun o o' ho ho' he => ?_, h.nx, fun k b hi => Nat.lt_of_lt_of_le (h.lt k b hi) hb.size, h.new, h.fr.below hb, h.old, ⟨fun o ho => hle.D o (h.fix.1 o ho), fun o ho => ?_⟩, fun o ho => ?_, h.tab⟩
  · dsimp only at ho
    unfold upd at ho
    split at ho
    · rename_i heq
      subst heq
      cases ho
      refine ⟨hDn, .inl (by rw [hβn]; exact h.fr.size), fun k hk => ?_, ⟨arr, by rw [hβn]; exact hn, hκn.symm⟩, by rw [hκn]; exact hlen, ?_⟩
      · rw [hβn] at hk
        have := h.lt k _ hk
        omega
      · rw [hβn]
        exact hes.repEs hle hw hn
    · obtain ⟨h1, h2, h3, h4⟩ := h.ob o c ho
      have hlt := (hold o c ho).2
      have hβ := hle.β o h1
      refine ⟨hle.D o h1, by rw [hβ]; exact h2, by rw [hβ]; exact h3, h4.mono hle h1 hw (hb.block _ hlt)⟩
  · dsimp only at ho ho'
    have key : ∀ o, (upd s.ob R (some (T, sz, es)) o).isSome → o = R ∨ (s.ob o).isSome ∧ g.D o ∧ g.β o < w.heap.size := fun o ho => by
      unfold upd at ho
      split at ho
      · left; assumption
      · obtain ⟨c, hc⟩ := Option.isSome_iff_exists.1 ho
        exact .inr ⟨ho, hold o c hc⟩
    rcases key o ho with rfl | ⟨k1, k2, k3⟩
    · rcases key o' ho' with rfl | ⟨k1', k2', k3'⟩
      · rfl
      · rw [hβn, hle.β o' k2'] at he
        omega
    · rcases key o' ho' with rfl | ⟨k1', k2', k3'⟩
      · rw [hβn, hle.β o k2] at he
        omega
      · rw [hle.β o k2, hle.β o' k2'] at he
        exact h.inj o o' k1 k1' he
  · have hk := h.fix.1 o ho
    rw [hle.β o hk, hle.κ o hk]
    exact h.fix.2 o ho
  · have h1 := h.hl o (.inl ho)
    exact ⟨⟨h1.1, fun e => hRio (e ▸ ho)⟩, h1.2⟩
def AS.flt (s : AS) (R t d : Nat) (z : Value) : AS := ({ s with ob := upd s.ob R (some (t, z.cells.size, [ofVal z])) } : AS).put (some d) (.own R z.cells.size 0 0)
theorem flt_ok {R t d i : Nat} {z : Value} (h : Rel (io.keep R) w0 N g s a w) (hio : ∀ b, io b → b < w0.heap.size) (hRio : ¬ io.hole R) (hi : ops[i]? = some o) (ho : o.op = .alloc t) (hd : o.dst = some d) (hdN : d < N) (hg : o.guard = none)
    (hz : zeroOf P t = some z) (h1 : z.cells.all (·.oneCell') = true) {Q : Exit → Act → World → Prop} {K : Act → World → Prop}
    (hK : ∀ g' a' w', Rel io w0 N g' (s.flt R t d z) a' w' → K a' w') : wpOp P ops Q i K a w := by
  have hr : (execOp a.eval o).run P w = .ok (.value (.pointer (some ⟨w.heap.size, 0, none⟩))) (w.alloc (.cells z.cells t)) := by
    simp [execOp, ho, Instr.alloc, Sem.run_bind, run_zero hz w, newVar, newRow]
  unfold wpOp
  simp only [hi]
  have hw : Region.wanted o (yielded ops a.tmps) = true := by simp [Region.wanted, hg]
  rw [hw]
  simp only [if_true]
  left
  unfold Oper.wp
  rw [hr, Oper.upon_value]
  have hrel := Rel.fill (T := t) h hio hRio (below_new _ _) (heap_alloc_new _ _) (Lays.one (ofVal_rep g w z) h1) (by simp)
  have hR := h.hl R (.inr rfl)
  rw [hd]
  refine hK _ _ _ (hrel.put (fun x hx => by cases hx; exact hdN) ?_)
  simp only [Rep, Gh.fill, upd_same]
  exact ⟨by simp, hR.2, fun q => q.2 rfl⟩
theorem flt_app {R t d : Nat} {z : Value} (hd : o.dst = some d) : s.flt R t d z = s.app o (.own R z.cells.size 0 0, some (upd s.ob R (some (t, z.cells.size, [ofVal z])), s.nx)) := by
  unfold AS.flt AS.app
  rw [hd]
theorem evRes_flt {R t d : Nat} {z : Value} {x : Oper} {r : PV × Option (Objs × Nat)} (hd : o.dst = some d) (ha : d ∉ x.looksAt ops) (hR : s.ob R = none) (hlt : R < s.nx) (h : evRes P Γ imm ops x s = some r) :
    (∀ q, r.2 = some q → q.1 R = none ∧ R < q.2) ∧ evRes P Γ imm ops x (s.flt R t d z) = some (r.1, r.2.map fun q => (upd q.1 R (some (t, z.cells.size, [ofVal z])), q.2)) := by
  have hl : ∀ e, o.dst = some e → e ∉ x.looksAt ops := fun e he => by rw [hd] at he; cases he; exact ha
  have hlook := look_app (s := s) (x := o) (y := x) (r := (.own R z.cells.size 0 0, some (upd s.ob R (some (t, z.cells.size, [ofVal z])), s.nx))) hl
  rw [← flt_app hd] at hlook
  have hguard := guard_app (ops := ops) (s := s) (x := o) (y := x) (r := (.own R z.cells.size 0 0, some (upd s.ob R (some (t, z.cells.size, [ofVal z])), s.nx))) hl
  rw [← flt_app hd] at hguard
  have hob : (s.flt R t d z).ob = upd s.ob R (some (t, z.cells.size, [ofVal z])) := rfl
  have hnx : (s.flt R t d z).nx = s.nx := rfl
  unfold evRes at h ⊢
  rw [hguard]
  cases hg : evGuard ops s x with
  | none => rw [hg] at h; cases h
  | some b =>
    rw [hg] at h
    cases b with
    | false =>
      dsimp only at h ⊢
      cases h
      exact ⟨fun q hq => (by cases hq), rfl⟩
    | true =>
      dsimp only at h ⊢
      cases hx : isEff Γ imm x with
      | true =>
        rw [hx] at h
        simp only [if_true] at h ⊢
        rw [Option.map_eq_some_iff] at h
        obtain ⟨r0, h0, rfl⟩ := h
        split at h0
        case isFalse => cases h0
        case isTrue hok =>
        obtain ⟨k1, k2, k3⟩ := evEff_more (c := (t, z.cells.size, [ofVal z])) hR hlt h0
        have e1 : evEff P Γ (s.flt R t d z) (look (s.flt R t d z).tm) x.op = evEff P Γ (s.flt R t d z) (look s.tm) x.op := evEff_congr x.op hlook
        have e2 : evEff P Γ (s.flt R t d z) (look s.tm) x.op = evEff P Γ { s with ob := upd s.ob R (some (t, z.cells.size, [ofVal z])) } (look s.tm) x.op := by
          unfold evEff
          rw [hob, hnx]
        have e3 : effOk Γ imm (s.flt R t d z).nx (look (s.flt R t d z).tm) x.op = effOk Γ imm s.nx (look s.tm) x.op := by
          unfold effOk
          rw [hnx, touch_congr x.op hlook]
        rw [e1, e2, e3, if_pos hok, k3]
        refine ⟨fun q hq => ?_, rfl⟩
        cases hq
        exact ⟨k1, Nat.lt_of_lt_of_le hlt k2⟩
      | false =>
        rw [hx] at h
        simp only [Bool.false_eq_true, if_false] at h ⊢
        rw [Option.map_eq_some_iff] at h
        obtain ⟨p, h0, rfl⟩ := h
        have e1 : evVal P Γ (obq imm x (s.flt R t d z).ob) (look (s.flt R t d z).tm) x.type x.op = evVal P Γ (obq imm x (s.flt R t d z).ob) (look s.tm) x.type x.op := evVal_congr x.op hlook
        have H := more_upd (c := (t, z.cells.size, [ofVal z])) hR
        have e2 := evVal_more (ob' := obq imm x (s.flt R t d z).ob) (fun o c ho => by
          rw [hob]
          unfold obq at ho ⊢
          split at ho
          · cases ho
          · split at ho
            · rename_i h1 h2
              rw [if_neg h1, if_pos h2]
              unfold onlyV at ho ⊢
              split at ho
              · rename_i h3
                rw [if_pos h3]
                exact H o c ho
              · cases ho
            · rename_i h1 h2
              rw [if_neg h1, if_neg h2]
              exact H o c ho) h0
        rw [e1, e2]
        exact ⟨fun q hq => (by cases hq), rfl⟩
theorem evOp_flt {R t d : Nat} {z : Value} {x : Oper} {s1 : AS} (hd : o.dst = some d) (ha : d ∉ x.looksAt ops) (hne : x.dst ≠ some d) (hR : s.ob R = none) (hlt : R < s.nx) (h : evOp P Γ imm ops x s = some s1) :
    s1.ob R = none ∧ R < s1.nx ∧ evOp P Γ imm ops x (s.flt R t d z) = some (s1.flt R t d z) := by
  rw [evOp_res, Option.map_eq_some_iff] at h
  obtain ⟨r, h0, rfl⟩ := h
  obtain ⟨k1, k2⟩ := evRes_flt (z := z) (t := t) hd ha hR hlt h0
  rw [evOp_res, k2]
  cases hr : r.2 with
  | none =>
    have e : s.app x r = s.put x.dst r.1 := by unfold AS.app; rw [hr]
    rw [e]
    refine ⟨by rw [put_ob.1]; exact hR, by rw [put_ob.2]; exact hlt, ?_⟩
    simp only [Option.map_none, Option.map_some, Option.some.injEq, AS.app]
    unfold AS.flt
    rw [put_comm (s := ({ s with ob := upd s.ob R (some (t, z.cells.size, [ofVal z])) } : AS)) (d := some d) (e := x.dst) (fun y hy => by cases hy; exact hne)]
    cases x.dst <;> rfl
  | some q =>
    obtain ⟨m1, m2⟩ := k1 q hr
    have e : s.app x r = ({ s with ob := q.1, nx := q.2 } : AS).put x.dst r.1 := by unfold AS.app; rw [hr]
    rw [e]
    refine ⟨by rw [put_ob.1]; exact m1, by rw [put_ob.2]; exact m2, ?_⟩
    simp only [Option.map_some, Option.some.injEq, AS.app]
    unfold AS.flt
    have := put_comm (s := ({ s with ob := upd q.1 R (some (t, z.cells.size, [ofVal z])), nx := q.2 } : AS)) (d := some d) (e := x.dst) (u := .own R z.cells.size 0 0) (v := r.1) (fun y hy => by cases hy; exact hne)
    cases hxd : x.dst with
    | none => rfl
    | some e =>
      rw [hxd] at this
      exact this
theorem evL_flt {R t d : Nat} {z : Value} (hd : o.dst = some d) (hR : s.ob R = none) (hlt : R < s.nx) : ∀ (p : List Nat) {s s1 : AS}, (∀ i ∈ p, ∀ x, ops[i]? = some x → d ∉ x.looksAt ops ∧ x.dst ≠ some d) → s.ob R = none → R < s.nx → evL P Γ imm ops p s = some s1 →
    evL P Γ imm ops p (s.flt R t d z) = some (s1.flt R t d z)
  | [], s, s1, hp, h1, h2, h => by cases h; rfl
  | i :: p, s, s1, hp, h1, h2, h => by
    rw [evL_cons] at h ⊢
    cases hx : ops[i]? with
    | none =>
      simp only [hx] at h ⊢
      exact evL_flt hd hR hlt p (fun j hj => hp j (by simp [hj])) h1 h2 h
    | some x =>
      simp only [hx] at h ⊢
      cases hq : evOp P Γ imm ops x s with
      | none => simp [hq] at h
      | some s2 =>
        simp only [hq] at h
        obtain ⟨m1, m2⟩ := hp i (by simp) x hx
        obtain ⟨k1, k2, k3⟩ := evOp_flt (z := z) (t := t) hd m1 m2 h1 h2 hq
        rw [k3]
        exact evL_flt hd hR hlt p (fun j hj => hp j (by simp [hj])) k1 k2 h
theorem evL_app {p q : List Nat} {s s1 s' : AS} (h1 : evL P Γ imm ops p s = some s1) (h2 : evL P Γ imm ops q s1 = some s') : evL P Γ imm ops (p ++ q) s = some s' := by
  induction p generalizing s with
  | nil => cases h1; exact h2
  | cons i p ih =>
    rw [List.cons_append, evL_cons]
    rw [evL_cons] at h1
    cases hx : ops[i]? with
    | none => simp only [hx] at h1 ⊢; exact ih h1
    | some x =>
      simp only [hx] at h1 ⊢
      cases hq : evOp P Γ imm ops x s with
      | none => simp [hq] at h1
      | some s2 => simp only [hq] at h1 ⊢; exact ih h1
def apartD (ops : Array Oper) (i d : Nat) : Bool := match ops[i]? with
  | some x => !((x.looksAt ops).contains d) && decide (x.dst ≠ some d)
  | none => true
def drawOkF (Γ : Ctx) (imm : Md) (ops : Array Oper) (k d : Nat) : Bool :=
  (List.range ops.size).all fun j =>
    ((List.range j).all fun i => if j = k then apartD ops i d else if i = k then ordB ops ops.size i j else indepAt Γ imm ops i j || ordB ops ops.size i j) &&
    (match ops[j]? with | some o => o.after.all (fun e => !Region.binds .any e || decide (e.on < j)) | none => true)
theorem drawOkF_facts {k d : Nat} (hok : drawOkF Γ imm ops k d = true) : ∀ j, j < ops.size →
    (∀ i, i < j → (j = k → ∀ x, ops[i]? = some x → d ∉ x.looksAt ops ∧ x.dst ≠ some d) ∧ (i = k → ordB ops ops.size i j = true) ∧ (i ≠ k → j ≠ k → indepAt Γ imm ops i j = true ∨ ordB ops ops.size i j = true)) ∧
    ∀ o, ops[j]? = some o → ∀ e ∈ o.after, Region.binds .any e = true → e.on < j := fun j hj => by
  unfold drawOkF at hok
  rw [List.all_eq_true] at hok
  have h := hok j (by simpa using hj)
  simp only [Bool.and_eq_true, List.all_eq_true, List.mem_range] at h
  refine ⟨fun i hi => ?_, fun o ho e he hb => ?_⟩
  · have h1 := h.1 i hi
    refine ⟨fun hjk x hx => ?_, fun hik => ?_, fun hik hjk => ?_⟩
    · rw [if_pos hjk] at h1
      unfold apartD at h1
      rw [hx] at h1
      simp only [Bool.and_eq_true, Bool.not_eq_true', decide_eq_true_eq] at h1
      exact ⟨by simpa using h1.1, h1.2⟩
    · rw [if_neg (by omega), if_pos hik] at h1
      exact h1
    · rw [if_neg hjk, if_neg hik] at h1
      simpa using h1
  · have h2 := h.2
    rw [ho] at h2
    dsimp only at h2
    have := (Array.all_eq_true_iff_forall_mem.1 h2) e he
    simpa [hb] using this
theorem list_step {listed : Array Bool} {p q : List Nat} {i : Nat} {x : Oper} (h2 : ops[i]? = some x) (h3 : ∀ e ∈ x.after, Region.binds .any e = true → listed.getD e.on false = true) (hsz : listed.size = ops.size)
    (hrem : ∀ j, j ∈ p ++ i :: q ↔ j < ops.size ∧ listed.getD j true = false) (hpw : (p ++ i :: q).Pairwise (· < ·))
    (hcl : ∀ j o, ops[j]? = some o → listed.getD j true = true → ∀ e ∈ o.after, Region.binds .any e = true → listed.getD e.on false = true) :
    (∀ j, j ∈ p ++ q ↔ j < ops.size ∧ (listed.setIfInBounds i true).getD j true = false) ∧ (p ++ q).Pairwise (· < ·) ∧
    (∀ j o, ops[j]? = some o → (listed.setIfInBounds i true).getD j true = true → ∀ e ∈ o.after, Region.binds .any e = true → (listed.setIfInBounds i true).getD e.on false = true) := by
  have hilt := (Array.getElem?_eq_some_iff.1 h2).1
  refine ⟨fun j => ?_, ?_, ?_⟩
  · by_cases hji : j = i
    · subst hji
      have hnp : j ∉ p ++ q := by
        rw [List.pairwise_append] at hpw
        intro hm
        rcases List.mem_append.1 hm with hm | hm
        · have := hpw.2.2 j hm j (by simp)
          omega
        · have := (List.pairwise_cons.1 hpw.2.1).1 j hm
          omega
      constructor
      · intro hm; exact absurd hm hnp
      · rintro ⟨_, hf⟩
        have hlt : j < listed.size := by omega
        simp [hlt] at hf
    · rw [getD_set_ne true (fun e => hji e.symm), ← hrem j]
      simp [hji]
  · rw [List.pairwise_append] at hpw ⊢
    exact ⟨hpw.1, (List.pairwise_cons.1 hpw.2.1).2, fun x hx y hy => hpw.2.2 x hx y (by simp [hy])⟩
  · intro j o' ho' hl e he hb
    by_cases hji : j = i
    · subst hji
      rw [h2] at ho'
      cases ho'
      exact getD_set_true (h3 e he hb)
    · rw [getD_set_ne true (fun e => hji e.symm)] at hl
      exact getD_set_true (hcl j o' ho' hl e he hb)
theorem anyF_ok {R k t d : Nat} {z : Value} (hΓ : SoundΓ P Γ) (hio : ∀ b, io b → b < w0.heap.size) (hRio : ¬ io.hole R) (hd : ops.all (dstOk N) = true) (hok : drawOkF Γ imm ops k d = true) (hk : ops[k]? = some o) (ho : o.op = .alloc t) (hdst : o.dst = some d) (hg : o.guard = none)
    (hz : zeroOf P t = some z) (h1 : z.cells.all (·.oneCell') = true) {Q : Exit → Act → World → Prop} {s' : AS} (hQ : ∀ g' a' w', Rel io w0 N g' s' a' w' → Q .normal a' w') :
    ∀ (fuel : Nat) (listed : Array Bool) (p q : List Nat) (g : Gh) (s s1 : AS) (a : Act) (w : World), (p ++ k :: q).length ≤ fuel → listed.size = ops.size → (∀ i, i ∈ p ++ k :: q ↔ i < ops.size ∧ listed.getD i true = false) → (p ++ k :: q).Pairwise (· < ·) →
      (∀ j o, ops[j]? = some o → listed.getD j true = true → ∀ e ∈ o.after, Region.binds .any e = true → listed.getD e.on false = true) →
      Rel (io.keep R) w0 N g s a w → evL P Γ imm ops p s = some s1 → evL P Γ imm ops q (s1.flt R t d z) = some s' → wpAny P .any ops Q fuel listed a w := by
  have hfacts := drawOkF_facts hok
  have hdN : d < N := by
    have := (Array.all_eq_true_iff_forall_mem.1 hd) o (Array.mem_of_getElem? hk)
    unfold dstOk at this
    rw [hdst] at this
    simpa using this
  intro fuel
  induction fuel with
  | zero => intro listed p q g s s1 a w hlen; simp at hlen
  | succ fuel ih =>
    intro listed p q g s s1 a w hlen hsz hrem hpw hcl h he1 he2
    refine ⟨fun hr => ?_, fun i hi => ?_⟩
    · exfalso
      have hne : p ++ k :: q ≠ [] := by simp
      obtain ⟨i0, r0, hp0⟩ := List.exists_cons_of_ne_nil hne
      obtain ⟨hi1, hi2⟩ := (hrem i0).1 (by rw [hp0]; simp)
      have : i0 ∈ Region.ready .any ops listed := by
        rw [mem_ready]
        refine ⟨hi2, ops[i0], Array.getElem?_eq_getElem hi1, fun e he hb => ?_⟩
        have hlt := (hfacts i0 hi1).2 _ (Array.getElem?_eq_getElem hi1) e he hb
        have hnot : ¬ e.on ∈ p ++ k :: q := by
          rw [hp0]
          rw [hp0] at hpw
          intro hm
          rcases List.mem_cons.1 hm with hm | hm
          · omega
          · have := (List.pairwise_cons.1 hpw).1 _ hm
            omega
        rw [hrem] at hnot
        have hlt' : e.on < listed.size := by omega
        have : listed.getD e.on true ≠ false := fun h0 => hnot ⟨by omega, h0⟩
        simp [hlt'] at this ⊢
        exact this
      rw [hr] at this
      cases this
    · rw [mem_ready] at hi
      obtain ⟨g1, x, g2, g3⟩ := hi
      have hilt := (Array.getElem?_eq_some_iff.1 g2).1
      have hmem := (hrem i).2 ⟨hilt, g1⟩
      have hunl : ∀ y, y ∈ p ++ k :: q → ordB ops ops.size y i = true → False := fun y hy hord => by
        have hxl := ord_listed hcl _ _ _ hord (fun o' ho' e he hb => by rw [g2] at ho'; cases ho'; exact g3 e he hb)
        have := ((hrem y).1 hy).2
        have hlt : y < listed.size := by have := ((hrem y).1 hy).1; omega
        simp [hlt] at this hxl
        rw [this] at hxl
        cases hxl
      have hpw0 := hpw
      rw [List.pairwise_append] at hpw0
      rcases List.mem_append.1 hmem with hip | hiq
      · -- before the object is made
        obtain ⟨p1, p2, rfl⟩ := List.append_of_mem hip
        have hik : i < k := hpw0.2.2 i (by simp) k (by simp)
        have hp : ∀ y ∈ p1, indepAt Γ imm ops y i = true := fun y hy => by
          have hyi : y < i := by
            have := hpw0.1
            rw [List.pairwise_append] at this
            exact this.2.2 y hy i (by simp)
          rcases ((hfacts i hilt).1 y hyi).2.2 (by omega) (by omega) with q1 | q1
          · exact q1
          · exact (hunl y (by simp [hy]) q1).elim
        have hfr := evL_front hp he1
        rw [evL_cons, g2] at hfr
        dsimp only at hfr
        split at hfr
        · rename_i s2 hs2
          have hdo : dstOk N x = true := (Array.all_eq_true_iff_forall_mem.1 hd) x (Array.mem_of_getElem? g2)
          have hrem' : ∀ j, j ∈ p1 ++ i :: (p2 ++ k :: q) ↔ j < ops.size ∧ listed.getD j true = false := fun j => by rw [← hrem j]; simp
          have hpw' : (p1 ++ i :: (p2 ++ k :: q)).Pairwise (· < ·) := by simpa using hpw
          obtain ⟨m1, m2, m3⟩ := list_step g2 g3 hsz hrem' hpw' hcl
          refine op_ok h hΓ hio hdo hs2 g2 fun g' a' w' hr => ih _ (p1 ++ p2) q g' s2 s1 a' w' (by simp at hlen ⊢; omega) (by simpa using hsz) (fun j => ?_) ?_ m3 hr hfr he2
          · rw [← m1 j]; simp
          · simpa using m2
        · cases hfr
      · rcases List.mem_cons.1 hiq with rfl | hiq
        · -- the object is made
          rw [hk] at g2
          cases g2
          obtain ⟨m1, m2, m3⟩ := list_step hk g3 hsz hrem hpw hcl
          obtain ⟨n1, n2⟩ := h.hole_none
          refine flt_ok h hio hRio hk ho hdst hdN hg hz h1 fun g' a' w' hr => any_okX hΓ hio hd (X := fun j => j ≠ i) (fun j hj => ⟨fun y hy hyk hjk => ((hfacts j hj).1 y hy).2.2 hyk hjk, (hfacts j hj).2⟩) hQ fuel _ (p ++ q) g' (s.flt R t d z) a' w' (by simp at hlen ⊢; omega) (by simpa using hsz) m1 m2 (fun y hy => ?_) m3 hr
            (evL_app (evL_flt (z := z) (t := t) hdst n1 n2 p (fun y hy x hx => ((hfacts i hilt).1 y (hpw0.2.2 y hy i (by simp))).1 rfl x hx) n1 n2 he1) he2)
          rcases List.mem_append.1 hy with hy | hy
          · have := hpw0.2.2 y hy i (by simp)
            omega
          · have := (List.pairwise_cons.1 hpw0.2.1).1 y hy
            omega
        · -- behind it
          have hki : k < i := (List.pairwise_cons.1 hpw0.2.1).1 i hiq
          exact (hunl k (by simp) (((hfacts i hilt).1 k hki).2.1 rfl)).elim
theorem evL_part : ∀ (n j : Nat) (s : AS), j + n ≤ ops.size → evL P Γ imm ops (List.range' j n) s = evSeq P Γ imm ops ((ops.toList.drop j).take n) s
  | 0, j, s, hj => rfl
  | n + 1, j, s, hj => by
    have hlt : j < ops.size := by omega
    have hk : ops[j]? = some ops[j] := Array.getElem?_eq_getElem hlt
    have hd : ops.toList.drop j = ops[j] :: ops.toList.drop (j + 1) := by
      rw [List.drop_eq_getElem_cons (by simpa using hlt)]
      rfl
    rw [hd, List.take_succ_cons]
    simp only [List.range'_succ, evL, hk, evSeq]
    cases evOp P Γ imm ops ops[j] s with
    | none => rfl
    | some s' => exact evL_part n (j + 1) s' (by omega)
theorem drawF_ok {id k t d : Nat} {z : Value} {Q : Exit → Act → World → Prop} {s1 : AS} (hm : P.follows .mixedOrders = true) (h : Rel io w0 N g s a w) (hRio : ¬ io.hole s.nx) (hΓ : SoundΓ P Γ) (hio : ∀ b, io b → b < w0.heap.size) (hd : ops.all (dstOk N) = true)
    (hok : drawOkF Γ imm ops k d = true) (hk : ops[k]? = some o) (ho : o.op = .alloc t) (hdst : o.dst = some d) (hg : o.guard = none) (hz : zeroOf P t = some z) (h1 : z.cells.all (·.oneCell') = true)
    (he1 : evSeq P Γ imm ops (ops.toList.take k) { s with nx := s.nx + 1 } = some s1) (he2 : evSeq P Γ imm ops (ops.toList.drop (k + 1)) (s1.flt s.nx t d z) = some s') (hQ : ∀ g' a' w', Rel io w0 N g' s' a' w' → Q .normal a' w') : (Code.region id ops true).wp P Q a w := by
  refine wp_region_any hm ?_
  have hdrew : Rel io w0 N g s a { w with drawn := w.drawn + 1 } := ⟨h.nt, h.df, fun t => Rep.mono (w := w) (w' := { w with drawn := w.drawn + 1 }) (g := g) (g' := g) (Gh.le_refl g) (fun _ _ _ => rfl) _ _ (h.tm t), fun o c ho => by
    obtain ⟨k1, k2, k3, k4⟩ := h.ob o c ho
    exact ⟨k1, k2, k3, ObjAt.mono (w := w) (w' := { w with drawn := w.drawn + 1 }) (g := g) (g' := g) k4 (Gh.le_refl g) k1 (fun _ _ _ => rfl) rfl⟩, h.inj, h.nx, h.lt, h.new, ⟨h.fr.os, h.fr.tape, h.fr.output, h.fr.size, h.fr.block⟩, h.old, h.fix, h.hl, h.tab⟩
  have hkl := (Array.getElem?_eq_some_iff.1 hk).1
  have hrange : List.range ops.size = List.range' 0 k ++ k :: List.range' (k + 1) (ops.size - (k + 1)) := by
    rw [List.range_eq_range', show ops.size = k + (1 + (ops.size - (k + 1))) by omega, ← List.range'_append_1]
    congr 1
    rw [Nat.zero_add, Nat.add_comm 1, List.range'_succ]
    congr 2
    omega
  have hall : ∀ i, i ∈ List.range' 0 k ++ k :: List.range' (k + 1) (ops.size - (k + 1)) ↔ i < ops.size := fun i => by rw [← hrange, List.mem_range]
  refine anyF_ok hΓ hio hRio hd hok hk ho hdst hg hz h1 hQ ops.size _ (List.range' 0 k) (List.range' (k + 1) (ops.size - (k + 1))) g.keep { s with nx := s.nx + 1 } s1 a _ (by simp; omega) (by simp) (fun i => ?_) (by rw [← hrange]; exact List.pairwise_lt_range) (fun j o ho hl => ?_) hdrew.keep ?_ ?_
  · rw [hall]
    constructor
    · intro hi; exact ⟨hi, by simp [hi]⟩
    · exact fun hi => hi.1
  · have hlt := (Array.getElem?_eq_some_iff.1 ho).1
    simp [hlt] at hl
  · rw [evL_part k 0 _ (by omega)]
    exact he1
  · rw [evL_part (ops.size - (k + 1)) (k + 1) _ (by omega), List.take_of_length_le (by simp)]
    exact he2
end
end Go.Proofs.Ytngcedklbinhjaa
namespace Go.Proofs.Ytngcedklbinhjaa
open Go.RowKit
set_option linter.all false
inductive X where
  | normal
  | exit (id : Nat)
  | ret
  deriving DecidableEq
def X.toExit : X → Exit
  | .normal => .normal
  | .exit id => .exit id
  | .ret => .ret
def X.out (id : Nat) : X → X
  | .exit id' => if id' = id then .normal else .exit id'
  | x => x
structure AS.forget (s s' : AS) : Prop where
  tm : ∀ t, s'.tm t = s.tm t ∨ s'.tm t = .dead
  ob : ∀ o, s'.ob o = s.ob o ∨ s'.ob o = none
  nx : s'.nx = s.nx
inductive Ev (P : Program) (Γ : Ctx) (N : Nat) : Code → AS → X → AS → Prop
  | skip (s : AS) : Ev P Γ N .skip s .normal s
  | region {id : Nat} {ops : Array Oper} {s s' : AS} (imm : Md) (hd : ops.all (dstOk N) = true) (he : evSeq P Γ imm ops ops.toList s = some s') : Ev P Γ N (.region id ops false) s .normal s'
  | draw {id : Nat} {ops : Array Oper} {s s' : AS} (imm : Md) (hm : P.follows .mixedOrders = true) (hd : ops.all (dstOk N) = true) (hok : drawOk Γ imm ops = true) (he : evSeq P Γ imm ops ops.toList s = some s') : Ev P Γ N (.region id ops true) s .normal s'
  | drawF {id : Nat} {ops : Array Oper} {s s1 s' : AS} {k t d : Nat} {z : Value} {o : Oper} (imm : Md) (hm : P.follows .mixedOrders = true) (hd : ops.all (dstOk N) = true) (hok : drawOkF Γ imm ops k d = true) (hk : ops[k]? = some o) (ho : o.op = .alloc t) (hdst : o.dst = some d) (hg : o.guard = none)
      (hz : zeroOf P t = some z) (h1 : z.cells.all (·.oneCell') = true) (he1 : evSeq P Γ imm ops (ops.toList.take k) { s with nx := s.nx + 1 } = some s1) (he2 : evSeq P Γ imm ops (ops.toList.drop (k + 1)) (s1.flt s.nx t d z) = some s') : Ev P Γ N (.region id ops true) s .normal s'
  | seq {x y : Code} {s s1 s2 : AS} {e : X} (h1 : Ev P Γ N x s .normal s1) (h2 : Ev P Γ N y s1 e s2) : Ev P Γ N (.seq x y) s e s2
  | seqX {x y : Code} {s s1 : AS} {e : X} (h1 : Ev P Γ N x s e s1) (he : e ≠ .normal) : Ev P Γ N (.seq x y) s e s1
  | cond {c : Operand} {x y : Code} {s s1 : AS} {e : X} {b : Bool} (hc : look s.tm c = .val (.bool b)) (h : Ev P Γ N (if b then x else y) s e s1) : Ev P Γ N (.cond c x y) s e s1
  | block {id : Nat} {x : Code} {s s1 : AS} {e : X} (h : Ev P Γ N x s e s1) : Ev P Γ N (.block id x) s (e.out id) s1
  | loop {x : Code} {s s1 s2 : AS} {e : X} (h1 : Ev P Γ N x s .normal s1) (h2 : Ev P Γ N (.loop x) s1 e s2) : Ev P Γ N (.loop x) s e s2
  | loopX {x : Code} {s s1 : AS} {e : X} (h : Ev P Γ N x s e s1) (he : e ≠ .normal) : Ev P Γ N (.loop x) s e s1
  | exit (id : Nat) (s : AS) : Ev P Γ N (.exit id) s (.exit id) s
  | ret (s : AS) : Ev P Γ N .ret s .ret s
  | forget {x : Code} {s s1 s2 : AS} {e : X} (hf : s.forget s1) (h : Ev P Γ N x s1 e s2) : Ev P Γ N x s e s2
section
variable {P : Program} {Γ : Ctx} {io : IoS} {w0 : World} {N : Nat} {g : Gh} {s s' : AS} {a : Act} {w w' : World}
theorem Rel.forget (h : Rel io w0 N g s a w) (hf : s.forget s') : Rel io w0 N g s' a w := by
  have key : ∀ o c, s'.ob o = some c → s.ob o = some c := fun o c ho => by
    rcases hf.ob o with h1 | h1
    · rw [← h1]; exact ho
    · rw [h1] at ho; cases ho
  have keyS : ∀ o, (s'.ob o).isSome → (s.ob o).isSome := fun o ho => by
    obtain ⟨c, hc⟩ := Option.isSome_iff_exists.1 ho
    rw [key o c hc]; rfl
  refine ⟨h.nt, h.df, fun t => ?_, fun o c ho => h.ob o c (key o c ho), fun o o' ho ho' he => h.inj o o' (keyS o ho) (keyS o' ho') he, by rw [hf.nx]; exact h.nx, h.lt, h.new, h.fr, h.old, h.fix, h.hl, h.tab⟩
  rcases hf.tm t with h1 | h1
  · rw [h1]; exact h.tm t
  · rw [h1]; simp [Rep]
def LoopWp (P : Program) (c : Code) (Q : Exit → Act → World → Prop) (a : Act) (w : World) : Prop :=
  ∀ (b : Frame) (k : List Item) (cs : List Frame), ∃ e a' w', Q e a' w' ∧ Arrives P (lone (b.at a (.code c :: .inLoop c :: k)) cs w) b k cs e a' w'
theorem LoopWp.wp {c : Code} {Q : Exit → Act → World → Prop} (h : LoopWp P c Q a w) : (Code.loop c).wp P Q a w := fun b k cs => by
  obtain ⟨e, a', w', hq, harr⟩ := h b k cs
  exact ⟨e, a', w', hq, .of_steps (.one step_loop) harr⟩
theorem LoopWp.step {c : Code} {Q : Exit → Act → World → Prop} (h : c.wp P (Exit.then (fun a' w' => LoopWp P c Q a' w') Q) a w) : LoopWp P c Q a w := fun b k cs => by
  obtain ⟨e, a₁, w₁, hq, harr⟩ := h b (.inLoop c :: k) cs
  cases e with
  | normal =>
    obtain ⟨e₂, a₂, w₂, hq₂, harr₂⟩ := hq b k cs
    exact ⟨e₂, a₂, w₂, hq₂, .of_steps (Steps.trans harr (.one step_inLoop)) harr₂⟩
  | exit id => exact ⟨_, a₁, w₁, hq, .pass (x := .inLoop c) rfl (fun _ _ => .inl (by simp)) harr⟩
  | goto l => exact ⟨_, a₁, w₁, hq, .pass (x := .inLoop c) rfl (fun _ _ => .inl (by simp)) harr⟩
  | ret => exact ⟨_, a₁, w₁, hq, .pass (x := .inLoop c) rfl (fun _ _ => .inl (by simp)) harr⟩
  | panic ch => exact ⟨_, a₁, w₁, hq, .pass (x := .inLoop c) rfl (fun _ _ => .inl (by simp)) harr⟩
  | outgrown => exact ⟨_, a₁, w₁, hq, .pass (x := .inLoop c) rfl (fun _ _ => .inl (by simp)) harr⟩
def CWp (P : Program) (c : Code) (Q : Exit → Act → World → Prop) (a : Act) (w : World) : Prop :=
  match c with
  | .loop x => LoopWp P x Q a w
  | c => c.wp P Q a w
theorem CWp.wp {c : Code} {Q : Exit → Act → World → Prop} (h : CWp P c Q a w) : c.wp P Q a w := by
  cases c with
  | loop x => exact LoopWp.wp h
  | _ => exact h
theorem Ev.cwp (hΓ : SoundΓ P Γ) (hio : ∀ b, io b → b < w0.heap.size) {c : Code} {s : AS} {x : X} {s' : AS} (h : Ev P Γ N c s x s') : ∀ (g : Gh) (a : Act) (w : World) (Q : Exit → Act → World → Prop), Rel io w0 N g s a w →
    (∀ g' a' w', Rel io w0 N g' s' a' w' → Q x.toExit a' w') → CWp P c Q a w := by
  induction h with
  | skip s => exact fun g a w Q hr hq => wp_skip (hq g a w hr)
  | region imm hd he => exact fun g a w Q hr hq => region_ok hr hΓ hio hd he hq
  | draw imm hm hd hok he => exact fun g a w Q hr hq => draw_ok hm hr hΓ hio hd hok he hq
  | drawF imm hm hd hok hk ho hdst hg hz h1 he1 he2 => exact fun g a w Q hr hq => drawF_ok hm hr (fun q => by have := (hr.hl _ q).2; have := hr.nx; omega) hΓ hio hd hok hk ho hdst hg hz h1 he1 he2 hq
  | seq h1 h2 ih1 ih2 =>
    exact fun g a w Q hr hq => wp_seq (CWp.wp (ih1 g a w _ hr fun g' a' w' hr' => (ih2 g' a' w' Q hr' hq).wp))
  | seqX h1 he ih =>
    rename_i e
    exact fun g a w Q hr hq => wp_seq (CWp.wp (ih g a w _ hr fun g' a' w' hr' => by
      cases e with
      | normal => exact absurd rfl he
      | exit id => exact hq g' a' w' hr'
      | ret => exact hq g' a' w' hr'))
  | cond hc h ih =>
    exact fun g a w Q hr hq => wp_cond (by have := hr.look _ |> fun q => (by rw [hc] at q; simpa [Rep] using q); exact this) (ih g a w Q hr hq).wp
  | block h ih =>
    rename_i id _ _ _ e
    exact fun g a w Q hr hq => wp_block (CWp.wp (ih g a w _ hr fun g' a' w' hr' => by
      have := hq g' a' w' hr'
      cases e with
      | normal => exact this
      | ret => exact this
      | exit id' =>
        simp only [X.toExit, Exit.inBlock, X.out] at this ⊢
        split
        · rename_i hid; simpa [hid] using this
        · rename_i hid; simpa [hid] using this))
  | loop h1 h2 ih1 ih2 =>
    exact fun g a w Q hr hq => LoopWp.step (CWp.wp (ih1 g a w _ hr fun g' a' w' hr' => ih2 g' a' w' Q hr' hq))
  | loopX h he ih =>
    rename_i e
    exact fun g a w Q hr hq => LoopWp.step (CWp.wp (ih g a w _ hr fun g' a' w' hr' => by
      cases e with
      | normal => exact absurd rfl he
      | exit id => exact hq g' a' w' hr'
      | ret => exact hq g' a' w' hr'))
  | exit id s => exact fun g a w Q hr hq => wp_exit (hq g a w hr)
  | ret s => exact fun g a w Q hr hq => wp_ret (hq g a w hr)
  | forget hf h ih => exact fun g a w Q hr hq => ih g a w Q (hr.forget hf) hq
def resPs (P : Program) (s : AS) : List ResultVar → Option (List PV)
  | [] => some []
  | .tmp t :: l => (resPs P s l).map (s.tm t :: ·)
  | .cell t ty :: l => match s.tm t with
    | .own o sz i f => match s.ob o with
      | some (_, sz', es) => if sz = sz' then
          match (es[i]?).bind (subP P ty f), resPs P s l with
          | some p, some ps => some (p :: ps)
          | _, _ => none
        else none
      | none => none
    | _ => none
def onePV : List PV → PV
  | [p] => p
  | ps => .tup ps
def initS (ps : List PV) : AS := { tm := fun t => (ps[t]?).getD (.val undef), ob := fun _ => none, nx := 0 }
def resF (tmps : Array Value) : ResultVar → Sem Value
  | .tmp t => pure (tmps.getD t undef)
  | .cell a t => do loadVar t (← asAddr (tmps.getD a undef))
theorem results_eq (fn : Func) (tmps : Array Value) : results fn tmps = (do let vs ← fn.results.mapM (resF tmps); pure (if h : vs.size = 1 then vs[0] else .tuple vs)) := by
  unfold results
  congr 1
theorem run_loadVar_of {t b c : Nat} {v : Value} (h : (Instr.loadAt t (.pointer (some ⟨b, c, none⟩))).run P w = .ok v w) : (loadVar t ⟨b, c, none⟩).run P w = .ok v w := by
  simpa [Instr.loadAt, Instr.sureAddr] using h
theorem res_ok (h : Rel io w0 N g s a w) : ∀ (l : List ResultVar) {ps : List PV}, resPs P s l = some ps →
    ∃ vs : List Value, (l.mapM (resF a.tmps)).run P w = .ok vs w ∧ RepL g w ps vs
  | [], ps, hr => by
    simp only [resPs, Option.some.injEq] at hr
    subst hr
    exact ⟨[], by simp, by simp [RepL]⟩
  | .tmp t :: l, ps, hr => by
    simp only [resPs, Option.map_eq_some_iff] at hr
    obtain ⟨qs, h1, rfl⟩ := hr
    obtain ⟨vs, h2, h3⟩ := res_ok h l h1
    refine ⟨a.tmps.getD t undef :: vs, ?_, ?_⟩
    · rw [List.mapM_cons, Sem.run_bind]
      simp only [resF, Sem.run_pure, Result.andThen_ok, Sem.run_bind]
      change ((l.mapM (resF a.tmps)).run P w).andThen _ = _
      rw [h2]
      rfl
    · simp only [RepL]
      exact ⟨_, _, rfl, h.tm t, h3⟩
  | .cell t ty :: l, ps, hr => by
    simp only [resPs] at hr
    split at hr
    · rename_i o sz i f ht
      split at hr
      · rename_i T sz' es ho
        split at hr
        case isFalse => cases hr
        case isTrue hs =>
          subst hs
          split at hr
          · rename_i p qs h1 h2
            cases hr
            obtain ⟨vs, h3, h4⟩ := res_ok h l h2
            rw [Option.bind_eq_some_iff] at h1
            obtain ⟨e, he, hsub⟩ := h1
            have hT := h.tm t
            rw [ht] at hT
            simp only [Rep] at hT
            obtain ⟨hT, _⟩ := hT
            obtain ⟨u, k1, k2, k3⟩ := (h.ob o _ ho).2.2.2.2.2.get he
            dsimp only at k2
            obtain ⟨v, k4, k5⟩ := run_loadAt_sub k1 k2 hsub
            rw [Nat.zero_add] at k4
            have k6 := run_loadVar_of k4
            refine ⟨v :: vs, ?_, ?_⟩
            · have e1 : (resF a.tmps (.cell t ty)).run P w = .ok v w := by
                simp only [resF, hT, asAddr, Sem.run_bind, Sem.run_pure, Result.andThen_ok, k6]
              rw [List.mapM_cons, Sem.run_bind, e1, Result.andThen_ok, Sem.run_bind, h3]
              rfl
            · simp only [RepL]
              exact ⟨_, _, rfl, k5, h4⟩
          · cases hr
      · cases hr
    · cases hr
theorem results_ok (h : Rel io w0 N g s a w) {fn : Func} {ps : List PV} (hr : resPs P s fn.results.toList = some ps) : ∃ v, (results fn a.tmps).run P w = .ok v w ∧ Rep g w (onePV ps) v := by
  obtain ⟨vs, h1, h2⟩ := res_ok h _ hr
  have hlen := h2.get.1
  refine ⟨if h : vs.toArray.size = 1 then vs.toArray[0] else .tuple vs.toArray, ?_, ?_⟩
  · rw [results_eq, Sem.run_bind, Array.mapM_eq_mapM_toList, Sem.run_map, h1]
    rfl
  · cases ps with
    | nil =>
      have : vs = [] := List.eq_nil_of_length_eq_zero (by simpa using hlen)
      subst this
      simp only [onePV, Rep]
      exact ⟨#[], by simp, h2⟩
    | cons p qs =>
      cases qs with
      | nil =>
        simp only [RepL] at h2
        obtain ⟨v, vs', rfl, h3, rfl⟩ := h2
        simpa [onePV] using h3
      | cons q qs =>
        have hl : ¬ vs.length = 1 := by rw [hlen]; simp
        simp only [onePV, Rep]
        exact ⟨vs.toArray, by simp [hl], by simpa using h2⟩
theorem sound_of_ev {f : Nat} {fn : Func} {c : Code} {φ : Fun} (hΓ : SoundΓ P Γ) (hf : P.funcs[f]? = some fn) (hb : fn.body = some c)
    (hlen : ∀ ps r, φ ps = some r → ps.length ≤ fn.ntmps)
    (h : ∀ ps r, φ ps = some r → ∃ x s' qs, Ev P Γ fn.ntmps c (initS ps) x s' ∧ (x = .normal ∨ x = .ret) ∧ resPs P s' fn.results.toList = some qs ∧ reify true 0 s'.ob fuel (onePV qs) = some r) : Sound P f φ := by
  intro w J ps args r hr hJ hT hargs
  obtain ⟨x, s', qs, hev, hx, hres, hreify⟩ := h ps r hr
  have hsz : args.size = ps.length := by simpa using hargs.get.1
  have hle := hlen ps r hr
  have hinit : Rel ⟨fun _ => False, J, 0, fun _ => 0, fun _ => 0, fun _ => False, fun _ => False⟩ w fn.ntmps (argG J) (initS ps) { tmps := args ++ Array.replicate (fn.ntmps - args.size) undef, defers := [] } w := by
    refine ⟨by simp; omega, rfl, fun t => ?_, fun o c ho => (by cases ho), fun o o' ho => (by cases ho), rfl, fun k b hi => hJ b hi.2, fun b hi => (by cases hi.1), Fr.refl _ _, fun b hi => hi.2, ⟨fun o ho => (Nat.not_lt_zero o ho).elim, fun o ho => (Nat.not_lt_zero o ho).elim⟩, fun o ho => False.elim ho, hT⟩
    simp only [initS]
    cases hp : ps[t]? with
    | none =>
      have hge : ps.length ≤ t := by simpa using hp
      have : (args ++ Array.replicate (fn.ntmps - args.size) undef).getD t undef = undef := by
        simp only [Array.getD_eq_getD_getElem?]
        rw [Array.getElem?_append_right (by omega)]
        simp only [Array.getElem?_replicate]
        split <;> rfl
      rw [this]
      simp [Rep]
    | some p =>
      obtain ⟨v, hv, hrep⟩ := hargs.get.2 t p hp
      have hlt : t < args.size := by have := (List.getElem?_eq_some_iff.1 hp).1; omega
      have : (args ++ Array.replicate (fn.ntmps - args.size) undef).getD t undef = v := by
        simp only [Array.getD_eq_getD_getElem?]
        rw [Array.getElem?_append_left hlt]
        have : args[t]? = some v := by simpa using hv
        simp [this]
      rw [this]
      exact hrep
  refine calls_of_wp hf hb (CWp.wp (hev.cwp hΓ (fun b hb => False.elim hb) _ _ _ _ hinit fun g' a' w' hrel => ?_))
  have hend : a'.defers = [] ∧ ∃ v, (results fn a'.tmps).run P w' = .ok v w' ∧ ((∃ v', Ending.returned v = .returned v' ∧ Below w.heap.size w w' ∧ ∀ g'' : Gh, (∀ b, w.heap.size ≤ b → b < w'.heap.size → g''.I true b) → Rep g'' w' r v')) := by
    obtain ⟨v, h1, h2⟩ := results_ok hrel hres
    refine ⟨hrel.df, v, h1, v, rfl, ⟨hrel.fr.os, hrel.fr.tape, hrel.fr.output, hrel.fr.size, fun b hb => hrel.fr.block b hb id⟩, fun g'' hg => ?_⟩
    refine Rep.seen (fun o c ho => (hrel.ob o c ho).2.2.2) ⟨fun hh => (by cases hh), fun _ => ⟨fun b hb => hg b ((hrel.new b hb).resolve_right id).1 (hrel.lt true b hb), fun o ho _ => ?_⟩⟩ fuel _ _ _ h2 hreify
    obtain ⟨c, hc⟩ := Option.isSome_iff_exists.1 ho
    obtain ⟨_, k2, _, ⟨arr, k3, _⟩, _⟩ := hrel.ob o c hc
    exact hg _ (k2.resolve_right id) (lt_of_heap k3)
  rcases hx with rfl | rfl <;> exact hend
end
end Go.Proofs.Ytngcedklbinhjaa
namespace Go.Proofs.Ytngcedklbinhjaa
open Go.RowKit
set_option linter.all false
def rootB (l : List Oper) : Nat → Operand → Bool
  | 0, _ => false
  | f + 1, .tmp t => match l.find? (fun o => o.dst == some t) with
    | some o => match o.op with
      | .buildSlice .. => true
      | .indexAddr _ x _ => rootB l f x
      | .fieldAddr _ x _ => rootB l f x
      | .nilCheck x => rootB l f x
      | .slice _ x _ _ _ => rootB l f x
      | _ => false
    | none => false
  | _, _ => false
def isBase (l : List Oper) (d : Option Nat) : Bool :=
  match d with
  | some d => l.any fun o => match o.op with
    | .call c => match c.callee with
      | .builtin .append => match c.args.toList with
        | .tmp t :: _ => t == d
        | _ => false
      | _ => false
    | _ => false
  | none => false
def immT (l : List Oper) (o : Oper) : Bool :=
  match o.op with
  | .buildSlice .. => !(isBase l o.dst)
  | .load _ x => rootB l 8 x
  | _ => false
def immL (draw : Bool) (ops : Array Oper) : List Nat :=
  match draw with
  | false => []
  | true => ops.toList.filterMap fun o => if immT ops.toList o = true then o.dst else none
def stdM (draw : Bool) (ops : Array Oper) : Md := ⟨immL draw ops, [], []⟩
def evQ (P : Program) (Γ : Ctx) (imm : Md) (ops : Array Oper) : List Oper → (AS → Prop) → AS → Prop
  | [], Q, s => Q s
  | o :: l, Q, s => match evGuard ops s o with
    | some b => (b = true → match evDo P Γ imm s o with
        | some s' => evQ P Γ imm ops l Q s'
        | none => False) ∧ (b = false → evQ P Γ imm ops l Q (s.put o.dst (.val undef)))
    | none => False
theorem evQ_ok {P : Program} {Γ : Ctx} {imm : Md} {ops : Array Oper} {Q : AS → Prop} : ∀ (l : List Oper) (s : AS), evQ P Γ imm ops l Q s → ∃ s', evSeq P Γ imm ops l s = some s' ∧ Q s'
  | [], s, h => ⟨s, rfl, h⟩
  | o :: l, s, h => by
    simp only [evQ] at h
    split at h
    · rename_i b hb
      cases b with
      | true =>
        have h1 := h.1 rfl
        split at h1
        · rename_i s1 hs
          obtain ⟨s', h2, h3⟩ := evQ_ok l s1 h1
          exact ⟨s', by simp only [evSeq, evOp, hb, hs, h2], h3⟩
        · exact h1.elim
      | false =>
        obtain ⟨s', h2, h3⟩ := evQ_ok l _ (h.2 rfl)
        exact ⟨s', by simp only [evSeq, evOp, hb, h2], h3⟩
    · exact h.elim
theorem evQ_mono {P : Program} {Γ : Ctx} {imm : Md} {ops : Array Oper} {Q Q' : AS → Prop} (hq : ∀ s, Q s → Q' s) : ∀ (l : List Oper) (s : AS), evQ P Γ imm ops l Q s → evQ P Γ imm ops l Q' s
  | [], s, h => hq s h
  | o :: l, s, h => by
    simp only [evQ] at h ⊢
    split at h
    · rename_i b hb
      refine ⟨fun hb => ?_, fun hb => evQ_mono hq l _ (h.2 hb)⟩
      have h1 := h.1 hb
      split at h1
      · exact evQ_mono hq l _ h1
      · exact h1.elim
    · exact h.elim
def pw (P : Program) (Γ : Ctx) (N : Nat) : Code → (X → AS → Prop) → AS → Prop
  | .skip, Q, s => Q .normal s
  | .region _ ops draw, Q, s => (∃ m : Md, (draw = true → drawOk Γ m ops = true) ∧ evQ P Γ m ops ops.toList (Q .normal) s) ∨
    (draw = true ∧ ∃ (m : Md) (k t d : Nat) (z : Value) (o : Oper), drawOkF Γ m ops k d = true ∧ ops[k]? = some o ∧ o.op = .alloc t ∧ o.dst = some d ∧ o.guard = none ∧ zeroOf P t = some z ∧ z.cells.all (·.oneCell') = true ∧
      evQ P Γ m ops (ops.toList.take k) (fun s1 => evQ P Γ m ops (ops.toList.drop (k + 1)) (Q .normal) (s1.flt s.nx t d z)) { s with nx := s.nx + 1 })
  | .seq a b, Q, s => pw P Γ N a (fun x s' => match x with
    | .normal => pw P Γ N b Q s'
    | .exit id => Q (.exit id) s'
    | .ret => Q .ret s') s
  | .cond c x y, Q, s => match look s.tm c with
    | .val (.bool b) => (b = true → pw P Γ N x Q s) ∧ (b = false → pw P Γ N y Q s)
    | _ => False
  | .block id c, Q, s => pw P Γ N c (fun x s' => Q (x.out id) s') s
  | .loop c, Q, s => ∃ x s', Ev P Γ N (.loop c) s x s' ∧ Q x s'
  | .exit id, Q, s => Q (.exit id) s
  | .ret, Q, s => Q .ret s
  | _, _, _ => False
def codeOk (Γ : Ctx) (mixed : Bool) (N : Nat) : Code → Bool
  | .region _ ops draw => ops.all (dstOk N) && (!draw || mixed)
  | .seq a b => codeOk Γ mixed N a && codeOk Γ mixed N b
  | .cond _ a b => codeOk Γ mixed N a && codeOk Γ mixed N b
  | .block _ c => codeOk Γ mixed N c
  | .loop c => codeOk Γ mixed N c
  | _ => true
section
variable {P : Program} {Γ : Ctx} {N : Nat}
theorem pw_mono {Q Q' : X → AS → Prop} (hq : ∀ x s, Q x s → Q' x s) : ∀ (c : Code) (s : AS), pw P Γ N c Q s → pw P Γ N c Q' s := by
  intro c
  induction c generalizing Q Q' with
  | skip => exact fun s h => hq _ _ h
  | region id ops draw =>
    intro s h
    simp only [pw] at h ⊢
    rcases h with ⟨m, h1, h2⟩ | ⟨hd, m, k, t, d, z, o, k1, k2, k3, k4, k5, k6, k7, h2⟩
    · exact .inl ⟨m, h1, evQ_mono (fun s => hq _ s) _ _ h2⟩
    · exact .inr ⟨hd, m, k, t, d, z, o, k1, k2, k3, k4, k5, k6, k7, evQ_mono (fun s1 h3 => evQ_mono (fun s => hq _ s) _ _ h3) _ _ h2⟩
  | seq a b iha ihb =>
    intro s h
    simp only [pw] at h ⊢
    refine iha (fun x s' hx => ?_) s h
    cases x with
    | normal => exact ihb hq s' hx
    | exit id => exact hq _ _ hx
    | ret => exact hq _ _ hx
  | cond c x y ihx ihy =>
    intro s h
    simp only [pw] at h ⊢
    split at h
    · exact ⟨fun hb => ihx hq s (h.1 hb), fun hb => ihy hq s (h.2 hb)⟩
    · exact h
  | block id c ih => exact fun s h => ih (fun x s' hx => hq _ _ hx) s h
  | loop c ih =>
    rintro s ⟨x, s', h1, h2⟩
    exact ⟨x, s', h1, hq _ _ h2⟩
  | exit id => exact fun s h => hq _ _ h
  | ret => exact fun s h => hq _ _ h
  | _ => exact fun s h => h
theorem pw_ok {mixed : Bool} (hm : mixed = true → P.follows .mixedOrders = true) : ∀ (c : Code) (Q : X → AS → Prop) (s : AS), codeOk Γ mixed N c = true → pw P Γ N c Q s → ∃ x s', Ev P Γ N c s x s' ∧ Q x s' := by
  intro c
  induction c with
  | skip => exact fun Q s _ h => ⟨_, _, .skip s, h⟩
  | region id ops draw =>
    intro Q s hc h
    simp only [pw] at h
    simp only [codeOk, Bool.and_eq_true, Bool.or_eq_true] at hc
    rcases h with ⟨m, hdr, h⟩ | ⟨hd, m, k, t, d, z, o, k1, k2, k3, k4, k5, k6, k7, h⟩
    · obtain ⟨s', he, h'⟩ := evQ_ok _ _ h
      cases draw with
      | false => exact ⟨_, _, .region _ hc.1 he, h'⟩
      | true =>
        have h2 := hc.2.resolve_left (by simp)
        exact ⟨_, _, .draw _ (hm h2) hc.1 (hdr rfl) he, h'⟩
    · subst hd
      have h2 := hc.2.resolve_left (by simp)
      obtain ⟨s1, he1, h3⟩ := evQ_ok _ _ h
      obtain ⟨s', he2, h'⟩ := evQ_ok _ _ h3
      exact ⟨_, _, .drawF _ (hm h2) hc.1 k1 k2 k3 k4 k5 k6 k7 he1 he2, h'⟩
  | seq a b iha ihb =>
    intro Q s hc h
    simp only [pw] at h
    simp only [codeOk, Bool.and_eq_true] at hc
    obtain ⟨x, s1, h1, h2⟩ := iha _ s hc.1 h
    cases x with
    | normal =>
      obtain ⟨x2, s2, h3, h4⟩ := ihb _ s1 hc.2 h2
      exact ⟨x2, s2, .seq h1 h3, h4⟩
    | exit id => exact ⟨_, s1, .seqX h1 (by simp), h2⟩
    | ret => exact ⟨_, s1, .seqX h1 (by simp), h2⟩
  | cond c x y ihx ihy =>
    intro Q s hc h
    simp only [pw] at h
    simp only [codeOk, Bool.and_eq_true] at hc
    split at h
    · rename_i b hb
      cases b with
      | true =>
        obtain ⟨e, s', h1, h2⟩ := ihx _ s hc.1 (h.1 rfl)
        exact ⟨e, s', .cond hb h1, h2⟩
      | false =>
        obtain ⟨e, s', h1, h2⟩ := ihy _ s hc.2 (h.2 rfl)
        exact ⟨e, s', .cond hb h1, h2⟩
    · exact h.elim
  | block id c ih =>
    intro Q s hc h
    obtain ⟨e, s', h1, h2⟩ := ih _ s hc h
    exact ⟨_, s', .block h1, h2⟩
  | loop c ih => exact fun Q s _ h => h
  | exit id => exact fun Q s _ h => ⟨_, _, .exit id s, h⟩
  | ret => exact fun Q s _ h => ⟨_, _, .ret s, h⟩
  | _ => exact fun Q s _ h => h.elim
theorem pw_loop {mixed : Bool} (hm : mixed = true → P.follows .mixedOrders = true) {c : Code} {Q : X → AS → Prop} {α : Type} (S : α → AS) (I : α → Prop) (μ : α → Nat) {s : AS} (hc : codeOk Γ mixed N c = true) (i : α) (hi : I i) (hs : s.forget (S i))
    (h : ∀ i, I i → pw P Γ N c (fun x s' => match x with
      | .normal => ∃ j, I j ∧ μ j < μ i ∧ s'.forget (S j)
      | .exit id => Q (.exit id) s'
      | .ret => Q .ret s') (S i)) : pw P Γ N (.loop c) Q s := by
  have key : ∀ n i, μ i = n → I i → ∃ x s', Ev P Γ N (.loop c) (S i) x s' ∧ Q x s' := by
    intro n
    induction n using Nat.strongRecOn with
    | _ n ih =>
      intro i hn hi
      obtain ⟨x, s', h1, h2⟩ := pw_ok hm c _ _ hc (h i hi)
      cases x with
      | normal =>
        obtain ⟨j, hj, hlt, hf⟩ := h2
        obtain ⟨x2, s2, h3, h4⟩ := ih (μ j) (hn ▸ hlt) j rfl hj
        exact ⟨x2, s2, .loop h1 (.forget hf h3), h4⟩
      | exit id => exact ⟨_, s', .loopX h1 (by simp), h2⟩
      | ret => exact ⟨_, s', .loopX h1 (by simp), h2⟩
  obtain ⟨x, s', h1, h2⟩ := key _ i rfl hi
  exact ⟨x, s', .forget hs h1, h2⟩
def mkS (l : List (Nat × PV)) (ob : List (Nat × Nat × Nat × List PV)) (nx : Nat) : AS :=
  { tm := fun t => (l.lookup t).getD .dead, ob := fun o => ob.lookup o, nx := nx }
theorem forget_mk {s : AS} {l : List (Nat × PV)} {ob : List (Nat × Nat × Nat × List PV)} {nx : Nat} (h1 : ∀ p ∈ l, s.tm p.1 = p.2) (h2 : ∀ p ∈ ob, s.ob p.1 = some p.2) (h3 : s.nx = nx) : s.forget (mkS l ob nx) := by
  refine ⟨fun t => ?_, fun o => ?_, h3.symm⟩
  · cases hl : l.lookup t with
    | none => right; simp [mkS, hl]
    | some p =>
      left
      simp only [mkS, hl, Option.getD_some]
      have := h1 (t, p) (by
        obtain ⟨l1, l2, h⟩ := List.lookup_eq_some_iff.1 hl
        rw [h.1]; simp)
      exact this.symm
  · cases hl : ob.lookup o with
    | none => right; simp [mkS, hl]
    | some p =>
      left
      simp only [mkS, hl]
      have := h2 (o, p) (by
        obtain ⟨l1, l2, h⟩ := List.lookup_eq_some_iff.1 hl
        rw [h.1]; simp)
      exact this.symm
theorem sound_of_pw {mixed : Bool} (hm : mixed = true → P.follows .mixedOrders = true) {f : Nat} {fn : Func} {c : Code} {φ : Fun} (hΓ : SoundΓ P Γ) (hf : P.funcs[f]? = some fn) (hb : fn.body = some c) (hc : codeOk Γ mixed fn.ntmps c = true)
    (h : ∀ ps r, φ ps = some r → ps.length ≤ fn.ntmps ∧ pw P Γ fn.ntmps c (fun x s' => (x = .normal ∨ x = .ret) ∧ ((resPs P s' fn.results.toList).bind fun qs => reify true 0 s'.ob fuel (onePV qs)) = some r) (initS ps)) : Sound P f φ := by
  refine sound_of_ev hΓ hf hb (fun ps r hr => (h ps r hr).1) fun ps r hr => ?_
  obtain ⟨x, s', h1, h2, h3⟩ := pw_ok hm c _ _ hc (h ps r hr).2
  rw [Option.bind_eq_some_iff] at h3
  obtain ⟨qs, h4, h5⟩ := h3
  exact ⟨x, s', qs, h1, h2, h4, h5⟩
end
abbrev iv (n : Int) : PV := .val (.int .i64 n)
abbrev bv (b : Bool) : PV := .val (.bool b)
abbrev sv (s : ByteArray) : PV := .val (.string s)
theorem upd_apply {α : Type} (f : Nat → α) (d : Nat) (v : α) (t : Nat) : upd f d v t = if t = d then v else f t := rfl
section
variable {P : Program} {t ty : Nat} {x y : Operand} {k : IntKind} {m n : Int}
theorem wrap_id {n : Int} (h1 : -9223372036854775808 ≤ n) (h2 : n ≤ 9223372036854775807) : IntKind.i64.wrap n = n := IntWalk.i64_in _ ⟨h1, h2⟩
theorem pr_add : pureRun P (do eqGuard .add t x y (.int k m) (.int k n); binOp .add t (.int k m) (.int k n)) = some (.int k (k.wrap (m + n))) := by
  simp [eqGuard, binOp, Op.intArith, bind, Sem.bind, pure, pureRun]
theorem pr_sub : pureRun P (do eqGuard .sub t x y (.int k m) (.int k n); binOp .sub t (.int k m) (.int k n)) = some (.int k (k.wrap (m - n))) := by
  simp [eqGuard, binOp, Op.intArith, bind, Sem.bind, pure, pureRun]
theorem pr_mul : pureRun P (do eqGuard .mul t x y (.int k m) (.int k n); binOp .mul t (.int k m) (.int k n)) = some (.int k (k.wrap (m * n))) := by
  simp [eqGuard, binOp, Op.intArith, bind, Sem.bind, pure, pureRun]
theorem pr_quo (h : n ≠ 0) : pureRun P (do eqGuard .quo t x y (.int k m) (.int k n); binOp .quo t (.int k m) (.int k n)) = some (.int k (k.wrap (m.tdiv n))) := by
  simp [eqGuard, binOp, Op.intDiv, bind, Sem.bind, pure, pureRun, h]
theorem pr_rem (h : n ≠ 0) : pureRun P (do eqGuard .rem t x y (.int k m) (.int k n); binOp .rem t (.int k m) (.int k n)) = some (.int k (m.tmod n)) := by
  simp [eqGuard, binOp, Op.intDiv, bind, Sem.bind, pure, pureRun, h]
theorem pr_lss : pureRun P (do eqGuard .lss t x y (.int k m) (.int k n); binOp .lss t (.int k m) (.int k n)) = some (.bool (decide (m < n))) := by
  simp [eqGuard, binOp, Op.intCmp, bind, Sem.bind, pure, pureRun]
theorem pr_leq : pureRun P (do eqGuard .leq t x y (.int k m) (.int k n); binOp .leq t (.int k m) (.int k n)) = some (.bool (decide (m ≤ n))) := by
  simp [eqGuard, binOp, Op.intCmp, bind, Sem.bind, pure, pureRun]
theorem pr_gtr : pureRun P (do eqGuard .gtr t x y (.int k m) (.int k n); binOp .gtr t (.int k m) (.int k n)) = some (.bool (decide (n < m))) := by
  simp [eqGuard, binOp, Op.intCmp, bind, Sem.bind, pure, pureRun]
theorem pr_geq : pureRun P (do eqGuard .geq t x y (.int k m) (.int k n); binOp .geq t (.int k m) (.int k n)) = some (.bool (decide (n ≤ m))) := by
  simp [eqGuard, binOp, Op.intCmp, bind, Sem.bind, pure, pureRun]
theorem pr_eql : pureRun P (do eqGuard .eql t x y (.int k m) (.int k n); binOp .eql t (.int k m) (.int k n)) = some (.bool (decide (m = n))) := by
  simp [eqGuard, binOp, Op.intCmp, bind, Sem.bind, pure, pureRun]; rfl
theorem pr_neq : pureRun P (do eqGuard .neq t x y (.int k m) (.int k n); binOp .neq t (.int k m) (.int k n)) = some (.bool (!decide (m = n))) := by
  simp [eqGuard, binOp, Op.intCmp, bind, Sem.bind, pure, pureRun]; rfl
theorem pr_not {b : Bool} : pureRun P (Op.unary .not (.bool b)) = some (.bool !b) := by simp [Op.unary, pure, pureRun]
theorem pr_neg : pureRun P (Op.unary .neg (.int k n)) = some (.int k (k.wrap (0 - n))) := by simp [Op.unary, Op.intArith, pure, pureRun]
theorem pr_lenS {s : ByteArray} (h : P.underlying t = some .string) : pureRun P (Builtin.len_ #[t] ty #[.string s]) = some (.int .i64 s.size) := by
  simp [Builtin.len_, underlying, Go.program, bind, Sem.bind, pure, pureRun, h, goInt]
theorem pr_max {a : Array TypeId} : pureRun P (Builtin.max_ a ty #[.int k m, .int k n]) = some (.int k (if n > m then n else m)) := by
  simp [Builtin.max_, Builtin.max2, bind, Sem.bind, pure, pureRun, List.foldlM]
theorem pr_min {a : Array TypeId} : pureRun P (Builtin.min_ a ty #[.int k m, .int k n]) = some (.int k (if n < m then n else m)) := by
  simp [Builtin.min_, Builtin.min2, bind, Sem.bind, pure, pureRun, List.foldlM]
theorem pr_conv {src dst : Nat} {d : TypeDesc} {k' : IntKind} (h : P.underlying src = some d) (h' : P.underlying dst = some (.int k')) : pureRun P (convert src dst (.int k n)) = some (.int k' (k'.wrap n)) := by
  simp [convert, underlying, Go.program, bind, Sem.bind, pure, pureRun, h, h', Conv.intToInt]
end
end Go.Proofs.Ytngcedklbinhjaa
namespace Go.Proofs.Ytngcedklbinhjaa
open Go.RowKit
set_option linter.all false
def gq (gs : List (Option Nat)) (tm : Nat → PV) : Option (Nat × Bool) → Option Bool
  | none => some true
  | some (j, want) => match gs[j]? with
    | some (some d) => (boolOf (tm d)).map fun b => b == some want
    | _ => some false
theorem gq_eq {ops : Array Oper} {s : AS} {o : Oper} : evGuard ops s o = gq (ops.toList.map (·.dst)) s.tm o.guard := by
  unfold evGuard gq
  cases o.guard with
  | none => rfl
  | some jw =>
    obtain ⟨j, want⟩ := jw
    dsimp only
    rw [List.getElem?_map]
    cases h : ops[j]? with
    | none =>
      have : ops.toList[j]? = none := by simpa using h
      rw [this]; rfl
    | some oj =>
      have : ops.toList[j]? = some oj := by simpa using h
      rw [this]
      dsimp only [Option.map_some]
      cases oj.dst <;> rfl
def wq (P : Program) (Γ : Ctx) (imm : Md) (gs : List (Option Nat)) : List Oper → (AS → Prop) → (Nat → PV) → Objs → Nat → Prop
  | [], Q, tm, ob, nx => Q ⟨tm, ob, nx⟩
  | o :: l, Q, tm, ob, nx => match gq gs tm o.guard with
    | some b => (b = true → match evDo P Γ imm ⟨tm, ob, nx⟩ o with
        | some s' => wq P Γ imm gs l Q s'.tm s'.ob s'.nx
        | none => False) ∧ (b = false → wq P Γ imm gs l Q ((AS.mk tm ob nx).put o.dst (.val undef)).tm ob nx)
    | none => False
def thenV (r : Option PV) (k : PV → Prop) : Prop := match r with | some p => k p | none => False
def thenE (r : Option (PV × Objs × Nat)) (k : PV → Objs → Nat → Prop) : Prop := match r with | some (p, ob, nx) => k p ob nx | none => False
def thenG (r : Option Bool) (k j : Prop) : Prop := match r with | some b => (b = true → k) ∧ (b = false → j) | none => False
section
variable {P : Program} {Γ : Ctx} {imm : Md} {N : Nat} {gs : List (Option Nat)} {l : List Oper} {Q : AS → Prop} {tm : Nat → PV} {ob : Objs} {nx : Nat}
theorem evQ_wq {ops : Array Oper} : ∀ (l : List Oper) (tm : Nat → PV) (ob : Objs) (nx : Nat), evQ P Γ imm ops l Q ⟨tm, ob, nx⟩ = wq P Γ imm (ops.toList.map (·.dst)) l Q tm ob nx
  | [], tm, ob, nx => rfl
  | o :: l, tm, ob, nx => by
    simp only [wq, evQ, gq_eq]
    cases gq (ops.toList.map (·.dst)) tm o.guard with
    | none => rfl
    | some b =>
      dsimp only
      congr 1
      · congr 1
        cases evDo P Γ imm ⟨tm, ob, nx⟩ o with
        | none => rfl
        | some s' => exact evQ_wq l s'.tm s'.ob s'.nx
      · congr 1
        have e : (AS.mk tm ob nx).put o.dst (.val undef) = ⟨((AS.mk tm ob nx).put o.dst (.val undef)).tm, ob, nx⟩ := by cases o.dst <;> rfl
        rw [e]
        exact evQ_wq l _ _ _
def kV (P : Program) (Γ : Ctx) (imm : Md) (gs : List (Option Nat)) (l : List Oper) (Q : AS → Prop) (tm : Nat → PV) (ob : Objs) (nx : Nat) (d : Nat) (p : PV) : Prop := wq P Γ imm gs l Q (upd tm d p) ob nx
def kE (P : Program) (Γ : Ctx) (imm : Md) (gs : List (Option Nat)) (l : List Oper) (Q : AS → Prop) (tm : Nat → PV) (d : Option Nat) (p : PV) (ob : Objs) (nx : Nat) : Prop :=
  wq P Γ imm gs l Q (match d with | some d => upd tm d p | none => tm) ob nx
theorem wq_cons (d : Option Nat) (op : Op) (ty : Nat) (pos : String) (af : Array Edge) (g : Option (Nat × Bool)) :
    wq P Γ imm gs ({ dst := d, op := op, type := ty, pos := pos, after := af, guard := g } :: l) Q tm ob nx =
      thenG (gq gs tm g) (if isEff Γ imm { dst := d, op := op, type := ty, pos := pos, after := af, guard := g } then thenE (if effOk Γ imm nx (look tm) op then evEff P Γ ⟨tm, ob, nx⟩ (look tm) op else none) (kE P Γ imm gs l Q tm d)
        else thenV (evVal P Γ (obq imm { dst := d, op := op, type := ty, pos := pos, after := af, guard := g } ob) (look tm) ty op) (fun p => wq P Γ imm gs l Q (match d with | some d => upd tm d p | none => tm) ob nx))
        (wq P Γ imm gs l Q (match d with | some d => upd tm d (.val undef) | none => tm) ob nx) := by
  simp only [wq, thenG]
  cases gq gs tm g with
  | none => rfl
  | some b =>
    dsimp only
    congr 1
    · congr 1
      unfold evDo
      cases isEff Γ imm { dst := d, op := op, type := ty, pos := pos, after := af, guard := g } with
      | true =>
        simp only [if_true]
        cases h : (if effOk Γ imm nx (look tm) op = true then evEff P Γ ⟨tm, ob, nx⟩ (look tm) op else none) with
        | none => simp [thenE]
        | some r => cases d <;> simp [thenE, kE, AS.put]
      | false =>
        simp only [Bool.false_eq_true, if_false]
        cases h : evVal P Γ (obq imm { dst := d, op := op, type := ty, pos := pos, after := af, guard := g } ob) (look tm) ty op with
        | none => simp [thenV]
        | some r => cases d <;> simp [thenV, AS.put]
    · cases d <;> rfl
theorem wq_V (d : Nat) (op : Op) (ty : Nat) (pos : String) (af : Array Edge) (h : isEff Γ imm { dst := some d, op := op, type := ty, pos := pos, after := af, guard := none } = false) (hq : quiet imm { dst := some d, op := op, type := ty, pos := pos, after := af, guard := none } = false) (hp : privy imm { dst := some d, op := op, type := ty, pos := pos, after := af, guard := none } = false) :
    wq P Γ imm gs ({ dst := some d, op := op, type := ty, pos := pos, after := af, guard := none } :: l) Q tm ob nx = thenV (evVal P Γ ob (look tm) ty op) (kV P Γ imm gs l Q tm ob nx d) := by
  rw [wq_cons]
  simp [gq, thenG, h, obq, hq, hp]
  rfl
theorem wq_Vq (d : Nat) (op : Op) (ty : Nat) (pos : String) (af : Array Edge) (h : isEff Γ imm { dst := some d, op := op, type := ty, pos := pos, after := af, guard := none } = false) (hq : quiet imm { dst := some d, op := op, type := ty, pos := pos, after := af, guard := none } = true) :
    wq P Γ imm gs ({ dst := some d, op := op, type := ty, pos := pos, after := af, guard := none } :: l) Q tm ob nx = thenV (evVal P Γ noObs (look tm) ty op) (kV P Γ imm gs l Q tm ob nx d) := by
  rw [wq_cons]
  simp [gq, thenG, h, obq, hq]
  rfl
theorem wq_Vp (d : Nat) (op : Op) (ty : Nat) (pos : String) (af : Array Edge) (h : isEff Γ imm { dst := some d, op := op, type := ty, pos := pos, after := af, guard := none } = false) (hq : quiet imm { dst := some d, op := op, type := ty, pos := pos, after := af, guard := none } = false) (hp : privy imm { dst := some d, op := op, type := ty, pos := pos, after := af, guard := none } = true) :
    wq P Γ imm gs ({ dst := some d, op := op, type := ty, pos := pos, after := af, guard := none } :: l) Q tm ob nx = thenV (evVal P Γ (onlyV imm.V ob) (look tm) ty op) (kV P Γ imm gs l Q tm ob nx d) := by
  rw [wq_cons]
  simp [gq, thenG, h, obq, hq, hp]
  rfl
theorem wq_E (d : Option Nat) (op : Op) (ty : Nat) (pos : String) (af : Array Edge) (h : isEff Γ imm { dst := d, op := op, type := ty, pos := pos, after := af, guard := none } = true) (hk : effOk Γ imm nx (look tm) op = true) :
    wq P Γ imm gs ({ dst := d, op := op, type := ty, pos := pos, after := af, guard := none } :: l) Q tm ob nx = thenE (evEff P Γ ⟨tm, ob, nx⟩ (look tm) op) (kE P Γ imm gs l Q tm d) := by
  rw [wq_cons]
  simp [gq, thenG, h, hk]
theorem thenG_true (k j : Prop) : thenG (some true) k j = k := by simp [thenG]
theorem thenG_false (k j : Prop) : thenG (some false) k j = j := by simp [thenG]
def pq (P : Program) (Γ : Ctx) (N : Nat) (c : Code) (Q : X → AS → Prop) (tm : Nat → PV) (ob : Objs) (nx : Nat) : Prop := pw P Γ N c Q ⟨tm, ob, nx⟩
def kS (P : Program) (Γ : Ctx) (N : Nat) (b : Code) (Q : X → AS → Prop) : X → AS → Prop := fun x s' => match x with
    | .normal => pw P Γ N b Q s'
    | .exit id => Q (.exit id) s'
    | .ret => Q .ret s'
def kB (id : Nat) (Q : X → AS → Prop) : X → AS → Prop := fun x s' => Q (x.out id) s'
variable {QX : X → AS → Prop}
theorem pq_cond {c : Operand} {x y : Code} {b : Bool} (h : look tm c = .val (.bool b)) : pq P Γ N (.cond c x y) QX tm ob nx = ((b = true → pq P Γ N x QX tm ob nx) ∧ (b = false → pq P Γ N y QX tm ob nx)) := by
  simp only [pq, pw, h]
end
section
variable {P : Program} {Γ : Ctx} {imm : Md} {N : Nat} {gs : List (Option Nat)} {l : List Oper} {Q : AS → Prop} {tm : Nat → PV} {ob ob' : Objs} {nx nx' : Nat} {QX : X → AS → Prop}
theorem i_seq {a b : Code} (h : pq P Γ N a (kS P Γ N b QX) tm ob nx) : pq P Γ N (.seq a b) QX tm ob nx := h
theorem i_skip (h : QX .normal ⟨tm, ob, nx⟩) : pq P Γ N .skip QX tm ob nx := h
theorem i_block {id : Nat} {c : Code} (h : pq P Γ N c (kB id QX) tm ob nx) : pq P Γ N (.block id c) QX tm ob nx := h
theorem i_exit {id : Nat} (h : QX (.exit id) ⟨tm, ob, nx⟩) : pq P Γ N (.exit id) QX tm ob nx := h
theorem i_ret (h : QX .ret ⟨tm, ob, nx⟩) : pq P Γ N .ret QX tm ob nx := h
theorem i_kS {b : Code} (h : pq P Γ N b QX tm ob nx) : kS P Γ N b QX .normal ⟨tm, ob, nx⟩ := h
theorem i_kSx {b : Code} {id : Nat} (h : QX (.exit id) ⟨tm, ob, nx⟩) : kS P Γ N b QX (.exit id) ⟨tm, ob, nx⟩ := h
theorem i_kSr {b : Code} (h : QX .ret ⟨tm, ob, nx⟩) : kS P Γ N b QX .ret ⟨tm, ob, nx⟩ := h
theorem i_kB {id : Nat} (h : QX .normal ⟨tm, ob, nx⟩) : kB id QX .normal ⟨tm, ob, nx⟩ := h
theorem i_kBr {id : Nat} (h : QX .ret ⟨tm, ob, nx⟩) : kB id QX .ret ⟨tm, ob, nx⟩ := h
theorem i_kBs {id : Nat} (h : QX .normal ⟨tm, ob, nx⟩) : kB id QX (.exit id) ⟨tm, ob, nx⟩ := by simpa [kB, X.out] using h
theorem i_kBo {id id' : Nat} (hn : (id' == id) = false) (h : QX (.exit id') ⟨tm, ob, nx⟩) : kB id QX (.exit id') ⟨tm, ob, nx⟩ := by
  have : ¬ id' = id := by simpa using hn
  simpa [kB, X.out, this] using h
theorem i_region {id : Nat} {os : List Oper} {gs : List (Option Nat)} (hg : os.map (·.dst) = gs) (h : wq P Γ ⟨[], [], []⟩ gs os (QX .normal) tm ob nx) : pq P Γ N (.region id os.toArray false) QX tm ob nx := by
  subst hg
  exact Or.inl (Exists.intro ⟨[], [], []⟩ (And.intro (fun h => by cases h) (by rw [evQ_wq]; exact h)))
theorem i_draw {id : Nat} {os : List Oper} {gs : List (Option Nat)} (hg : os.map (·.dst) = gs) (hd : drawOk Γ (stdM true os.toArray) os.toArray = true) (h : wq P Γ (stdM true os.toArray) gs os (QX .normal) tm ob nx) : pq P Γ N (.region id os.toArray true) QX tm ob nx := by
  subst hg
  exact Or.inl (Exists.intro (stdM true os.toArray) (And.intro (fun _ => hd) (by rw [evQ_wq]; exact h)))
theorem i_nil (h : Q ⟨tm, ob, nx⟩) : wq P Γ imm gs [] Q tm ob nx := h
theorem i_V {d : Nat} {op : Op} {ty : Nat} {pos : String} {af : Array Edge} {p : PV} (h : isEff Γ imm { dst := some d, op := op, type := ty, pos := pos, after := af, guard := none } = false) (hq : quiet imm { dst := some d, op := op, type := ty, pos := pos, after := af, guard := none } = false) (hv : privy imm { dst := some d, op := op, type := ty, pos := pos, after := af, guard := none } = false)
    (hp : evVal P Γ ob (look tm) ty op = some p) (hk : wq P Γ imm gs l Q (upd tm d p) ob nx) : wq P Γ imm gs ({ dst := some d, op := op, type := ty, pos := pos, after := af, guard := none } :: l) Q tm ob nx := by
  rw [wq_V _ _ _ _ _ h hq hv, hp]; exact hk
theorem i_Vp {d : Nat} {op : Op} {ty : Nat} {pos : String} {af : Array Edge} {p : PV} (h : isEff Γ imm { dst := some d, op := op, type := ty, pos := pos, after := af, guard := none } = false) (hq : quiet imm { dst := some d, op := op, type := ty, pos := pos, after := af, guard := none } = false) (hv : privy imm { dst := some d, op := op, type := ty, pos := pos, after := af, guard := none } = true)
    (hp : evVal P Γ (onlyV imm.V ob) (look tm) ty op = some p) (hk : wq P Γ imm gs l Q (upd tm d p) ob nx) : wq P Γ imm gs ({ dst := some d, op := op, type := ty, pos := pos, after := af, guard := none } :: l) Q tm ob nx := by
  rw [wq_Vp _ _ _ _ _ h hq hv, hp]; exact hk
theorem i_Vq {d : Nat} {op : Op} {ty : Nat} {pos : String} {af : Array Edge} {p : PV} (h : isEff Γ imm { dst := some d, op := op, type := ty, pos := pos, after := af, guard := none } = false) (hq : quiet imm { dst := some d, op := op, type := ty, pos := pos, after := af, guard := none } = true)
    (hp : evVal P Γ noObs (look tm) ty op = some p) (hk : wq P Γ imm gs l Q (upd tm d p) ob nx) : wq P Γ imm gs ({ dst := some d, op := op, type := ty, pos := pos, after := af, guard := none } :: l) Q tm ob nx := by
  rw [wq_Vq _ _ _ _ _ h hq, hp]; exact hk
theorem i_E {d : Nat} {op : Op} {ty : Nat} {pos : String} {af : Array Edge} {p : PV} (h : isEff Γ imm { dst := some d, op := op, type := ty, pos := pos, after := af, guard := none } = true) (hv : effOk Γ imm nx (look tm) op = true)
    (hp : evEff P Γ ⟨tm, ob, nx⟩ (look tm) op = some (p, ob', nx')) (hk : wq P Γ imm gs l Q (upd tm d p) ob' nx') : wq P Γ imm gs ({ dst := some d, op := op, type := ty, pos := pos, after := af, guard := none } :: l) Q tm ob nx := by
  rw [wq_E _ _ _ _ _ h hv, hp]; exact hk
theorem i_S {op : Op} {ty : Nat} {pos : String} {af : Array Edge} {p : PV} (h : isEff Γ imm { dst := none, op := op, type := ty, pos := pos, after := af, guard := none } = true) (hv : effOk Γ imm nx (look tm) op = true)
    (hp : evEff P Γ ⟨tm, ob, nx⟩ (look tm) op = some (p, ob', nx')) (hk : wq P Γ imm gs l Q tm ob' nx') : wq P Γ imm gs ({ dst := none, op := op, type := ty, pos := pos, after := af, guard := none } :: l) Q tm ob nx := by
  rw [wq_E _ _ _ _ _ h hv, hp]; exact hk
theorem i_Gt {d : Option Nat} {op : Op} {ty : Nat} {pos : String} {af : Array Edge} {g : Nat × Bool} (hg : gq gs tm (some g) = some true)
    (hk : wq P Γ imm gs ({ dst := d, op := op, type := ty, pos := pos, after := af, guard := none } :: l) Q tm ob nx) : wq P Γ imm gs ({ dst := d, op := op, type := ty, pos := pos, after := af, guard := some g } :: l) Q tm ob nx := by
  have : ∀ i, isEff Γ imm { dst := d, op := op, type := ty, pos := pos, after := af, guard := i } = isEff Γ imm { dst := d, op := op, type := ty, pos := pos, after := af, guard := none } := fun i => rfl
  have this2 : ∀ i, obq imm { dst := d, op := op, type := ty, pos := pos, after := af, guard := i } ob = obq imm { dst := d, op := op, type := ty, pos := pos, after := af, guard := none } ob := fun i => rfl
  rw [wq_cons, hg, thenG_true, this, this2]
  rw [wq_cons] at hk
  simpa [gq, thenG] using hk
theorem i_Gf {d : Nat} {op : Op} {ty : Nat} {pos : String} {af : Array Edge} {g : Nat × Bool} (hg : gq gs tm (some g) = some false)
    (hk : wq P Γ imm gs l Q (upd tm d (.val undef)) ob nx) : wq P Γ imm gs ({ dst := some d, op := op, type := ty, pos := pos, after := af, guard := some g } :: l) Q tm ob nx := by
  rw [wq_cons, hg, thenG_false]; exact hk
theorem i_Gb {d : Nat} {op : Op} {ty : Nat} {pos : String} {af : Array Edge} {g : Nat × Bool} {b : Bool} (hg : gq gs tm (some g) = some b)
    (ht : b = true → wq P Γ imm gs ({ dst := some d, op := op, type := ty, pos := pos, after := af, guard := none } :: l) Q tm ob nx) (hf : b = false → wq P Γ imm gs l Q (upd tm d (.val undef)) ob nx) :
    wq P Γ imm gs ({ dst := some d, op := op, type := ty, pos := pos, after := af, guard := some g } :: l) Q tm ob nx := by
  cases b with
  | true => exact i_Gt hg (ht rfl)
  | false => exact i_Gf hg (hf rfl)
theorem i_cond {c : Operand} {x y : Code} {b : Bool} (h : look tm c = .val (.bool b)) (ht : b = true → pq P Γ N x QX tm ob nx) (hf : b = false → pq P Γ N y QX tm ob nx) : pq P Γ N (.cond c x y) QX tm ob nx := by
  rw [pq_cond h]; exact ⟨ht, hf⟩
def lk (l : List (Nat × PV)) : Nat → PV := fun t => (l.lookup t).getD .dead
def lo (l : List (Nat × Nat × Nat × List PV)) : Objs := fun o => l.lookup o
def agree (tm : Nat → PV) : List (Nat × PV) → Prop
  | [] => True
  | p :: l => tm p.1 = p.2 ∧ agree tm l
def agreeO (ob : Objs) : List (Nat × Nat × Nat × List PV) → Prop
  | [] => True
  | p :: l => ob p.1 = some p.2 ∧ agreeO ob l
theorem agree_all {tm : Nat → PV} : ∀ {l : List (Nat × PV)}, agree tm l → ∀ p ∈ l, tm p.1 = p.2
  | [], _, p, hp => by simp at hp
  | q :: l, h, p, hp => by
    rcases List.mem_cons.1 hp with rfl | hp
    · exact h.1
    · exact agree_all h.2 p hp
theorem agreeO_all {ob : Objs} : ∀ {l : List (Nat × Nat × Nat × List PV)}, agreeO ob l → ∀ p ∈ l, ob p.1 = some p.2
  | [], _, p, hp => by simp at hp
  | q :: l, h, p, hp => by
    rcases List.mem_cons.1 hp with rfl | hp
    · exact h.1
    · exact agreeO_all h.2 p hp
def Heads {α : Type} (I : α → Prop) (μ : α → Nat) (L : α → List (Nat × PV)) (O : α → List (Nat × Nat × Nat × List PV)) (X : α → Nat) (m : Nat) (tm : Nat → PV) (ob : Objs) (nx : Nat) : Prop :=
  ∃ j, I j ∧ μ j < m ∧ agree tm (L j) ∧ agreeO ob (O j) ∧ nx = X j
def kL {α : Type} (I : α → Prop) (μ : α → Nat) (L : α → List (Nat × PV)) (O : α → List (Nat × Nat × Nat × List PV)) (XX : α → Nat) (m : Nat) (QX : X → AS → Prop) : X → AS → Prop := fun x s' => match x with
  | .normal => Heads I μ L O XX m s'.tm s'.ob s'.nx
  | .exit id => QX (.exit id) s'
  | .ret => QX .ret s'
theorem i_loop (hm : P.follows .mixedOrders = true) {c : Code} {α : Type} (L : α → List (Nat × PV)) (O : α → List (Nat × Nat × Nat × List PV)) (XX : α → Nat) (I : α → Prop) (μ : α → Nat) (hc : codeOk Γ true N c = true) (i : α) (hi : I i)
    (h1 : agree tm (L i)) (h2 : agreeO ob (O i)) (h3 : nx = XX i)
    (h : ∀ i, I i → pq P Γ N c (kL I μ L O XX (μ i) QX) (lk (L i)) (lo (O i)) (XX i)) : pq P Γ N (.loop c) QX tm ob nx := by
  refine pw_loop (mixed := true) (fun _ => hm) (fun i => mkS (L i) (O i) (XX i)) I μ hc i hi (forget_mk (agree_all h1) (agreeO_all h2) h3) fun i hi => ?_
  refine pw_mono (fun x s' hx => ?_) _ _ (h i hi)
  cases x with
  | normal =>
    obtain ⟨j, k1, k2, k3, k4, k5⟩ := hx
    exact ⟨j, k1, k2, forget_mk (agree_all k3) (agreeO_all k4) k5⟩
  | exit id => exact hx
  | ret => exact hx
section
variable {α : Type} {I : α → Prop} {μ : α → Nat} {L : α → List (Nat × PV)} {O : α → List (Nat × Nat × Nat × List PV)} {XX : α → Nat} {m : Nat}
theorem i_kL (h : Heads I μ L O XX m tm ob nx) : kL I μ L O XX m QX .normal ⟨tm, ob, nx⟩ := h
theorem i_kLx {id : Nat} (h : QX (.exit id) ⟨tm, ob, nx⟩) : kL I μ L O XX m QX (.exit id) ⟨tm, ob, nx⟩ := h
theorem i_kLr (h : QX .ret ⟨tm, ob, nx⟩) : kL I μ L O XX m QX .ret ⟨tm, ob, nx⟩ := h
end
end
def Post (P : Program) (rs : List ResultVar) (r : PV) : X → AS → Prop := fun x s' => (x = .normal ∨ x = .ret) ∧ ((resPs P s' rs).bind fun qs => reify true 0 s'.ob fuel (onePV qs)) = some r
section
variable {P : Program} {Γ : Ctx} {tm : Nat → PV} {ob : Objs} {nx : Nat}
theorem i_end {rs : List ResultVar} {r : PV} (h : ((resPs P ⟨tm, ob, nx⟩ rs).bind fun qs => reify true 0 ob fuel (onePV qs)) = some r) : Post P rs r .ret ⟨tm, ob, nx⟩ := ⟨.inr rfl, h⟩
theorem i_endN {rs : List ResultVar} {r : PV} (h : ((resPs P ⟨tm, ob, nx⟩ rs).bind fun qs => reify true 0 ob fuel (onePV qs)) = some r) : Post P rs r .normal ⟨tm, ob, nx⟩ := ⟨.inl rfl, h⟩
theorem sound_pq (hm : P.follows .mixedOrders = true) {f : Nat} {fn : Func} {c : Code} {φ : Fun} (hΓ : SoundΓ P Γ) (hf : P.funcs[f]? = some fn) (hb : fn.body = some c) (N : Nat) (hN : fn.ntmps = N) (rs : List ResultVar) (hrs : fn.results.toList = rs) (hc : codeOk Γ true N c = true)
    (h : ∀ ps r, φ ps = some r → ps.length ≤ N ∧ pq P Γ N c (Post P rs r) (initS ps).tm (fun _ => none) 0) : Sound P f φ := by
  subst hN hrs
  exact sound_of_pw (mixed := true) (fun _ => hm) hΓ hf hb hc h
end
theorem reify_val (fr : Bool) (n : Nat) (ob : Objs) (v : Value) : reify fr n ob fuel (.val v) = some (.val v) := rfl
theorem onePV_one (p : PV) : onePV [p] = p := rfl
theorem onePV_two (p q : PV) : onePV [p, q] = .tup [p, q] := rfl
theorem resPs_nil (P : Program) (s : AS) : resPs P s [] = some [] := rfl
theorem resPs_tmp (P : Program) (s : AS) (t : Nat) (l : List ResultVar) : resPs P s (.tmp t :: l) = (resPs P s l).map (s.tm t :: ·) := rfl
theorem boolOf_bool (b : Bool) : boolOf (.val (.bool b)) = some (some b) := rfl
theorem beq_some_true (b : Bool) : (some b == some true) = b := by cases b <;> rfl
theorem beq_some_false (b : Bool) : (some b == some false) = !b := by cases b <;> rfl
theorem toVal_val (v : Value) : toVal (.val v) = some v := rfl
section
variable {P : Program} {t e sz : Nat}
theorem ix_lst {k : Bool} {es : List PV} {i : Int} (hu : P.underlying t = some (.slice e)) (hs : tySize P e = some sz) (h0 : 0 ≤ i) (h1 : i < (es.length : Int)) : evIndexAddr P t (.lst k sz es) i = some (.ptr k ((es[i.toNat]?).getD .dead) 0) := by
  have hlt : i.toNat < es.length := by omega
  simp [evIndexAddr, hu, hs, h0, hlt]
theorem ix_row {o j n : Nat} {i : Int} (hu : P.underlying t = some (.slice e)) (hs : tySize P e = some sz) (h0 : 0 ≤ i) (h1 : i < (n : Int)) : evIndexAddr P t (.row o sz j n) i = some (.own o sz (j + i.toNat) 0) := by
  simp [evIndexAddr, hu, hs, h0, h1]
theorem sl_lst {k : Bool} {es : List PV} {lo hi : Option Int} (hu : P.underlying t = some (.slice e)) (hs : tySize P e = some sz) (h0 : 0 ≤ lo.getD 0) (h1 : lo.getD 0 ≤ hi.getD es.length) (h2 : hi.getD es.length ≤ es.length) :
    evSlice P t (.lst k sz es) lo hi = some (.lst k sz ((es.drop (lo.getD 0).toNat).take ((hi.getD es.length).toNat - (lo.getD 0).toNat))) := by
  simp [evSlice, hu, hs, h0, h1, h2]
theorem sl_rowlt {o i n : Nat} {lo hi : Option Int} (hu : P.underlying t = some (.slice e)) (hs : tySize P e = some sz) (h0 : 0 ≤ lo.getD 0) (h1 : lo.getD 0 < hi.getD n) (h2 : hi.getD n ≤ n) :
    evSlice P t (.row o sz i n) lo hi = some (.row o sz (i + (lo.getD 0).toNat) ((hi.getD n).toNat - (lo.getD 0).toNat)) := by
  have h3 : lo.getD 0 ≤ hi.getD (n : Int) := by omega
  have h4 : ¬ lo.getD 0 = hi.getD (n : Int) := by omega
  simp only [evSlice, hu, hs]
  rw [if_pos ⟨trivial, h0, h3, h2⟩, if_neg h4]
theorem sl_roweq {o i n : Nat} {lo hi : Option Int} (hu : P.underlying t = some (.slice e)) (hs : tySize P e = some sz) (h0 : 0 ≤ lo.getD 0) (h1 : lo.getD 0 = hi.getD n) (h2 : hi.getD n ≤ n) :
    evSlice P t (.row o sz i n) lo hi = some (.lst true sz []) := by
  have h3 : lo.getD 0 ≤ hi.getD (n : Int) := by omega
  simp only [evSlice, hu, hs]
  rw [if_pos ⟨trivial, h0, h3, h2⟩, if_pos h1]
end
def evCall (Γ : Ctx) (ob : Objs) (f : Nat) (ps : List PV) : Option PV :=
  match Γ f, ps.mapM (reify false 0 ob fuel) with
  | some φ, some qs => φ qs
  | _, _ => none
theorem ev_call {P : Program} {Γ : Ctx} {ob : Objs} {tm : Nat → PV} {ty f : Nat} {xs : Array Operand} {ts : Array TypeId} : evVal P Γ ob (look tm) ty (.call { callee := .value (.func f), args := xs, argTypes := ts }) = evCall Γ ob f (xs.toList.map (look tm)) := rfl
theorem mapM_self {F : PV → Option PV} : ∀ {es : List PV}, (∀ e ∈ es, F e = some e) → es.mapM F = some es
  | [], _ => rfl
  | e :: es, h => by
    rw [List.mapM_cons, h e (by simp), mapM_self fun x hx => h x (by simp [hx])]
    rfl
theorem reify_lst {n sz : Nat} {ob : Objs} {k : Bool} {es : List PV} (h : ∀ e ∈ es, ∃ v, e = .val v) : reify false n ob fuel (.lst k sz es) = some (.lst false sz es) := by
  show (if false = true ∧ k = false ∧ es ≠ [] then none else (es.mapM (reify false n ob 7)).map (PV.lst false sz)) = _
  rw [if_neg (by simp), mapM_self fun e he => by obtain ⟨v, rfl⟩ := h e he; rfl]
  rfl
theorem reify_vals {α : Type} {n sz : Nat} {ob : Objs} {k : Bool} {f : α → Value} {l : List α} : reify false n ob fuel (.lst k sz (l.map fun x => .val (f x))) = some (.lst false sz (l.map fun x => .val (f x))) :=
  reify_lst fun e he => by obtain ⟨x, _, rfl⟩ := List.mem_map.1 he; exact ⟨_, rfl⟩
theorem reify_fuel (fr : Bool) (n : Nat) (ob : Objs) (p : PV) : reify fr n ob fuel p = reify fr n ob 8 p := rfl
theorem reifyS_val (fr : Bool) (n : Nat) (ob : Objs) (f : Nat) (v : Value) : reify fr n ob (f + 1) (.val v) = some (.val v) := rfl
theorem reifyS_agg (fr : Bool) (n : Nat) (ob : Objs) (f : Nat) (cs : List PV) : reify fr n ob (f + 1) (.agg cs) = (cs.mapM (reify fr n ob f)).map .agg := by simp only [reify]
theorem reifyS_tup (fr : Bool) (n : Nat) (ob : Objs) (f : Nat) (cs : List PV) : reify fr n ob (f + 1) (.tup cs) = (cs.mapM (reify fr n ob f)).map .tup := by simp only [reify]
theorem reifyS_vals {α : Type} {n sz : Nat} {ob : Objs} {f : Nat} {k : Bool} {g : α → Value} {l : List α} : reify false n ob (f + 2) (.lst k sz (l.map fun x => .val (g x))) = some (.lst false sz (l.map fun x => .val (g x))) := by
  have : (l.map fun x => PV.val (g x)).mapM (reify false n ob (f + 1)) = some (l.map fun x => PV.val (g x)) := mapM_self fun e he => by
    obtain ⟨x, _, rfl⟩ := List.mem_map.1 he
    rfl
  show (if false = true ∧ k = false ∧ (l.map fun x => PV.val (g x)) ≠ [] then none else ((l.map fun x => PV.val (g x)).mapM (reify false n ob (f + 1))).map (PV.lst false sz)) = _
  rw [this]
  simp
theorem reifyT_vals {α : Type} {n sz : Nat} {ob : Objs} {f : Nat} {g : α → Value} {l : List α} : reify true n ob (f + 2) (.lst true sz (l.map fun x => .val (g x))) = some (.lst true sz (l.map fun x => .val (g x))) := by
  have : (l.map fun x => PV.val (g x)).mapM (reify true n ob (f + 1)) = some (l.map fun x => PV.val (g x)) := mapM_self fun e he => by
    obtain ⟨x, _, rfl⟩ := List.mem_map.1 he
    rfl
  show (if true = true ∧ true = false ∧ (l.map fun x => PV.val (g x)) ≠ [] then none else ((l.map fun x => PV.val (g x)).mapM (reify true n ob (f + 1))).map (PV.lst true sz)) = _
  rw [this]
  simp
def rowRe (fr : Bool) (f : Nat) (ob : Objs) (sz i m : Nat) : Option (Nat × Nat × List PV) → Option PV
  | some (_, sz', es) => if sz = sz' ∧ i + m ≤ es.length then (((es.drop i).take m).mapM (reify fr 0 ob f)).map (.lst fr sz) else none
  | none => none
theorem reifyS_row (fr : Bool) (ob : Objs) (f o sz i m : Nat) : reify fr 0 ob (f + 1) (.row o sz i m) = rowRe fr f ob sz i m (ob o) := by
  simp only [reify, rowRe, Nat.not_lt_zero, and_false, if_false]
  cases ob o with
  | none => rfl
  | some c => rfl
theorem rowRe_vals {α : Type} {fr : Bool} {f sz m T : Nat} {ob : Objs} {g : α → Value} {l : List α} (hm : m = l.length) : rowRe fr (f + 1) ob sz 0 m (some (T, sz, l.map fun x => .val (g x))) = some (.lst fr sz (l.map fun x => .val (g x))) := by
  have : (l.map fun x => PV.val (g x)).mapM (reify fr 0 ob (f + 1)) = some (l.map fun x => PV.val (g x)) := mapM_self fun e he => by
    obtain ⟨x, _, rfl⟩ := List.mem_map.1 he
    rfl
  subst hm
  have e : ((l.map fun x => PV.val (g x)).drop 0).take l.length = l.map fun x => PV.val (g x) := by
    rw [List.drop_zero, List.take_of_length_le (by simp)]
  simp only [rowRe, e, this, Nat.zero_add, List.length_map, Nat.le_refl, and_self, if_true, Option.map_some]
def resC (P : Program) (ty : Nat) (x : PV) (e : Option PV) (ps : Option (List PV)) : Option (List PV) :=
  match x with
  | .own _ _ _ f => (e.bind (subP P ty f)).bind fun p => ps.map (p :: ·)
  | _ => none
def elOf (x : PV) (c : Option (Nat × Nat × List PV)) : Option PV :=
  match x, c with
  | .own _ sz i _, some (_, sz', es) => if sz = sz' then es[i]? else none
  | _, _ => none
theorem elOf_own {o sz i f T : Nat} {es : List PV} : elOf (.own o sz i f) (some (T, sz, es)) = es[i]? := by simp [elOf]
theorem resPs_cell (P : Program) (s : AS) (t ty : Nat) (l : List ResultVar) : resPs P s (.cell t ty :: l) = resC P ty (s.tm t) (elOf (s.tm t) (match s.tm t with | .own o _ _ _ => s.ob o | _ => none)) (resPs P s l) := by
  simp only [resPs, resC, elOf]
  cases s.tm t with
  | own o sz i f =>
    dsimp only
    cases s.ob o with
    | none => rfl
    | some c =>
      obtain ⟨T, sz', es⟩ := c
      dsimp only
      by_cases h : sz = sz'
      · simp only [h, if_true]
        cases hq : (es[i]?).bind (subP P ty f) with
        | none => rfl
        | some p => cases resPs P s l <;> rfl
      · simp only [h, if_false]
        rfl
  | _ => rfl
theorem resC_own {P : Program} {ty o sz i f : Nat} {e : Option PV} {ps : Option (List PV)} : resC P ty (.own o sz i f) e ps = (e.bind (subP P ty f)).bind fun p => ps.map (p :: ·) := rfl
theorem get_map {α : Type} {f : α → PV} {l : List α} {i : Nat} (d : α) (h : i < l.length) : ((l[i]?).map f).getD .dead = f ((l[i]?).getD d) := by
  rw [List.getElem?_eq_getElem h]; rfl
theorem get_iv {l : List Int} {i : Nat} (h : i < l.length) : ((l[i]?).map fun n => PV.val (.int .i64 n)).getD .dead = .val (.int .i64 ((l[i]?).getD 0)) := get_map 0 h
theorem get_nv {l : List Int} {i : Nat} (h : i < l.length) : ((l[i]?).map fun n => PV.val (.int .u8 n)).getD .dead = .val (.int .u8 ((l[i]?).getD 0)) := get_map 0 h
theorem get_sv {l : List ByteArray} {i : Nat} (h : i < l.length) : ((l[i]?).map fun s => PV.val (.string s)).getD .dead = .val (.string ((l[i]?).getD ByteArray.empty)) := get_map _ h
theorem get_bv {l : List Bool} {i : Nat} (h : i < l.length) : ((l[i]?).map fun b => PV.val (.bool b)).getD .dead = .val (.bool ((l[i]?).getD false)) := get_map _ h
theorem mapM_nil' {α β : Type} {F : α → Option β} : ([] : List α).mapM F = some [] := rfl
theorem mapM_cons' {α β : Type} {F : α → Option β} {e : α} {es : List α} : (e :: es).mapM F = (F e).bind fun x => (es.mapM F).map (x :: ·) := by
  rw [List.mapM_cons]
  cases F e with
  | none => rfl
  | some x => cases es.mapM F <;> rfl
theorem lk_apply (l : List (Nat × PV)) (t : Nat) : lk l t = (l.lookup t).getD .dead := rfl
theorem initS_tm (ps : List PV) (t : Nat) : (initS ps).tm t = (ps[t]?).getD (.val undef) := rfl
def gqd (tm : Nat → PV) (want : Bool) : Option (Option Nat) → Option Bool
  | some (some d) => (boolOf (tm d)).map fun b => b == some want
  | _ => some false
theorem gq_gqd (gs : List (Option Nat)) (tm : Nat → PV) (j : Nat) (want : Bool) : gq gs tm (some (j, want)) = gqd tm want gs[j]? := rfl
theorem gqd_some (tm : Nat → PV) (want : Bool) (d : Nat) : gqd tm want (some (some d)) = (boolOf (tm d)).map fun b => b == some want := rfl
theorem boolOf_undef : boolOf (.val undef) = some none := rfl
theorem beq_none (b : Bool) : ((none : Option Bool) == some b) = false := rfl
theorem toNat_pred (k : Nat) : ((k : Int) - 1).toNat = k - 1 := by omega
theorem toNat_succ (k : Nat) : ((k : Int) + 1).toNat = k + 1 := by omega
theorem toNat_add (k n : Nat) : ((k : Int) + (n : Int)).toNat = k + n := by omega
def sel {α : Type} (d : α) (l : List α) (j : Nat) : α := (l[j]?).getD d
theorem sel_all {α : Type} {d : α} {p : α → Prop} : ∀ {l : List α} {j : Nat}, (∀ x ∈ l, p x) → j < l.length → p (sel d l j) := fun {l j} h hj => by
  unfold sel
  rw [List.getElem?_eq_getElem hj]
  exact h _ (List.getElem_mem hj)
theorem sel_lt {l : List Int} {c : Int} {j : Nat} (h : l.all (fun x => decide (x < c)) = true) (hj : j < l.length) : sel 0 l j < c :=
  sel_all (p := fun x => x < c) (fun x hx => by simpa using List.all_eq_true.1 h x hx) hj
theorem sel_ge {l : List Int} {c : Int} {j : Nat} (h : l.all (fun x => decide (c ≤ x)) = true) (hj : j < l.length) : c ≤ sel 0 l j :=
  sel_all (p := fun x => c ≤ x) (fun x hx => by simpa using List.all_eq_true.1 h x hx) hj
end Go.Proofs.Ytngcedklbinhjaa
namespace Go.Proofs.Ytngcedklbinhjaa
open Go.RowKit
set_option linter.all false
def mkEv (e sz by_ : Nat) (z : Value) (s : AS) : PV → PV → Option (PV × Objs × Nat)
  | .val (.int _ l), .val (.int _ c) =>
    if 0 ≤ l ∧ l ≤ c ∧ (by_ : Int) * c ≤ 281474976710656 ∧ c ≤ 9223372036854775807 then some (.row s.nx sz 0 l.toNat, upd s.ob s.nx (some (e, sz, List.replicate l.toNat (ofVal z))), s.nx + 1) else none
  | _, _ => none
theorem mkEv_ok {e sz by_ : Nat} {z : Value} {s : AS} {kl kc : IntKind} {l c : Int} (h0 : 0 ≤ l) (h1 : l ≤ c) (h2 : (by_ : Int) * c ≤ 281474976710656) (h3 : c ≤ 9223372036854775807) :
    mkEv e sz by_ z s (.val (.int kl l)) (.val (.int kc c)) = some (.row s.nx sz 0 l.toNat, upd s.ob s.nx (some (e, sz, List.replicate l.toNat (ofVal z))), s.nx + 1) := by
  simp [mkEv, h0, h1, h2, h3]
theorem em_of {P : Program} {Γ : Ctx} {t e sz by_ : Nat} {z : Value} (he : tyElem P t = some e) (hz : zeroOf P e = some z) (hs : tySize P e = some sz) (hb : tyBytes P e = some by_) (h1 : z.cells.all (·.oneCell') = true) (h2 : z.cells.size = sz) (s : AS) (ρ : Operand → PV) (l c : Operand) :
    evEff P Γ s ρ (.makeSlice t l c) = mkEv e sz by_ z s (ρ l) (ρ c) := by
  simp only [evEff, he, hz, hs, hb]
  unfold mkEv
  split
  · rename_i z' sz' by' kl l' kc c' e1 e2 e3 e4 e5
    cases e1; cases e2; cases e3
    rw [e4, e5]
    have key : ∀ C : Prop, (z.cells.all (·.oneCell') = true ∧ z.cells.size = sz ∧ C) = C := fun C => propext ⟨fun h => h.2.2, fun h => ⟨h1, h2, h⟩⟩
    simp only [key]
  · rename_i hno
    split
    · rename_i a b kl l' kc c' e4 e5
      exact (hno z sz by_ kl l' kc c' rfl rfl rfl e4 e5).elim
    · rfl
theorem ea_of {P : Program} {Γ : Ctx} {t sz : Nat} {z : Value} {p : PV} (hz : zeroOf P t = some z) (h1 : z.cells.all (·.oneCell') = true) (h2 : z.cells.size = sz) (h3 : ofVal z = p) (s : AS) (ρ : Operand → PV) :
    evEff P Γ s ρ (.alloc t) = some (.own s.nx sz 0 0, upd s.ob s.nx (some (t, sz, [p])), s.nx + 1) := by
  simp only [evEff, hz]
  rw [if_pos h1, h2, h3]
def obOf (ob : Objs) : PV → Option (Nat × Nat × List PV)
  | .row o _ _ _ => ob o
  | .own o _ _ _ => ob o
  | _ => none
def apEv (e sz by_ nx : Nat) (ob : Objs) (x : PV) (c : Option (Nat × Nat × List PV)) (es2 : Option (List PV)) : Option (PV × Objs × Nat) :=
  match es2 with
  | some es2 => match x with
    | .row o sz' i n => match c with
      | some (T, sz'', es) => if i = 0 ∧ T = e ∧ sz' = sz ∧ sz'' = sz ∧ es.length = n ∧ n + es2.length ≤ 9223372036854775807 ∧ (n + es2.length) * by_ ≤ 140737488355328 then
          some (.row nx sz 0 (n + es2.length), upd (upd ob o none) nx (some (e, sz, es ++ es2)), nx + 1) else none
      | none => none
    | p => if isNil p = true ∧ es2.length ≤ 9223372036854775807 ∧ es2.length * by_ ≤ 140737488355328 then
        (if es2.length = 0 then some (p, ob, nx) else some (.row nx sz 0 es2.length, upd ob nx (some (e, sz, es2)), nx + 1)) else none
  | none => none
theorem eap_of {P : Program} {Γ : Ctx} {t e sz by_ : Nat} {z : Value} (he : tyElem P t = some e) (hz : zeroOf P e = some z) (hs : tySize P e = some sz) (hb : tyBytes P e = some by_) (h1 : 0 < sz) (h2 : z.cells.size = sz) (s : AS) (ρ : Operand → PV) (x y : Operand) :
    evEff P Γ s ρ (.call { callee := .builtin .append, args := #[x, y], argTypes := #[t, t] }) = apEv e sz by_ s.nx s.ob (ρ x) (obOf s.ob (ρ x)) (sliceEs s.ob sz (ρ y)) := by
  simp only [evEff, he, hz, hs, hb]
  unfold apEv
  cases sliceEs s.ob sz (ρ y) with
  | none => rfl
  | some es2 =>
    simp only [h1, h2, and_self, if_true]
    cases ρ x <;> rfl
theorem apEv_row {e sz by_ nx o n : Nat} {ob : Objs} {es es2 : List PV} (h1 : es.length = n) (h2 : n + es2.length ≤ 9223372036854775807) (h3 : (n + es2.length) * by_ ≤ 140737488355328) :
    apEv e sz by_ nx ob (.row o sz 0 n) (some (e, sz, es)) (some es2) = some (.row nx sz 0 (n + es2.length), upd (upd ob o none) nx (some (e, sz, es ++ es2)), nx + 1) := by
  simp [apEv, h1, h2, h3]
theorem apEv_nil {e sz by_ nx : Nat} {ob : Objs} {c : Option (Nat × Nat × List PV)} {es2 : List PV} (h1 : 0 < es2.length) (h2 : es2.length ≤ 9223372036854775807) (h3 : es2.length * by_ ≤ 140737488355328) :
    apEv e sz by_ nx ob (.val (.slice none 0 0)) c (some es2) = some (.row nx sz 0 es2.length, upd ob nx (some (e, sz, es2)), nx + 1) := by
  have : ¬ es2.length = 0 := by omega
  have hn : ¬ es2 = [] := fun h => this (by rw [h]; rfl)
  simp [apEv, isNil, h2, h3, hn]
def strI (b : ByteArray) : List Int := b.data.toList.map fun x => (x.toNat : Int)
theorem strI_length (b : ByteArray) : (strI b).length = b.size := by
  unfold strI
  rw [List.length_map]
  exact Array.length_toList
theorem srcEs_str {ob : Objs} {b : ByteArray} : srcEs ob 1 (.val (.string b)) = some ((strI b).map fun n => .val (.int .u8 n)) := by
  simp [srcEs, strI]
theorem srcEs_lst {ob : Objs} {k : Bool} {sz s : Nat} {es : List PV} : srcEs ob sz (.lst k s es) = sliceEs ob sz (.lst k s es) := rfl
theorem srcEs_row {ob : Objs} {o sz i n s : Nat} : srcEs ob sz (.row o s i n) = sliceEs ob sz (.row o s i n) := rfl
def cpX (sz nx : Nat) (ob : Objs) (x : PV) (c : Option (Nat × Nat × List PV)) (es2 : Option (List PV)) : Option (PV × Objs × Nat) :=
  match es2, x with
  | some es2, .row o sz' i n => match c with
    | some (T, sz'', es) => if sz' = sz ∧ sz'' = sz ∧ i + n ≤ es.length then
        some (.val (.int .i64 (min es2.length n : Nat)), upd ob o (some (T, sz, es.take i ++ es2.take (min es2.length n) ++ es.drop (i + min es2.length n))), nx) else none
    | none => none
  | some _, .lst _ _ [] => some (.val (.int .i64 0), ob, nx)
  | _, _ => none
theorem ecp_of {P : Program} {Γ : Ctx} {t e sz : Nat} (he : tyElem P t = some e) (hs : tySize P e = some sz) (s : AS) (ρ : Operand → PV) (x y : Operand) (t' : Nat) :
    evEff P Γ s ρ (.call { callee := .builtin .copy, args := #[x, y], argTypes := #[t, t'] }) = cpX sz s.nx s.ob (ρ x) (obOf s.ob (ρ x)) (srcEs s.ob sz (ρ y)) := by
  simp only [evEff, cpEv, he, hs]
  unfold cpX
  cases srcEs s.ob sz (ρ y) with
  | none => rfl
  | some es2 =>
    cases hx : ρ x with
    | lst k sz' es => cases es <;> rfl
    | _ => rfl
theorem cpX_nil {sz nx k' : Nat} {k : Bool} {ob : Objs} {c : Option (Nat × Nat × List PV)} {es2 : List PV} : cpX sz nx ob (.lst k k' []) c (some es2) = some (.val (.int .i64 0), ob, nx) := rfl
theorem cpX_row {sz nx o i n T : Nat} {ob : Objs} {es es2 : List PV} (h : i + n ≤ es.length) : cpX sz nx ob (.row o sz i n) (some (T, sz, es)) (some es2) = some (.val (.int .i64 (min es2.length n : Nat)), upd ob o (some (T, sz, es.take i ++ es2.take (min es2.length n) ++ es.drop (i + min es2.length n))), nx) := by
  simp [cpX, h]
def stEv (P : Program) (t : Nat) (ob : Objs) (nx : Nat) (x y : PV) (c : Option (Nat × Nat × List PV)) : Option (PV × Objs × Nat) :=
  match x, c with
  | .own o sz i f, some (T, sz', es) => match es[i]?, cellsL y with
    | some e, some cs => if sz = sz' ∧ tySize P t = some cs.length then (setP sz e f y cs).map fun e' => (.val undef, upd ob o (some (T, sz, es.set i e')), nx) else none
    | _, _ => none
  | _, _ => none
theorem est_of {P : Program} {Γ : Ctx} (s : AS) (ρ : Operand → PV) (t : Nat) (x y : Operand) : evEff P Γ s ρ (.store t x y) = stEv P t s.ob s.nx (ρ x) (ρ y) (obOf s.ob (ρ x)) := by
  simp only [evEff]
  unfold stEv
  cases hx : ρ x with
  | own o sz i f =>
    simp only [obOf]
    cases s.ob o with
    | none => rfl
    | some c => rfl
  | _ => rfl
def agY : PV → Bool
  | .agg _ => true
  | _ => false
theorem agY_val (v : Value) : agY (.val v) = false := rfl
theorem agY_lst (k : Bool) (sz : Nat) (es : List PV) : agY (.lst k sz es) = false := rfl
theorem agY_row (o sz i n : Nat) : agY (.row o sz i n) = false := rfl
theorem agY_own (o sz i f : Nat) : agY (.own o sz i f) = false := rfl
theorem agY_agg (cs : List PV) : agY (.agg cs) = true := rfl
def stE (sz f : Nat) (ag : Bool) (cs : List PV) : PV → Option PV
  | .agg ecs => if f + cs.length ≤ ecs.length then some (PV.agg (setL ecs f cs)) else none
  | _ => if sz = 1 ∧ f = 0 ∧ ag = false then cs.head? else none
def stP (k : Option Nat) (ob : Objs) (nx o T sz i f : Nat) (ag : Bool) (cs : Option (List PV)) (es : List PV) (e : Option PV) : Option (PV × Objs × Nat) :=
  match k, cs, e with
  | some k, some cs, some e => if k = cs.length then
      (stE sz f ag cs e).map fun e' => (.val undef, upd ob o (some (T, sz, es.set i e')), nx)
      else none
  | _, _, _ => none
theorem stEv_own {P : Program} {t o sz i f T nx : Nat} {ob : Objs} {es : List PV} {y : PV} :
    stEv P t ob nx (.own o sz i f) y (some (T, sz, es)) = stP (tySize P t) ob nx o T sz i f (agY y) (cellsL y) es (es[i]?) := by
  simp only [stEv, stP]
  cases he : es[i]? with
  | none => cases tySize P t <;> cases cellsL y <;> rfl
  | some e =>
    cases hc : cellsL y with
    | none => cases tySize P t <;> rfl
    | some cs =>
      cases ht : tySize P t with
      | none => simp
      | some k =>
        by_cases hk : k = cs.length
        · have e2 : setP sz e f y cs = stE sz f (agY y) cs e := by
            have hone : oneP y = true → cs.head? = some y ∧ agY y = false := by
              intro h
              cases y <;> simp_all [cellsL, oneP, agY] <;> (subst hc; rfl)
            have hno : oneP y = false → agY y = true := by
              intro h
              cases y <;> simp_all [cellsL, oneP, agY]
            clear he
            cases e <;> simp only [setP, stE]
            all_goals
              cases ho : oneP y with
              | true => simp [hone ho]
              | false => simp [hno ho]
          simp [hk, e2]
        · simp [hk]
theorem stP_agg {k nx o T sz i f : Nat} {ob : Objs} {ag : Bool} {cs ecs es : List PV} (hk : k = cs.length) (hf : f + cs.length ≤ ecs.length) :
    stP (some k) ob nx o T sz i f ag (some cs) es (some (.agg ecs)) = some (.val undef, upd ob o (some (T, sz, es.set i (.agg (setL ecs f cs)))), nx) := by
  simp [stP, stE, hk, hf]
theorem stP_val {nx o T i : Nat} {ob : Objs} {es : List PV} {v : Value} {c : PV} :
    stP (some 1) ob nx o T 1 i 0 false (some [c]) es (some (.val v)) = some (.val undef, upd ob o (some (T, 1, es.set i c)), nx) := rfl
theorem stP_lst {nx o T i k sz : Nat} {b : Bool} {ob : Objs} {es l : List PV} {c : PV} :
    stP (some 1) ob nx o T 1 i 0 false (some [c]) es (some (.lst b sz l)) = some (.val undef, upd ob o (some (T, 1, es.set i c)), nx) := rfl
theorem stP_row {nx o T i a b' c' d : Nat} {ob : Objs} {es : List PV} {c : PV} :
    stP (some 1) ob nx o T 1 i 0 false (some [c]) es (some (.row a b' c' d)) = some (.val undef, upd ob o (some (T, 1, es.set i c)), nx) := rfl
theorem stP_own {nx o T i a b' c' d : Nat} {ob : Objs} {es : List PV} {c : PV} :
    stP (some 1) ob nx o T 1 i 0 false (some [c]) es (some (.own a b' c' d)) = some (.val undef, upd ob o (some (T, 1, es.set i c)), nx) := rfl
theorem set_map {α β : Type} {f : α → β} {xs : List α} {i : Nat} {y : α} : (xs.map f).set i (f y) = (xs.set i y).map f := by rw [List.map_set]
theorem setL_zero {α : Type} (l new : List α) : setL l 0 new = new ++ l.drop new.length := by simp [setL]
theorem setL_succ {α : Type} (x : α) (l : List α) (n : Nat) (new : List α) : setL (x :: l) (n + 1) new = x :: setL l n new := by
  simp [setL, Nat.add_right_comm n 1]
theorem setL_1 {α : Type} (x : α) (l : List α) (new : List α) : setL (x :: l) 1 new = x :: setL l 0 new := setL_succ x l 0 new
theorem setL_2 {α : Type} (x : α) (l : List α) (new : List α) : setL (x :: l) 2 new = x :: setL l 1 new := setL_succ x l 1 new
theorem setL_3 {α : Type} (x : α) (l : List α) (new : List α) : setL (x :: l) 3 new = x :: setL l 2 new := setL_succ x l 2 new
theorem setL_4 {α : Type} (x : α) (l : List α) (new : List α) : setL (x :: l) 4 new = x :: setL l 3 new := setL_succ x l 3 new
theorem setL_5 {α : Type} (x : α) (l : List α) (new : List α) : setL (x :: l) 5 new = x :: setL l 4 new := setL_succ x l 4 new
theorem setL_6 {α : Type} (x : α) (l : List α) (new : List α) : setL (x :: l) 6 new = x :: setL l 5 new := setL_succ x l 5 new
theorem setL_7 {α : Type} (x : α) (l : List α) (new : List α) : setL (x :: l) 7 new = x :: setL l 6 new := setL_succ x l 6 new
structure Dec (α : Type) where
  d : PV → Option α
  e : α → PV
  h : ∀ p a, d p = some a → p = e a
  h' : ∀ a, d (e a) = some a
def F0 (F : Option PV) : Fun := fun ps => match ps with | [] => F | _ => none
def F1 {α : Type} (A : Dec α) (F : α → Option PV) : Fun := fun ps => match ps with | [p] => (A.d p).bind F | _ => none
def F2 {α β : Type} (A : Dec α) (B : Dec β) (F : α → β → Option PV) : Fun := fun ps => match ps with | [p, q] => (A.d p).bind fun a => (B.d q).bind fun b => F a b | _ => none
def F3 {α β γ : Type} (A : Dec α) (B : Dec β) (C : Dec γ) (F : α → β → γ → Option PV) : Fun := fun ps => match ps with | [p, q, r] => (A.d p).bind fun a => (B.d q).bind fun b => (C.d r).bind fun c => F a b c | _ => none
def F4 {α β γ δ : Type} (A : Dec α) (B : Dec β) (C : Dec γ) (D : Dec δ) (F : α → β → γ → δ → Option PV) : Fun := fun ps => match ps with | [p, q, r, s] => (A.d p).bind fun a => (B.d q).bind fun b => (C.d r).bind fun c => (D.d s).bind fun d => F a b c d | _ => none
section
variable {α β γ δ : Type} {A : Dec α} {B : Dec β} {C : Dec γ} {D : Dec δ} {ps : List PV} {r : PV}
theorem F0_some {F : Option PV} (h : F0 F ps = some r) : ps = [] ∧ F = some r := by
  unfold F0 at h
  split at h
  · exact ⟨rfl, h⟩
  · cases h
theorem F1_some {F : α → Option PV} (h : F1 A F ps = some r) : ∃ a, ps = [A.e a] ∧ F a = some r := by
  unfold F1 at h
  split at h
  · rw [Option.bind_eq_some_iff] at h
    obtain ⟨a, h1, h2⟩ := h
    exact ⟨a, by rw [A.h _ _ h1], h2⟩
  · cases h
theorem F2_some {F : α → β → Option PV} (h : F2 A B F ps = some r) : ∃ a b, ps = [A.e a, B.e b] ∧ F a b = some r := by
  unfold F2 at h
  split at h
  · simp only [Option.bind_eq_some_iff] at h
    obtain ⟨a, h1, b, h2, h3⟩ := h
    exact ⟨a, b, by rw [A.h _ _ h1, B.h _ _ h2], h3⟩
  · cases h
theorem F3_some {F : α → β → γ → Option PV} (h : F3 A B C F ps = some r) : ∃ a b c, ps = [A.e a, B.e b, C.e c] ∧ F a b c = some r := by
  unfold F3 at h
  split at h
  · simp only [Option.bind_eq_some_iff] at h
    obtain ⟨a, h1, b, h2, c, h3, h4⟩ := h
    exact ⟨a, b, c, by rw [A.h _ _ h1, B.h _ _ h2, C.h _ _ h3], h4⟩
  · cases h
theorem F4_some {F : α → β → γ → δ → Option PV} (h : F4 A B C D F ps = some r) : ∃ a b c d, ps = [A.e a, B.e b, C.e c, D.e d] ∧ F a b c d = some r := by
  unfold F4 at h
  split at h
  · simp only [Option.bind_eq_some_iff] at h
    obtain ⟨a, h1, b, h2, c, h3, d, h4, h5⟩ := h
    exact ⟨a, b, c, d, by rw [A.h _ _ h1, B.h _ _ h2, C.h _ _ h3, D.h _ _ h4], h5⟩
  · cases h
theorem F1_ap {F : α → Option PV} (a : α) : F1 A F [A.e a] = F a := by simp [F1, A.h']
theorem F2_ap {F : α → β → Option PV} (a : α) (b : β) : F2 A B F [A.e a, B.e b] = F a b := by simp [F2, A.h', B.h']
theorem F3_ap {F : α → β → γ → Option PV} (a : α) (b : β) (c : γ) : F3 A B C F [A.e a, B.e b, C.e c] = F a b c := by simp [F3, A.h', B.h', C.h']
theorem F4_ap {F : α → β → γ → δ → Option PV} (a : α) (b : β) (c : γ) (d : δ) : F4 A B C D F [A.e a, B.e b, C.e c, D.e d] = F a b c d := by simp [F4, A.h', B.h', C.h', D.h']
end
def dI : Dec Int := { d := fun | .val (.int .i64 n) => some n | _ => none, e := fun n => .val (.int .i64 n), h := fun p a h => by split at h <;> simp_all, h' := fun a => rfl }
def dU : Dec Int := { d := fun | .val (.int .u8 n) => some n | _ => none, e := fun n => .val (.int .u8 n), h := fun p a h => by split at h <;> simp_all, h' := fun a => rfl }
def dB : Dec Bool := { d := fun | .val (.bool n) => some n | _ => none, e := fun n => .val (.bool n), h := fun p a h => by split at h <;> simp_all, h' := fun a => rfl }
def dS : Dec ByteArray := { d := fun | .val (.string n) => some n | _ => none, e := fun n => .val (.string n), h := fun p a h => by split at h <;> simp_all, h' := fun a => rfl }
def dFn (f : Nat) : Dec Unit where
  d := fun | .val (.func (.func g) a b) => if g = f ∧ a.size = 0 ∧ b.size = 0 then some () else none | _ => none
  e := fun _ => .val (.func (.func f) #[] #[])
  h := fun p a h => by
    split at h
    · split at h
      · rename_i hh
        obtain ⟨rfl, h1, h2⟩ := hh
        rw [Array.eq_empty_of_size_eq_zero h1, Array.eq_empty_of_size_eq_zero h2]
      · cases h
    · cases h
  h' := fun a => by simp
theorem mapM_dec {α : Type} (A : Dec α) : ∀ {es : List PV} {l : List α}, es.mapM A.d = some l → es = l.map A.e
  | [], l, h => by simp only [List.mapM_nil, Option.pure_def, Option.some.injEq] at h; subst h; rfl
  | e :: es, l, h => by
    rw [mapM_cons', Option.bind_eq_some_iff] at h
    obtain ⟨a, h1, h2⟩ := h
    rw [Option.map_eq_some_iff] at h2
    obtain ⟨l', h3, rfl⟩ := h2
    rw [List.map_cons, A.h _ _ h1, mapM_dec A h3]
theorem mapM_enc {α : Type} (A : Dec α) : ∀ (l : List α), (l.map A.e).mapM A.d = some l
  | [] => rfl
  | a :: l => by rw [List.map_cons, mapM_cons', A.h', mapM_enc A l]; rfl
def dL {α : Type} (sz : Nat) (A : Dec α) : Dec (List α) where
  d := fun | .lst false s es => if s = sz then es.mapM A.d else none | _ => none
  e := fun l => .lst false sz (l.map A.e)
  h := fun p a h => by
    split at h
    · split at h
      · rename_i hs
        subst hs
        rw [mapM_dec A h]
      · cases h
    · cases h
  h' := fun a => by
    show (if sz = sz then (a.map A.e).mapM A.d else none) = some a
    rw [if_pos rfl, mapM_enc]
abbrev dIs := dL 1 dI
abbrev dUs := dL 1 dU
abbrev dSs := dL 1 dS
def dA2 {α β : Type} (A : Dec α) (B : Dec β) : Dec (α × β) where
  d := fun | .agg [p, q] => (A.d p).bind fun a => (B.d q).map fun b => (a, b) | _ => none
  e := fun x => .agg [A.e x.1, B.e x.2]
  h := fun p a h => by
    split at h
    · simp only [Option.bind_eq_some_iff, Option.map_eq_some_iff] at h
      obtain ⟨x, h1, y, h2, rfl⟩ := h
      rw [A.h _ _ h1, B.h _ _ h2]
    · cases h
  h' := fun a => by simp [A.h', B.h']
def dA3 {α β γ : Type} (A : Dec α) (B : Dec β) (C : Dec γ) : Dec (α × β × γ) where
  d := fun | .agg [p, q, r] => (A.d p).bind fun a => (B.d q).bind fun b => (C.d r).map fun c => (a, b, c) | _ => none
  e := fun x => .agg [A.e x.1, B.e x.2.1, C.e x.2.2]
  h := fun p a h => by
    split at h
    · simp only [Option.bind_eq_some_iff, Option.map_eq_some_iff] at h
      obtain ⟨x, h1, y, h2, z, h3, rfl⟩ := h
      rw [A.h _ _ h1, B.h _ _ h2, C.h _ _ h3]
    · cases h
  h' := fun a => by simp [A.h', B.h', C.h']
def dA4 {α β γ δ : Type} (A : Dec α) (B : Dec β) (C : Dec γ) (D : Dec δ) : Dec (α × β × γ × δ) where
  d := fun | .agg [p, q, r, s] => (A.d p).bind fun a => (B.d q).bind fun b => (C.d r).bind fun c => (D.d s).map fun d => (a, b, c, d) | _ => none
  e := fun x => .agg [A.e x.1, B.e x.2.1, C.e x.2.2.1, D.e x.2.2.2]
  h := fun p a h => by
    split at h
    · simp only [Option.bind_eq_some_iff, Option.map_eq_some_iff] at h
      obtain ⟨x, h1, y, h2, z, h3, t, h4, rfl⟩ := h
      rw [A.h _ _ h1, B.h _ _ h2, C.h _ _ h3, D.h _ _ h4]
    · cases h
  h' := fun a => by simp [A.h', B.h', C.h', D.h']
def dA5 {α β γ δ ε : Type} (A : Dec α) (B : Dec β) (C : Dec γ) (D : Dec δ) (E : Dec ε) : Dec (α × β × γ × δ × ε) where
  d := fun | .agg [p, q, r, s, t] => (A.d p).bind fun a => (B.d q).bind fun b => (C.d r).bind fun c => (D.d s).bind fun d => (E.d t).map fun e => (a, b, c, d, e) | _ => none
  e := fun x => .agg [A.e x.1, B.e x.2.1, C.e x.2.2.1, D.e x.2.2.2.1, E.e x.2.2.2.2]
  h := fun p a h => by
    split at h
    · simp only [Option.bind_eq_some_iff, Option.map_eq_some_iff] at h
      obtain ⟨x, h1, y, h2, z, h3, t, h4, u, h5, rfl⟩ := h
      rw [A.h _ _ h1, B.h _ _ h2, C.h _ _ h3, D.h _ _ h4, E.h _ _ h5]
    · cases h
  h' := fun a => by simp [A.h', B.h', C.h', D.h', E.h']
theorem dA5_e {α β γ δ ε : Type} (A : Dec α) (B : Dec β) (C : Dec γ) (D : Dec δ) (E : Dec ε) : (dA5 A B C D E).e = fun x => .agg [A.e x.1, B.e x.2.1, C.e x.2.2.1, D.e x.2.2.2.1, E.e x.2.2.2.2] := rfl
theorem dI_e : dI.e = fun n => .val (.int .i64 n) := rfl
theorem dU_e : dU.e = fun n => .val (.int .u8 n) := rfl
theorem dB_e : dB.e = fun n => .val (.bool n) := rfl
theorem dS_e : dS.e = fun n => .val (.string n) := rfl
theorem dFn_e (f : Nat) : (dFn f).e = fun _ => .val (.func (.func f) #[] #[]) := rfl
theorem dL_e {α : Type} (sz : Nat) (A : Dec α) : (dL sz A).e = fun l => .lst false sz (l.map A.e) := rfl
theorem dA2_e {α β : Type} (A : Dec α) (B : Dec β) : (dA2 A B).e = fun x => .agg [A.e x.1, B.e x.2] := rfl
theorem dA3_e {α β γ : Type} (A : Dec α) (B : Dec β) (C : Dec γ) : (dA3 A B C).e = fun x => .agg [A.e x.1, B.e x.2.1, C.e x.2.2] := rfl
theorem dA4_e {α β γ δ : Type} (A : Dec α) (B : Dec β) (C : Dec γ) (D : Dec δ) : (dA4 A B C D).e = fun x => .agg [A.e x.1, B.e x.2.1, C.e x.2.2.1, D.e x.2.2.2] := rfl
theorem fnOf_fn (f : Nat) : fnOf (.val (.func (.func f) #[] #[])) = some f := rfl
theorem ev_callV {P : Program} {Γ : Ctx} {ob : Objs} {tm : Nat → PV} {ty : Nat} {x : Operand} {xs : Array Operand} {ts : Array TypeId} : evVal P Γ ob (look tm) ty (.call { callee := .value x, args := xs, argTypes := ts }) =
    (match fnOf (look tm x) with | some f => evCall Γ ob f (xs.toList.map (look tm)) | none => none) := by
  simp only [evVal]
  cases fnOf (look tm x) with
  | none => rfl
  | some f => rfl
section
variable {P : Program} {Γ : Ctx} {ob : Objs} {ρ : Operand → PV} {ty : Nat}
theorem ev_move (x : Operand) : evVal P Γ ob ρ ty (.move x) = some (ρ x) := rfl
theorem ev_assign (x : Operand) : evVal P Γ ob ρ ty (.assign x) = some (ρ x) := rfl
def pickP (c x y : PV) : Option PV := match c with | .val (.bool b) => some (if b then x else y) | _ => none
theorem pickP_b (b : Bool) (x y : PV) : pickP (.val (.bool b)) x y = some (if b = true then x else y) := rfl
theorem ev_pick (c x y : Operand) : evVal P Γ ob ρ ty (.pick c x y) = pickP (ρ c) (ρ x) (ρ y) := by simp only [evVal]; rfl
theorem ev_build (t : Nat) (ps : Array (Nat × Operand)) : evVal P Γ ob ρ ty (.build t ps) = evBuild P t (partsOf ρ ps) := rfl
def rowV (r : Option (Nat × Nat × List PV)) : Option PV := match r with | some (_, sz, es) => some (.lst true sz es) | none => none
theorem ev_buildSlice (t n : Nat) (ps : Array (Nat × Operand)) : evVal P Γ ob ρ ty (.buildSlice t n ps) = rowV (rowEs P t n (partsOf ρ ps)) := rfl
def loadP (P : Program) (t : Nat) (x : PV) (c : Option (Nat × Nat × List PV)) : Option PV := match x with
    | .own o sz i f => match c with
      | some (_, sz', es) => if sz = sz' then (es[i]?).bind (subP P t f) else none
      | none => none
    | .ptr _ e f => subP P t f e
    | _ => none
theorem ev_load (t : Nat) (x : Operand) : evVal P Γ ob ρ ty (.load t x) = loadP P t (ρ x) (obOf ob (ρ x)) := by
  simp only [evVal]
  unfold loadP obOf
  cases ρ x <;> rfl
theorem loadP_ptr (t : Nat) (k : Bool) (e : PV) (f : Nat) (c : Option (Nat × Nat × List PV)) : loadP P t (.ptr k e f) c = subP P t f e := rfl
theorem loadP_own (t o sz i f T : Nat) (es : List PV) : loadP P t (.own o sz i f) (some (T, sz, es)) = (es[i]?).bind (subP P t f) := by simp [loadP]
theorem obOf_row (o sz i n : Nat) : obOf ob (.row o sz i n) = ob o := rfl
theorem obOf_own (o sz i f : Nat) : obOf ob (.own o sz i f) = ob o := rfl
theorem obOf_ptr (k : Bool) (e : PV) (f : Nat) : obOf ob (.ptr k e f) = none := rfl
theorem obOf_val (v : Value) : obOf ob (.val v) = none := rfl
theorem obOf_lst (k : Bool) (sz : Nat) (es : List PV) : obOf ob (.lst k sz es) = none := rfl
def nilP : PV → Option PV
    | .own o sz i f => some (.own o sz i f)
    | .ptr k e f => some (.ptr k e f)
    | _ => none
theorem ev_nilCheck (x : Operand) : evVal P Γ ob ρ ty (.nilCheck x) = nilP (ρ x) := rfl
theorem nilP_own (o sz i f : Nat) : nilP (.own o sz i f) = some (.own o sz i f) := rfl
theorem nilP_ptr (k : Bool) (e : PV) (f : Nat) : nilP (.ptr k e f) = some (.ptr k e f) := rfl
def binP (P : Program) (b : BinOp) (t : Nat) (x y : Operand) : Option Value → Option Value → Option PV
  | some u, some v => (pureRun P (do eqGuard b t x y u v; binOp b t u v)).map .val
  | _, _ => none
theorem ev_binOp (b : BinOp) (t : Nat) (x y : Operand) (t' : Nat) : evVal P Γ ob ρ ty (.binOp b t x y t') = binP P b t x y (toVal (ρ x)) (toVal (ρ y)) := rfl
section
variable {t : Nat} {x y : Operand} {k : IntKind} {m n : Int}
theorem bp_add : binP P .add t x y (some (.int k m)) (some (.int k n)) = some (.val (.int k (k.wrap (m + n)))) := by simp only [binP, pr_add, Option.map_some]
theorem bp_sub : binP P .sub t x y (some (.int k m)) (some (.int k n)) = some (.val (.int k (k.wrap (m - n)))) := by simp only [binP, pr_sub, Option.map_some]
theorem bp_mul : binP P .mul t x y (some (.int k m)) (some (.int k n)) = some (.val (.int k (k.wrap (m * n)))) := by simp only [binP, pr_mul, Option.map_some]
theorem bp_quo (h : n ≠ 0) : binP P .quo t x y (some (.int k m)) (some (.int k n)) = some (.val (.int k (k.wrap (m.tdiv n)))) := by simp only [binP, pr_quo h, Option.map_some]
theorem bp_rem (h : n ≠ 0) : binP P .rem t x y (some (.int k m)) (some (.int k n)) = some (.val (.int k (m.tmod n))) := by simp only [binP, pr_rem h, Option.map_some]
theorem bp_lss : binP P .lss t x y (some (.int k m)) (some (.int k n)) = some (.val (.bool (decide (m < n)))) := by simp only [binP, pr_lss, Option.map_some]
theorem bp_leq : binP P .leq t x y (some (.int k m)) (some (.int k n)) = some (.val (.bool (decide (m ≤ n)))) := by simp only [binP, pr_leq, Option.map_some]
theorem bp_gtr : binP P .gtr t x y (some (.int k m)) (some (.int k n)) = some (.val (.bool (decide (n < m)))) := by simp only [binP, pr_gtr, Option.map_some]
theorem bp_geq : binP P .geq t x y (some (.int k m)) (some (.int k n)) = some (.val (.bool (decide (n ≤ m)))) := by simp only [binP, pr_geq, Option.map_some]
theorem bp_eql : binP P .eql t x y (some (.int k m)) (some (.int k n)) = some (.val (.bool (decide (m = n)))) := by simp only [binP, pr_eql, Option.map_some]
theorem bp_neq : binP P .neq t x y (some (.int k m)) (some (.int k n)) = some (.val (.bool (!decide (m = n)))) := by simp only [binP, pr_neq, Option.map_some]
theorem pr_eqB {a b : Bool} (h : P.underlying t = some .bool) : pureRun P (Op.equal t (.bool a) (.bool b)) = some (a == b) := by
  unfold Op.equal Op.maxDepth
  rw [show (10000 : Nat) = 9999 + 1 from rfl, Op.equalIn]
  simp [underlying, Go.program, bind, Sem.bind, pure, pureRun, h]
theorem pureRun_bind {α β : Type} {P : Program} {m : Sem α} {x : α} (h : pureRun P m = some x) (f : α → Sem β) : pureRun P (m >>= f) = pureRun P (f x) := by
  show pureRun P (m.bind f) = _
  induction m with
  | pure a => simp only [pureRun, Option.some.injEq] at h; subst h; rfl
  | program k ih => simp only [pureRun] at h; simp only [Sem.bind, pureRun]; exact ih P h
  | _ => simp [pureRun] at h
theorem bp_eqlB {a b : Bool} (h : P.underlying t = some .bool) : binP P .eql t x y (some (.bool a)) (some (.bool b)) = some (.val (.bool (a == b))) := by
  have h1 : pureRun P (eqGuard .eql t x y (.bool a) (.bool b)) = some () := by simp [eqGuard, pure, pureRun]
  have h2 : pureRun P (binOp .eql t (.bool a) (.bool b)) = some (.bool (a == b)) := by
    show pureRun P (Op.equal t (.bool a) (.bool b) >>= fun r => pure (Value.bool r)) = _
    rw [pureRun_bind (pr_eqB h)]
    rfl
  simp only [binP]
  rw [pureRun_bind h1, h2]
  rfl
theorem bp_neqB {a b : Bool} (h : P.underlying t = some .bool) : binP P .neq t x y (some (.bool a)) (some (.bool b)) = some (.val (.bool (!(a == b)))) := by
  have h1 : pureRun P (eqGuard .neq t x y (.bool a) (.bool b)) = some () := by simp [eqGuard, pure, pureRun]
  have h2 : pureRun P (binOp .neq t (.bool a) (.bool b)) = some (.bool (!(a == b))) := by
    show pureRun P (Op.equal t (.bool a) (.bool b) >>= fun r => pure (Value.bool (!r))) = _
    rw [pureRun_bind (pr_eqB h)]
    rfl
  simp only [binP]
  rw [pureRun_bind h1, h2]
  rfl
end
def unP (P : Program) (u : UnOp) : Option Value → Option PV
  | some v => (pureRun P (Op.unary u v)).map .val
  | none => none
theorem ev_unOp (u : UnOp) (t : Nat) (x : Operand) : evVal P Γ ob ρ ty (.unOp u t x) = unP P u (toVal (ρ x)) := rfl
theorem up_not {b : Bool} : unP P .not (some (.bool b)) = some (.val (.bool !b)) := by simp only [unP, pr_not, Option.map_some]
theorem up_neg {k : IntKind} {n : Int} : unP P .neg (some (.int k n)) = some (.val (.int k (k.wrap (0 - n)))) := by simp only [unP, pr_neg, Option.map_some]
def convP (P : Program) (src dst : Nat) (b : Bool) (es : Option (List PV)) (v : Option Value) : Option PV :=
  if b = true then (es.bind byteNs).map fun ns => .val (.string (bytesOf ns)) else match v with | some v => (pureRun P (convert src dst v)).map .val | none => none
theorem ev_convert (src dst : Nat) (x : Operand) : evVal P Γ ob ρ ty (.convert src dst x) = convP P src dst (isByteSlice P src && isStr P dst) (sliceEs ob 1 (ρ x)) (toVal (ρ x)) := by
  simp only [evVal, convP]
  by_cases h : isByteSlice P src = true ∧ isStr P dst = true
  · rw [if_pos h, if_pos (by simp [h.1, h.2])]
  · rw [if_neg h, if_neg (by simpa using h)]
    cases toVal (ρ x) <;> rfl
theorem cv_int {src dst : Nat} {d : TypeDesc} {k k' : IntKind} {n : Int} {es : Option (List PV)} (h : P.underlying src = some d) (h' : P.underlying dst = some (.int k')) : convP P src dst false es (some (.int k n)) = some (.val (.int k' (k'.wrap n))) := by
  simp [convP, pr_conv h h']
theorem cv_str {src dst : Nat} {es : List PV} {v : Option Value} : convP P src dst true (some es) v = (byteNs es).map fun ns => .val (.string (bytesOf ns)) := by
  simp [convP]
def fadP (k : Option Nat) : PV → Option PV
  | .own o sz i c => match k with | some k => some (.own o sz i (c + k)) | none => none
  | .ptr b e c => match k with | some k => some (.ptr b e (c + k)) | none => none
  | _ => none
theorem ev_fieldAddr (t : Nat) (x : Operand) (f : Nat) : evVal P Γ ob ρ ty (.fieldAddr t x f) = fadP (fieldOff P t f) (ρ x) := by
  simp only [evVal]
  unfold fadP
  cases ρ x <;> cases fieldOff P t f <;> rfl
theorem fadP_own (k o sz i c : Nat) : fadP (some k) (.own o sz i c) = some (.own o sz i (c + k)) := rfl
theorem fadP_ptr (k : Nat) (b : Bool) (e : PV) (c : Nat) : fadP (some k) (.ptr b e c) = some (.ptr b e (c + k)) := rfl
def ixaP (P : Program) (t : Nat) (x : PV) : PV → Option PV
  | .val (.int _ n) => evIndexAddr P t x n
  | _ => none
theorem ev_indexAddr (t : Nat) (x i : Operand) : evVal P Γ ob ρ ty (.indexAddr t x i) = ixaP P t (ρ x) (ρ i) := by
  simp only [evVal]
  unfold ixaP asI
  split <;> (split at * <;> simp_all)
theorem ixaP_int (t : Nat) (x : PV) (k : IntKind) (n : Int) : ixaP P t x (.val (.int k n)) = evIndexAddr P t x n := rfl
def idxP (P : Program) (t : Nat) : Option Value → Option Value → Option PV
  | some u, some v => (pureRun P (Instr.index t u v)).map .val
  | _, _ => none
theorem ev_index (t : Nat) (x i : Operand) : evVal P Γ ob ρ ty (.index t x i) = idxP P t (toVal (ρ x)) (toVal (ρ i)) := rfl
def extP (i : Nat) : PV → Option PV
  | .tup vs => vs[i]?
  | _ => none
theorem ev_extract (x : Operand) (i : Nat) : evVal P Γ ob ρ ty (.extract x i) = extP i (ρ x) := rfl
theorem extP_tup (i : Nat) (vs : List PV) : extP i (.tup vs) = vs[i]? := rfl
def lenP (P : Program) (t ty : Nat) (x : PV) : Option PV := match evLen P t x with
  | some p => some p
  | none => match toVal x with
    | some v => ((pureRun P (Builtin.len_ #[t] ty #[v]))).map .val
    | none => none
theorem ev_len (x : Operand) (t : Nat) : evVal P Γ ob ρ ty (.call { callee := .builtin .len, args := #[x], argTypes := #[t] }) = lenP P t ty (ρ x) := rfl
theorem lp_lst {t ty sz e : Nat} {k : Bool} {es : List PV} (h : tyElem P t = some e) : lenP P t ty (.lst k sz es) = some (.val (.int .i64 es.length)) := by simp [lenP, evLen, h]
theorem lp_row {t ty o sz i n e : Nat} (h : tyElem P t = some e) : lenP P t ty (.row o sz i n) = some (.val (.int .i64 n)) := by simp [lenP, evLen, h]
theorem lp_str {t ty : Nat} {s : ByteArray} (h : P.underlying t = some .string) : lenP P t ty (.val (.string s)) = some (.val (.int .i64 s.size)) := by simp [lenP, evLen, toVal, pr_lenS h]
theorem lp_nil {t ty e : Nat} (h : P.underlying t = some (.slice e)) : lenP P t ty (.val (.slice none 0 0)) = some (.val (.int .i64 0)) := by
  simp [lenP, evLen, toVal, Builtin.len_, underlying, Go.program, bind, Sem.bind, pure, pureRun, h, goInt]
theorem ev_max (xs : Array Operand) (ts : Array TypeId) : evVal P Γ ob ρ ty (.call { callee := .builtin .max, args := xs, argTypes := ts }) = (match toValsA (xs.toList.map ρ) with | some vs => (pureRun P (Builtin.max_ ts ty vs.toArray)).map .val | none => none) := rfl
theorem ev_min (xs : Array Operand) (ts : Array TypeId) : evVal P Γ ob ρ ty (.call { callee := .builtin .min, args := xs, argTypes := ts }) = (match toValsA (xs.toList.map ρ) with | some vs => (pureRun P (Builtin.min_ ts ty vs.toArray)).map .val | none => none) := rfl
def slcP (P : Program) (t : Nat) (x : PV) (lo hi : Option (Option Int)) : Option PV := match x with
    | .val (.string s) => match lo, hi with
      | some l, some h => (pureRun P (Instr.sliceAt t (.string s) (l.map (Value.int .i64)) (h.map (Value.int .i64)) none)).map .val
      | _, _ => none
    | p => match lo, hi with
      | some l, some h => evSlice P t p l h
      | _, _ => none
theorem ev_slice (t : Nat) (x : Operand) (lo hi : Option Operand) : evVal P Γ ob ρ ty (.slice t x lo hi none) = slcP P t (ρ x) (optI (lo.map ρ)) (optI (hi.map ρ)) := by
  simp only [evVal]
  unfold slcP
  cases ρ x with
  | val v => cases v <;> rfl
  | _ => rfl
theorem sp_lst (t : Nat) (k : Bool) (sz : Nat) (es : List PV) (lo hi : Option Int) : slcP P t (.lst k sz es) (some lo) (some hi) = evSlice P t (.lst k sz es) lo hi := rfl
theorem sp_row (t : Nat) (o sz i n : Nat) (lo hi : Option Int) : slcP P t (.row o sz i n) (some lo) (some hi) = evSlice P t (.row o sz i n) lo hi := rfl
def boxEv (t : Nat) (s : AS) (x : PV) : Option (List PV) → Option (PV × Objs × Nat)
  | some cs => some (.own s.nx cs.length 0 0, upd s.ob s.nx (some (t, cs.length, [x])), s.nx + 1)
  | none => none
theorem ee_box (s : AS) (t : Nat) (x : Operand) : evEff P Γ s ρ (.box t x) = boxEv t s (ρ x) (cellsL (ρ x)) := rfl
theorem be_some (t : Nat) (s : AS) (x : PV) (cs : List PV) : boxEv t s x (some cs) = some (.own s.nx cs.length 0 0, upd s.ob s.nx (some (t, cs.length, [x])), s.nx + 1) := rfl
def rowE (n : Nat) (s : AS) : Option (Nat × Nat × List PV) → Option (PV × Objs × Nat)
  | some (e, sz, es) => some (.row s.nx sz 0 n, upd s.ob s.nx (some (e, sz, es)), s.nx + 1)
  | none => none
theorem ee_buildSlice (s : AS) (t n : Nat) (ps : Array (Nat × Operand)) : evEff P Γ s ρ (.buildSlice t n ps) = rowE n s (rowEs P t n (partsOf ρ ps)) := rfl
theorem re_some (n : Nat) (s : AS) (e sz : Nat) (es : List PV) : rowE n s (some (e, sz, es)) = some (.row s.nx sz 0 n, upd s.ob s.nx (some (e, sz, es)), s.nx + 1) := rfl
theorem cellsL_val {v : Value} (h : v.oneCell' = true) : cellsL (.val v) = some [.val v] := by simp [cellsL, oneP, h]
theorem cellsL_lst (k : Bool) (sz : Nat) (es : List PV) : cellsL (.lst k sz es) = some [.lst k sz es] := rfl
theorem cellsL_row (o sz i n : Nat) : cellsL (.row o sz i n) = some [.row o sz i n] := rfl
theorem cellsL_own (o sz i n : Nat) : cellsL (.own o sz i n) = some [.own o sz i n] := rfl
theorem cellsL_agg {cs : List PV} (h : cs.all oneP = true) : cellsL (.agg cs) = some cs := by simp [cellsL, h]
theorem oneP_val (v : Value) : oneP (.val v) = v.oneCell' := rfl
theorem oneP_lst (k : Bool) (sz : Nat) (es : List PV) : oneP (.lst k sz es) = true := rfl
theorem oneP_row (o sz i n : Nat) : oneP (.row o sz i n) = true := rfl
theorem oneP_own (o sz i n : Nat) : oneP (.own o sz i n) = true := rfl
def subC (ag : Option Bool) (k : Option Nat) (f : Nat) : Option (List PV) → Option PV
  | some cs => match ag, k with
    | some true, some k => if f + k ≤ cs.length then some (.agg ((cs.drop f).take k)) else none
    | some false, _ => cs[f]?
    | _, _ => none
  | none => none
theorem subP_eq (t f : Nat) (e : PV) : subP P t f e = subC (tyAgg P t) (tySize P t) f (cellsL e) := by
  unfold subP subC
  cases cellsL e <;> cases tyAgg P t <;> cases tySize P t <;> first | rfl | (rename_i b _; cases b <;> rfl) | (rename_i b; cases b <;> rfl) | skip
theorem subC_one (k : Option Nat) (f : Nat) (cs : List PV) : subC (some false) k f (some cs) = cs[f]? := by cases k <;> rfl
theorem subC_agg (k f : Nat) (cs : List PV) (h : f + k ≤ cs.length) : subC (some true) (some k) f (some cs) = some (.agg ((cs.drop f).take k)) := by simp [subC, h]
end
theorem wrap_div {a b : Int} (h : 0 ≤ a) (h1 : 1 ≤ b) (h2 : a ≤ 4611686018427387904) : IntKind.i64.wrap (a / b) = a / b := by
  have := Int.ediv_nonneg h (show 0 ≤ b by omega)
  have := Int.ediv_le_self b h
  exact wrap_id (by omega) (by omega)
theorem tdiv_pos {a b : Int} (h : 0 ≤ a) : a.tdiv b = a / b := Int.tdiv_eq_ediv_of_nonneg h
theorem tmod_pos {a b : Int} (h : 0 ≤ a) : a.tmod b = a % b := Int.tmod_eq_emod_of_nonneg h
theorem cellsL_int (k : IntKind) (n : Int) : cellsL (.val (.int k n)) = some [.val (.int k n)] := rfl
theorem cellsL_bool (b : Bool) : cellsL (.val (.bool b)) = some [.val (.bool b)] := rfl
theorem cellsL_str (b : ByteArray) : cellsL (.val (.string b)) = some [.val (.string b)] := rfl
theorem omg {α β : Type} {f : α → β} {l : List α} {k : Nat} {d : α} (h : k < l.length) : Option.map f l[k]? = some (f (l[k]?.getD d)) := by simp [h]
theorem omg_i {β : Type} {f : Int → β} {l : List Int} {k : Nat} (h : k < l.length) : Option.map f l[k]? = some (f (l[k]?.getD 0)) := omg h
theorem omg_b {β : Type} {f : Bool → β} {l : List Bool} {k : Nat} (h : k < l.length) : Option.map f l[k]? = some (f (l[k]?.getD false)) := omg h
theorem omg_s {β : Type} {f : ByteArray → β} {l : List ByteArray} {k : Nat} (h : k < l.length) : Option.map f l[k]? = some (f (l[k]?.getD .empty)) := omg h
theorem cellsL_aggI (cs : List PV) : cellsL (.agg cs) = if cs.all oneP = true then some cs else none := rfl
attribute [push_cast]
  ev_call ev_callV fnOf_fn ev_move ev_assign pickP_b ev_pick ev_build rowV ev_buildSlice ev_load loadP_ptr loadP_own obOf_row obOf_own obOf_ptr obOf_val obOf_lst ev_nilCheck nilP_own nilP_ptr ev_binOp bp_add bp_sub bp_mul bp_quo bp_rem bp_lss bp_leq bp_gtr bp_geq bp_eql bp_neq ev_unOp up_not up_neg ev_convert cv_str ev_fieldAddr fadP_own fadP_ptr ixaP_int ev_indexAddr ev_index ev_extract extP_tup ev_len ev_max ev_min ev_slice sp_lst sp_row ee_box be_some ee_buildSlice re_some cellsL_int cellsL_bool cellsL_str cellsL_val omg_i omg_b omg_s cellsL_lst cellsL_row cellsL_own cellsL_aggI oneP_val oneP_lst oneP_row oneP_own subP_eq subC_one subC_agg sliceEs mkEv_ok apEv_row apEv_nil est_of stEv_own agY_val agY_lst agY_row agY_own agY_agg stP_agg stP_val stP_lst stP_row stP_own set_map setL_zero setL_1 setL_2 setL_3 setL_4 setL_5 setL_6 setL_7 List.set_cons_zero List.drop_succ_cons List.drop_zero List.drop_nil List.nil_append List.cons_append List.take_succ_cons List.take_zero List.length_set reify_fuel reifyS_val reifyS_agg reifyS_tup reifyS_vals reifyT_vals reifyS_row rowRe_vals resPs_cell resC_own elOf_own List.length_replicate look upd_apply gq_gqd gqd_some boolOf_undef beq_none boolOf_bool beq_some_true beq_some_false toVal_val toVals toValsA asI optI List.map_cons List.map_nil Option.map_some Option.map_none Option.bind_some List.getElem?_cons_zero List.getElem?_cons_succ List.getElem?_nil Option.getD_some Option.getD_none reify_val onePV_one onePV_two resPs_nil resPs_tmp decide_true decide_false Bool.true_and Bool.false_and Bool.and_true Bool.and_false Bool.or_true Bool.or_false Bool.true_or Bool.false_or Bool.not_true Bool.not_false Bool.not_not decide_eq_true_eq decide_eq_false_iff_not Bool.not_eq_true' Bool.not_eq_false' if_true if_false ite_true ite_false Bool.false_eq_true pr_max pr_min wrap_id wrap_div tdiv_pos tmod_pos List.length_map List.getElem?_map Int.toNat_natCast toNat_pred toNat_succ toNat_add Int.natCast_nonneg and_self and_true true_and Nat.zero_add Nat.add_zero Int.natCast_zero Int.natCast_one Int.natCast_add get_iv get_nv get_sv get_bv Value.oneCell' List.all_cons List.all_nil List.length_cons List.length_nil Option.isSome_some mapM_nil' mapM_cons' reify_vals iv bv sv lk_apply agree agreeO List.lookup_nil List.lookup_cons beq_self_eq_true initS_tm
attribute [push_cast]
  strI_length srcEs_str srcEs_lst srcEs_row cpX_row cpX_nil
end Go.Proofs.Ytngcedklbinhjaa
namespace Go.Proofs.Ytngcedklbinhjaa
open Go.RowKit
set_option linter.all false
section
variable {P : Program} {t : Nat} {x y : Operand}
def at8 (s : ByteArray) (i : Nat) : Int := ((s[i]?).getD 0).toNat
theorem at8_rng (s : ByteArray) (i : Nat) : 0 ≤ at8 s i ∧ at8 s i ≤ 255 := by
  unfold at8
  have := ((s[i]?).getD 0).toNat_lt
  omega
theorem bytes_teq (a b : ByteArray) : (a.toList == b.toList) = decide (a = b) := by
  rw [Bool.eq_iff_iff, decide_eq_true_eq, beq_iff_eq]
  constructor
  · intro h
    rw [Go.ByteArray.toList_eq, Go.ByteArray.toList_eq] at h
    obtain ⟨x⟩ := a
    obtain ⟨y⟩ := b
    simpa using h
  · rintro rfl
    rfl
theorem pr_strEq {a b : ByteArray} : pureRun P (do eqGuard .eql t x y (.string a) (.string b); binOp .eql t (.string a) (.string b)) = some (.bool (a.toList == b.toList)) := by
  simp [eqGuard, binOp, Op.stringOp, bind, Sem.bind, pure, pureRun]
theorem pr_strNe {a b : ByteArray} : pureRun P (do eqGuard .neq t x y (.string a) (.string b); binOp .neq t (.string a) (.string b)) = some (.bool (!(a.toList == b.toList))) := by
  simp [eqGuard, binOp, Op.stringOp, bind, Sem.bind, pure, pureRun]
theorem bp_eqlS {a b : ByteArray} : binP P .eql t x y (some (.string a)) (some (.string b)) = some (.val (.bool (decide (a = b)))) := by
  simp only [binP, pr_strEq, bytes_teq, Option.map_some]
theorem bp_neqS {a b : ByteArray} : binP P .neq t x y (some (.string a)) (some (.string b)) = some (.val (.bool (!decide (a = b)))) := by
  simp only [binP, pr_strNe, bytes_teq, Option.map_some]
theorem ix_str {s : ByteArray} {i : Int} (h : P.underlying t = some .string) (h0 : 0 ≤ i) (h1 : i < s.size) : idxP P t (some (.string s)) (some (.int .i64 i)) = some (.val (.int .u8 (at8 s i.toNat))) := by
  have hlt : i.toNat < s.size := by omega
  have hg : s[i.toNat]? = some s[i.toNat] := getElem?_pos s i.toNat hlt
  have : pureRun P (Instr.index t (.string s) (.int .i64 i)) = some (.int .u8 (at8 s i.toNat)) := by
    simp [Instr.index, asIntOf, underlying, Go.program, bind, Sem.bind, pure, pureRun, h, h0, hg, at8]
  simp only [idxP, this, Option.map_some]
end
def flatP : Nat → PV → Bool
  | 0, _ => false
  | _ + 1, .val _ => true
  | _ + 1, .dead => true
  | n + 1, .agg cs => cs.all (flatP n)
  | _, _ => false
section
variable {α : Type} {n sz f : Nat} {ob : Objs} {k fr : Bool} {g : α → PV} {l : List α}
theorem flat_map {f : Nat} (h : ∀ x, flatP 2 (g x) = true) (hf : 2 ≤ f) : (l.map g).mapM (reify fr n ob f) = some (l.map g) := mapM_self fun e he => by
  obtain ⟨x, _, rfl⟩ := List.mem_map.1 he
  obtain ⟨m, rfl⟩ : ∃ m, f = m + 2 := ⟨f - 2, by omega⟩
  have h2 := h x
  revert h2
  cases g x with
  | val v => intro _; rfl
  | dead => intro _; rfl
  | agg cs =>
    intro h2
    have h3 : ∀ c ∈ cs, flatP 1 c = true := by simpa [flatP] using h2
    simp only [reify]
    rw [mapM_self fun c hc => ?_]
    · rfl
    · have := h3 c hc
      cases c with
      | agg cs' =>
        cases cs' with
        | nil => rfl
        | cons a l => simp [flatP] at this
      | val v => rfl
      | dead => rfl
      | _ => simp [flatP] at this
  | _ => intro h2; simp [flatP] at h2
theorem reifyS_flat (h : ∀ x, flatP 2 (g x) = true) : reify false n ob (f + 3) (.lst k sz (l.map g)) = some (.lst false sz (l.map g)) := by
  show (if false = true ∧ k = false ∧ (l.map g) ≠ [] then none else ((l.map g).mapM (reify false n ob (f + 2))).map (PV.lst false sz)) = _
  rw [flat_map h (by omega)]
  simp
theorem reifyT_flat (h : ∀ x, flatP 2 (g x) = true) : reify true n ob (f + 3) (.lst true sz (l.map g)) = some (.lst true sz (l.map g)) := by
  show (if true = true ∧ true = false ∧ (l.map g) ≠ [] then none else ((l.map g).mapM (reify true n ob (f + 2))).map (PV.lst true sz)) = _
  rw [flat_map h (by omega)]
  simp
theorem rowRe_flat {m T : Nat} (h : ∀ x, flatP 2 (g x) = true) (hm : m = l.length) : rowRe fr (f + 2) ob sz 0 m (some (T, sz, l.map g)) = some (.lst fr sz (l.map g)) := by
  subst hm
  have e : ((l.map g).drop 0).take l.length = l.map g := by
    rw [List.drop_zero, List.take_of_length_le (by simp)]
  simp only [rowRe, e, flat_map (n := 0) (fr := fr) (ob := ob) h (show 2 ≤ f + 2 by omega), Nat.zero_add, List.length_map, Nat.le_refl, and_self, if_true, Option.map_some]
end
section
variable {α : Type} {n sz f : Nat} {ob : Objs} {k fr : Bool} {l : List α} {g1 g2 g3 g4 : α → Value}
theorem reifyS_a2 : reify false n ob (f + 3) (.lst k sz (l.map fun x => PV.agg [.val (g1 x), .val (g2 x)])) = some (.lst false sz (l.map fun x => PV.agg [.val (g1 x), .val (g2 x)])) := reifyS_flat fun _ => rfl
theorem reifyT_a2 : reify true n ob (f + 3) (.lst true sz (l.map fun x => PV.agg [.val (g1 x), .val (g2 x)])) = some (.lst true sz (l.map fun x => PV.agg [.val (g1 x), .val (g2 x)])) := reifyT_flat fun _ => rfl
theorem rowRe_a2 {m T : Nat} (hm : m = l.length) : rowRe fr (f + 2) ob sz 0 m (some (T, sz, l.map fun x => PV.agg [.val (g1 x), .val (g2 x)])) = some (.lst fr sz (l.map fun x => PV.agg [.val (g1 x), .val (g2 x)])) := rowRe_flat (fun _ => rfl) hm
theorem reifyS_a3 : reify false n ob (f + 3) (.lst k sz (l.map fun x => PV.agg [.val (g1 x), .val (g2 x), .val (g3 x)])) = some (.lst false sz (l.map fun x => PV.agg [.val (g1 x), .val (g2 x), .val (g3 x)])) := reifyS_flat fun _ => rfl
theorem reifyT_a3 : reify true n ob (f + 3) (.lst true sz (l.map fun x => PV.agg [.val (g1 x), .val (g2 x), .val (g3 x)])) = some (.lst true sz (l.map fun x => PV.agg [.val (g1 x), .val (g2 x), .val (g3 x)])) := reifyT_flat fun _ => rfl
theorem rowRe_a3 {m T : Nat} (hm : m = l.length) : rowRe fr (f + 2) ob sz 0 m (some (T, sz, l.map fun x => PV.agg [.val (g1 x), .val (g2 x), .val (g3 x)])) = some (.lst fr sz (l.map fun x => PV.agg [.val (g1 x), .val (g2 x), .val (g3 x)])) := rowRe_flat (fun _ => rfl) hm
theorem reifyS_a4 : reify false n ob (f + 3) (.lst k sz (l.map fun x => PV.agg [.val (g1 x), .val (g2 x), .val (g3 x), .val (g4 x)])) = some (.lst false sz (l.map fun x => PV.agg [.val (g1 x), .val (g2 x), .val (g3 x), .val (g4 x)])) := reifyS_flat fun _ => rfl
theorem reifyT_a4 : reify true n ob (f + 3) (.lst true sz (l.map fun x => PV.agg [.val (g1 x), .val (g2 x), .val (g3 x), .val (g4 x)])) = some (.lst true sz (l.map fun x => PV.agg [.val (g1 x), .val (g2 x), .val (g3 x), .val (g4 x)])) := reifyT_flat fun _ => rfl
theorem rowRe_a4 {m T : Nat} (hm : m = l.length) : rowRe fr (f + 2) ob sz 0 m (some (T, sz, l.map fun x => PV.agg [.val (g1 x), .val (g2 x), .val (g3 x), .val (g4 x)])) = some (.lst fr sz (l.map fun x => PV.agg [.val (g1 x), .val (g2 x), .val (g3 x), .val (g4 x)])) := rowRe_flat (fun _ => rfl) hm
end
theorem setL_full {α : Type} {l new : List α} (h : l.length ≤ new.length) : setL l 0 new = new := by simp [setL, h]
abbrev W2 := ByteArray × Int
abbrev I3 := Int × Int × Int
abbrev I4 := Int × Int × Int × Int
def w0 : W2 := (ByteArray.empty, 0)
def i30 : I3 := (0, 0, 0)
def i40 : I4 := (0, 0, 0, 0)
section
variable {β : Type} {i : Nat}
theorem get_w {g : W2 → PV} {l : List W2} (h : i < l.length) : ((l[i]?).map g).getD .dead = g ((l[i]?).getD w0) := by simp [h]
theorem get_i3 {g : I3 → PV} {l : List I3} (h : i < l.length) : ((l[i]?).map g).getD .dead = g ((l[i]?).getD i30) := by simp [h]
theorem get_i4 {g : I4 → PV} {l : List I4} (h : i < l.length) : ((l[i]?).map g).getD .dead = g ((l[i]?).getD i40) := by simp [h]
theorem omg_w {g : W2 → β} {l : List W2} (h : i < l.length) : Option.map g l[i]? = some (g ((l[i]?).getD w0)) := by simp [h]
theorem omg_i3 {g : I3 → β} {l : List I3} (h : i < l.length) : Option.map g l[i]? = some (g ((l[i]?).getD i30)) := by simp [h]
theorem omg_i4 {g : I4 → β} {l : List I4} (h : i < l.length) : Option.map g l[i]? = some (g ((l[i]?).getD i40)) := by simp [h]
theorem set_w {l : List W2} {s : ByteArray} {n : Int} : (l.map fun x => PV.agg [.val (.string x.1), .val (.int .i64 x.2)]).set i (.agg [.val (.string s), .val (.int .i64 n)]) = (l.set i (s, n)).map fun x => PV.agg [.val (.string x.1), .val (.int .i64 x.2)] := by rw [List.map_set]
theorem set_i3 {l : List I3} {a b c : Int} : (l.map fun x => PV.agg [.val (.int .i64 x.1), .val (.int .i64 x.2.1), .val (.int .i64 x.2.2)]).set i (.agg [.val (.int .i64 a), .val (.int .i64 b), .val (.int .i64 c)]) = (l.set i (a, b, c)).map fun x => PV.agg [.val (.int .i64 x.1), .val (.int .i64 x.2.1), .val (.int .i64 x.2.2)] := by rw [List.map_set]
theorem set_i4 {l : List I4} {a b c d : Int} : (l.map fun x => PV.agg [.val (.int .i64 x.1), .val (.int .i64 x.2.1), .val (.int .i64 x.2.2.1), .val (.int .i64 x.2.2.2)]).set i (.agg [.val (.int .i64 a), .val (.int .i64 b), .val (.int .i64 c), .val (.int .i64 d)]) = (l.set i (a, b, c, d)).map fun x => PV.agg [.val (.int .i64 x.1), .val (.int .i64 x.2.1), .val (.int .i64 x.2.2.1), .val (.int .i64 x.2.2.2)] := by rw [List.map_set]
end
abbrev dI4 : Dec I4 := dA4 dI dI dI dI
attribute [push_cast]
  bp_eqlS bp_neqS reifyS_a2 reifyT_a2 rowRe_a2 reifyS_a3 reifyT_a3 rowRe_a3 reifyS_a4 reifyT_a4 rowRe_a4 get_w get_i3 get_i4 omg_w omg_i3 omg_i4 set_w set_i3 set_i4
attribute [push_cast high]
  setL_full
end Go.Proofs.Ytngcedklbinhjaa
namespace Go.Proofs.Ytngcedklbinhjaa
open Go.RowKit
set_option linter.all false
def initIO (ps : List PV) (cs : List CellIO) : AS := { tm := fun t => (ps[t]?).getD (.val undef), ob := fun o => cs[o]?, nx := cs.length }
def handF (out : List Nat) (ob : Objs) : Nat → PV → Option PV
  | 0, _ => none
  | n + 1, p => match p with
    | .val v => some (.val v)
    | .dead => some .dead
    | .lst k sz es => (es.mapM (handF out ob n)).map (.lst k sz)
    | .ptr k e o => (handF out ob n e).map (.ptr k · o)
    | .own o sz i f => match inn out o with
      | some o' => some (.own o' sz i f)
      | none => match ob o with
        | some (_, sz', es) => if sz = sz' then (es[i]?).bind fun e => (handF out ob n e).map (.ptr true · f) else none
        | none => none
    | .row o sz i m => match inn out o with
      | some o' => some (.row o' sz i m)
      | none => match ob o with
        | some (_, sz', es) => if sz = sz' ∧ i + m ≤ es.length then (((es.drop i).take m).mapM (handF out ob n)).map (.lst true sz) else none
        | none => none
    | .agg cs => (cs.mapM (handF out ob n)).map .agg
    | .tup cs => (cs.mapM (handF out ob n)).map .tup
def handC (out : List Nat) (ob : Objs) (f : Nat) (o : Nat) : Option CellIO := (ob o).bind fun c => (c.2.2.mapM (handF out ob f)).map fun es => (c.1, c.2.1, es)
theorem Rep.hand {out : List Nat} {ob : Objs} {g g' : Gh} {w : World} (hI : ∀ k b, g.I k b → g'.I k b) (ho : ∀ o o', inn out o = some o' → g'.β o' = g.β o ∧ g'.κ o' = g.κ o ∧ g'.D o')
    (hob : ∀ o c, ob o = some c → ObjAt g w o c) (hfz : ∀ o, (ob o).isSome → inn out o = none → g'.I true (g.β o)) :
    ∀ (f : Nat) (p q : PV) (v : Value), Rep g w p v → handF out ob f p = some q → Rep g' w q v
  | 0, p, q, v, h, hr => by simp [handF] at hr
  | f + 1, p, q, v, h, hr => by
    cases p with
    | val u => simp only [handF, Option.some.injEq] at hr; subst hr; simpa [Rep] using h
    | dead => simp only [handF, Option.some.injEq] at hr; subst hr; simp [Rep]
    | lst k sz es =>
      simp only [handF, Option.map_eq_some_iff] at hr
      obtain ⟨es', h1, rfl⟩ := hr
      have hl := (mapM_get h1).1
      simp only [Rep] at h ⊢
      obtain ⟨a, cap, rfl, h2, h3, h4⟩ := h
      refine ⟨a, cap, by rw [hl], by omega, h3, ?_⟩
      rcases h4 with rfl | ⟨b, off, rfl, h5, h6⟩
      · left; exact List.eq_nil_of_length_eq_zero (by simpa using hl)
      · right
        exact ⟨b, off, rfl, hI _ _ h5, RepEs.conv (g := g) (g' := g') (Rep.hand hI ho hob hfz f) h6 h1⟩
    | ptr k e o =>
      simp only [handF, Option.map_eq_some_iff] at hr
      obtain ⟨e', h1, rfl⟩ := hr
      simp only [Rep] at h ⊢
      obtain ⟨b, off, rfl, h2, u, h3, h4⟩ := h
      exact ⟨b, off, rfl, hI _ _ h2, u, Rep.hand hI ho hob hfz f e e' u h3 h1, h4⟩
    | own o sz i c =>
      simp only [handF] at hr
      split at hr
      · rename_i o' hm
        cases hr
        simp only [Rep] at h ⊢
        obtain ⟨e1, _, e3⟩ := ho o o' hm
        exact ⟨by rw [e1]; exact h.1, e3⟩
      · rename_i hm
        split at hr
        · rename_i T sz' es hoo
          split at hr
          case isFalse => cases hr
          case isTrue hsz =>
            subst hsz
            simp only [Option.bind_eq_some_iff, Option.map_eq_some_iff] at hr
            obtain ⟨e, he, e', h1, rfl⟩ := hr
            simp only [Rep] at h ⊢
            obtain ⟨rfl, hlt⟩ := h
            obtain ⟨u, h2, h3, h4⟩ := (hob o _ hoo).2.2.get he
            exact ⟨g.β o, i * sz, rfl, hfz o (by simp [hoo]) hm, u, Rep.hand hI ho hob hfz f e e' u h2 h1, by simpa using h3⟩
        · cases hr
    | row o sz i m =>
      simp only [handF] at hr
      split at hr
      · rename_i o' hm
        cases hr
        simp only [Rep] at h ⊢
        obtain ⟨c, h1, h2, h3, h4, h5⟩ := h
        obtain ⟨e1, e2, e3⟩ := ho o o' hm
        exact ⟨c, by rw [e1]; exact h1, h2, h3, by rw [e2]; exact h4, e3⟩
      · rename_i hm
        split at hr
        · rename_i T sz' es hoo
          split at hr
          case isFalse => cases hr
          case isTrue hsz =>
            obtain ⟨rfl, hle⟩ := hsz
            simp only [Option.map_eq_some_iff] at hr
            obtain ⟨es', h1, rfl⟩ := hr
            have hl := (mapM_get h1).1
            have hl2 : es'.length = m := by rw [hl]; simp; omega
            simp only [Rep] at h ⊢
            obtain ⟨c, rfl, h2, h3, h4, h5⟩ := h
            refine ⟨_, c, by rw [hl2], by omega, h3, .inr ⟨g.β o, i * sz, rfl, hfz o (by simp [hoo]) hm, ?_⟩⟩
            have := ((hob o _ hoo).2.2.drop i).take m
            exact RepEs.conv (g := g) (g' := g') (Rep.hand hI ho hob hfz f) (by simpa using this) h1
        · cases hr
    | agg cs =>
      simp only [handF, Option.map_eq_some_iff] at hr
      obtain ⟨cs', h1, rfl⟩ := hr
      simp only [Rep] at h ⊢
      obtain ⟨vs, rfl, h2⟩ := h
      exact ⟨vs, rfl, RepL.conv (g := g) (g' := g') (Rep.hand hI ho hob hfz f) h2 h1⟩
    | tup cs =>
      simp only [handF, Option.map_eq_some_iff] at hr
      obtain ⟨cs', h1, rfl⟩ := hr
      simp only [Rep] at h ⊢
      obtain ⟨vs, rfl, h2⟩ := h
      exact ⟨vs, rfl, RepL.conv (g := g) (g' := g') (Rep.hand hI ho hob hfz f) h2 h1⟩
section
variable {P : Program} {Γ : Ctx}
theorem soundIO_of_ev {f : Nat} {fn : Func} {c : Code} {Φ : FunIO} (hΓ : SoundΓ P Γ) (hf : P.funcs[f]? = some fn) (hb : fn.body = some c)
    (hlen : ∀ ps cs r, Φ ps cs = some r → ps.length ≤ fn.ntmps)
    (h : ∀ ps cs r cs', Φ ps cs = some (r, cs') → ∃ x s' qs out, Ev P Γ fn.ntmps c (initIO ps cs) x s' ∧ (x = .normal ∨ x = .ret) ∧ resPs P s' fn.results.toList = some qs ∧ handF out s'.ob fuel (onePV qs) = some r ∧
      cs.length ≤ out.length ∧ (∀ o : Nat, o < cs.length → out[o]? = some o) ∧ out.Nodup ∧ out.mapM (handC out s'.ob fuel) = some cs') : SoundIO P f Φ := by
  intro w J β κ ps cs args r cs' hr hJ hO hT hargs
  obtain ⟨x, s', qs, out, hev, hx, hres, hren, hol, hof, hond, hobs0⟩ := h ps cs r cs' hr
  have hsz : args.size = ps.length := by simpa using hargs.get.1
  have hle := hlen ps cs _ hr
  have hocs : cs'.length = out.length := (mapM_get hobs0).1
  have hobs : ∀ (i o : Nat), out[i]? = some o → ∃ T sz es es', s'.ob o = some (T, sz, es) ∧ es.mapM (handF out s'.ob fuel) = some es' ∧ cs'[i]? = some (T, sz, es') := fun i o hi => by
    obtain ⟨c1, h1, h2⟩ := (mapM_get hobs0).2 i o hi
    unfold handC at h2
    simp only [Option.bind_eq_some_iff, Option.map_eq_some_iff] at h2
    obtain ⟨⟨T, sz, es⟩, h3, es', h4, rfl⟩ := h2
    exact ⟨T, sz, es, es', h3, h4, h1⟩
  have hinit : Rel ⟨fun b => ∃ o, o < cs.length ∧ b = β o, J false, cs.length, β, κ, J true, fun _ => False⟩ w fn.ntmps (ghIO J β κ cs.length) (initIO ps cs) { tmps := args ++ Array.replicate (fn.ntmps - args.size) undef, defers := [] } w := by
    refine ⟨by simp; omega, rfl, fun t => ?_, fun o c ho => ?_, fun o o' ho ho' he => ?_, rfl, fun k b hi => hJ k b hi, fun b hi => .inr hi, Fr.refl _ _, fun b hi => hi, ⟨fun o ho => ⟨ho, fun q => q⟩, fun o ho => ⟨rfl, rfl⟩⟩, fun o ho => False.elim ho, hT⟩
    · simp only [initIO]
      cases hp : ps[t]? with
      | none =>
        have hge : ps.length ≤ t := by simpa using hp
        have : (args ++ Array.replicate (fn.ntmps - args.size) undef).getD t undef = undef := by
          simp only [Array.getD_eq_getD_getElem?]
          rw [Array.getElem?_append_right (by omega)]
          simp only [Array.getElem?_replicate]
          split <;> rfl
        rw [this]
        simp [Rep]
      | some p =>
        obtain ⟨v, hv, hrep⟩ := hargs.get.2 t p hp
        have hlt : t < args.size := by have := (List.getElem?_eq_some_iff.1 hp).1; omega
        have : (args ++ Array.replicate (fn.ntmps - args.size) undef).getD t undef = v := by
          simp only [Array.getD_eq_getD_getElem?]
          rw [Array.getElem?_append_left hlt]
          have : args[t]? = some v := by simpa using hv
          simp [this]
        rw [this]
        exact hrep
    · have hlt : o < cs.length := (List.getElem?_eq_some_iff.1 ho).1
      exact ⟨⟨hlt, fun q => q⟩, .inr ⟨o, hlt, rfl⟩, fun k hi => (hO.lt o hlt).2 k hi, hO.at_ o c ho⟩
    · have h1 : o < cs.length := by
        obtain ⟨c, hc⟩ := Option.isSome_iff_exists.1 ho
        exact (List.getElem?_eq_some_iff.1 hc).1
      have h2 : o' < cs.length := by
        obtain ⟨c, hc⟩ := Option.isSome_iff_exists.1 ho'
        exact (List.getElem?_eq_some_iff.1 hc).1
      exact hO.inj o o' h1 h2 he
  refine calls_of_wp hf hb (CWp.wp (hev.cwp hΓ (fun b hb => by obtain ⟨o, h1, rfl⟩ := hb; exact (hO.lt o h1).1) _ _ _ _ hinit fun g' a' w' hrel => ?_))
  have hsome : ∀ i o, out[i]? = some o → (s'.ob o).isSome := fun i o ho => by
    obtain ⟨T, sz, es, es', h1, _⟩ := hobs i o ho
    simp [h1]
  have hget : ∀ i, i < out.length → out[i]? = some (out.getD i 0) := fun i hi => by simp [hi]
  have hβ0 : ∀ o, o < cs.length → g'.β o = β o ∧ g'.κ o = κ o := fun o ho => hrel.fix.2 o ho
  have hinjO : ∀ i j, i < out.length → j < out.length → g'.β (out.getD i 0) = g'.β (out.getD j 0) → i = j := fun i j hi hj he => by
    have := hrel.inj _ _ (hsome i _ (hget i hi)) (hsome j _ (hget j hj)) he
    have e1 := hget i hi
    have e2 := hget j hj
    rw [this] at e1
    have e1 := e1.trans e2.symm
    exact (List.getElem?_inj hi hond).1 e1
  have hgof : ∀ o, o < cs.length → out.getD o 0 = o := fun o ho => by
    have := hof o ho
    simp [List.getD, this]
  have hinn : ∀ o1 o2, inn out o1 = some o2 → o2 < out.length ∧ out.getD o2 0 = o1 := fun o1 o2 hi => by
    unfold inn at hi
    split at hi
    · rename_i hm
      cases hi
      have hlt := List.idxOf_lt_length_of_mem hm
      exact ⟨hlt, by simp [List.getD, hlt]⟩
    · cases hi
  have hout : ∀ i, i < out.length → out.getD i 0 ∈ out := fun i hi => List.mem_of_getElem? (hget i hi)
  -- an object beyond the given ones lies in new memory
  have hnewO : ∀ o c, s'.ob o = some c → (∀ j, j < cs.length → o ≠ j) → w.heap.size ≤ g'.β o := fun o c ho hne => by
    rcases (hrel.ob _ _ ho).2.1 with k2 | ⟨j, k3, k4⟩
    · exact k2
    · exfalso
      rw [← (hβ0 j k3).1] at k4
      exact hne j k3 (hrel.inj _ _ (by rw [ho]; rfl) (hsome j j (hof j k3)) k4)
  have hnew : ∀ i, cs.length ≤ i → i < out.length → w.heap.size ≤ g'.β (out.getD i 0) := fun i h1 h2 => by
    obtain ⟨T, sz, es, es', k1, _⟩ := hobs i _ (hget i h2)
    refine hnewO _ _ k1 fun j hj he => ?_
    have e1 := hget i h2
    rw [he, ← hof j hj] at e1
    have := (List.getElem?_inj (by omega) hond).1 e1
    omega
  have hend : a'.defers = [] ∧ ∃ v, (results fn a'.tmps).run P w' = .ok v w' ∧ (∃ v' β' κ' M, Ending.returned v = .returned v' ∧ Fr (fun b => ∃ o, o < cs.length ∧ b = β o) w w' ∧ cs.length ≤ cs'.length ∧
      (∀ o, o < cs.length → β' o = β o ∧ κ' o = κ o) ∧ (∀ o, cs.length ≤ o → o < cs'.length → w.heap.size ≤ β' o) ∧ (∀ b, M b → w.heap.size ≤ b ∧ b < w'.heap.size) ∧
      ObjsIO (addN J M) w' β' κ' cs' ∧ Rep (ghIO (addN J M) β' κ' cs'.length) w' r v') := by
    obtain ⟨v, h1, h2⟩ := results_ok hrel hres
    let M : Nat → Prop := fun b => w.heap.size ≤ b ∧ b < w'.heap.size ∧ ∀ i, i < out.length → b ≠ g'.β (out.getD i 0)
    let G : Gh := ghIO (addN J M) (fun i => g'.β (out.getD i 0)) (fun i => g'.κ (out.getD i 0)) cs'.length
    have hI : ∀ k b, g'.I k b → G.I k b := fun k b hi => by
      cases k with
      | false => exact .inl (hrel.old b hi)
      | true =>
        rcases hrel.new b hi with hn | hn
        · refine .inr ⟨rfl, hn.1, hrel.lt true b hi, fun i hil he => ?_⟩
          obtain ⟨T, sz, es, es', k1, _⟩ := hobs i _ (hget i hil)
          exact (hrel.ob _ _ k1).2.2.1 true (he ▸ hi)
        · exact .inl hn
    have hom : ∀ o o', inn out o = some o' → G.β o' = g'.β o ∧ G.κ o' = g'.κ o ∧ G.D o' := fun o o' ho => by
      obtain ⟨k1, k2⟩ := hinn o o' ho
      exact ⟨by simp only [G, ghIO, k2], by simp only [G, ghIO, k2], ⟨by simp only [G, ghIO]; omega, fun q => q⟩⟩
    have hfz : ∀ o, (s'.ob o).isSome → inn out o = none → G.I true (g'.β o) := fun o ho hn => by
      obtain ⟨c, hc⟩ := Option.isSome_iff_exists.1 ho
      have hno : o ∉ out := fun hm => by simp [inn, hm] at hn
      obtain ⟨arr, m1, _⟩ := (hrel.ob _ _ hc).2.2.2.1
      refine .inr ⟨rfl, hnewO o c hc fun j hj he => hno (he ▸ List.mem_of_getElem? (hof j hj)), lt_of_heap m1, fun i hi he => hno ?_⟩
      rw [hrel.inj o _ (by rw [hc]; rfl) (hsome i _ (hget i hi)) he]
      exact hout i hi
    have hobA : ∀ o c, s'.ob o = some c → ObjAt g' w' o c := fun o c ho => (hrel.ob o c ho).2.2.2
    refine ⟨hrel.df, v, h1, v, fun i => g'.β (out.getD i 0), fun i => g'.κ (out.getD i 0), M, rfl, hrel.fr, by omega, fun o ho => by dsimp only; rw [hgof o ho]; exact hβ0 o ho, fun o h3 h4 => hnew o h3 (by omega), fun b hb => ⟨hb.1, hb.2.1⟩, ⟨fun o ho => ?_, fun o o' ho ho' he => hinjO o o' (by omega) (by omega) he, fun o c hc => ?_⟩, Rep.hand (g := g') (g' := G) hI hom hobA hfz fuel _ _ _ h2 hren⟩
    · obtain ⟨T, sz, es, es', k1, _⟩ := hobs o _ (hget o (by omega))
      obtain ⟨_, _, k3, ⟨arr, k4, _⟩, _⟩ := hrel.ob _ _ k1
      refine ⟨lt_of_heap k4, fun k hj => ?_⟩
      rcases hj with hj | ⟨_, hj⟩
      · by_cases hoc : o < cs.length
        · rw [hgof o hoc, (hβ0 o hoc).1] at hj
          exact (hO.lt o hoc).2 k hj
        · have := hnew o (by omega) (by omega)
          have := hJ _ _ hj
          omega
      · exact hj.2.2 o (by omega) rfl
    · have ho : o < cs'.length := (List.getElem?_eq_some_iff.1 hc).1
      obtain ⟨T, sz, es, es', k1, k2, k3⟩ := hobs o _ (hget o (by omega))
      rw [k3] at hc
      cases hc
      obtain ⟨_, _, _, ⟨arr, m1, m2⟩, m3, m4⟩ := hrel.ob _ _ k1
      have hl := (mapM_get k2).1
      exact ⟨⟨arr, m1, m2⟩, by rw [hl]; exact m3, RepEs.conv (g := g') (g' := G) (Rep.hand (g := g') (g' := G) hI hom hobA hfz fuel) m4 k2⟩
  rcases hx with rfl | rfl <;> exact hend
end
def PostIO (P : Program) (rs : List ResultVar) (m : Nat) (r : PV) (cs' : List CellIO) : X → AS → Prop := fun x s' => (x = .normal ∨ x = .ret) ∧ ∃ news : List Nat, (∀ o ∈ news, m ≤ o) ∧ news.Nodup ∧
  ((resPs P s' rs).bind fun qs => handF (List.range m ++ news) s'.ob fuel (onePV qs)) = some r ∧ (List.range m ++ news).mapM (handC (List.range m ++ news) s'.ob fuel) = some cs'
theorem sound_pqIO {P : Program} {Γ : Ctx} (hm : P.follows .mixedOrders = true) {f : Nat} {fn : Func} {c : Code} {Φ : FunIO} (hΓ : SoundΓ P Γ) (hf : P.funcs[f]? = some fn) (hb : fn.body = some c) (N : Nat) (hN : fn.ntmps = N) (rs : List ResultVar) (hrs : fn.results.toList = rs) (hc : codeOk Γ true N c = true)
    (h : ∀ ps cs r cs', Φ ps cs = some (r, cs') → ps.length ≤ N ∧ pq P Γ N c (PostIO P rs cs.length r cs') (initIO ps cs).tm (fun o => cs[o]?) cs.length) : SoundIO P f Φ := by
  subst hN hrs
  refine soundIO_of_ev hΓ hf hb (fun ps cs r hr => (h ps cs r.1 r.2 hr).1) fun ps cs r cs' hr => ?_
  obtain ⟨x, s', h1, h2, news, h3, h4, h5, h6⟩ := pw_ok (mixed := true) (fun _ => hm) c _ _ hc (h ps cs r cs' hr).2
  rw [Option.bind_eq_some_iff] at h5
  obtain ⟨qs, h8, h9⟩ := h5
  refine ⟨x, s', qs, List.range cs.length ++ news, h1, h2, h8, h9, by simp, fun o ho => ?_, ?_, h6⟩
  · rw [List.getElem?_append_left (by simpa using ho), List.getElem?_range ho]
  · rw [List.nodup_append]
    exact ⟨List.nodup_range, h4, fun a ha b hb e => by
      have := h3 b hb
      have := List.mem_range.1 ha
      omega⟩
end Go.Proofs.Ytngcedklbinhjaa
namespace Go.Proofs.Ytngcedklbinhjaa
open Go.RowKit
set_option linter.all false
section
variable {P : Program} {Γ : Ctx} {Φ : FunIO} {ob : Objs} {nx : Nat}
def ioGo (ob : Objs) (nx : Nat) (ps : List PV) : Option FunIO → Option (PV × Objs × Nat)
  | some Φ => ioEv Φ ob nx ps
  | none => none
theorem ee_call {s : AS} {ρ : Operand → PV} {f : Nat} {xs : Array Operand} {ts : Array TypeId} : evEff P Γ s ρ (.call { callee := .value (.func f), args := xs, argTypes := ts }) = ioGo s.ob s.nx (xs.toList.map ρ) (Γ.io f) := by
  simp only [evEff, calleeIO, ioGo]
  cases Γ.io f <;> rfl
theorem ioGo_some {ps : List PV} : ioGo ob nx ps (some Φ) = ioEv Φ ob nx ps := rfl
def outF (os : List Nat) (nx : Nat) : Nat → Option Nat := fun i => some (outn os nx i)
def ioR (os : List Nat) (ob : Objs) (nx : Nat) : Option (PV × List CellIO) → Option (PV × Objs × Nat)
  | some (r, cs') => match renF (outF os nx) fuel r, cs'.mapM (renC (outF os nx) fuel) with
    | some r', some cs2 => some (r', putObs ob (((List.range cs2.length).map (outn os nx)).zip cs2), nx + (cs'.length - os.length))
    | _, _ => none
  | none => none
theorem ioEv_eq (ps : List PV) (os : List Nat) (h : dedup (ps.flatMap refsOf) = os) : ioEv Φ ob nx ps = match os.mapM ob, ps.mapM (renF (inn os) fuel) with
    | some cs, some qs => match cs.mapM (renC (inn os) fuel) with
      | some cs1 => ioR os ob nx (Φ qs cs1)
      | none => none
    | _, _ => none := by
  subst h
  unfold ioEv
  dsimp only
  generalize dedup (ps.flatMap refsOf) = os
  cases os.mapM ob with
  | none => rfl
  | some cs =>
    cases ps.mapM (renF (inn os) fuel) with
    | none => rfl
    | some qs =>
      dsimp only
      cases cs.mapM (renC (inn os) fuel) with
      | none => rfl
      | some cs1 =>
        dsimp only
        unfold ioR
        cases Φ qs cs1 with
        | none => rfl
        | some r => rfl
def ioOne (Φ : FunIO) (ob : Objs) (nx o : Nat) (qs : List PV) : Option CellIO → Option (PV × Objs × Nat)
  | some c => (c.2.2.mapM (renF (inn [o]) fuel)).bind fun es => ioR [o] ob nx (Φ qs [(c.1, c.2.1, es)])
  | none => none
theorem one_mapM {α β : Type} {F : α → Option β} {x : α} : [x].mapM F = (F x).map fun y => [y] := by
  rw [mapM_cons', mapM_nil']
  cases F x <;> rfl
theorem ioOne_of {ps qs : List PV} {o : Nat} (h1 : dedup (ps.flatMap refsOf) = [o]) (h2 : ps.mapM (renF (inn [o]) fuel) = some qs) : ioEv Φ ob nx ps = ioOne Φ ob nx o qs (ob o) := by
  rw [ioEv_eq ps [o] h1, h2, one_mapM]
  unfold ioOne
  cases hb : ob o with
  | none => rfl
  | some c =>
    simp only [Option.map_some, one_mapM, renC]
    cases c.2.2.mapM (renF (inn [o]) fuel) <;> rfl
theorem inn_self (o : Nat) : inn [o] o = some 0 := by simp [inn]
theorem inn_ne {o a : Nat} (h : ¬ o = a) : inn [a] o = none := by simp [inn, h]
theorem renS_fuel (nm : Nat → Option Nat) (p : PV) : renF nm fuel p = renF nm 8 p := rfl
theorem renS_val (nm : Nat → Option Nat) (f : Nat) (v : Value) : renF nm (f + 1) (.val v) = some (.val v) := rfl
theorem renS_agg (nm : Nat → Option Nat) (f : Nat) (cs : List PV) : renF nm (f + 1) (.agg cs) = (cs.mapM (renF nm f)).map .agg := by simp only [renF]
theorem renS_tup (nm : Nat → Option Nat) (f : Nat) (cs : List PV) : renF nm (f + 1) (.tup cs) = (cs.mapM (renF nm f)).map .tup := by simp only [renF]
theorem renS_own (nm : Nat → Option Nat) (f o sz i c : Nat) : renF nm (f + 1) (.own o sz i c) = (nm o).map fun o' => .own o' sz i c := rfl
theorem renS_row (nm : Nat → Option Nat) (f o sz i m : Nat) : renF nm (f + 1) (.row o sz i m) = (nm o).map fun o' => .row o' sz i m := rfl
theorem ren_flat {nm : Nat → Option Nat} : ∀ {f : Nat} {p : PV}, flatP f p = true → renF nm f p = some p
  | 0, _, h => by simp [flatP] at h
  | f + 1, p, h => by
    cases p with
    | val v => rfl
    | dead => rfl
    | agg cs =>
      have h2 : ∀ c ∈ cs, flatP f c = true := by simpa [flatP] using h
      simp only [renF]
      rw [mapM_self fun c hc => ren_flat (h2 c hc)]
      rfl
    | _ => simp [flatP] at h
theorem flatP_mono : ∀ {f g : Nat} {p : PV}, f ≤ g → flatP f p = true → flatP g p = true
  | 0, _, p, _, h => by simp [flatP] at h
  | f + 1, 0, p, hg, h => by omega
  | f + 1, g + 1, p, hg, h => by
    cases p with
    | val v => rfl
    | dead => rfl
    | agg cs =>
      have h2 : ∀ c ∈ cs, flatP f c = true := by simpa [flatP] using h
      simp only [flatP, List.all_eq_true]
      exact fun c hc => flatP_mono (by omega) (h2 c hc)
    | _ => simp [flatP] at h
theorem renS_flat {α : Type} {nm : Nat → Option Nat} {f sz : Nat} {k : Bool} {g : α → PV} {l : List α} (h : ∀ x, flatP 2 (g x) = true) : renF nm (f + 3) (.lst k sz (l.map g)) = some (.lst k sz (l.map g)) := by
  show ((l.map g).mapM (renF nm (f + 2))).map (PV.lst k sz) = _
  rw [mapM_self fun e he => by obtain ⟨x, _, rfl⟩ := List.mem_map.1 he; exact ren_flat (flatP_mono (by omega) (h x))]
  rfl
theorem renM_flat {α : Type} {nm : Nat → Option Nat} {f : Nat} {g : α → PV} {l : List α} (h : ∀ x, flatP 2 (g x) = true) : (l.map g).mapM (renF nm (f + 2)) = some (l.map g) :=
  mapM_self fun e he => by obtain ⟨x, _, rfl⟩ := List.mem_map.1 he; exact ren_flat (flatP_mono (by omega) (h x))
section
variable {α : Type} {nm : Nat → Option Nat} {f sz : Nat} {k : Bool} {l : List α} {g g1 g2 g3 g4 : α → Value}
theorem renS_vals : renF nm (f + 3) (.lst k sz (l.map fun x => PV.val (g x))) = some (.lst k sz (l.map fun x => PV.val (g x))) := renS_flat fun _ => rfl
theorem renS_a2 : renF nm (f + 3) (.lst k sz (l.map fun x => PV.agg [.val (g1 x), .val (g2 x)])) = some (.lst k sz (l.map fun x => PV.agg [.val (g1 x), .val (g2 x)])) := renS_flat fun _ => rfl
theorem renS_a3 : renF nm (f + 3) (.lst k sz (l.map fun x => PV.agg [.val (g1 x), .val (g2 x), .val (g3 x)])) = some (.lst k sz (l.map fun x => PV.agg [.val (g1 x), .val (g2 x), .val (g3 x)])) := renS_flat fun _ => rfl
theorem renS_a4 : renF nm (f + 3) (.lst k sz (l.map fun x => PV.agg [.val (g1 x), .val (g2 x), .val (g3 x), .val (g4 x)])) = some (.lst k sz (l.map fun x => PV.agg [.val (g1 x), .val (g2 x), .val (g3 x), .val (g4 x)])) := renS_flat fun _ => rfl
theorem renM_vals : (l.map fun x => PV.val (g x)).mapM (renF nm 8) = some (l.map fun x => PV.val (g x)) := renM_flat fun _ => rfl
theorem renM_a2 : (l.map fun x => PV.agg [.val (g1 x), .val (g2 x)]).mapM (renF nm 8) = some (l.map fun x => PV.agg [.val (g1 x), .val (g2 x)]) := renM_flat fun _ => rfl
theorem renM_a3 : (l.map fun x => PV.agg [.val (g1 x), .val (g2 x), .val (g3 x)]).mapM (renF nm 8) = some (l.map fun x => PV.agg [.val (g1 x), .val (g2 x), .val (g3 x)]) := renM_flat fun _ => rfl
theorem renM_a4 : (l.map fun x => PV.agg [.val (g1 x), .val (g2 x), .val (g3 x), .val (g4 x)]).mapM (renF nm 8) = some (l.map fun x => PV.agg [.val (g1 x), .val (g2 x), .val (g3 x), .val (g4 x)]) := renM_flat fun _ => rfl
end
theorem io_o1 {o sz i c : Nat} : ioEv Φ ob nx [.own o sz i c] = ioOne Φ ob nx o [.own 0 sz i c] (ob o) := ioOne_of (by simp [refsOf, dedup]) (by simp only [mapM_cons', mapM_nil', renS_fuel, renS_own, inn_self]; rfl)
theorem io_o2 {o sz i c : Nat} {v : Value} : ioEv Φ ob nx [.own o sz i c, .val v] = ioOne Φ ob nx o [.own 0 sz i c, .val v] (ob o) := ioOne_of (by simp [refsOf, dedup]) (by simp only [mapM_cons', mapM_nil', renS_fuel, renS_own, renS_val, inn_self]; rfl)
theorem io_o3 {o sz i c : Nat} {u v : Value} : ioEv Φ ob nx [.own o sz i c, .val u, .val v] = ioOne Φ ob nx o [.own 0 sz i c, .val u, .val v] (ob o) := ioOne_of (by simp [refsOf, dedup]) (by simp only [mapM_cons', mapM_nil', renS_fuel, renS_own, renS_val, inn_self]; rfl)
theorem io_r1 {o sz i c : Nat} : ioEv Φ ob nx [.row o sz i c] = ioOne Φ ob nx o [.row 0 sz i c] (ob o) := ioOne_of (by simp [refsOf, dedup]) (by simp only [mapM_cons', mapM_nil', renS_fuel, renS_row, inn_self]; rfl)
theorem io_r2 {o sz i c : Nat} {v : Value} : ioEv Φ ob nx [.row o sz i c, .val v] = ioOne Φ ob nx o [.row 0 sz i c, .val v] (ob o) := ioOne_of (by simp [refsOf, dedup]) (by simp only [mapM_cons', mapM_nil', renS_fuel, renS_row, renS_val, inn_self]; rfl)
theorem ioNo_of {ps qs : List PV} (h1 : ps.flatMap refsOf = []) (h2 : ps.mapM (renF (inn []) fuel) = some qs) : ioEv Φ ob nx ps = ioR [] ob nx (Φ qs []) := by
  rw [ioEv_eq ps [] (by rw [h1]; rfl), h2, mapM_nil']
  rfl
theorem io_l1 {k : Bool} {sz : Nat} {α : Type} {g : α → Value} {l : List α} : ioEv Φ ob nx [.lst k sz (l.map fun x => PV.val (g x))] = ioR [] ob nx (Φ [.lst k sz (l.map fun x => PV.val (g x))] []) := ioNo_of rfl (by simp only [mapM_cons', mapM_nil', renS_fuel, renS_vals]; rfl)
theorem io_v1 {u : Value} : ioEv Φ ob nx [.val u] = ioR [] ob nx (Φ [.val u] []) := ioNo_of rfl rfl
theorem io_v2 {u v : Value} : ioEv Φ ob nx [.val u, .val v] = ioR [] ob nx (Φ [.val u, .val v] []) := ioNo_of rfl rfl
theorem ioOne_some {o T sz : Nat} {es qs : List PV} : ioOne Φ ob nx o qs (some (T, sz, es)) = (es.mapM (renF (inn [o]) fuel)).bind fun es => ioR [o] ob nx (Φ qs [(T, sz, es)]) := rfl
theorem ioR_one {o T sz : Nat} {es : List PV} {r : PV} : ioR [o] ob nx (some (r, [(T, sz, es)])) = (renF (outF [o] nx) fuel r).bind fun r' => (es.mapM (renF (outF [o] nx) fuel)).map fun es' => (r', upd ob o (some (T, sz, es')), nx) := by
  unfold ioR
  simp only [one_mapM, renC]
  cases renF (outF [o] nx) fuel r with
  | none => rfl
  | some r' =>
    cases es.mapM (renF (outF [o] nx) fuel) with
    | none => rfl
    | some es' => rfl
theorem ioR_new {T sz : Nat} {es : List PV} {r : PV} : ioR [] ob nx (some (r, [(T, sz, es)])) = (renF (outF [] nx) fuel r).bind fun r' => (es.mapM (renF (outF [] nx) fuel)).map fun es' => (r', upd ob nx (some (T, sz, es')), nx + 1) := by
  unfold ioR
  simp only [one_mapM, renC]
  cases renF (outF [] nx) fuel r with
  | none => rfl
  | some r' =>
    cases es.mapM (renF (outF [] nx) fuel) with
    | none => rfl
    | some es' => rfl
theorem ioR_none {r : PV} : ioR [] ob nx (some (r, [])) = (renF (outF [] nx) fuel r).map fun r' => (r', ob, nx) := by
  unfold ioR
  simp only [mapM_nil']
  cases renF (outF [] nx) fuel r with
  | none => rfl
  | some r' => rfl
theorem outF_0 {o nx : Nat} : outF [o] nx 0 = some o := rfl
theorem outF_n {nx : Nat} : outF [] nx 0 = some nx := by simp [outF, outn]
end
section
variable {out : List Nat} {ob : Objs} {f : Nat}
theorem handS_fuel (p : PV) : handF out ob fuel p = handF out ob 8 p := rfl
theorem handS_val (v : Value) : handF out ob (f + 1) (.val v) = some (.val v) := rfl
theorem handS_agg (cs : List PV) : handF out ob (f + 1) (.agg cs) = (cs.mapM (handF out ob f)).map .agg := by simp only [handF]
theorem handS_tup (cs : List PV) : handF out ob (f + 1) (.tup cs) = (cs.mapM (handF out ob f)).map .tup := by simp only [handF]
def hRow (out : List Nat) (ob : Objs) (f sz i m : Nat) : Option Nat → Option CellIO → Option PV
  | some o', _ => some (.row o' sz i m)
  | none, some (_, sz', es) => if sz = sz' ∧ i + m ≤ es.length then (((es.drop i).take m).mapM (handF out ob f)).map (.lst true sz) else none
  | none, none => none
theorem handS_row (o sz i m : Nat) : handF out ob (f + 1) (.row o sz i m) = hRow out ob f sz i m (inn out o) (ob o) := by
  simp only [handF]
  unfold hRow
  cases inn out o with
  | some o' => rfl
  | none => cases ob o <;> rfl
def hOwn (out : List Nat) (ob : Objs) (f sz i c : Nat) : Option Nat → Option CellIO → Option PV
  | some o', _ => some (.own o' sz i c)
  | none, some (_, sz', es) => if sz = sz' then (es[i]?).bind fun e => (handF out ob f e).map (.ptr true · c) else none
  | none, none => none
theorem handS_own (o sz i c : Nat) : handF out ob (f + 1) (.own o sz i c) = hOwn out ob f sz i c (inn out o) (ob o) := by
  simp only [handF]
  unfold hOwn
  cases inn out o with
  | some o' => rfl
  | none => cases ob o <;> rfl
theorem hOwn_some {sz i c o' : Nat} {x : Option CellIO} : hOwn out ob f sz i c (some o') x = some (.own o' sz i c) := rfl
theorem hRow_some {sz i m o' : Nat} {x : Option CellIO} : hRow out ob f sz i m (some o') x = some (.row o' sz i m) := rfl
theorem hand_flat : ∀ {f : Nat} {p : PV}, flatP f p = true → handF out ob f p = some p
  | 0, _, h => by simp [flatP] at h
  | f + 1, p, h => by
    cases p with
    | val v => rfl
    | dead => rfl
    | agg cs =>
      have h2 : ∀ c ∈ cs, flatP f c = true := by simpa [flatP] using h
      simp only [handF]
      rw [mapM_self fun c hc => hand_flat (h2 c hc)]
      rfl
    | _ => simp [flatP] at h
theorem handM_flat {α : Type} {g : α → PV} {l : List α} (h : ∀ x, flatP 2 (g x) = true) : (l.map g).mapM (handF out ob (f + 2)) = some (l.map g) :=
  mapM_self fun e he => by obtain ⟨x, _, rfl⟩ := List.mem_map.1 he; exact hand_flat (flatP_mono (by omega) (h x))
theorem handS_flat {α : Type} {k : Bool} {sz : Nat} {g : α → PV} {l : List α} (h : ∀ x, flatP 2 (g x) = true) : handF out ob (f + 3) (.lst k sz (l.map g)) = some (.lst k sz (l.map g)) := by
  show ((l.map g).mapM (handF out ob (f + 2))).map (PV.lst k sz) = _
  rw [handM_flat h]
  rfl
theorem hRow_flat {α : Type} {sz m T : Nat} {g : α → PV} {l : List α} (h : ∀ x, flatP 2 (g x) = true) (hm : m = l.length) : hRow out ob (f + 2) sz 0 m none (some (T, sz, l.map g)) = some (.lst true sz (l.map g)) := by
  subst hm
  have e : ((l.map g).drop 0).take l.length = l.map g := by
    rw [List.drop_zero, List.take_of_length_le (by simp)]
  simp only [hRow, e, handM_flat h, Nat.zero_add, List.length_map, Nat.le_refl, and_self, if_true, Option.map_some]
section
variable {α : Type} {sz m T : Nat} {k : Bool} {l : List α} {g g1 g2 g3 g4 : α → Value}
theorem handS_vals : handF out ob (f + 3) (.lst k sz (l.map fun x => PV.val (g x))) = some (.lst k sz (l.map fun x => PV.val (g x))) := handS_flat fun _ => rfl
theorem handS_a2 : handF out ob (f + 3) (.lst k sz (l.map fun x => PV.agg [.val (g1 x), .val (g2 x)])) = some (.lst k sz (l.map fun x => PV.agg [.val (g1 x), .val (g2 x)])) := handS_flat fun _ => rfl
theorem handS_a3 : handF out ob (f + 3) (.lst k sz (l.map fun x => PV.agg [.val (g1 x), .val (g2 x), .val (g3 x)])) = some (.lst k sz (l.map fun x => PV.agg [.val (g1 x), .val (g2 x), .val (g3 x)])) := handS_flat fun _ => rfl
theorem handS_a4 : handF out ob (f + 3) (.lst k sz (l.map fun x => PV.agg [.val (g1 x), .val (g2 x), .val (g3 x), .val (g4 x)])) = some (.lst k sz (l.map fun x => PV.agg [.val (g1 x), .val (g2 x), .val (g3 x), .val (g4 x)])) := handS_flat fun _ => rfl
theorem handM_vals : (l.map fun x => PV.val (g x)).mapM (handF out ob 8) = some (l.map fun x => PV.val (g x)) := handM_flat fun _ => rfl
theorem handM_a2 : (l.map fun x => PV.agg [.val (g1 x), .val (g2 x)]).mapM (handF out ob 8) = some (l.map fun x => PV.agg [.val (g1 x), .val (g2 x)]) := handM_flat fun _ => rfl
theorem handM_a3 : (l.map fun x => PV.agg [.val (g1 x), .val (g2 x), .val (g3 x)]).mapM (handF out ob 8) = some (l.map fun x => PV.agg [.val (g1 x), .val (g2 x), .val (g3 x)]) := handM_flat fun _ => rfl
theorem handM_a4 : (l.map fun x => PV.agg [.val (g1 x), .val (g2 x), .val (g3 x), .val (g4 x)]).mapM (handF out ob 8) = some (l.map fun x => PV.agg [.val (g1 x), .val (g2 x), .val (g3 x), .val (g4 x)]) := handM_flat fun _ => rfl
theorem hRow_vals (hm : m = l.length) : hRow out ob (f + 2) sz 0 m none (some (T, sz, l.map fun x => PV.val (g x))) = some (.lst true sz (l.map fun x => PV.val (g x))) := hRow_flat (fun _ => rfl) hm
theorem hRow_a2 (hm : m = l.length) : hRow out ob (f + 2) sz 0 m none (some (T, sz, l.map fun x => PV.agg [.val (g1 x), .val (g2 x)])) = some (.lst true sz (l.map fun x => PV.agg [.val (g1 x), .val (g2 x)])) := hRow_flat (fun _ => rfl) hm
theorem hRow_a3 (hm : m = l.length) : hRow out ob (f + 2) sz 0 m none (some (T, sz, l.map fun x => PV.agg [.val (g1 x), .val (g2 x), .val (g3 x)])) = some (.lst true sz (l.map fun x => PV.agg [.val (g1 x), .val (g2 x), .val (g3 x)])) := hRow_flat (fun _ => rfl) hm
theorem hRow_a4 (hm : m = l.length) : hRow out ob (f + 2) sz 0 m none (some (T, sz, l.map fun x => PV.agg [.val (g1 x), .val (g2 x), .val (g3 x), .val (g4 x)])) = some (.lst true sz (l.map fun x => PV.agg [.val (g1 x), .val (g2 x), .val (g3 x), .val (g4 x)])) := hRow_flat (fun _ => rfl) hm
end
def hCell (out : List Nat) (ob : Objs) : Option CellIO → Option CellIO
  | some (T, sz, es) => (es.mapM (handF out ob fuel)).map fun es => (T, sz, es)
  | none => none
theorem handC_eq (o : Nat) : handC out ob fuel o = hCell out ob (ob o) := by
  unfold handC hCell
  cases ob o with
  | none => rfl
  | some c => rfl
theorem hCell_some {T sz : Nat} {es : List PV} : hCell out ob (some (T, sz, es)) = (es.mapM (handF out ob fuel)).map fun es => (T, sz, es) := rfl
end
section
variable {P : Program} {Γ : Ctx} {tm : Nat → PV} {ob : Objs} {nx : Nat} {rs : List ResultVar} {r : PV} {c' d' : CellIO} {x : X}
theorem i_end1 (hx : x = .normal ∨ x = .ret) (h1 : ((resPs P ⟨tm, ob, nx⟩ rs).bind fun qs => handF [0] ob fuel (onePV qs)) = some r) (h2 : handC [0] ob fuel 0 = some c') : PostIO P rs 1 r [c'] x ⟨tm, ob, nx⟩ :=
  ⟨hx, [], by simp, by simp, h1, by
    show [0].mapM (handC [0] ob fuel) = some [c']
    rw [one_mapM, h2]; rfl⟩
theorem i_endN1 (o : Nat) (hx : x = .normal ∨ x = .ret) (h1 : ((resPs P ⟨tm, ob, nx⟩ rs).bind fun qs => handF [o] ob fuel (onePV qs)) = some r) (h2 : handC [o] ob fuel o = some c') : PostIO P rs 0 r [c'] x ⟨tm, ob, nx⟩ :=
  ⟨hx, [o], by simp, by simp, h1, by
    show [o].mapM (handC [o] ob fuel) = some [c']
    rw [one_mapM, h2]; rfl⟩
theorem ls_one (c : CellIO) : (fun o => [c][o]?) = lo [(0, c)] := by
  funext o
  cases o with
  | zero => rfl
  | succ o => simp [lo, List.lookup]
theorem ls_nil : (fun o => ([] : List CellIO)[o]?) = noObs := by funext o; simp [noObs]
theorem sound_pq0 (hm : P.follows .mixedOrders = true) {f : Nat} {fn : Func} {c : Code} {Φ : FunIO} (hΓ : SoundΓ P Γ) (hf : P.funcs[f]? = some fn) (hb : fn.body = some c) (N : Nat) (hN : fn.ntmps = N) (rs : List ResultVar) (hrs : fn.results.toList = rs) (hc : codeOk Γ true N c = true)
    (h : ∀ ps cs r cs', Φ ps cs = some (r, cs') → cs = [] ∧ ps.length ≤ N ∧ pq P Γ N c (PostIO P rs 0 r cs') (initS ps).tm noObs 0) : SoundIO P f Φ := by
  refine sound_pqIO hm hΓ hf hb N hN rs hrs hc fun ps cs r cs' hr => ?_
  obtain ⟨rfl, h1, h2⟩ := h ps cs r cs' hr
  refine ⟨h1, ?_⟩
  rw [ls_nil]
  exact h2
end
def onlyG (b : Bool) (c : Option CellIO) : Option CellIO := if b = true then c else none
theorem onlyV_ap (V : List Nat) (ob : Objs) (o : Nat) : onlyV V ob o = onlyG (V.contains o) (ob o) := rfl
theorem onlyG_true (c : Option CellIO) : onlyG true c = c := rfl
attribute [push_cast]
  ee_call ioGo_some io_o1 io_o2 io_o3 io_r1 io_r2 io_l1 io_v1 io_v2 ioOne_some ioR_one ioR_new ioR_none outF_0 outF_n inn_self inn_ne renS_fuel renS_val renS_agg renS_tup renS_own renS_row renS_vals renS_a2 renS_a3 renS_a4 renM_vals renM_a2 renM_a3 renM_a4 handS_fuel handS_val handS_agg handS_tup handS_row handS_own hOwn_some hRow_some handS_vals handS_a2 handS_a3 handS_a4 handM_vals handM_a2 handM_a3 handM_a4 hRow_vals hRow_a2 hRow_a3 hRow_a4 handC_eq hCell_some onlyV_ap onlyG_true List.contains_cons List.contains_nil
theorem lo_nil (o : Nat) : lo [] o = none := rfl
theorem lo_cons (k : Nat) (v : CellIO) (l : List (Nat × CellIO)) (o : Nat) : lo ((k, v) :: l) o = if o = k then some v else lo l o := by
  simp only [lo, List.lookup_cons]
  by_cases h : o = k
  · simp [h]
  · have : (o == k) = false := by simpa using h
    simp [this, h]
attribute [push_cast high]
  lo_nil lo_cons
def plF (l : List (Nat × Nat)) : Nat → Option (Nat × Nat) := fun i => l[i]?
theorem bla_of {P : Program} {t : Nat} {z : List PV} {zv : Value} {pl : Array (Nat × Nat)} (hz : zeroOf P t = some zv) (hzv : zv.cells.toList.map PV.val = z) (hs : structPlaces P t = none) (hp : arrPlaces P t = some pl) (ps : List (Nat × PV)) : evBuild P t ps = (fillP (plF pl.toList) z ps).map .agg := by
  unfold evBuild
  rw [hz, hs]
  dsimp only
  rw [hp, hzv]
  dsimp only
  congr 2
  funext i
  unfold plF
  simp
theorem ixa_of {P : Program} {t n e s o sz j f : Nat} {i : Int} (hu : P.underlying t = some (.array n e)) (hs : tySize P e = some s) (h0 : 0 ≤ i) (h1 : i < (n : Int)) : evIndexAddr P t (.own o sz j f) i = some (.own o sz j (f + i.toNat * s)) := by
  unfold evIndexAddr
  rw [hu]
  dsimp only
  rw [hs]
  dsimp only
  rw [if_pos ⟨h0, h1⟩]
theorem ixap_of {P : Program} {t n e s f : Nat} {k : Bool} {x : PV} {i : Int} (hu : P.underlying t = some (.array n e)) (hs : tySize P e = some s) (h0 : 0 ≤ i) (h1 : i < (n : Int)) : evIndexAddr P t (.ptr k x f) i = some (.ptr k x (f + i.toNat * s)) := by
  unfold evIndexAddr
  rw [hu]
  dsimp only
  rw [hs]
  dsimp only
  rw [if_pos ⟨h0, h1⟩]
theorem bl_of {P : Program} {t : Nat} {z : List PV} {zv : Value} {pl : Array (Nat × Nat)} (hz : zeroOf P t = some zv) (hzv : zv.cells.toList.map PV.val = z) (hp : structPlaces P t = some pl) (ps : List (Nat × PV)) : evBuild P t ps = (fillP (plF pl.toList) z ps).map .agg := by
  unfold evBuild
  rw [hz, hp]
  dsimp only
  rw [hzv]
  congr 2
  funext i
  simp [plF]
def fpG (l : List (Nat × Nat)) (cells : List PV) (rest : List (Nat × PV)) : Option (Nat × Nat) → Option (List PV) → Option (List PV)
  | some (off, size), some cs => if cs.length = size ∧ off + cs.length ≤ cells.length then fillP (plF l) (setL cells off cs) rest else none
  | _, _ => none
theorem fp_nil (l : List (Nat × Nat)) (cells : List PV) : fillP (plF l) cells [] = some cells := rfl
theorem fp_cons (l : List (Nat × Nat)) (cells : List PV) (i : Nat) (v : PV) (rest : List (Nat × PV)) : fillP (plF l) cells ((i, v) :: rest) = fpG l cells rest l[i]? (cellsL v) := rfl
theorem fpG_ok {l : List (Nat × Nat)} {cells cs : List PV} {rest : List (Nat × PV)} {off size : Nat} (h1 : cs.length = size) (h2 : off + cs.length ≤ cells.length) : fpG l cells rest (some (off, size)) (some cs) = fillP (plF l) (setL cells off cs) rest := by
  simp [fpG, h1]
  omega
theorem partsOf_nil {ρ : Operand → PV} : partsOf ρ (List.toArray []) = [] := rfl
theorem partsOf_cons {ρ : Operand → PV} {i : Nat} {x : Operand} {l : List (Nat × Operand)} : partsOf ρ (List.toArray ((i, x) :: l)) = (i, ρ x) :: partsOf ρ l.toArray := rfl
def okC (sz : Nat) : Option (List PV) → Bool
  | some cs => cs.length == sz
  | none => false
def rowC (e sz : Nat) (es : List PV) : Bool → Option (Nat × Nat × List PV)
  | true => some (e, sz, es)
  | false => none
theorem rowC_true (e sz : Nat) (es : List PV) : rowC e sz es true = some (e, sz, es) := rfl
theorem rw_of {P : Program} {t n e sz : Nat} {z : Value} (he : tyElem P t = some e) (hs : tySize P e = some sz) (hz : zeroOf P e = some z) (ps : List (Nat × PV)) (h1 : n * sz ≤ 16777216) (h2 : n ≤ 9223372036854775807) (hm : ps.map (·.1) = List.range n) :
    rowEs P t n ps = rowC e sz (ps.map (·.2)) ((ps.map (·.2)).all (okP sz)) := by
  unfold rowEs
  rw [he]
  dsimp only
  rw [hs, hz]
  dsimp only
  cases ((ps.map (·.2)).all (okP sz)) <;> simp [rowC, h1, h2, hm]
theorem okP_eq (sz : Nat) (p : PV) : okP sz p = okC sz (cellsL p) := by unfold okP okC; cases cellsL p <;> rfl
theorem okC_some (sz : Nat) (cs : List PV) : okC sz (some cs) = (cs.length == sz) := rfl
theorem rowV_some (e sz : Nat) (es : List PV) : rowV (some (e, sz, es)) = some (.lst true sz es) := rfl
theorem take_map' {α β : Type} {f : α → β} {l : List α} {n : Nat} : (l.map f).take n = (l.take n).map f := List.map_take.symm
theorem drop_map' {α β : Type} {f : α → β} {l : List α} {n : Nat} : (l.map f).drop n = (l.drop n).map f := List.map_drop.symm
attribute [push_cast]
  take_map' drop_map' Int.add_sub_cancel List.length_append List.length_take List.length_drop List.length_reverse Nat.sub_zero fp_nil fp_cons fpG_ok partsOf_nil partsOf_cons rowC_true okP_eq okC_some rowV_some
end Go.Proofs.Ytngcedklbinhjaa
namespace Go.Proofs.Ytngcedklbinhjaa
open Go.RowKit
set_option linter.all false
section
variable {P : Program} {Γ : Ctx}
theorem rel_of_pq (hm : P.follows .mixedOrders = true) {f : Nat} {fn : Func} {c : Code} (hΓ : SoundΓ P Γ) (hf : P.funcs[f]? = some fn) (hb : fn.body = some c) (N : Nat) (hN : fn.ntmps = N) (rs : List ResultVar) (hrs : fn.results.toList = rs) (hc : codeOk Γ true N c = true)
    (D : List PV → Prop) (R : List PV → PV → Prop) (hlen : ∀ ps, D ps → ps.length ≤ N)
    (h : ∀ ps, D ps → pq P Γ N c (fun x s' => ∃ r, R ps r ∧ Post P rs r x s') (initS ps).tm (fun _ => none) 0) : ∃ φ : Fun, Sound P f φ ∧ ∀ ps, D ps → ∃ r, φ ps = some r ∧ R ps r := by
  classical
  subst hN hrs
  let Z : List PV → PV → Prop := fun ps r => D ps ∧ R ps r ∧ ∃ x s', Ev P Γ fn.ntmps c (initS ps) x s' ∧ Post P fn.results.toList r x s'
  let φ : Fun := fun ps => if h : ∃ r, Z ps r then some (Classical.choose h) else none
  have hφ : ∀ ps r, φ ps = some r → Z ps r := fun ps r hr => by
    simp only [φ] at hr
    split at hr
    · rename_i hz
      cases hr
      exact Classical.choose_spec hz
    · cases hr
  refine ⟨φ, sound_of_ev hΓ hf hb (fun ps r hr => hlen ps (hφ ps r hr).1) fun ps r hr => ?_, fun ps hd => ?_⟩
  · obtain ⟨_, _, x, s', h1, h2, h3⟩ := hφ ps r hr
    rw [Option.bind_eq_some_iff] at h3
    obtain ⟨qs, h4, h5⟩ := h3
    exact ⟨x, s', qs, h1, h2, h4, h5⟩
  · obtain ⟨x, s', h1, r, h2, h3⟩ := pw_ok (mixed := true) (fun _ => hm) c _ _ hc (h ps hd)
    have hz : ∃ r, Z ps r := ⟨r, hd, h2, x, s', h1, h3⟩
    have he : φ ps = some (Classical.choose hz) := by simp only [φ]; rw [dif_pos hz]
    exact ⟨_, he, (hφ ps _ he).2.1⟩
theorem relIO_of_pq (hm : P.follows .mixedOrders = true) {f : Nat} {fn : Func} {c : Code} (hΓ : SoundΓ P Γ) (hf : P.funcs[f]? = some fn) (hb : fn.body = some c) (N : Nat) (hN : fn.ntmps = N) (rs : List ResultVar) (hrs : fn.results.toList = rs) (hc : codeOk Γ true N c = true)
    (D : List PV → CellIO → Prop) (R : List PV → CellIO → PV → CellIO → Prop) (hlen : ∀ ps o, D ps o → ps.length ≤ N)
    (h : ∀ ps o, D ps o → pq P Γ N c (fun x s' => ∃ r o', R ps o r o' ∧ PostIO P rs 1 r [o'] x s') (initS ps).tm (lo [(0, o)]) 1) : ∃ Φ : FunIO, SoundIO P f Φ ∧ ∀ ps o, D ps o → ∃ r o', Φ ps [o] = some (r, [o']) ∧ R ps o r o' := by
  classical
  subst hN hrs
  let Z : List PV → List CellIO → PV × List CellIO → Prop := fun ps cs r => ∃ o o', cs = [o] ∧ r.2 = [o'] ∧ D ps o ∧ R ps o r.1 o' ∧ ∃ x s', Ev P Γ fn.ntmps c (initIO ps cs) x s' ∧ PostIO P fn.results.toList 1 r.1 [o'] x s'
  let Φ : FunIO := fun ps cs => if h : ∃ r, Z ps cs r then some (Classical.choose h) else none
  have hΦ : ∀ ps cs r, Φ ps cs = some r → Z ps cs r := fun ps cs r hr => by
    simp only [Φ] at hr
    split at hr
    · rename_i hz
      cases hr
      exact Classical.choose_spec hz
    · cases hr
  refine ⟨Φ, soundIO_of_ev hΓ hf hb (fun ps cs r hr => ?_) fun ps cs r cs' hr => ?_, fun ps o hd => ?_⟩
  · obtain ⟨o, o', _, _, h1, _⟩ := hΦ ps cs r hr
    exact hlen ps o h1
  · obtain ⟨o, o', rfl, h0, _, _, x, s', h1, h2, news, h3, h4, h5, h6⟩ := hΦ ps cs (r, cs') hr
    dsimp only at h0
    subst h0
    rw [Option.bind_eq_some_iff] at h5
    obtain ⟨qs, h8, h9⟩ := h5
    refine ⟨x, s', qs, List.range 1 ++ news, h1, h2, h8, h9, by simp, fun i hi => ?_, ?_, h6⟩
    · have : i = 0 := by simpa using hi
      subst this
      rfl
    · rw [List.nodup_append]
      exact ⟨List.nodup_range, h4, fun a ha b hb e => by
        have := h3 b hb
        have := List.mem_range.1 ha
        omega⟩
  · have h' : pw P Γ fn.ntmps c (fun x s' => ∃ r o', R ps o r o' ∧ PostIO P fn.results.toList 1 r [o'] x s') (initIO ps [o]) := by
      have := h ps o hd
      rw [← ls_one] at this
      exact this
    obtain ⟨x, s', h1, r, o', h2, h3⟩ := pw_ok (mixed := true) (fun _ => hm) c _ _ hc h'
    have hz : ∃ r, Z ps [o] r := ⟨(r, [o']), o, o', rfl, rfl, hd, h2, x, s', h1, h3⟩
    have he : Φ ps [o] = some (Classical.choose hz) := by simp only [Φ]; rw [dif_pos hz]
    obtain ⟨o1, o2, e1, e2, _, e3, _⟩ := hΦ ps [o] _ he
    cases e1
    exact ⟨(Classical.choose hz).1, o2, by rw [he, ← e2], e3⟩
end
abbrev rdC (T : Nat) (code : List Int) (p : Int) : CellIO := (T, 2, [.agg [.lst false 1 (code.map fun n => PV.val (.int .u8 n)), .val (.int .i64 p)]])
structure okRd (code : List Int) (p : Int) : Prop where
  len : code.length ≤ 2000
  byte : ∀ i : Nat, 0 ≤ code[i]?.getD 0 ∧ code[i]?.getD 0 ≤ 255
  pos : 0 ≤ p
  small : p ≤ 1000000000000
def Drw1 (T : Nat) (Φ : FunIO) (B c : Int) {α : Type} (E : α → PV) (R : α → Prop) : Prop :=
  ∀ code p, okRd code p → p ≤ B → ∃ a p', Φ [.own 0 2 0 0] [rdC T code p] = some (E a, [rdC T code p']) ∧ R a ∧ okRd code p' ∧ p ≤ p' ∧ p' ≤ p + c
def Drw2 (T : Nat) (Φ : FunIO) (B c : Int) {α : Type} (E : α → PV) (D : Int → Prop) (R : Int → α → Prop) : Prop :=
  ∀ code p n, okRd code p → p ≤ B → D n → ∃ a p', Φ [.own 0 2 0 0, .val (.int .i64 n)] [rdC T code p] = some (E a, [rdC T code p']) ∧ R n a ∧ okRd code p' ∧ p ≤ p' ∧ p' ≤ p + c
section
variable {P : Program} {Γ : Ctx} {imm : Md} {N : Nat} {gs : List (Option Nat)} {l : List Oper} {Q : AS → Prop} {tm : Nat → PV} {ob : Objs} {nx T : Nat} {Φ : FunIO} {B c : Int} {α : Type} {E : α → PV}
theorem rd_ev {o : Nat} {code : List Int} {p p' : Int} {a : α} {qs : List PV} (hE : ∀ nm a, renF nm fuel (E a) = some (E a)) (ho : ob o = some (rdC T code p)) (h : Φ qs [rdC T code p] = some (E a, [rdC T code p'])) : ioOne Φ ob nx o qs (ob o) = some (E a, upd ob o (some (rdC T code p')), nx) := by
  have h1 : ∀ (nm : Nat → Option Nat) (q : Int), [PV.agg [.lst false 1 (code.map fun n => PV.val (.int .u8 n)), .val (.int .i64 q)]].mapM (renF nm fuel) = some [PV.agg [.lst false 1 (code.map fun n => PV.val (.int .u8 n)), .val (.int .i64 q)]] := fun nm q => by
    simp only [one_mapM, renS_fuel, renS_agg, mapM_cons', mapM_nil', renS_vals, renS_val, Option.bind_some, Option.map_some]
  rw [ho, ioOne_some, h1, Option.bind_some, h, ioR_one, hE, Option.bind_some, h1]
  rfl
theorem i_drw1 {R : α → Prop} (hd : Drw1 T Φ B c E R) (hE : ∀ nm a, renF nm fuel (E a) = some (E a)) {d f ty o : Nat} {x : Operand} {ts : Array TypeId} {pos : String} {af : Array Edge} {code : List Int} {p : Int} (hio : Γ.io f = some Φ) (hx : look tm x = .own o 2 0 0) (ho : ob o = some (rdC T code p)) (hok : okRd code p) (hB : p ≤ B)
    (he : effOk Γ imm nx (look tm) (.call { callee := .value (.func f), args := #[x], argTypes := ts }) = true)
    (hk : ∀ a p', R a → okRd code p' → p ≤ p' → p' ≤ p + c → wq P Γ imm gs l Q (upd tm d (E a)) (upd ob o (some (rdC T code p'))) nx) :
    wq P Γ imm gs ({ dst := some d, op := .call { callee := .value (.func f), args := #[x], argTypes := ts }, type := ty, pos := pos, after := af, guard := none } :: l) Q tm ob nx := by
  obtain ⟨a, p', h1, h2, h3, h4, h5⟩ := hd code p hok hB
  refine i_E (by simp [isEff, calleeIO, hio]) he ?_ (hk a p' h2 h3 h4 h5)
  rw [ee_call, hio, ioGo_some]
  show ioEv Φ ob nx [look tm x] = _
  rw [hx, io_o1]
  exact rd_ev hE ho h1
theorem i_drw2 {D : Int → Prop} {R : Int → α → Prop} (hd : Drw2 T Φ B c E D R) (hE : ∀ nm a, renF nm fuel (E a) = some (E a)) {d f ty o : Nat} {x y : Operand} {ts : Array TypeId} {pos : String} {af : Array Edge} {code : List Int} {p n : Int} (hio : Γ.io f = some Φ) (hx : look tm x = .own o 2 0 0) (hy : look tm y = .val (.int .i64 n)) (ho : ob o = some (rdC T code p)) (hok : okRd code p) (hB : p ≤ B) (hD : D n)
    (he : effOk Γ imm nx (look tm) (.call { callee := .value (.func f), args := #[x, y], argTypes := ts }) = true)
    (hk : ∀ a p', R n a → okRd code p' → p ≤ p' → p' ≤ p + c → wq P Γ imm gs l Q (upd tm d (E a)) (upd ob o (some (rdC T code p'))) nx) :
    wq P Γ imm gs ({ dst := some d, op := .call { callee := .value (.func f), args := #[x, y], argTypes := ts }, type := ty, pos := pos, after := af, guard := none } :: l) Q tm ob nx := by
  obtain ⟨a, p', h1, h2, h3, h4, h5⟩ := hd code p n hok hB hD
  refine i_E (by simp [isEff, calleeIO, hio]) he ?_ (hk a p' h2 h3 h4 h5)
  rw [ee_call, hio, ioGo_some]
  show ioEv Φ ob nx [look tm x, look tm y] = _
  rw [hx, hy, io_o2]
  exact rd_ev hE ho h1
end
section
variable {v : Int}
theorem gl1 {a0 : Int} (h : v < 1) : ([.val (.int .i64 a0)] : List PV)[v.toNat]? = some (.val (.int .i64 (sel 0 [a0] v.toNat))) := by
  have hx : v.toNat < 1 := by omega
  have h2 := omg_i (f := fun n => PV.val (.int .i64 n)) (l := [a0]) (k := v.toNat) hx
  rw [← List.getElem?_map] at h2
  exact h2
theorem gs1 {a0 : ByteArray} (h : v < 1) : ([.val (.string a0)] : List PV)[v.toNat]? = some (.val (.string (sel .empty [a0] v.toNat))) := by
  have hx : v.toNat < 1 := by omega
  have h2 := omg_s (f := fun n => PV.val (.string n)) (l := [a0]) (k := v.toNat) hx
  rw [← List.getElem?_map] at h2
  exact h2
theorem gl2 {a0 a1 : Int} (h : v < 2) : ([.val (.int .i64 a0), .val (.int .i64 a1)] : List PV)[v.toNat]? = some (.val (.int .i64 (sel 0 [a0, a1] v.toNat))) := by
  have hx : v.toNat < 2 := by omega
  have h2 := omg_i (f := fun n => PV.val (.int .i64 n)) (l := [a0, a1]) (k := v.toNat) hx
  rw [← List.getElem?_map] at h2
  exact h2
theorem gs2 {a0 a1 : ByteArray} (h : v < 2) : ([.val (.string a0), .val (.string a1)] : List PV)[v.toNat]? = some (.val (.string (sel .empty [a0, a1] v.toNat))) := by
  have hx : v.toNat < 2 := by omega
  have h2 := omg_s (f := fun n => PV.val (.string n)) (l := [a0, a1]) (k := v.toNat) hx
  rw [← List.getElem?_map] at h2
  exact h2
theorem gl3 {a0 a1 a2 : Int} (h : v < 3) : ([.val (.int .i64 a0), .val (.int .i64 a1), .val (.int .i64 a2)] : List PV)[v.toNat]? = some (.val (.int .i64 (sel 0 [a0, a1, a2] v.toNat))) := by
  have hx : v.toNat < 3 := by omega
  have h2 := omg_i (f := fun n => PV.val (.int .i64 n)) (l := [a0, a1, a2]) (k := v.toNat) hx
  rw [← List.getElem?_map] at h2
  exact h2
theorem gs3 {a0 a1 a2 : ByteArray} (h : v < 3) : ([.val (.string a0), .val (.string a1), .val (.string a2)] : List PV)[v.toNat]? = some (.val (.string (sel .empty [a0, a1, a2] v.toNat))) := by
  have hx : v.toNat < 3 := by omega
  have h2 := omg_s (f := fun n => PV.val (.string n)) (l := [a0, a1, a2]) (k := v.toNat) hx
  rw [← List.getElem?_map] at h2
  exact h2
theorem gl4 {a0 a1 a2 a3 : Int} (h : v < 4) : ([.val (.int .i64 a0), .val (.int .i64 a1), .val (.int .i64 a2), .val (.int .i64 a3)] : List PV)[v.toNat]? = some (.val (.int .i64 (sel 0 [a0, a1, a2, a3] v.toNat))) := by
  have hx : v.toNat < 4 := by omega
  have h2 := omg_i (f := fun n => PV.val (.int .i64 n)) (l := [a0, a1, a2, a3]) (k := v.toNat) hx
  rw [← List.getElem?_map] at h2
  exact h2
theorem gs4 {a0 a1 a2 a3 : ByteArray} (h : v < 4) : ([.val (.string a0), .val (.string a1), .val (.string a2), .val (.string a3)] : List PV)[v.toNat]? = some (.val (.string (sel .empty [a0, a1, a2, a3] v.toNat))) := by
  have hx : v.toNat < 4 := by omega
  have h2 := omg_s (f := fun n => PV.val (.string n)) (l := [a0, a1, a2, a3]) (k := v.toNat) hx
  rw [← List.getElem?_map] at h2
  exact h2
theorem gl5 {a0 a1 a2 a3 a4 : Int} (h : v < 5) : ([.val (.int .i64 a0), .val (.int .i64 a1), .val (.int .i64 a2), .val (.int .i64 a3), .val (.int .i64 a4)] : List PV)[v.toNat]? = some (.val (.int .i64 (sel 0 [a0, a1, a2, a3, a4] v.toNat))) := by
  have hx : v.toNat < 5 := by omega
  have h2 := omg_i (f := fun n => PV.val (.int .i64 n)) (l := [a0, a1, a2, a3, a4]) (k := v.toNat) hx
  rw [← List.getElem?_map] at h2
  exact h2
theorem gs5 {a0 a1 a2 a3 a4 : ByteArray} (h : v < 5) : ([.val (.string a0), .val (.string a1), .val (.string a2), .val (.string a3), .val (.string a4)] : List PV)[v.toNat]? = some (.val (.string (sel .empty [a0, a1, a2, a3, a4] v.toNat))) := by
  have hx : v.toNat < 5 := by omega
  have h2 := omg_s (f := fun n => PV.val (.string n)) (l := [a0, a1, a2, a3, a4]) (k := v.toNat) hx
  rw [← List.getElem?_map] at h2
  exact h2
theorem gl6 {a0 a1 a2 a3 a4 a5 : Int} (h : v < 6) : ([.val (.int .i64 a0), .val (.int .i64 a1), .val (.int .i64 a2), .val (.int .i64 a3), .val (.int .i64 a4), .val (.int .i64 a5)] : List PV)[v.toNat]? = some (.val (.int .i64 (sel 0 [a0, a1, a2, a3, a4, a5] v.toNat))) := by
  have hx : v.toNat < 6 := by omega
  have h2 := omg_i (f := fun n => PV.val (.int .i64 n)) (l := [a0, a1, a2, a3, a4, a5]) (k := v.toNat) hx
  rw [← List.getElem?_map] at h2
  exact h2
theorem gs6 {a0 a1 a2 a3 a4 a5 : ByteArray} (h : v < 6) : ([.val (.string a0), .val (.string a1), .val (.string a2), .val (.string a3), .val (.string a4), .val (.string a5)] : List PV)[v.toNat]? = some (.val (.string (sel .empty [a0, a1, a2, a3, a4, a5] v.toNat))) := by
  have hx : v.toNat < 6 := by omega
  have h2 := omg_s (f := fun n => PV.val (.string n)) (l := [a0, a1, a2, a3, a4, a5]) (k := v.toNat) hx
  rw [← List.getElem?_map] at h2
  exact h2
theorem gl7 {a0 a1 a2 a3 a4 a5 a6 : Int} (h : v < 7) : ([.val (.int .i64 a0), .val (.int .i64 a1), .val (.int .i64 a2), .val (.int .i64 a3), .val (.int .i64 a4), .val (.int .i64 a5), .val (.int .i64 a6)] : List PV)[v.toNat]? = some (.val (.int .i64 (sel 0 [a0, a1, a2, a3, a4, a5, a6] v.toNat))) := by
  have hx : v.toNat < 7 := by omega
  have h2 := omg_i (f := fun n => PV.val (.int .i64 n)) (l := [a0, a1, a2, a3, a4, a5, a6]) (k := v.toNat) hx
  rw [← List.getElem?_map] at h2
  exact h2
theorem gs7 {a0 a1 a2 a3 a4 a5 a6 : ByteArray} (h : v < 7) : ([.val (.string a0), .val (.string a1), .val (.string a2), .val (.string a3), .val (.string a4), .val (.string a5), .val (.string a6)] : List PV)[v.toNat]? = some (.val (.string (sel .empty [a0, a1, a2, a3, a4, a5, a6] v.toNat))) := by
  have hx : v.toNat < 7 := by omega
  have h2 := omg_s (f := fun n => PV.val (.string n)) (l := [a0, a1, a2, a3, a4, a5, a6]) (k := v.toNat) hx
  rw [← List.getElem?_map] at h2
  exact h2
theorem gl8 {a0 a1 a2 a3 a4 a5 a6 a7 : Int} (h : v < 8) : ([.val (.int .i64 a0), .val (.int .i64 a1), .val (.int .i64 a2), .val (.int .i64 a3), .val (.int .i64 a4), .val (.int .i64 a5), .val (.int .i64 a6), .val (.int .i64 a7)] : List PV)[v.toNat]? = some (.val (.int .i64 (sel 0 [a0, a1, a2, a3, a4, a5, a6, a7] v.toNat))) := by
  have hx : v.toNat < 8 := by omega
  have h2 := omg_i (f := fun n => PV.val (.int .i64 n)) (l := [a0, a1, a2, a3, a4, a5, a6, a7]) (k := v.toNat) hx
  rw [← List.getElem?_map] at h2
  exact h2
theorem gs8 {a0 a1 a2 a3 a4 a5 a6 a7 : ByteArray} (h : v < 8) : ([.val (.string a0), .val (.string a1), .val (.string a2), .val (.string a3), .val (.string a4), .val (.string a5), .val (.string a6), .val (.string a7)] : List PV)[v.toNat]? = some (.val (.string (sel .empty [a0, a1, a2, a3, a4, a5, a6, a7] v.toNat))) := by
  have hx : v.toNat < 8 := by omega
  have h2 := omg_s (f := fun n => PV.val (.string n)) (l := [a0, a1, a2, a3, a4, a5, a6, a7]) (k := v.toNat) hx
  rw [← List.getElem?_map] at h2
  exact h2
theorem gl9 {a0 a1 a2 a3 a4 a5 a6 a7 a8 : Int} (h : v < 9) : ([.val (.int .i64 a0), .val (.int .i64 a1), .val (.int .i64 a2), .val (.int .i64 a3), .val (.int .i64 a4), .val (.int .i64 a5), .val (.int .i64 a6), .val (.int .i64 a7), .val (.int .i64 a8)] : List PV)[v.toNat]? = some (.val (.int .i64 (sel 0 [a0, a1, a2, a3, a4, a5, a6, a7, a8] v.toNat))) := by
  have hx : v.toNat < 9 := by omega
  have h2 := omg_i (f := fun n => PV.val (.int .i64 n)) (l := [a0, a1, a2, a3, a4, a5, a6, a7, a8]) (k := v.toNat) hx
  rw [← List.getElem?_map] at h2
  exact h2
theorem gs9 {a0 a1 a2 a3 a4 a5 a6 a7 a8 : ByteArray} (h : v < 9) : ([.val (.string a0), .val (.string a1), .val (.string a2), .val (.string a3), .val (.string a4), .val (.string a5), .val (.string a6), .val (.string a7), .val (.string a8)] : List PV)[v.toNat]? = some (.val (.string (sel .empty [a0, a1, a2, a3, a4, a5, a6, a7, a8] v.toNat))) := by
  have hx : v.toNat < 9 := by omega
  have h2 := omg_s (f := fun n => PV.val (.string n)) (l := [a0, a1, a2, a3, a4, a5, a6, a7, a8]) (k := v.toNat) hx
  rw [← List.getElem?_map] at h2
  exact h2
theorem gl10 {a0 a1 a2 a3 a4 a5 a6 a7 a8 a9 : Int} (h : v < 10) : ([.val (.int .i64 a0), .val (.int .i64 a1), .val (.int .i64 a2), .val (.int .i64 a3), .val (.int .i64 a4), .val (.int .i64 a5), .val (.int .i64 a6), .val (.int .i64 a7), .val (.int .i64 a8), .val (.int .i64 a9)] : List PV)[v.toNat]? = some (.val (.int .i64 (sel 0 [a0, a1, a2, a3, a4, a5, a6, a7, a8, a9] v.toNat))) := by
  have hx : v.toNat < 10 := by omega
  have h2 := omg_i (f := fun n => PV.val (.int .i64 n)) (l := [a0, a1, a2, a3, a4, a5, a6, a7, a8, a9]) (k := v.toNat) hx
  rw [← List.getElem?_map] at h2
  exact h2
theorem gs10 {a0 a1 a2 a3 a4 a5 a6 a7 a8 a9 : ByteArray} (h : v < 10) : ([.val (.string a0), .val (.string a1), .val (.string a2), .val (.string a3), .val (.string a4), .val (.string a5), .val (.string a6), .val (.string a7), .val (.string a8), .val (.string a9)] : List PV)[v.toNat]? = some (.val (.string (sel .empty [a0, a1, a2, a3, a4, a5, a6, a7, a8, a9] v.toNat))) := by
  have hx : v.toNat < 10 := by omega
  have h2 := omg_s (f := fun n => PV.val (.string n)) (l := [a0, a1, a2, a3, a4, a5, a6, a7, a8, a9]) (k := v.toNat) hx
  rw [← List.getElem?_map] at h2
  exact h2
theorem gl11 {a0 a1 a2 a3 a4 a5 a6 a7 a8 a9 a10 : Int} (h : v < 11) : ([.val (.int .i64 a0), .val (.int .i64 a1), .val (.int .i64 a2), .val (.int .i64 a3), .val (.int .i64 a4), .val (.int .i64 a5), .val (.int .i64 a6), .val (.int .i64 a7), .val (.int .i64 a8), .val (.int .i64 a9), .val (.int .i64 a10)] : List PV)[v.toNat]? = some (.val (.int .i64 (sel 0 [a0, a1, a2, a3, a4, a5, a6, a7, a8, a9, a10] v.toNat))) := by
  have hx : v.toNat < 11 := by omega
  have h2 := omg_i (f := fun n => PV.val (.int .i64 n)) (l := [a0, a1, a2, a3, a4, a5, a6, a7, a8, a9, a10]) (k := v.toNat) hx
  rw [← List.getElem?_map] at h2
  exact h2
theorem gs11 {a0 a1 a2 a3 a4 a5 a6 a7 a8 a9 a10 : ByteArray} (h : v < 11) : ([.val (.string a0), .val (.string a1), .val (.string a2), .val (.string a3), .val (.string a4), .val (.string a5), .val (.string a6), .val (.string a7), .val (.string a8), .val (.string a9), .val (.string a10)] : List PV)[v.toNat]? = some (.val (.string (sel .empty [a0, a1, a2, a3, a4, a5, a6, a7, a8, a9, a10] v.toNat))) := by
  have hx : v.toNat < 11 := by omega
  have h2 := omg_s (f := fun n => PV.val (.string n)) (l := [a0, a1, a2, a3, a4, a5, a6, a7, a8, a9, a10]) (k := v.toNat) hx
  rw [← List.getElem?_map] at h2
  exact h2
theorem gl12 {a0 a1 a2 a3 a4 a5 a6 a7 a8 a9 a10 a11 : Int} (h : v < 12) : ([.val (.int .i64 a0), .val (.int .i64 a1), .val (.int .i64 a2), .val (.int .i64 a3), .val (.int .i64 a4), .val (.int .i64 a5), .val (.int .i64 a6), .val (.int .i64 a7), .val (.int .i64 a8), .val (.int .i64 a9), .val (.int .i64 a10), .val (.int .i64 a11)] : List PV)[v.toNat]? = some (.val (.int .i64 (sel 0 [a0, a1, a2, a3, a4, a5, a6, a7, a8, a9, a10, a11] v.toNat))) := by
  have hx : v.toNat < 12 := by omega
  have h2 := omg_i (f := fun n => PV.val (.int .i64 n)) (l := [a0, a1, a2, a3, a4, a5, a6, a7, a8, a9, a10, a11]) (k := v.toNat) hx
  rw [← List.getElem?_map] at h2
  exact h2
theorem gs12 {a0 a1 a2 a3 a4 a5 a6 a7 a8 a9 a10 a11 : ByteArray} (h : v < 12) : ([.val (.string a0), .val (.string a1), .val (.string a2), .val (.string a3), .val (.string a4), .val (.string a5), .val (.string a6), .val (.string a7), .val (.string a8), .val (.string a9), .val (.string a10), .val (.string a11)] : List PV)[v.toNat]? = some (.val (.string (sel .empty [a0, a1, a2, a3, a4, a5, a6, a7, a8, a9, a10, a11] v.toNat))) := by
  have hx : v.toNat < 12 := by omega
  have h2 := omg_s (f := fun n => PV.val (.string n)) (l := [a0, a1, a2, a3, a4, a5, a6, a7, a8, a9, a10, a11]) (k := v.toNat) hx
  rw [← List.getElem?_map] at h2
  exact h2
theorem gl13 {a0 a1 a2 a3 a4 a5 a6 a7 a8 a9 a10 a11 a12 : Int} (h : v < 13) : ([.val (.int .i64 a0), .val (.int .i64 a1), .val (.int .i64 a2), .val (.int .i64 a3), .val (.int .i64 a4), .val (.int .i64 a5), .val (.int .i64 a6), .val (.int .i64 a7), .val (.int .i64 a8), .val (.int .i64 a9), .val (.int .i64 a10), .val (.int .i64 a11), .val (.int .i64 a12)] : List PV)[v.toNat]? = some (.val (.int .i64 (sel 0 [a0, a1, a2, a3, a4, a5, a6, a7, a8, a9, a10, a11, a12] v.toNat))) := by
  have hx : v.toNat < 13 := by omega
  have h2 := omg_i (f := fun n => PV.val (.int .i64 n)) (l := [a0, a1, a2, a3, a4, a5, a6, a7, a8, a9, a10, a11, a12]) (k := v.toNat) hx
  rw [← List.getElem?_map] at h2
  exact h2
theorem gs13 {a0 a1 a2 a3 a4 a5 a6 a7 a8 a9 a10 a11 a12 : ByteArray} (h : v < 13) : ([.val (.string a0), .val (.string a1), .val (.string a2), .val (.string a3), .val (.string a4), .val (.string a5), .val (.string a6), .val (.string a7), .val (.string a8), .val (.string a9), .val (.string a10), .val (.string a11), .val (.string a12)] : List PV)[v.toNat]? = some (.val (.string (sel .empty [a0, a1, a2, a3, a4, a5, a6, a7, a8, a9, a10, a11, a12] v.toNat))) := by
  have hx : v.toNat < 13 := by omega
  have h2 := omg_s (f := fun n => PV.val (.string n)) (l := [a0, a1, a2, a3, a4, a5, a6, a7, a8, a9, a10, a11, a12]) (k := v.toNat) hx
  rw [← List.getElem?_map] at h2
  exact h2
theorem gl14 {a0 a1 a2 a3 a4 a5 a6 a7 a8 a9 a10 a11 a12 a13 : Int} (h : v < 14) : ([.val (.int .i64 a0), .val (.int .i64 a1), .val (.int .i64 a2), .val (.int .i64 a3), .val (.int .i64 a4), .val (.int .i64 a5), .val (.int .i64 a6), .val (.int .i64 a7), .val (.int .i64 a8), .val (.int .i64 a9), .val (.int .i64 a10), .val (.int .i64 a11), .val (.int .i64 a12), .val (.int .i64 a13)] : List PV)[v.toNat]? = some (.val (.int .i64 (sel 0 [a0, a1, a2, a3, a4, a5, a6, a7, a8, a9, a10, a11, a12, a13] v.toNat))) := by
  have hx : v.toNat < 14 := by omega
  have h2 := omg_i (f := fun n => PV.val (.int .i64 n)) (l := [a0, a1, a2, a3, a4, a5, a6, a7, a8, a9, a10, a11, a12, a13]) (k := v.toNat) hx
  rw [← List.getElem?_map] at h2
  exact h2
theorem gs14 {a0 a1 a2 a3 a4 a5 a6 a7 a8 a9 a10 a11 a12 a13 : ByteArray} (h : v < 14) : ([.val (.string a0), .val (.string a1), .val (.string a2), .val (.string a3), .val (.string a4), .val (.string a5), .val (.string a6), .val (.string a7), .val (.string a8), .val (.string a9), .val (.string a10), .val (.string a11), .val (.string a12), .val (.string a13)] : List PV)[v.toNat]? = some (.val (.string (sel .empty [a0, a1, a2, a3, a4, a5, a6, a7, a8, a9, a10, a11, a12, a13] v.toNat))) := by
  have hx : v.toNat < 14 := by omega
  have h2 := omg_s (f := fun n => PV.val (.string n)) (l := [a0, a1, a2, a3, a4, a5, a6, a7, a8, a9, a10, a11, a12, a13]) (k := v.toNat) hx
  rw [← List.getElem?_map] at h2
  exact h2
theorem gl15 {a0 a1 a2 a3 a4 a5 a6 a7 a8 a9 a10 a11 a12 a13 a14 : Int} (h : v < 15) : ([.val (.int .i64 a0), .val (.int .i64 a1), .val (.int .i64 a2), .val (.int .i64 a3), .val (.int .i64 a4), .val (.int .i64 a5), .val (.int .i64 a6), .val (.int .i64 a7), .val (.int .i64 a8), .val (.int .i64 a9), .val (.int .i64 a10), .val (.int .i64 a11), .val (.int .i64 a12), .val (.int .i64 a13), .val (.int .i64 a14)] : List PV)[v.toNat]? = some (.val (.int .i64 (sel 0 [a0, a1, a2, a3, a4, a5, a6, a7, a8, a9, a10, a11, a12, a13, a14] v.toNat))) := by
  have hx : v.toNat < 15 := by omega
  have h2 := omg_i (f := fun n => PV.val (.int .i64 n)) (l := [a0, a1, a2, a3, a4, a5, a6, a7, a8, a9, a10, a11, a12, a13, a14]) (k := v.toNat) hx
  rw [← List.getElem?_map] at h2
  exact h2
theorem gs15 {a0 a1 a2 a3 a4 a5 a6 a7 a8 a9 a10 a11 a12 a13 a14 : ByteArray} (h : v < 15) : ([.val (.string a0), .val (.string a1), .val (.string a2), .val (.string a3), .val (.string a4), .val (.string a5), .val (.string a6), .val (.string a7), .val (.string a8), .val (.string a9), .val (.string a10), .val (.string a11), .val (.string a12), .val (.string a13), .val (.string a14)] : List PV)[v.toNat]? = some (.val (.string (sel .empty [a0, a1, a2, a3, a4, a5, a6, a7, a8, a9, a10, a11, a12, a13, a14] v.toNat))) := by
  have hx : v.toNat < 15 := by omega
  have h2 := omg_s (f := fun n => PV.val (.string n)) (l := [a0, a1, a2, a3, a4, a5, a6, a7, a8, a9, a10, a11, a12, a13, a14]) (k := v.toNat) hx
  rw [← List.getElem?_map] at h2
  exact h2
theorem gu1 {a0 : Int} (h : v < 1) : ([.val (.int .u8 a0)] : List PV)[v.toNat]? = some (.val (.int .u8 (sel 0 [a0] v.toNat))) := by
  have hx : v.toNat < 1 := by omega
  have h2 := omg_i (f := fun n => PV.val (.int .u8 n)) (l := [a0]) (k := v.toNat) hx
  rw [← List.getElem?_map] at h2
  exact h2
theorem gu2 {a0 a1 : Int} (h : v < 2) : ([.val (.int .u8 a0), .val (.int .u8 a1)] : List PV)[v.toNat]? = some (.val (.int .u8 (sel 0 [a0, a1] v.toNat))) := by
  have hx : v.toNat < 2 := by omega
  have h2 := omg_i (f := fun n => PV.val (.int .u8 n)) (l := [a0, a1]) (k := v.toNat) hx
  rw [← List.getElem?_map] at h2
  exact h2
theorem gu3 {a0 a1 a2 : Int} (h : v < 3) : ([.val (.int .u8 a0), .val (.int .u8 a1), .val (.int .u8 a2)] : List PV)[v.toNat]? = some (.val (.int .u8 (sel 0 [a0, a1, a2] v.toNat))) := by
  have hx : v.toNat < 3 := by omega
  have h2 := omg_i (f := fun n => PV.val (.int .u8 n)) (l := [a0, a1, a2]) (k := v.toNat) hx
  rw [← List.getElem?_map] at h2
  exact h2
theorem gu4 {a0 a1 a2 a3 : Int} (h : v < 4) : ([.val (.int .u8 a0), .val (.int .u8 a1), .val (.int .u8 a2), .val (.int .u8 a3)] : List PV)[v.toNat]? = some (.val (.int .u8 (sel 0 [a0, a1, a2, a3] v.toNat))) := by
  have hx : v.toNat < 4 := by omega
  have h2 := omg_i (f := fun n => PV.val (.int .u8 n)) (l := [a0, a1, a2, a3]) (k := v.toNat) hx
  rw [← List.getElem?_map] at h2
  exact h2
theorem gb1 {a0 b0 c0 d0 : Int} (h : v < 1) : ([.agg [.val (.int .i64 a0), .val (.int .i64 b0), .val (.int .i64 c0), .val (.int .i64 d0)]] : List PV)[v.toNat]? = some (.agg [.val (.int .i64 (sel i40 [(a0, b0, c0, d0)] v.toNat).1), .val (.int .i64 (sel i40 [(a0, b0, c0, d0)] v.toNat).2.1), .val (.int .i64 (sel i40 [(a0, b0, c0, d0)] v.toNat).2.2.1), .val (.int .i64 (sel i40 [(a0, b0, c0, d0)] v.toNat).2.2.2)]) := by
  have hx : v.toNat < 1 := by omega
  have h2 := omg_i4 (g := fun x : I4 => PV.agg [.val (.int .i64 x.1), .val (.int .i64 x.2.1), .val (.int .i64 x.2.2.1), .val (.int .i64 x.2.2.2)]) (l := [(a0, b0, c0, d0)]) (i := v.toNat) hx
  rw [← List.getElem?_map] at h2
  exact h2
theorem gb2 {a0 a1 b0 b1 c0 c1 d0 d1 : Int} (h : v < 2) : ([.agg [.val (.int .i64 a0), .val (.int .i64 b0), .val (.int .i64 c0), .val (.int .i64 d0)], .agg [.val (.int .i64 a1), .val (.int .i64 b1), .val (.int .i64 c1), .val (.int .i64 d1)]] : List PV)[v.toNat]? = some (.agg [.val (.int .i64 (sel i40 [(a0, b0, c0, d0), (a1, b1, c1, d1)] v.toNat).1), .val (.int .i64 (sel i40 [(a0, b0, c0, d0), (a1, b1, c1, d1)] v.toNat).2.1), .val (.int .i64 (sel i40 [(a0, b0, c0, d0), (a1, b1, c1, d1)] v.toNat).2.2.1), .val (.int .i64 (sel i40 [(a0, b0, c0, d0), (a1, b1, c1, d1)] v.toNat).2.2.2)]) := by
  have hx : v.toNat < 2 := by omega
  have h2 := omg_i4 (g := fun x : I4 => PV.agg [.val (.int .i64 x.1), .val (.int .i64 x.2.1), .val (.int .i64 x.2.2.1), .val (.int .i64 x.2.2.2)]) (l := [(a0, b0, c0, d0), (a1, b1, c1, d1)]) (i := v.toNat) hx
  rw [← List.getElem?_map] at h2
  exact h2
theorem gb3 {a0 a1 a2 b0 b1 b2 c0 c1 c2 d0 d1 d2 : Int} (h : v < 3) : ([.agg [.val (.int .i64 a0), .val (.int .i64 b0), .val (.int .i64 c0), .val (.int .i64 d0)], .agg [.val (.int .i64 a1), .val (.int .i64 b1), .val (.int .i64 c1), .val (.int .i64 d1)], .agg [.val (.int .i64 a2), .val (.int .i64 b2), .val (.int .i64 c2), .val (.int .i64 d2)]] : List PV)[v.toNat]? = some (.agg [.val (.int .i64 (sel i40 [(a0, b0, c0, d0), (a1, b1, c1, d1), (a2, b2, c2, d2)] v.toNat).1), .val (.int .i64 (sel i40 [(a0, b0, c0, d0), (a1, b1, c1, d1), (a2, b2, c2, d2)] v.toNat).2.1), .val (.int .i64 (sel i40 [(a0, b0, c0, d0), (a1, b1, c1, d1), (a2, b2, c2, d2)] v.toNat).2.2.1), .val (.int .i64 (sel i40 [(a0, b0, c0, d0), (a1, b1, c1, d1), (a2, b2, c2, d2)] v.toNat).2.2.2)]) := by
  have hx : v.toNat < 3 := by omega
  have h2 := omg_i4 (g := fun x : I4 => PV.agg [.val (.int .i64 x.1), .val (.int .i64 x.2.1), .val (.int .i64 x.2.2.1), .val (.int .i64 x.2.2.2)]) (l := [(a0, b0, c0, d0), (a1, b1, c1, d1), (a2, b2, c2, d2)]) (i := v.toNat) hx
  rw [← List.getElem?_map] at h2
  exact h2
theorem gb4 {a0 a1 a2 a3 b0 b1 b2 b3 c0 c1 c2 c3 d0 d1 d2 d3 : Int} (h : v < 4) : ([.agg [.val (.int .i64 a0), .val (.int .i64 b0), .val (.int .i64 c0), .val (.int .i64 d0)], .agg [.val (.int .i64 a1), .val (.int .i64 b1), .val (.int .i64 c1), .val (.int .i64 d1)], .agg [.val (.int .i64 a2), .val (.int .i64 b2), .val (.int .i64 c2), .val (.int .i64 d2)], .agg [.val (.int .i64 a3), .val (.int .i64 b3), .val (.int .i64 c3), .val (.int .i64 d3)]] : List PV)[v.toNat]? = some (.agg [.val (.int .i64 (sel i40 [(a0, b0, c0, d0), (a1, b1, c1, d1), (a2, b2, c2, d2), (a3, b3, c3, d3)] v.toNat).1), .val (.int .i64 (sel i40 [(a0, b0, c0, d0), (a1, b1, c1, d1), (a2, b2, c2, d2), (a3, b3, c3, d3)] v.toNat).2.1), .val (.int .i64 (sel i40 [(a0, b0, c0, d0), (a1, b1, c1, d1), (a2, b2, c2, d2), (a3, b3, c3, d3)] v.toNat).2.2.1), .val (.int .i64 (sel i40 [(a0, b0, c0, d0), (a1, b1, c1, d1), (a2, b2, c2, d2), (a3, b3, c3, d3)] v.toNat).2.2.2)]) := by
  have hx : v.toNat < 4 := by omega
  have h2 := omg_i4 (g := fun x : I4 => PV.agg [.val (.int .i64 x.1), .val (.int .i64 x.2.1), .val (.int .i64 x.2.2.1), .val (.int .i64 x.2.2.2)]) (l := [(a0, b0, c0, d0), (a1, b1, c1, d1), (a2, b2, c2, d2), (a3, b3, c3, d3)]) (i := v.toNat) hx
  rw [← List.getElem?_map] at h2
  exact h2
theorem gb5 {a0 a1 a2 a3 a4 b0 b1 b2 b3 b4 c0 c1 c2 c3 c4 d0 d1 d2 d3 d4 : Int} (h : v < 5) : ([.agg [.val (.int .i64 a0), .val (.int .i64 b0), .val (.int .i64 c0), .val (.int .i64 d0)], .agg [.val (.int .i64 a1), .val (.int .i64 b1), .val (.int .i64 c1), .val (.int .i64 d1)], .agg [.val (.int .i64 a2), .val (.int .i64 b2), .val (.int .i64 c2), .val (.int .i64 d2)], .agg [.val (.int .i64 a3), .val (.int .i64 b3), .val (.int .i64 c3), .val (.int .i64 d3)], .agg [.val (.int .i64 a4), .val (.int .i64 b4), .val (.int .i64 c4), .val (.int .i64 d4)]] : List PV)[v.toNat]? = some (.agg [.val (.int .i64 (sel i40 [(a0, b0, c0, d0), (a1, b1, c1, d1), (a2, b2, c2, d2), (a3, b3, c3, d3), (a4, b4, c4, d4)] v.toNat).1), .val (.int .i64 (sel i40 [(a0, b0, c0, d0), (a1, b1, c1, d1), (a2, b2, c2, d2), (a3, b3, c3, d3), (a4, b4, c4, d4)] v.toNat).2.1), .val (.int .i64 (sel i40 [(a0, b0, c0, d0), (a1, b1, c1, d1), (a2, b2, c2, d2), (a3, b3, c3, d3), (a4, b4, c4, d4)] v.toNat).2.2.1), .val (.int .i64 (sel i40 [(a0, b0, c0, d0), (a1, b1, c1, d1), (a2, b2, c2, d2), (a3, b3, c3, d3), (a4, b4, c4, d4)] v.toNat).2.2.2)]) := by
  have hx : v.toNat < 5 := by omega
  have h2 := omg_i4 (g := fun x : I4 => PV.agg [.val (.int .i64 x.1), .val (.int .i64 x.2.1), .val (.int .i64 x.2.2.1), .val (.int .i64 x.2.2.2)]) (l := [(a0, b0, c0, d0), (a1, b1, c1, d1), (a2, b2, c2, d2), (a3, b3, c3, d3), (a4, b4, c4, d4)]) (i := v.toNat) hx
  rw [← List.getElem?_map] at h2
  exact h2
theorem gb6 {a0 a1 a2 a3 a4 a5 b0 b1 b2 b3 b4 b5 c0 c1 c2 c3 c4 c5 d0 d1 d2 d3 d4 d5 : Int} (h : v < 6) : ([.agg [.val (.int .i64 a0), .val (.int .i64 b0), .val (.int .i64 c0), .val (.int .i64 d0)], .agg [.val (.int .i64 a1), .val (.int .i64 b1), .val (.int .i64 c1), .val (.int .i64 d1)], .agg [.val (.int .i64 a2), .val (.int .i64 b2), .val (.int .i64 c2), .val (.int .i64 d2)], .agg [.val (.int .i64 a3), .val (.int .i64 b3), .val (.int .i64 c3), .val (.int .i64 d3)], .agg [.val (.int .i64 a4), .val (.int .i64 b4), .val (.int .i64 c4), .val (.int .i64 d4)], .agg [.val (.int .i64 a5), .val (.int .i64 b5), .val (.int .i64 c5), .val (.int .i64 d5)]] : List PV)[v.toNat]? = some (.agg [.val (.int .i64 (sel i40 [(a0, b0, c0, d0), (a1, b1, c1, d1), (a2, b2, c2, d2), (a3, b3, c3, d3), (a4, b4, c4, d4), (a5, b5, c5, d5)] v.toNat).1), .val (.int .i64 (sel i40 [(a0, b0, c0, d0), (a1, b1, c1, d1), (a2, b2, c2, d2), (a3, b3, c3, d3), (a4, b4, c4, d4), (a5, b5, c5, d5)] v.toNat).2.1), .val (.int .i64 (sel i40 [(a0, b0, c0, d0), (a1, b1, c1, d1), (a2, b2, c2, d2), (a3, b3, c3, d3), (a4, b4, c4, d4), (a5, b5, c5, d5)] v.toNat).2.2.1), .val (.int .i64 (sel i40 [(a0, b0, c0, d0), (a1, b1, c1, d1), (a2, b2, c2, d2), (a3, b3, c3, d3), (a4, b4, c4, d4), (a5, b5, c5, d5)] v.toNat).2.2.2)]) := by
  have hx : v.toNat < 6 := by omega
  have h2 := omg_i4 (g := fun x : I4 => PV.agg [.val (.int .i64 x.1), .val (.int .i64 x.2.1), .val (.int .i64 x.2.2.1), .val (.int .i64 x.2.2.2)]) (l := [(a0, b0, c0, d0), (a1, b1, c1, d1), (a2, b2, c2, d2), (a3, b3, c3, d3), (a4, b4, c4, d4), (a5, b5, c5, d5)]) (i := v.toNat) hx
  rw [← List.getElem?_map] at h2
  exact h2
theorem gw1 {a0 : ByteArray} {b0 : Int} (h : v < 1) : ([.agg [.val (.string a0), .val (.int .i64 b0)]] : List PV)[v.toNat]? = some (.agg [.val (.string (sel w0 [(a0, b0)] v.toNat).1), .val (.int .i64 (sel w0 [(a0, b0)] v.toNat).2)]) := by
  have hx : v.toNat < 1 := by omega
  have h2 := omg_w (g := fun x : W2 => PV.agg [.val (.string x.1), .val (.int .i64 x.2)]) (l := [(a0, b0)]) (i := v.toNat) hx
  rw [← List.getElem?_map] at h2
  exact h2
theorem gw2 {a0 a1 : ByteArray} {b0 b1 : Int} (h : v < 2) : ([.agg [.val (.string a0), .val (.int .i64 b0)], .agg [.val (.string a1), .val (.int .i64 b1)]] : List PV)[v.toNat]? = some (.agg [.val (.string (sel w0 [(a0, b0), (a1, b1)] v.toNat).1), .val (.int .i64 (sel w0 [(a0, b0), (a1, b1)] v.toNat).2)]) := by
  have hx : v.toNat < 2 := by omega
  have h2 := omg_w (g := fun x : W2 => PV.agg [.val (.string x.1), .val (.int .i64 x.2)]) (l := [(a0, b0), (a1, b1)]) (i := v.toNat) hx
  rw [← List.getElem?_map] at h2
  exact h2
theorem gw3 {a0 a1 a2 : ByteArray} {b0 b1 b2 : Int} (h : v < 3) : ([.agg [.val (.string a0), .val (.int .i64 b0)], .agg [.val (.string a1), .val (.int .i64 b1)], .agg [.val (.string a2), .val (.int .i64 b2)]] : List PV)[v.toNat]? = some (.agg [.val (.string (sel w0 [(a0, b0), (a1, b1), (a2, b2)] v.toNat).1), .val (.int .i64 (sel w0 [(a0, b0), (a1, b1), (a2, b2)] v.toNat).2)]) := by
  have hx : v.toNat < 3 := by omega
  have h2 := omg_w (g := fun x : W2 => PV.agg [.val (.string x.1), .val (.int .i64 x.2)]) (l := [(a0, b0), (a1, b1), (a2, b2)]) (i := v.toNat) hx
  rw [← List.getElem?_map] at h2
  exact h2
theorem eq_s1 (x : Nat) : (x = x + 1) = False := by simp
theorem s1_eq (x : Nat) : (x + 1 = x) = False := by simp
theorem eq_s2 (x : Nat) : (x = x + 1 + 1) = False := by simp; omega
theorem s2_eq (x : Nat) : (x + 1 + 1 = x) = False := by simp; omega
theorem z_s (x : Nat) : (0 = x + 1) = False := by simp
theorem s_z (x : Nat) : (x + 1 = 0) = False := by simp
theorem eq_s3 (x : Nat) : (x = x + 1 + 1 + 1) = False := by simp; omega
theorem s3_eq (x : Nat) : (x + 1 + 1 + 1 = x) = False := by simp; omega
end
theorem app_iv {l : List Int} {y : Int} : (l.map fun n => PV.val (.int .i64 n)) ++ [.val (.int .i64 y)] = (l ++ [y]).map fun n => PV.val (.int .i64 n) := by simp
theorem app_nv {l : List Int} {y : Int} : (l.map fun n => PV.val (.int .u8 n)) ++ [.val (.int .u8 y)] = (l ++ [y]).map fun n => PV.val (.int .u8 n) := by simp
theorem app_sv {l : List ByteArray} {y : ByteArray} : (l.map fun n => PV.val (.string n)) ++ [.val (.string y)] = (l ++ [y]).map fun n => PV.val (.string n) := by simp
theorem app_w {l : List W2} {a : ByteArray} {b : Int} : (l.map fun x => PV.agg [.val (.string x.1), .val (.int .i64 x.2)]) ++ [.agg [.val (.string a), .val (.int .i64 b)]] = (l ++ [(a, b)]).map fun x => PV.agg [.val (.string x.1), .val (.int .i64 x.2)] := by simp
theorem app_i3 {l : List I3} {a b c : Int} : (l.map fun x => PV.agg [.val (.int .i64 x.1), .val (.int .i64 x.2.1), .val (.int .i64 x.2.2)]) ++ [.agg [.val (.int .i64 a), .val (.int .i64 b), .val (.int .i64 c)]] = (l ++ [(a, b, c)]).map fun x => PV.agg [.val (.int .i64 x.1), .val (.int .i64 x.2.1), .val (.int .i64 x.2.2)] := by simp
theorem app_i4 {l : List I4} {a b c d : Int} : (l.map fun x => PV.agg [.val (.int .i64 x.1), .val (.int .i64 x.2.1), .val (.int .i64 x.2.2.1), .val (.int .i64 x.2.2.2)]) ++ [.agg [.val (.int .i64 a), .val (.int .i64 b), .val (.int .i64 c), .val (.int .i64 d)]] = (l ++ [(a, b, c, d)]).map fun x => PV.agg [.val (.int .i64 x.1), .val (.int .i64 x.2.1), .val (.int .i64 x.2.2.1), .val (.int .i64 x.2.2.2)] := by simp
theorem rep_iv {n : Nat} {a : Int} : List.replicate n (PV.val (.int .i64 a)) = (List.replicate n a).map fun n => PV.val (.int .i64 n) := by simp
theorem rep_sv {n : Nat} {a : ByteArray} : List.replicate n (PV.val (.string a)) = (List.replicate n a).map fun n => PV.val (.string n) := by simp
theorem rep_w {n : Nat} {a : ByteArray} {b : Int} : List.replicate n (PV.agg [.val (.string a), .val (.int .i64 b)]) = (List.replicate n ((a, b) : W2)).map fun x => PV.agg [.val (.string x.1), .val (.int .i64 x.2)] := by simp
theorem rep_i3 {n : Nat} {a b c : Int} : List.replicate n (PV.agg [.val (.int .i64 a), .val (.int .i64 b), .val (.int .i64 c)]) = (List.replicate n ((a, b, c) : I3)).map fun x => PV.agg [.val (.int .i64 x.1), .val (.int .i64 x.2.1), .val (.int .i64 x.2.2)] := by simp
theorem rep_i4 {n : Nat} {a b c d : Int} : List.replicate n (PV.agg [.val (.int .i64 a), .val (.int .i64 b), .val (.int .i64 c), .val (.int .i64 d)]) = (List.replicate n ((a, b, c, d) : I4)).map fun x => PV.agg [.val (.int .i64 x.1), .val (.int .i64 x.2.1), .val (.int .i64 x.2.2.1), .val (.int .i64 x.2.2.2)] := by simp
theorem nat_ne {a b : Nat} (h : ¬ a = b) : (a = b) = False := by simp [h]
attribute [push_cast low]
  nat_ne
attribute [push_cast]
  app_iv app_nv app_sv app_w app_i3 app_i4
attribute [push_cast]
  gl1 gs1 gl2 gs2 gl3 gs3 gl4 gs4 gl5 gs5 gl6 gs6 gl7 gs7 gl8 gs8 gl9 gs9 gl10 gs10 gl11 gs11 gl12 gs12 gl13 gs13 gl14 gs14 gl15 gs15 gu1 gu2 gu3 gu4 gb1 gb2 gb3 gb4 gb5 gb6 gw1 gw2 gw3 eq_s1 s1_eq eq_s2 s2_eq z_s s_z eq_s3 s3_eq Nat.le_refl Nat.add_right_cancel_iff
theorem rdC_inj {T : Nat} {code code' : List Int} {p p' : Int} (h : rdC T code p = rdC T code' p') : code = code' ∧ p = p' := by
  simp only [rdC, Prod.mk.injEq, true_and, List.cons.injEq, PV.agg.injEq, PV.lst.injEq, PV.val.injEq, Value.int.injEq, and_true] at h
  refine ⟨?_, h.2⟩
  have : Function.Injective fun n : Int => PV.val (.int .u8 n) := fun a b e => by simpa using e
  exact (List.map_inj_right (fun a b e => this e)).1 h.1
theorem okRd.to {code : List Int} {p p' : Int} (h : okRd code p) (h1 : 0 ≤ p') (h2 : p' ≤ 1000000000000) : okRd code p' := ⟨h.len, h.byte, h1, h2⟩
section
variable {P : Program} {Γ : Ctx}
theorem drw1_of (hm : P.follows .mixedOrders = true) {f : Nat} {fn : Func} {C : Code} (hΓ : SoundΓ P Γ) (hf : P.funcs[f]? = some fn) (hb : fn.body = some C) (N : Nat) (hN : fn.ntmps = N) (rs : List ResultVar) (hrs : fn.results.toList = rs) (hc : codeOk Γ true N C = true) (hN1 : 1 ≤ N)
    (T : Nat) (B c : Int) {α : Type} (E : α → PV) (R : α → Prop)
    (h : ∀ code p, okRd code p → p ≤ B → pq P Γ N C (fun x s' => ∃ a p', R a ∧ okRd code p' ∧ p ≤ p' ∧ p' ≤ p + c ∧ PostIO P rs 1 (E a) [rdC T code p'] x s') (initS [.own 0 2 0 0]).tm (lo [(0, rdC T code p)]) 1) :
    ∃ Φ : FunIO, SoundIO P f Φ ∧ Drw1 T Φ B c E R := by
  obtain ⟨Φ, h1, h2⟩ := relIO_of_pq hm hΓ hf hb N hN rs hrs hc
    (fun ps o => ∃ code p, ps = [.own 0 2 0 0] ∧ o = rdC T code p ∧ okRd code p ∧ p ≤ B)
    (fun ps o r o' => ∃ code p a p', o = rdC T code p ∧ r = E a ∧ o' = rdC T code p' ∧ R a ∧ okRd code p' ∧ p ≤ p' ∧ p' ≤ p + c)
    (fun ps o ⟨code, p, e, _⟩ => by rw [e]; exact hN1) (fun ps o ⟨code, p, e1, e2, h3, h4⟩ => by
      subst e1 e2
      refine pw_mono (fun x s' hx => ?_) _ _ (h code p h3 h4)
      obtain ⟨a, p', k1, k2, k3, k4, k5⟩ := hx
      exact ⟨E a, rdC T code p', ⟨code, p, a, p', rfl, rfl, rfl, k1, k2, k3, k4⟩, k5⟩)
  refine ⟨Φ, h1, fun code p h3 h4 => ?_⟩
  obtain ⟨r, o', e, code', p1, a, p', e1, rfl, rfl, k1, k2, k3, k4⟩ := h2 _ _ ⟨code, p, rfl, rfl, h3, h4⟩
  obtain ⟨rfl, rfl⟩ := rdC_inj e1
  exact ⟨a, p', e, k1, k2, k3, k4⟩
theorem drw2_of (hm : P.follows .mixedOrders = true) {f : Nat} {fn : Func} {C : Code} (hΓ : SoundΓ P Γ) (hf : P.funcs[f]? = some fn) (hb : fn.body = some C) (N : Nat) (hN : fn.ntmps = N) (rs : List ResultVar) (hrs : fn.results.toList = rs) (hc : codeOk Γ true N C = true) (hN1 : 2 ≤ N)
    (T : Nat) (B c : Int) {α : Type} (E : α → PV) (D : Int → Prop) (R : Int → α → Prop)
    (h : ∀ code p n, okRd code p → p ≤ B → D n → pq P Γ N C (fun x s' => ∃ a p', R n a ∧ okRd code p' ∧ p ≤ p' ∧ p' ≤ p + c ∧ PostIO P rs 1 (E a) [rdC T code p'] x s') (initS [.own 0 2 0 0, .val (.int .i64 n)]).tm (lo [(0, rdC T code p)]) 1) :
    ∃ Φ : FunIO, SoundIO P f Φ ∧ Drw2 T Φ B c E D R := by
  obtain ⟨Φ, h1, h2⟩ := relIO_of_pq hm hΓ hf hb N hN rs hrs hc
    (fun ps o => ∃ code p n, ps = [.own 0 2 0 0, .val (.int .i64 n)] ∧ o = rdC T code p ∧ okRd code p ∧ p ≤ B ∧ D n)
    (fun ps o r o' => ∃ code p n a p', ps = [.own 0 2 0 0, .val (.int .i64 n)] ∧ o = rdC T code p ∧ r = E a ∧ o' = rdC T code p' ∧ R n a ∧ okRd code p' ∧ p ≤ p' ∧ p' ≤ p + c)
    (fun ps o ⟨code, p, n, e, _⟩ => by rw [e]; exact hN1) (fun ps o ⟨code, p, n, e1, e2, h3, h4, h5⟩ => by
      subst e1 e2
      refine pw_mono (fun x s' hx => ?_) _ _ (h code p n h3 h4 h5)
      obtain ⟨a, p', k1, k2, k3, k4, k5⟩ := hx
      exact ⟨E a, rdC T code p', ⟨code, p, n, a, p', rfl, rfl, rfl, rfl, k1, k2, k3, k4⟩, k5⟩)
  refine ⟨Φ, h1, fun code p n h3 h4 h5 => ?_⟩
  obtain ⟨r, o', e, code', p1, n1, a, p', e0, e1, rfl, rfl, k1, k2, k3, k4⟩ := h2 _ _ ⟨code, p, n, rfl, rfl, h3, h4, h5⟩
  obtain ⟨rfl, rfl⟩ := rdC_inj e1
  have : n = n1 := by simpa using e0
  subst this
  exact ⟨a, p', e, k1, k2, k3, k4⟩
end
def Drw0 (φ : Fun) {α : Type} (E : α → PV) (R : α → Prop) : Prop := ∀ code : List Int, (∀ i : Nat, 0 ≤ code[i]?.getD 0 ∧ code[i]?.getD 0 ≤ 255) → code.length ≤ 1048576 → ∃ a, φ [.lst false 1 (code.map fun n => PV.val (.int .u8 n))] = some (E a) ∧ R a
theorem drw0_of {P : Program} {Γ : Ctx} (hm : P.follows .mixedOrders = true) {f : Nat} {fn : Func} {C : Code} (hΓ : SoundΓ P Γ) (hf : P.funcs[f]? = some fn) (hb : fn.body = some C) (N : Nat) (hN : fn.ntmps = N) (rs : List ResultVar) (hrs : fn.results.toList = rs) (hc : codeOk Γ true N C = true) (hN1 : 1 ≤ N)
    {α : Type} (E : α → PV) (R : α → Prop)
    (h : ∀ code : List Int, (∀ i : Nat, 0 ≤ code[i]?.getD 0 ∧ code[i]?.getD 0 ≤ 255) → code.length ≤ 1048576 → pq P Γ N C (fun x s' => ∃ a, R a ∧ Post P rs (E a) x s') (initS [.lst false 1 (code.map fun n => PV.val (.int .u8 n))]).tm (fun _ => none) 0) :
    ∃ φ : Fun, Sound P f φ ∧ Drw0 φ E R := by
  obtain ⟨φ, h1, h2⟩ := rel_of_pq hm hΓ hf hb N hN rs hrs hc
    (fun ps => ∃ code : List Int, ps = [.lst false 1 (code.map fun n => PV.val (.int .u8 n))] ∧ (∀ i : Nat, 0 ≤ code[i]?.getD 0 ∧ code[i]?.getD 0 ≤ 255) ∧ code.length ≤ 1048576)
    (fun ps r => ∃ a, r = E a ∧ R a)
    (fun ps ⟨code, e, _⟩ => by rw [e]; exact hN1) (fun ps ⟨code, e1, h3, h4⟩ => by
      subst e1
      refine pw_mono (fun x s' hx => ?_) _ _ (h code h3 h4)
      obtain ⟨a, k1, k2⟩ := hx
      exact ⟨E a, ⟨a, rfl, k1⟩, k2⟩)
  refine ⟨φ, h1, fun code h3 h4 => ?_⟩
  obtain ⟨r, e, a, rfl, k1⟩ := h2 _ ⟨code, rfl, h3, h4⟩
  exact ⟨a, e, k1⟩
theorem bp_xor {P : Program} {t : Nat} {x y : Operand} {m n : Int} : binP P .xor t x y (some (.int .i64 m)) (some (.int .i64 n)) = some (.val (.int .i64 (IntKind.i64.wrap ((BitVec.ofInt 64 m ^^^ BitVec.ofInt 64 n).toNat)))) := by
  have : pureRun P (do eqGuard .xor t x y (.int .i64 m) (.int .i64 n); binOp .xor t (.int .i64 m) (.int .i64 n)) = some (.int .i64 (IntKind.i64.wrap ((BitVec.ofInt 64 m ^^^ BitVec.ofInt 64 n).toNat))) := by
    rfl
  simp only [binP, this, Option.map_some]
theorem xor_nonneg {m n : Int} (hm : 0 ≤ m) (hm2 : m ≤ 4611686018427387903) (hn : 0 ≤ n) (hn2 : n ≤ 4611686018427387903) : 0 ≤ IntKind.i64.wrap ((BitVec.ofInt 64 m ^^^ BitVec.ofInt 64 n).toNat) ∧ IntKind.i64.wrap ((BitVec.ofInt 64 m ^^^ BitVec.ofInt 64 n).toNat) ≤ 4611686018427387903 := by
  have e1 : (BitVec.ofInt 64 m).toNat = m.toNat := by rw [BitVec.toNat_ofInt]; omega
  have e2 : (BitVec.ofInt 64 n).toNat = n.toNat := by rw [BitVec.toNat_ofInt]; omega
  rw [BitVec.toNat_xor, e1, e2]
  have h : m.toNat ^^^ n.toNat < 2 ^ 62 := Nat.xor_lt_two_pow (by omega) (by omega)
  rw [wrap_id (by omega) (by omega)]
  omega
theorem i_xor {P : Program} {Γ : Ctx} {imm : Md} {gs : List (Option Nat)} {l : List Oper} {Q : AS → Prop} {tm : Nat → PV} {ob : Objs} {nx d ty t t' : Nat} {x y : Operand} {pos : String} {af : Array Edge} {m n : Int}
    (h0 : isEff Γ imm { dst := some d, op := .binOp .xor t x y t', type := ty, pos := pos, after := af, guard := none } = false)
    (hx : look tm x = .val (.int .i64 m)) (hy : look tm y = .val (.int .i64 n)) (hm : 0 ≤ m) (hm2 : m ≤ 4611686018427387903) (hn : 0 ≤ n) (hn2 : n ≤ 4611686018427387903)
    (hk : ∀ z : Int, 0 ≤ z → z ≤ 4611686018427387903 → wq P Γ imm gs l Q (upd tm d (.val (.int .i64 z))) ob nx) :
    wq P Γ imm gs ({ dst := some d, op := .binOp .xor t x y t', type := ty, pos := pos, after := af, guard := none } :: l) Q tm ob nx := by
  obtain ⟨h1, h2⟩ := xor_nonneg hm hm2 hn hn2
  refine i_V h0 rfl rfl ?_ (hk _ h1 h2)
  rw [ev_binOp, hx, hy]
  exact bp_xor
theorem i_fin1 {P : Program} {rs : List ResultVar} {T : Nat} {α : Type} {E : α → PV} {R : α → Prop} {code : List Int} {p c : Int} {a : α} {p' : Int} {x : X} {tm : Nat → PV} {ob : Objs} {nx : Nat} (hx : x = .normal ∨ x = .ret)
    (h3 : ((resPs P ⟨tm, ob, nx⟩ rs).bind fun qs => handF [0] ob fuel (onePV qs)) = some (E a)) (h4 : handC [0] ob fuel 0 = some (rdC T code p')) (hR : R a) (ho : okRd code p') (h1 : p ≤ p') (h2 : p' ≤ p + c) :
    ∃ a p', R a ∧ okRd code p' ∧ p ≤ p' ∧ p' ≤ p + c ∧ PostIO P rs 1 (E a) [rdC T code p'] x ⟨tm, ob, nx⟩ := ⟨a, p', hR, ho, h1, h2, i_end1 hx h3 h4⟩
theorem i_fin0 {P : Program} {rs : List ResultVar} {α : Type} {E : α → PV} {R : α → Prop} {a : α} {x : X} {tm : Nat → PV} {ob : Objs} {nx : Nat} (hx : x = .normal ∨ x = .ret)
    (h3 : ((resPs P ⟨tm, ob, nx⟩ rs).bind fun qs => reify true 0 ob fuel (onePV qs)) = some (E a)) (hR : R a) :
    ∃ a, R a ∧ Post P rs (E a) x ⟨tm, ob, nx⟩ := ⟨a, hR, hx, h3⟩
abbrev okB8 (n : Int) : Prop := 0 ≤ n ∧ n ≤ 255
abbrev okL {α : Type} (ok : α → Prop) (l : List α) : Prop := l.length ≤ 9223372036854775807 ∧ ∀ a ∈ l, ok a
theorem bytes_ok {code : List Int} (h : okL okB8 code) : ∀ i : Nat, 0 ≤ code[i]?.getD 0 ∧ code[i]?.getD 0 ≤ 255 := fun i => by
  by_cases hi : i < code.length
  · simp only [List.getElem?_eq_getElem hi, Option.getD_some]
    exact h.2 _ (List.getElem_mem hi)
  · rw [List.getElem?_eq_none (by omega)]
    simp
noncomputable instance {α : Type} (ok : α → Prop) (l : List α) : Decidable (okL ok l) := Classical.propDecidable _
theorem okRd_take {code : List Int} (h : ∀ i : Nat, 0 ≤ code[i]?.getD 0 ∧ code[i]?.getD 0 ≤ 255) : okRd (code.take 2000) 0 := by
  refine ⟨by simp; omega, fun i => ?_, by omega, by omega⟩
  rw [List.getElem?_take]
  split
  · exact h i
  · simp
end Go.Proofs.Ytngcedklbinhjaa
