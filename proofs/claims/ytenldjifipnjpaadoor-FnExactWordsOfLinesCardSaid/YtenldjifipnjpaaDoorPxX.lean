/- Drawing functions that hand over an object of their own. -/
import Derived.Test.YtenldjifipnjpaaDoorPxW
namespace Go.Proofs.YtenldjifipnjpaaDoor
open Go.RowKit
set_option linter.all false
section
variable {P : Program} {Γ : Ctx}
theorem relIO_of_pqN (hm : P.follows .mixedOrders = true) {f : Nat} {fn : Func} {c : Code} (hΓ : SoundΓ P Γ) (hf : P.funcs[f]? = some fn) (hb : fn.body = some c) (N : Nat) (hN : fn.ntmps = N) (rs : List ResultVar) (hrs : fn.results.toList = rs) (hc : codeOk Γ true N c = true)
    (D : List PV → CellIO → Prop) (R : List PV → CellIO → PV → List CellIO → Prop) (hlen : ∀ ps o, D ps o → ps.length ≤ N)
    (h : ∀ ps o, D ps o → pq P Γ N c (fun x s' => ∃ r os', R ps o r os' ∧ PostIO P rs 1 r os' x s') (initS ps).tm (lo [(0, o)]) 1) : ∃ Φ : FunIO, SoundIO P f Φ ∧ ∀ ps o, D ps o → ∃ r os', Φ ps [o] = some (r, os') ∧ R ps o r os' := by
  classical
  subst hN hrs
  let Z : List PV → List CellIO → PV × List CellIO → Prop := fun ps cs r => ∃ o, cs = [o] ∧ D ps o ∧ R ps o r.1 r.2 ∧ ∃ x s', Ev P Γ fn.ntmps c (initIO ps cs) x s' ∧ PostIO P fn.results.toList 1 r.1 r.2 x s'
  let Φ : FunIO := fun ps cs => if h : ∃ r, Z ps cs r then some (Classical.choose h) else none
  have hΦ : ∀ ps cs r, Φ ps cs = some r → Z ps cs r := fun ps cs r hr => by
    simp only [Φ] at hr
    split at hr
    · rename_i hz
      cases hr
      exact Classical.choose_spec hz
    · cases hr
  refine ⟨Φ, soundIO_of_ev hΓ hf hb (fun ps cs r hr => ?_) fun ps cs r cs' hr => ?_, fun ps o hd => ?_⟩
  · obtain ⟨o, _, h1, _⟩ := hΦ ps cs r hr
    exact hlen ps o h1
  · obtain ⟨o, rfl, _, _, x, s', h1, h2, news, h3, h4, h5, h6⟩ := hΦ ps cs (r, cs') hr
    rw [Option.bind_eq_some_iff] at h5
    obtain ⟨qs, h8, h9⟩ := h5
    refine ⟨x, s', qs, List.range 1 ++ news, h1, h2, h8, h9, by simp, fun i hi => ?_, ?_, h6⟩
    · have : i = 0 := by simpa using hi
      subst this
      rfl
    · rw [List.nodup_append]
      exact ⟨List.nodup_range, h4, fun a ha b hb e => by
        have := h3 b hb
        have := List.mem_range.1 ha
        omega⟩
  · have h' : pw P Γ fn.ntmps c (fun x s' => ∃ r os', R ps o r os' ∧ PostIO P fn.results.toList 1 r os' x s') (initIO ps [o]) := by
      have := h ps o hd
      rw [← ls_one] at this
      exact this
    obtain ⟨x, s', h1, r, os', h2, h3⟩ := pw_ok (mixed := true) (fun _ => hm) c _ _ hc h'
    have hz : ∃ r, Z ps [o] r := ⟨(r, os'), o, rfl, hd, h2, x, s', h1, h3⟩
    have he : Φ ps [o] = some (Classical.choose hz) := by simp only [Φ]; rw [dif_pos hz]
    obtain ⟨o1, e1, _, e3, _⟩ := hΦ ps [o] _ he
    cases e1
    exact ⟨(Classical.choose hz).1, (Classical.choose hz).2, he, e3⟩
end
/-- A drawing function that gives E a, which speaks of the object O a as number 1. -/
def Drw2N (T : Nat) (Φ : FunIO) (B c : Int) {α : Type} (E : Nat → α → PV) (O : α → CellIO) (D : Int → Prop) (R : Int → α → Prop) : Prop :=
  ∀ code p n, okRd code p → p ≤ B → D n → ∃ a p', Φ [.own 0 2 0 0, .val (.int .i64 n)] [rdC T code p] = some (E 1 a, [rdC T code p', O a]) ∧ R n a ∧ okRd code p' ∧ p ≤ p' ∧ p' ≤ p + c
theorem drw2N_of {P : Program} {Γ : Ctx} (hm : P.follows .mixedOrders = true) {f : Nat} {fn : Func} {C : Code} (hΓ : SoundΓ P Γ) (hf : P.funcs[f]? = some fn) (hb : fn.body = some C) (N : Nat) (hN : fn.ntmps = N) (rs : List ResultVar) (hrs : fn.results.toList = rs) (hc : codeOk Γ true N C = true) (hN1 : 2 ≤ N)
    (T : Nat) (B c : Int) {α : Type} (E : Nat → α → PV) (O : α → CellIO) (D : Int → Prop) (R : Int → α → Prop)
    (h : ∀ code p n, okRd code p → p ≤ B → D n → pq P Γ N C (fun x s' => ∃ a p', R n a ∧ okRd code p' ∧ p ≤ p' ∧ p' ≤ p + c ∧ PostIO P rs 1 (E 1 a) [rdC T code p', O a] x s') (initS [.own 0 2 0 0, .val (.int .i64 n)]).tm (lo [(0, rdC T code p)]) 1) :
    ∃ Φ : FunIO, SoundIO P f Φ ∧ Drw2N T Φ B c E O D R := by
  obtain ⟨Φ, h1, h2⟩ := relIO_of_pqN hm hΓ hf hb N hN rs hrs hc
    (fun ps o => ∃ code p n, ps = [.own 0 2 0 0, .val (.int .i64 n)] ∧ o = rdC T code p ∧ okRd code p ∧ p ≤ B ∧ D n)
    (fun ps o r os' => ∃ code p n a p', ps = [.own 0 2 0 0, .val (.int .i64 n)] ∧ o = rdC T code p ∧ r = E 1 a ∧ os' = [rdC T code p', O a] ∧ R n a ∧ okRd code p' ∧ p ≤ p' ∧ p' ≤ p + c)
    (fun ps o ⟨code, p, n, e, _⟩ => by rw [e]; exact hN1) (fun ps o ⟨code, p, n, e1, e2, h3, h4, h5⟩ => by
      subst e1 e2
      refine pw_mono (fun x s' hx => ?_) _ _ (h code p n h3 h4 h5)
      obtain ⟨a, p', k1, k2, k3, k4, k5⟩ := hx
      exact ⟨E 1 a, [rdC T code p', O a], ⟨code, p, n, a, p', rfl, rfl, rfl, rfl, k1, k2, k3, k4⟩, k5⟩)
  refine ⟨Φ, h1, fun code p n h3 h4 h5 => ?_⟩
  obtain ⟨r, os', e, code', p1, n1, a, p', e0, e1, rfl, rfl, k1, k2, k3, k4⟩ := h2 _ _ ⟨code, p, n, rfl, rfl, h3, h4, h5⟩
  obtain ⟨rfl, rfl⟩ := rdC_inj e1
  have : n = n1 := by simpa using e0
  subst this
  exact ⟨a, p', e, k1, k2, k3, k4⟩
theorem inn_0o {o : Nat} : inn [0, o] 0 = some 0 := by simp [inn]
theorem inn_1o {o : Nat} (h : 0 < o) : inn [0, o] o = some 1 := by
  have h0 : ¬ (0 : Nat) = o := by omega
  have h1 : (0 == o) = false := by simpa using h0
  simp [inn, List.idxOf_cons, h1]
theorem inn_no {o x : Nat} (h : 0 < x) (h2 : x ≠ o) : inn [0, o] x = none := by
  have h0 : ¬ x = 0 := by omega
  simp [inn, h0, h2]
theorem outF_1n {o nx : Nat} : outF [o] nx 1 = some nx := by simp [outF, outn]
theorem handM_fuel {out : List Nat} {ob : Objs} {l : List PV} : l.mapM (handF out ob fuel) = l.mapM (handF out ob 8) := rfl
attribute [push_cast] handM_fuel inn_0o inn_1o inn_no outF_1n
section
variable {P : Program} {Γ : Ctx} {imm : Md} {N : Nat} {gs : List (Option Nat)} {l : List Oper} {Q : AS → Prop} {tm : Nat → PV} {ob : Objs} {nx T : Nat} {Φ : FunIO} {B c : Int} {α : Type} {E : Nat → α → PV} {O : α → CellIO}
theorem rd_evN {o : Nat} {code : List Int} {p p' : Int} {a : α} {qs : List PV} (hE : renF (outF [o] nx) fuel (E 1 a) = some (E nx a)) (hO : (O a).2.2.mapM (renF (outF [o] nx) fuel) = some (O a).2.2)
    (ho : ob o = some (rdC T code p)) (h : Φ qs [rdC T code p] = some (E 1 a, [rdC T code p', O a])) : ioOne Φ ob nx o qs (ob o) = some (E nx a, upd (upd ob o (some (rdC T code p'))) nx (some (O a)), nx + 1) := by
  have h1 : ∀ (nm : Nat → Option Nat) (q : Int), [PV.agg [.lst false 1 (code.map fun n => PV.val (.int .u8 n)), .val (.int .i64 q)]].mapM (renF nm fuel) = some [PV.agg [.lst false 1 (code.map fun n => PV.val (.int .u8 n)), .val (.int .i64 q)]] := fun nm q => by
    simp only [one_mapM, renS_fuel, renS_agg, mapM_cons', mapM_nil', renS_vals, renS_val, Option.bind_some, Option.map_some]
  rw [ho, ioOne_some, h1, Option.bind_some, h]
  unfold ioR
  simp only [hE, mapM_cons', mapM_nil', renC, h1, hO, Option.map_some, Option.bind_some]
  have e : O a = ((O a).1, (O a).2.1, (O a).2.2) := rfl
  simp only [List.length_cons, List.length_nil, Nat.zero_add, Nat.reduceAdd, Nat.reduceSub, Option.some.injEq, Prod.mk.injEq, true_and, and_true]
  show putObs ob [(outn [o] nx 0, _), (outn [o] nx 1, _)] = _
  simp only [putObs, outn, List.length_cons, List.length_nil, Nat.zero_add, Nat.lt_one_iff, if_true, Nat.one_ne_zero, if_false, Nat.sub_self, Nat.add_zero, List.getD_cons_zero]
theorem i_drw2N {D : Int → Prop} {R : Int → α → Prop} (hd : Drw2N T Φ B c E O D R) (hE : ∀ o nx a, renF (outF [o] nx) fuel (E 1 a) = some (E nx a)) (hO : ∀ nm a, (O a).2.2.mapM (renF nm fuel) = some (O a).2.2) {d f ty o : Nat} {x y : Operand} {ts : Array TypeId} {pos : String} {af : Array Edge} {code : List Int} {p n : Int} (hio : Γ.io f = some Φ) (hx : look tm x = .own o 2 0 0) (hy : look tm y = .val (.int .i64 n)) (ho : ob o = some (rdC T code p)) (hok : okRd code p) (hB : p ≤ B) (hD : D n)
    (he : effOk Γ imm nx (look tm) (.call { callee := .value (.func f), args := #[x, y], argTypes := ts }) = true)
    (hk : ∀ a p', R n a → okRd code p' → p ≤ p' → p' ≤ p + c → wq P Γ imm gs l Q (upd tm d (E nx a)) (upd (upd ob o (some (rdC T code p'))) nx (some (O a))) (nx + 1)) :
    wq P Γ imm gs ({ dst := some d, op := .call { callee := .value (.func f), args := #[x, y], argTypes := ts }, type := ty, pos := pos, after := af, guard := none } :: l) Q tm ob nx := by
  obtain ⟨a, p', h1, h2, h3, h4, h5⟩ := hd code p n hok hB hD
  refine i_E (by simp [isEff, calleeIO, hio]) he ?_ (hk a p' h2 h3 h4 h5)
  rw [ee_call, hio, ioGo_some]
  show ioEv Φ ob nx [look tm x, look tm y] = _
  rw [hx, hy, io_o2]
  exact rd_evN (hE o nx a) (hO _ a) ho h1
theorem i_end1N {rs : List ResultVar} {r : PV} {c1 c2 : CellIO} {x : X} (o : Nat) (h0 : 0 < o) (hx : x = .normal ∨ x = .ret) (h1 : ((resPs P ⟨tm, ob, nx⟩ rs).bind fun qs => handF [0, o] ob fuel (onePV qs)) = some r) (h2 : handC [0, o] ob fuel 0 = some c1) (h3 : handC [0, o] ob fuel o = some c2) : PostIO P rs 1 r [c1, c2] x ⟨tm, ob, nx⟩ :=
  ⟨hx, [o], fun b hb => by simp only [List.mem_singleton] at hb; omega, by simp, h1, by
    show [0, o].mapM (handC [0, o] ob fuel) = some [c1, c2]
    rw [mapM_cons', h2, Option.bind_some, mapM_cons', h3, Option.bind_some, mapM_nil']; rfl⟩
theorem i_fin1N {rs : List ResultVar} {R : α → Prop} {code : List Int} {p : Int} {a : α} {p' : Int} {x : X} (o : Nat) (h0 : 0 < o) (hx : x = .normal ∨ x = .ret)
    (h5 : handC [0, o] ob fuel o = some (O a)) (h4 : handC [0, o] ob fuel 0 = some (rdC T code p')) (h3 : ((resPs P ⟨tm, ob, nx⟩ rs).bind fun qs => handF [0, o] ob fuel (onePV qs)) = some (E 1 a)) (hR : R a) (ho : okRd code p') (h1 : p ≤ p') (h2 : p' ≤ p + c) :
    ∃ a p', R a ∧ okRd code p' ∧ p ≤ p' ∧ p' ≤ p + c ∧ PostIO P rs 1 (E 1 a) [rdC T code p', O a] x ⟨tm, ob, nx⟩ := ⟨a, p', hR, ho, h1, h2, i_end1N o h0 hx h3 h4 h5⟩
end
end Go.Proofs.YtenldjifipnjpaaDoor
