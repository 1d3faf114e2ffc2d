/- Contracts with objects: the callee's side: what a call changes in objects handed in, and new objects that it hands over. -/
import Derived.Test.YtenldjifipnjpaaDoorPxS
namespace Go.Proofs.YtenldjifipnjpaaDoor
open Go.RowKit
set_option linter.all false
def initIO (ps : List PV) (cs : List CellIO) : AS := { tm := fun t => (ps[t]?).getD (.val undef), ob := fun o => cs[o]?, nx := cs.length }
/-- What is handed over: objects named in out keep to be objects, by their place there; other memory is frozen. -/
def handF (out : List Nat) (ob : Objs) : Nat → PV → Option PV
  | 0, _ => none
  | n + 1, p => match p with
    | .val v => some (.val v)
    | .dead => some .dead
    | .lst k sz es => (es.mapM (handF out ob n)).map (.lst k sz)
    | .ptr k e o => (handF out ob n e).map (.ptr k · o)
    | .own o sz i f => match inn out o with
      | some o' => some (.own o' sz i f)
      | none => match ob o with
        | some (_, sz', es) => if sz = sz' then (es[i]?).bind fun e => (handF out ob n e).map (.ptr true · f) else none
        | none => none
    | .row o sz i m => match inn out o with
      | some o' => some (.row o' sz i m)
      | none => match ob o with
        | some (_, sz', es) => if sz = sz' ∧ i + m ≤ es.length then (((es.drop i).take m).mapM (handF out ob n)).map (.lst true sz) else none
        | none => none
    | .agg cs => (cs.mapM (handF out ob n)).map .agg
    | .tup cs => (cs.mapM (handF out ob n)).map .tup
def handC (out : List Nat) (ob : Objs) (f : Nat) (o : Nat) : Option CellIO := (ob o).bind fun c => (c.2.2.mapM (handF out ob f)).map fun es => (c.1, c.2.1, es)
theorem Rep.hand {out : List Nat} {ob : Objs} {g g' : Gh} {w : World} (hI : ∀ k b, g.I k b → g'.I k b) (ho : ∀ o o', inn out o = some o' → g'.β o' = g.β o ∧ g'.κ o' = g.κ o ∧ g'.D o')
    (hob : ∀ o c, ob o = some c → ObjAt g w o c) (hfz : ∀ o, (ob o).isSome → inn out o = none → g'.I true (g.β o)) :
    ∀ (f : Nat) (p q : PV) (v : Value), Rep g w p v → handF out ob f p = some q → Rep g' w q v
  | 0, p, q, v, h, hr => by simp [handF] at hr
  | f + 1, p, q, v, h, hr => by
    cases p with
    | val u => simp only [handF, Option.some.injEq] at hr; subst hr; simpa [Rep] using h
    | dead => simp only [handF, Option.some.injEq] at hr; subst hr; simp [Rep]
    | lst k sz es =>
      simp only [handF, Option.map_eq_some_iff] at hr
      obtain ⟨es', h1, rfl⟩ := hr
      have hl := (mapM_get h1).1
      simp only [Rep] at h ⊢
      obtain ⟨a, cap, rfl, h2, h3, h4⟩ := h
      refine ⟨a, cap, by rw [hl], by omega, h3, ?_⟩
      rcases h4 with rfl | ⟨b, off, rfl, h5, h6⟩
      · left; exact List.eq_nil_of_length_eq_zero (by simpa using hl)
      · right
        exact ⟨b, off, rfl, hI _ _ h5, RepEs.conv (g := g) (g' := g') (Rep.hand hI ho hob hfz f) h6 h1⟩
    | ptr k e o =>
      simp only [handF, Option.map_eq_some_iff] at hr
      obtain ⟨e', h1, rfl⟩ := hr
      simp only [Rep] at h ⊢
      obtain ⟨b, off, rfl, h2, u, h3, h4⟩ := h
      exact ⟨b, off, rfl, hI _ _ h2, u, Rep.hand hI ho hob hfz f e e' u h3 h1, h4⟩
    | own o sz i c =>
      simp only [handF] at hr
      split at hr
      · rename_i o' hm
        cases hr
        simp only [Rep] at h ⊢
        obtain ⟨e1, _, e3⟩ := ho o o' hm
        exact ⟨by rw [e1]; exact h.1, e3⟩
      · rename_i hm
        split at hr
        · rename_i T sz' es hoo
          split at hr
          case isFalse => cases hr
          case isTrue hsz =>
            subst hsz
            simp only [Option.bind_eq_some_iff, Option.map_eq_some_iff] at hr
            obtain ⟨e, he, e', h1, rfl⟩ := hr
            simp only [Rep] at h ⊢
            obtain ⟨rfl, hlt⟩ := h
            obtain ⟨u, h2, h3, h4⟩ := (hob o _ hoo).2.2.get he
            exact ⟨g.β o, i * sz, rfl, hfz o (by simp [hoo]) hm, u, Rep.hand hI ho hob hfz f e e' u h2 h1, by simpa using h3⟩
        · cases hr
    | row o sz i m =>
      simp only [handF] at hr
      split at hr
      · rename_i o' hm
        cases hr
        simp only [Rep] at h ⊢
        obtain ⟨c, h1, h2, h3, h4, h5⟩ := h
        obtain ⟨e1, e2, e3⟩ := ho o o' hm
        exact ⟨c, by rw [e1]; exact h1, h2, h3, by rw [e2]; exact h4, e3⟩
      · rename_i hm
        split at hr
        · rename_i T sz' es hoo
          split at hr
          case isFalse => cases hr
          case isTrue hsz =>
            obtain ⟨rfl, hle⟩ := hsz
            simp only [Option.map_eq_some_iff] at hr
            obtain ⟨es', h1, rfl⟩ := hr
            have hl := (mapM_get h1).1
            have hl2 : es'.length = m := by rw [hl]; simp; omega
            simp only [Rep] at h ⊢
            obtain ⟨c, rfl, h2, h3, h4, h5⟩ := h
            refine ⟨_, c, by rw [hl2], by omega, h3, .inr ⟨g.β o, i * sz, rfl, hfz o (by simp [hoo]) hm, ?_⟩⟩
            have := ((hob o _ hoo).2.2.drop i).take m
            exact RepEs.conv (g := g) (g' := g') (Rep.hand hI ho hob hfz f) (by simpa using this) h1
        · cases hr
    | agg cs =>
      simp only [handF, Option.map_eq_some_iff] at hr
      obtain ⟨cs', h1, rfl⟩ := hr
      simp only [Rep] at h ⊢
      obtain ⟨vs, rfl, h2⟩ := h
      exact ⟨vs, rfl, RepL.conv (g := g) (g' := g') (Rep.hand hI ho hob hfz f) h2 h1⟩
    | tup cs =>
      simp only [handF, Option.map_eq_some_iff] at hr
      obtain ⟨cs', h1, rfl⟩ := hr
      simp only [Rep] at h ⊢
      obtain ⟨vs, rfl, h2⟩ := h
      exact ⟨vs, rfl, RepL.conv (g := g) (g' := g') (Rep.hand hI ho hob hfz f) h2 h1⟩
section
variable {P : Program} {Γ : Ctx}
theorem soundIO_of_ev {f : Nat} {fn : Func} {c : Code} {Φ : FunIO} (hΓ : SoundΓ P Γ) (hf : P.funcs[f]? = some fn) (hb : fn.body = some c)
    (hlen : ∀ ps cs r, Φ ps cs = some r → ps.length ≤ fn.ntmps)
    (h : ∀ ps cs r cs', Φ ps cs = some (r, cs') → ∃ x s' qs out, Ev P Γ fn.ntmps c (initIO ps cs) x s' ∧ (x = .normal ∨ x = .ret) ∧ resPs P s' fn.results.toList = some qs ∧ handF out s'.ob fuel (onePV qs) = some r ∧
      cs.length ≤ out.length ∧ (∀ o : Nat, o < cs.length → out[o]? = some o) ∧ out.Nodup ∧ out.mapM (handC out s'.ob fuel) = some cs') : SoundIO P f Φ := by
  intro w J β κ ps cs args r cs' hr hJ hO hT hargs
  obtain ⟨x, s', qs, out, hev, hx, hres, hren, hol, hof, hond, hobs0⟩ := h ps cs r cs' hr
  have hsz : args.size = ps.length := by simpa using hargs.get.1
  have hle := hlen ps cs _ hr
  have hocs : cs'.length = out.length := (mapM_get hobs0).1
  have hobs : ∀ (i o : Nat), out[i]? = some o → ∃ T sz es es', s'.ob o = some (T, sz, es) ∧ es.mapM (handF out s'.ob fuel) = some es' ∧ cs'[i]? = some (T, sz, es') := fun i o hi => by
    obtain ⟨c1, h1, h2⟩ := (mapM_get hobs0).2 i o hi
    unfold handC at h2
    simp only [Option.bind_eq_some_iff, Option.map_eq_some_iff] at h2
    obtain ⟨⟨T, sz, es⟩, h3, es', h4, rfl⟩ := h2
    exact ⟨T, sz, es, es', h3, h4, h1⟩
  have hinit : Rel ⟨fun b => ∃ o, o < cs.length ∧ b = β o, J false, cs.length, β, κ, J true, fun _ => False⟩ w fn.ntmps (ghIO J β κ cs.length) (initIO ps cs) { tmps := args ++ Array.replicate (fn.ntmps - args.size) undef, defers := [] } w := by
    refine ⟨by simp; omega, rfl, fun t => ?_, fun o c ho => ?_, fun o o' ho ho' he => ?_, rfl, fun k b hi => hJ k b hi, fun b hi => .inr hi, Fr.refl _ _, fun b hi => hi, ⟨fun o ho => ⟨ho, fun q => q⟩, fun o ho => ⟨rfl, rfl⟩⟩, fun o ho => False.elim ho, hT⟩
    · simp only [initIO]
      cases hp : ps[t]? with
      | none =>
        have hge : ps.length ≤ t := by simpa using hp
        have : (args ++ Array.replicate (fn.ntmps - args.size) undef).getD t undef = undef := by
          simp only [Array.getD_eq_getD_getElem?]
          rw [Array.getElem?_append_right (by omega)]
          simp only [Array.getElem?_replicate]
          split <;> rfl
        rw [this]
        simp [Rep]
      | some p =>
        obtain ⟨v, hv, hrep⟩ := hargs.get.2 t p hp
        have hlt : t < args.size := by have := (List.getElem?_eq_some_iff.1 hp).1; omega
        have : (args ++ Array.replicate (fn.ntmps - args.size) undef).getD t undef = v := by
          simp only [Array.getD_eq_getD_getElem?]
          rw [Array.getElem?_append_left hlt]
          have : args[t]? = some v := by simpa using hv
          simp [this]
        rw [this]
        exact hrep
    · have hlt : o < cs.length := (List.getElem?_eq_some_iff.1 ho).1
      exact ⟨⟨hlt, fun q => q⟩, .inr ⟨o, hlt, rfl⟩, fun k hi => (hO.lt o hlt).2 k hi, hO.at_ o c ho⟩
    · have h1 : o < cs.length := by
        obtain ⟨c, hc⟩ := Option.isSome_iff_exists.1 ho
        exact (List.getElem?_eq_some_iff.1 hc).1
      have h2 : o' < cs.length := by
        obtain ⟨c, hc⟩ := Option.isSome_iff_exists.1 ho'
        exact (List.getElem?_eq_some_iff.1 hc).1
      exact hO.inj o o' h1 h2 he
  refine calls_of_wp hf hb (CWp.wp (hev.cwp hΓ (fun b hb => by obtain ⟨o, h1, rfl⟩ := hb; exact (hO.lt o h1).1) _ _ _ _ hinit fun g' a' w' hrel => ?_))
  have hsome : ∀ i o, out[i]? = some o → (s'.ob o).isSome := fun i o ho => by
    obtain ⟨T, sz, es, es', h1, _⟩ := hobs i o ho
    simp [h1]
  have hget : ∀ i, i < out.length → out[i]? = some (out.getD i 0) := fun i hi => by simp [hi]
  have hβ0 : ∀ o, o < cs.length → g'.β o = β o ∧ g'.κ o = κ o := fun o ho => hrel.fix.2 o ho
  have hinjO : ∀ i j, i < out.length → j < out.length → g'.β (out.getD i 0) = g'.β (out.getD j 0) → i = j := fun i j hi hj he => by
    have := hrel.inj _ _ (hsome i _ (hget i hi)) (hsome j _ (hget j hj)) he
    have e1 := hget i hi
    have e2 := hget j hj
    rw [this] at e1
    have e1 := e1.trans e2.symm
    exact (List.getElem?_inj hi hond).1 e1
  have hgof : ∀ o, o < cs.length → out.getD o 0 = o := fun o ho => by
    have := hof o ho
    simp [List.getD, this]
  have hinn : ∀ o1 o2, inn out o1 = some o2 → o2 < out.length ∧ out.getD o2 0 = o1 := fun o1 o2 hi => by
    unfold inn at hi
    split at hi
    · rename_i hm
      cases hi
      have hlt := List.idxOf_lt_length_of_mem hm
      exact ⟨hlt, by simp [List.getD, hlt]⟩
    · cases hi
  have hout : ∀ i, i < out.length → out.getD i 0 ∈ out := fun i hi => List.mem_of_getElem? (hget i hi)
  -- an object beyond the given ones lies in new memory
  have hnewO : ∀ o c, s'.ob o = some c → (∀ j, j < cs.length → o ≠ j) → w.heap.size ≤ g'.β o := fun o c ho hne => by
    rcases (hrel.ob _ _ ho).2.1 with k2 | ⟨j, k3, k4⟩
    · exact k2
    · exfalso
      rw [← (hβ0 j k3).1] at k4
      exact hne j k3 (hrel.inj _ _ (by rw [ho]; rfl) (hsome j j (hof j k3)) k4)
  have hnew : ∀ i, cs.length ≤ i → i < out.length → w.heap.size ≤ g'.β (out.getD i 0) := fun i h1 h2 => by
    obtain ⟨T, sz, es, es', k1, _⟩ := hobs i _ (hget i h2)
    refine hnewO _ _ k1 fun j hj he => ?_
    have e1 := hget i h2
    rw [he, ← hof j hj] at e1
    have := (List.getElem?_inj (by omega) hond).1 e1
    omega
  have hend : a'.defers = [] ∧ ∃ v, (results fn a'.tmps).run P w' = .ok v w' ∧ (∃ v' β' κ' M, Ending.returned v = .returned v' ∧ Fr (fun b => ∃ o, o < cs.length ∧ b = β o) w w' ∧ cs.length ≤ cs'.length ∧
      (∀ o, o < cs.length → β' o = β o ∧ κ' o = κ o) ∧ (∀ o, cs.length ≤ o → o < cs'.length → w.heap.size ≤ β' o) ∧ (∀ b, M b → w.heap.size ≤ b ∧ b < w'.heap.size) ∧
      ObjsIO (addN J M) w' β' κ' cs' ∧ Rep (ghIO (addN J M) β' κ' cs'.length) w' r v') := by
    obtain ⟨v, h1, h2⟩ := results_ok hrel hres
    let M : Nat → Prop := fun b => w.heap.size ≤ b ∧ b < w'.heap.size ∧ ∀ i, i < out.length → b ≠ g'.β (out.getD i 0)
    let G : Gh := ghIO (addN J M) (fun i => g'.β (out.getD i 0)) (fun i => g'.κ (out.getD i 0)) cs'.length
    have hI : ∀ k b, g'.I k b → G.I k b := fun k b hi => by
      cases k with
      | false => exact .inl (hrel.old b hi)
      | true =>
        rcases hrel.new b hi with hn | hn
        · refine .inr ⟨rfl, hn.1, hrel.lt true b hi, fun i hil he => ?_⟩
          obtain ⟨T, sz, es, es', k1, _⟩ := hobs i _ (hget i hil)
          exact (hrel.ob _ _ k1).2.2.1 true (he ▸ hi)
        · exact .inl hn
    have hom : ∀ o o', inn out o = some o' → G.β o' = g'.β o ∧ G.κ o' = g'.κ o ∧ G.D o' := fun o o' ho => by
      obtain ⟨k1, k2⟩ := hinn o o' ho
      exact ⟨by simp only [G, ghIO, k2], by simp only [G, ghIO, k2], ⟨by simp only [G, ghIO]; omega, fun q => q⟩⟩
    have hfz : ∀ o, (s'.ob o).isSome → inn out o = none → G.I true (g'.β o) := fun o ho hn => by
      obtain ⟨c, hc⟩ := Option.isSome_iff_exists.1 ho
      have hno : o ∉ out := fun hm => by simp [inn, hm] at hn
      obtain ⟨arr, m1, _⟩ := (hrel.ob _ _ hc).2.2.2.1
      refine .inr ⟨rfl, hnewO o c hc fun j hj he => hno (he ▸ List.mem_of_getElem? (hof j hj)), lt_of_heap m1, fun i hi he => hno ?_⟩
      rw [hrel.inj o _ (by rw [hc]; rfl) (hsome i _ (hget i hi)) he]
      exact hout i hi
    have hobA : ∀ o c, s'.ob o = some c → ObjAt g' w' o c := fun o c ho => (hrel.ob o c ho).2.2.2
    refine ⟨hrel.df, v, h1, v, fun i => g'.β (out.getD i 0), fun i => g'.κ (out.getD i 0), M, rfl, hrel.fr, by omega, fun o ho => by dsimp only; rw [hgof o ho]; exact hβ0 o ho, fun o h3 h4 => hnew o h3 (by omega), fun b hb => ⟨hb.1, hb.2.1⟩, ⟨fun o ho => ?_, fun o o' ho ho' he => hinjO o o' (by omega) (by omega) he, fun o c hc => ?_⟩, Rep.hand (g := g') (g' := G) hI hom hobA hfz fuel _ _ _ h2 hren⟩
    · obtain ⟨T, sz, es, es', k1, _⟩ := hobs o _ (hget o (by omega))
      obtain ⟨_, _, k3, ⟨arr, k4, _⟩, _⟩ := hrel.ob _ _ k1
      refine ⟨lt_of_heap k4, fun k hj => ?_⟩
      rcases hj with hj | ⟨_, hj⟩
      · by_cases hoc : o < cs.length
        · rw [hgof o hoc, (hβ0 o hoc).1] at hj
          exact (hO.lt o hoc).2 k hj
        · have := hnew o (by omega) (by omega)
          have := hJ _ _ hj
          omega
      · exact hj.2.2 o (by omega) rfl
    · have ho : o < cs'.length := (List.getElem?_eq_some_iff.1 hc).1
      obtain ⟨T, sz, es, es', k1, k2, k3⟩ := hobs o _ (hget o (by omega))
      rw [k3] at hc
      cases hc
      obtain ⟨_, _, _, ⟨arr, m1, m2⟩, m3, m4⟩ := hrel.ob _ _ k1
      have hl := (mapM_get k2).1
      exact ⟨⟨arr, m1, m2⟩, by rw [hl]; exact m3, RepEs.conv (g := g') (g' := G) (Rep.hand (g := g') (g' := G) hI hom hobA hfz fuel) m4 k2⟩
  rcases hx with rfl | rfl <;> exact hend
end
/-- The end of a function with objects: m were handed in; news: the numbers of those handed over. -/
def PostIO (P : Program) (rs : List ResultVar) (m : Nat) (r : PV) (cs' : List CellIO) : X → AS → Prop := fun x s' => (x = .normal ∨ x = .ret) ∧ ∃ news : List Nat, (∀ o ∈ news, m ≤ o) ∧ news.Nodup ∧
  ((resPs P s' rs).bind fun qs => handF (List.range m ++ news) s'.ob fuel (onePV qs)) = some r ∧ (List.range m ++ news).mapM (handC (List.range m ++ news) s'.ob fuel) = some cs'
theorem sound_pqIO {P : Program} {Γ : Ctx} (hm : P.follows .mixedOrders = true) {f : Nat} {fn : Func} {c : Code} {Φ : FunIO} (hΓ : SoundΓ P Γ) (hf : P.funcs[f]? = some fn) (hb : fn.body = some c) (N : Nat) (hN : fn.ntmps = N) (rs : List ResultVar) (hrs : fn.results.toList = rs) (hc : codeOk Γ true N c = true)
    (h : ∀ ps cs r cs', Φ ps cs = some (r, cs') → ps.length ≤ N ∧ pq P Γ N c (PostIO P rs cs.length r cs') (initIO ps cs).tm (fun o => cs[o]?) cs.length) : SoundIO P f Φ := by
  subst hN hrs
  refine soundIO_of_ev hΓ hf hb (fun ps cs r hr => (h ps cs r.1 r.2 hr).1) fun ps cs r cs' hr => ?_
  obtain ⟨x, s', h1, h2, news, h3, h4, h5, h6⟩ := pw_ok (mixed := true) (fun _ => hm) c _ _ hc (h ps cs r cs' hr).2
  rw [Option.bind_eq_some_iff] at h5
  obtain ⟨qs, h8, h9⟩ := h5
  refine ⟨x, s', qs, List.range cs.length ++ news, h1, h2, h8, h9, by simp, fun o ho => ?_, ?_, h6⟩
  · rw [List.getElem?_append_left (by simpa using ho), List.getElem?_range ho]
  · rw [List.nodup_append]
    exact ⟨List.nodup_range, h4, fun a ha b hb e => by
      have := h3 b hb
      have := List.mem_range.1 ha
      omega⟩
end Go.Proofs.YtenldjifipnjpaaDoor
