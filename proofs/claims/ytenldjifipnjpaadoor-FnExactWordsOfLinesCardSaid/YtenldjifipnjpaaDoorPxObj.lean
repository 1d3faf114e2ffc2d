/- Functions that hand over objects of their own: how a caller meets them, with rows of its own among the arguments or without. -/
import Derived.Test.YtenldjifipnjpaaDoorPxLib
import Derived.Test.YtenldjifipnjpaaDoorPxX
namespace Go.Proofs.YtenldjifipnjpaaDoor
open Go.RowKit
set_option linter.all false
/-- Without objects among the arguments: what is handed over, and the objects behind it. -/
abbrev FunN := List PV → Option (PV × List CellIO)
def SoundN (P : Program) (f : Nat) (Ψ : FunN) : Prop := SoundIO P f fun ps cs => if cs = [] then Ψ ps else none
/-- Other numbers for the objects; nothing old is spoken of. -/
def renT (nm : Nat → Nat) : Nat → PV → Option PV
  | 0, _ => none
  | n + 1, p => match p with
    | .val v => some (.val v)
    | .dead => some .dead
    | .lst k sz es => if k = false ∧ es ≠ [] then none else (es.mapM (renT nm n)).map (.lst k sz)
    | .ptr k e o => if k = false then none else (renT nm n e).map (.ptr k · o)
    | .own o sz i f => some (.own (nm o) sz i f)
    | .row o sz i m => some (.row (nm o) sz i m)
    | .agg cs => (cs.mapM (renT nm n)).map .agg
    | .tup cs => (cs.mapM (renT nm n)).map .tup
theorem Rep.renT {nm : Nat → Nat} {g g' : Gh} {w : World} (hI : ∀ b, g.I true b → g'.I true b) (ho : ∀ o, g.D o → g'.β (nm o) = g.β o ∧ g'.κ (nm o) = g.κ o ∧ g'.D (nm o)) :
    ∀ (f : Nat) (p q : PV) (v : Value), Rep g w p v → Proofs.YtenldjifipnjpaaDoor.renT nm f p = some q → Rep g' w q v
  | 0, p, q, v, h, hr => by simp [Proofs.YtenldjifipnjpaaDoor.renT] at hr
  | f + 1, p, q, v, h, hr => by
    cases p with
    | val u => simp only [Proofs.YtenldjifipnjpaaDoor.renT, Option.some.injEq] at hr; subst hr; simpa [Rep] using h
    | dead => simp only [Proofs.YtenldjifipnjpaaDoor.renT, Option.some.injEq] at hr; subst hr; simp [Rep]
    | lst k sz es =>
      simp only [Proofs.YtenldjifipnjpaaDoor.renT] at hr
      split at hr
      · cases hr
      · rename_i hk
        simp only [Option.map_eq_some_iff] at hr
        obtain ⟨es', h1, rfl⟩ := hr
        have hl := (mapM_get h1).1
        simp only [Rep] at h ⊢
        obtain ⟨a, cap, rfl, h2, h3, h4⟩ := h
        refine ⟨a, cap, by rw [hl], by omega, h3, ?_⟩
        rcases h4 with rfl | ⟨b, off, rfl, h5, h6⟩
        · left; exact List.eq_nil_of_length_eq_zero (by simpa using hl)
        · by_cases hnil : es = []
          · left; subst hnil; exact List.eq_nil_of_length_eq_zero (by simpa using hl)
          · right
            cases k with
            | false => simp [hnil] at hk
            | true => exact ⟨b, off, rfl, hI _ h5, RepEs.conv (g := g) (g' := g') (Rep.renT hI ho f) h6 h1⟩
    | ptr k e o =>
      simp only [Proofs.YtenldjifipnjpaaDoor.renT] at hr
      split at hr
      · cases hr
      · rename_i hk
        simp only [Option.map_eq_some_iff] at hr
        obtain ⟨e', h1, rfl⟩ := hr
        simp only [Rep] at h ⊢
        obtain ⟨b, off, rfl, h2, u, h3, h4⟩ := h
        cases k with
        | false => simp at hk
        | true => exact ⟨b, off, rfl, hI _ h2, u, Rep.renT hI ho f e e' u h3 h1, h4⟩
    | own o sz i f' =>
      simp only [Proofs.YtenldjifipnjpaaDoor.renT, Option.some.injEq] at hr
      subst hr
      simp only [Rep] at h ⊢
      obtain ⟨e1, _, e3⟩ := ho o h.2
      exact ⟨by rw [e1]; exact h.1, e3⟩
    | row o sz i m =>
      simp only [Proofs.YtenldjifipnjpaaDoor.renT, Option.some.injEq] at hr
      subst hr
      simp only [Rep] at h ⊢
      obtain ⟨c, h1, h2, h3, h4, h5⟩ := h
      obtain ⟨e1, e2, e3⟩ := ho o h5
      exact ⟨c, by rw [e1]; exact h1, h2, h3, by rw [e2]; exact h4, e3⟩
    | agg cs =>
      simp only [Proofs.YtenldjifipnjpaaDoor.renT, Option.map_eq_some_iff] at hr
      obtain ⟨cs', h1, rfl⟩ := hr
      simp only [Rep] at h ⊢
      obtain ⟨vs, rfl, h2⟩ := h
      exact ⟨vs, rfl, RepL.conv (g := g) (g' := g') (Rep.renT hI ho f) h2 h1⟩
    | tup cs =>
      simp only [Proofs.YtenldjifipnjpaaDoor.renT, Option.map_eq_some_iff] at hr
      obtain ⟨cs', h1, rfl⟩ := hr
      simp only [Rep] at h ⊢
      obtain ⟨vs, rfl, h2⟩ := h
      exact ⟨vs, rfl, RepL.conv (g := g) (g' := g') (Rep.renT hI ho f) h2 h1⟩
def renCT (nm : Nat → Nat) (f : Nat) (c : CellIO) : Option CellIO := (c.2.2.mapM (renT nm f)).map fun es => (c.1, c.2.1, es)
def liftN (Ψ : FunN) : FunIO := fun ps cs => (ps.mapM (reify false 0 (fun o => cs[o]?) fuel)).bind fun qs => (Ψ qs).bind fun rc => (renT (cs.length + ·) fuel rc.1).bind fun r => (rc.2.mapM (renCT (cs.length + ·) fuel)).map fun cs' => (r, cs ++ cs')
theorem SoundN.lift {P : Program} {f : Nat} {Ψ : FunN} (h : SoundN P f Ψ) : SoundIO P f (liftN Ψ) := by
  intro w J β κ ps cs args r cs2 hr hJ hO hT hargs
  unfold liftN at hr
  simp only [Option.bind_eq_some_iff, Option.map_eq_some_iff] at hr
  obtain ⟨qs, h1, ⟨r0, cs0⟩, h2, r1, h3, cs1, h4, h5⟩ := hr
  simp only [Prod.mk.injEq] at h5
  obtain ⟨rfl, rfl⟩ := h5
  dsimp only at h3 h4
  let n := cs.length
  let J' : Bool → Nat → Prop := fun k b => k = false ∧ ((∃ k', J k' b) ∨ ∃ o, o < n ∧ b = β o)
  have hJ' : ∀ k b, J' k b → b < w.heap.size := fun k b hb => by
    rcases hb.2 with ⟨k', hk⟩ | ⟨o, ho, rfl⟩
    · exact hJ k' b hk
    · exact (hO.lt o ho).1
  have hargs' : RepL (ghIO J' (fun _ => 0) (fun _ => 0) 0) w qs args.toList := by
    refine RepL.conv (g := ghIO J β κ n) (g' := ghIO J' (fun _ => 0) (fun _ => 0) 0) (Rep.seen (fr := false) (n := 0) (s := initIO ps cs) (g := ghIO J β κ n) (g' := ghIO J' (fun _ => 0) (fun _ => 0) 0) (fun o c ho => hO.at_ o c ho) ⟨fun _ => ⟨fun k b hb => ⟨rfl, .inl ⟨k, hb⟩⟩, fun o ho => ?_⟩, fun e => by cases e⟩ fuel) hargs h1
    obtain ⟨c, hc⟩ := Option.isSome_iff_exists.1 ho
    exact ⟨rfl, .inr ⟨o, (List.getElem?_eq_some_iff.1 hc).1, rfl⟩⟩
  have hO' : ObjsIO J' w (fun _ => 0) (fun _ => 0) [] := ⟨fun o ho => by simp at ho, fun o o' ho => by simp at ho, fun o c ho => by simp at ho⟩
  refine (h w J' (fun _ => 0) (fun _ => 0) qs [] args r0 cs0 (by simpa using h2) hJ' hO' (hT.io fun t _ ⟨o, ho, _⟩ => by simp at ho) hargs').mono ?_
  rintro e w' ⟨v, β', κ', M, rfl, hfr, _, _, hnew, hM, hO2, hrep⟩
  have hfr' : ∀ b, b < w.heap.size → w'.heap[b]? = w.heap[b]? := fun b hb => hfr.block b hb (fun ⟨o, ho, _⟩ => by simp at ho)
  have hl1 := (mapM_get h4).1
  let β2 : Nat → Nat := fun o => if o < n then β o else β' (o - n)
  let κ2 : Nat → Nat := fun o => if o < n then κ o else κ' (o - n)
  have hTI : ∀ b, (ghIO (addN J' M) β' κ' cs0.length).I true b → (ghIO (addN J M) β2 κ2 (cs ++ cs1).length).I true b := fun b hb => by
    rcases hb with ⟨h6, _⟩ | ⟨_, h6⟩
    · cases h6
    · exact .inr ⟨rfl, h6⟩
  have hTo : ∀ o, (ghIO (addN J' M) β' κ' cs0.length).D o → (ghIO (addN J M) β2 κ2 (cs ++ cs1).length).β (n + o) = (ghIO (addN J' M) β' κ' cs0.length).β o ∧ (ghIO (addN J M) β2 κ2 (cs ++ cs1).length).κ (n + o) = (ghIO (addN J' M) β' κ' cs0.length).κ o ∧ (ghIO (addN J M) β2 κ2 (cs ++ cs1).length).D (n + o) := fun o ho => by
    have h6 : o < cs0.length := ho.1
    refine ⟨?_, ?_, ⟨?_, fun q => q⟩⟩
    · simp only [ghIO, β2]; rw [if_neg (by omega)]; congr 1; omega
    · simp only [ghIO, κ2]; rw [if_neg (by omega)]; congr 1; omega
    · simp only [ghIO, List.length_append]; omega
  have hblk : ∀ i, i < cs0.length → w.heap.size ≤ β' i ∧ β' i < w'.heap.size ∧ ∀ k, ¬ addN J' M k (β' i) := fun i hi => ⟨hnew i (Nat.zero_le _) hi, (hO2.lt i hi).1, (hO2.lt i hi).2⟩
  refine ⟨v, β2, κ2, M, rfl, ⟨hfr.os, hfr.tape, hfr.output, hfr.size, fun b hb _ => hfr' b hb⟩, by simp, fun o ho => ⟨by simp only [β2]; rw [if_pos ho], by simp only [κ2]; rw [if_pos ho]⟩, fun o h6 h7 => ?_, hM, ⟨fun o ho => ?_, fun o o' ho ho' he => ?_, fun o c hc => ?_⟩, Rep.renT (g := ghIO (addN J' M) β' κ' cs0.length) hTI hTo fuel _ _ _ hrep h3⟩
  · simp only [β2]
    rw [if_neg (by omega)]
    rw [List.length_append] at h7
    exact (hblk (o - n) (by omega)).1
  · rw [List.length_append] at ho
    simp only [β2]
    split
    · rename_i hlt
      refine ⟨Nat.lt_of_lt_of_le (hO.lt o hlt).1 hfr.size, fun k hb => ?_⟩
      rcases hb with hb | ⟨_, hb⟩
      · exact (hO.lt o hlt).2 k hb
      · have := (hM _ hb).1
        have := (hO.lt o hlt).1
        omega
    · rename_i hlt
      obtain ⟨k1, k2, k3⟩ := hblk (o - n) (by omega)
      refine ⟨k2, fun k hb => ?_⟩
      rcases hb with hb | ⟨hk, hb⟩
      · have := hJ k _ hb
        omega
      · exact k3 true (.inr ⟨rfl, hb⟩)
  · rw [List.length_append] at ho ho'
    simp only [β2] at he
    split at he
    · rename_i hlt
      split at he
      · rename_i hlt'
        exact hO.inj o o' hlt hlt' he
      · rename_i hlt'
        have := (hblk (o' - n) (by omega)).1
        have := (hO.lt o hlt).1
        omega
    · rename_i hlt
      split at he
      · rename_i hlt'
        have := (hblk (o - n) (by omega)).1
        have := (hO.lt o' hlt').1
        omega
      · rename_i hlt'
        have := hO2.inj (o - n) (o' - n) (by omega) (by omega) he
        omega
  · by_cases hlt : o < n
    · have hc0 : cs[o]? = some c := by rwa [List.getElem?_append_left hlt] at hc
      have h6 := hO.at_ o c hc0
      refine h6.mono (g := ghIO J β κ n) (g' := ghIO (addN J M) β2 κ2 (cs ++ cs1).length) ⟨fun k b hb => .inl hb, fun o1 ho1 => ⟨?_, fun q => q⟩, fun o1 ho1 => ?_, fun o1 ho1 => ?_⟩ ⟨hlt, fun q => q⟩ (fun k b hb => hfr' b (hJ k b hb)) (hfr' _ (hO.lt o hlt).1)
      · have h7 : o1 < n := ho1.1
        simp only [ghIO, List.length_append]; omega
      · have h7 : o1 < n := ho1.1
        simp only [ghIO, β2]; rw [if_pos h7]
      · have h7 : o1 < n := ho1.1
        simp only [ghIO, κ2]; rw [if_pos h7]
    · have hc1 : cs1[o - n]? = some c := by rwa [List.getElem?_append_right (by omega)] at hc
      obtain ⟨c0, hc0, hrc⟩ := mapM_at h4 hc1
      obtain ⟨⟨arr, m1, m2⟩, m3, m4⟩ := hO2.at_ (o - n) c0 hc0
      unfold renCT at hrc
      rw [Option.map_eq_some_iff] at hrc
      obtain ⟨es, h6, rfl⟩ := hrc
      have hl := (mapM_get h6).1
      have e1 : β2 o = β' (o - n) := by simp only [β2]; rw [if_neg hlt]
      have e2 : κ2 o = κ' (o - n) := by simp only [κ2]; rw [if_neg hlt]
      refine ⟨⟨arr, by simp only [ghIO, e1]; exact m1, by simp only [ghIO, e2]; exact m2⟩, by simp only [ghIO, e2, hl]; exact m3, ?_⟩
      simp only [ghIO, e1]
      exact RepEs.conv (g := ghIO (addN J' M) β' κ' cs0.length) (g' := ghIO (addN J M) β2 κ2 (cs ++ cs1).length) (Rep.renT (g := ghIO (addN J' M) β' κ' cs0.length) hTI hTo fuel) m4 h6
def pureN (Ψ : FunN) : Fun := fun ps => (Ψ ps).bind fun rc => reify true 0 (fun o => rc.2[o]?) fuel rc.1
theorem SoundN.pure {P : Program} {f : Nat} {Ψ : FunN} (h : SoundN P f Ψ) : Sound P f (pureN Ψ) := by
  intro w J ps args r hr hJ hT hargs
  unfold pureN at hr
  simp only [Option.bind_eq_some_iff] at hr
  obtain ⟨⟨r0, cs0⟩, h2, h3⟩ := hr
  dsimp only at h3
  let J' : Bool → Nat → Prop := fun k b => k = false ∧ J b
  have hO' : ObjsIO J' w (fun _ => 0) (fun _ => 0) [] := ⟨fun o ho => by simp at ho, fun o o' ho => by simp at ho, fun o c ho => by simp at ho⟩
  refine (h w J' (fun _ => 0) (fun _ => 0) ps [] args r0 cs0 (by simpa using h2) (fun k b hb => hJ b hb.2) hO' (hT.io fun t _ ⟨o, ho, _⟩ => by simp at ho) hargs).mono ?_
  rintro e w' ⟨v, β', κ', M, rfl, hfr, _, _, hnew, hM, hO2, hrep⟩
  refine ⟨v, rfl, ⟨hfr.os, hfr.tape, hfr.output, hfr.size, fun b hb => hfr.block b hb (fun ⟨o, ho, _⟩ => by simp at ho)⟩, fun g' hg => ?_⟩
  refine Rep.seen (fr := true) (n := 0) (s := initIO ps cs0) (g := ghIO (addN J' M) β' κ' cs0.length) (g' := g') (fun o c ho => hO2.at_ o c ho) ⟨fun e => (by cases e), fun _ => ⟨fun b hb => ?_, fun o ho _ => ?_⟩⟩ fuel _ _ _ hrep h3
  · rcases hb with ⟨h6, _⟩ | ⟨_, h6⟩
    · cases h6
    · exact hg b (hM b h6).1 (hM b h6).2
  · obtain ⟨c, hc⟩ := Option.isSome_iff_exists.1 ho
    have hlt := (List.getElem?_eq_some_iff.1 hc).1
    exact hg _ (hnew o (Nat.zero_le _) hlt) (hO2.lt o hlt).1
theorem SoundN.io {P : Program} {f : Nat} {Ψ : FunN} (h : SoundN P f Ψ) : SoundIO P f fun ps cs => if cs = [] then Ψ ps else none := h
section
variable {P : Program} {Γ : Ctx}
theorem sound_pqN (hm : P.follows .mixedOrders = true) {f : Nat} {fn : Func} {c : Code} {Ψ : FunN} (hΓ : SoundΓ P Γ) (hf : P.funcs[f]? = some fn) (hb : fn.body = some c) (N : Nat) (hN : fn.ntmps = N) (rs : List ResultVar) (hrs : fn.results.toList = rs) (hc : codeOk Γ true N c = true)
    (h : ∀ ps r cs', Ψ ps = some (r, cs') → ps.length ≤ N ∧ pq P Γ N c (PostIO P rs 0 r cs') (initS ps).tm noObs 0) : SoundN P f Ψ := by
  refine sound_pq0 hm hΓ hf hb N hN rs hrs hc fun ps cs r cs' hr => ?_
  split at hr
  · rename_i hcs
    exact ⟨hcs, h ps r cs' hr⟩
  · cases hr
end
/-! How arguments are read, for any answer. -/
section
variable {α β γ δ ρ : Type} {A : Dec α} {B : Dec β} {C : Dec γ} {D : Dec δ} {ps : List PV} {r : ρ}
def G1 (A : Dec α) (F : α → Option ρ) (ps : List PV) : Option ρ := match ps with | [p] => (A.d p).bind F | _ => none
def G2 (A : Dec α) (B : Dec β) (F : α → β → Option ρ) (ps : List PV) : Option ρ := match ps with | [p, q] => (A.d p).bind fun a => (B.d q).bind fun b => F a b | _ => none
def G3 (A : Dec α) (B : Dec β) (C : Dec γ) (F : α → β → γ → Option ρ) (ps : List PV) : Option ρ := match ps with | [p, q, r] => (A.d p).bind fun a => (B.d q).bind fun b => (C.d r).bind fun c => F a b c | _ => none
def G4 (A : Dec α) (B : Dec β) (C : Dec γ) (D : Dec δ) (F : α → β → γ → δ → Option ρ) (ps : List PV) : Option ρ := match ps with | [p, q, r, s] => (A.d p).bind fun a => (B.d q).bind fun b => (C.d r).bind fun c => (D.d s).bind fun d => F a b c d | _ => none
theorem G1_some {F : α → Option ρ} (h : G1 A F ps = some r) : ∃ a, ps = [A.e a] ∧ F a = some r := by
  unfold G1 at h
  split at h
  · rw [Option.bind_eq_some_iff] at h
    obtain ⟨a, h1, h2⟩ := h
    exact ⟨a, by rw [A.h _ _ h1], h2⟩
  · cases h
theorem G2_some {F : α → β → Option ρ} (h : G2 A B F ps = some r) : ∃ a b, ps = [A.e a, B.e b] ∧ F a b = some r := by
  unfold G2 at h
  split at h
  · simp only [Option.bind_eq_some_iff] at h
    obtain ⟨a, h1, b, h2, h3⟩ := h
    exact ⟨a, b, by rw [A.h _ _ h1, B.h _ _ h2], h3⟩
  · cases h
theorem G3_some {F : α → β → γ → Option ρ} (h : G3 A B C F ps = some r) : ∃ a b c, ps = [A.e a, B.e b, C.e c] ∧ F a b c = some r := by
  unfold G3 at h
  split at h
  · simp only [Option.bind_eq_some_iff] at h
    obtain ⟨a, h1, b, h2, c, h3, h4⟩ := h
    exact ⟨a, b, c, by rw [A.h _ _ h1, B.h _ _ h2, C.h _ _ h3], h4⟩
  · cases h
theorem G4_some {F : α → β → γ → δ → Option ρ} (h : G4 A B C D F ps = some r) : ∃ a b c d, ps = [A.e a, B.e b, C.e c, D.e d] ∧ F a b c d = some r := by
  unfold G4 at h
  split at h
  · simp only [Option.bind_eq_some_iff] at h
    obtain ⟨a, h1, b, h2, c, h3, d, h4, h5⟩ := h
    exact ⟨a, b, c, d, by rw [A.h _ _ h1, B.h _ _ h2, C.h _ _ h3, D.h _ _ h4], h5⟩
  · cases h
theorem G1_ap {F : α → Option ρ} (a : α) : G1 A F [A.e a] = F a := by simp [G1, A.h']
theorem G2_ap {F : α → β → Option ρ} (a : α) (b : β) : G2 A B F [A.e a, B.e b] = F a b := by simp [G2, A.h', B.h']
theorem G3_ap {F : α → β → γ → Option ρ} (a : α) (b : β) (c : γ) : G3 A B C F [A.e a, B.e b, C.e c] = F a b c := by simp [G3, A.h', B.h', C.h']
theorem G4_ap {F : α → β → γ → δ → Option ρ} (a : α) (b : β) (c : γ) (d : δ) : G4 A B C D F [A.e a, B.e b, C.e c, D.e d] = F a b c d := by simp [G4, A.h', B.h', C.h', D.h']
end
/-- The objects behind a row that may be nil. -/
def nC (T sz : Nat) (es : List PV) : List CellIO := match es with | [] => [] | _ :: _ => [(T, sz, es)]
theorem nC_nil {T sz : Nat} : nC T sz [] = [] := rfl
theorem nC_pos {T sz : Nat} {es : List PV} (h : 0 < es.length) : nC T sz es = [(T, sz, es)] := by
  cases es with
  | nil => simp at h
  | cons e es => rfl
/-! The calls of lifted functions, by what they are told. -/
section
variable {Ψ : FunN} {α : Type} {g : α → Value} {l : List α} {T sz : Nat}
theorem liftN_of {ps qs : List PV} {cs cs0 cs1 : List CellIO} {r r1 : PV} (h1 : ps.mapM (reify false 0 (fun o => cs[o]?) fuel) = some qs) (h2 : Ψ qs = some (r, cs0)) (h3 : renT (cs.length + ·) fuel r = some r1) (h4 : cs0.mapM (renCT (cs.length + ·) fuel) = some cs1) : liftN Ψ ps cs = some (r1, cs ++ cs1) := by
  unfold liftN
  rw [h1, Option.bind_some, h2, Option.bind_some]
  dsimp only
  rw [h3, Option.bind_some, h4]
  rfl
theorem pureN_of {ps : List PV} {cs0 : List CellIO} {r r1 : PV} (h2 : Ψ ps = some (r, cs0)) (h3 : reify true 0 (fun o => cs0[o]?) fuel r = some r1) : pureN Ψ ps = some r1 := by
  unfold pureN
  rw [h2, Option.bind_some, h3]
theorem renT_flat {nm : Nat → Nat} : ∀ {f : Nat} {p : PV}, flatP f p = true → renT nm f p = some p
  | 0, _, h => by simp [flatP] at h
  | f + 1, p, h => by
    cases p with
    | val v => rfl
    | dead => rfl
    | agg cs =>
      have h2 : ∀ c ∈ cs, flatP f c = true := by simpa [flatP] using h
      simp only [Proofs.YtenldjifipnjpaaDoor.renT]
      rw [mapM_self fun c hc => renT_flat (h2 c hc)]
      rfl
    | _ => simp [flatP] at h
theorem renTM_flat {β : Type} {nm : Nat → Nat} {f : Nat} {g : β → PV} {l : List β} (h : ∀ x, flatP 2 (g x) = true) : (l.map g).mapM (renT nm (f + 2)) = some (l.map g) :=
  mapM_self fun e he => by obtain ⟨x, _, rfl⟩ := List.mem_map.1 he; exact renT_flat (flatP_mono (by omega) (h x))
theorem renCT_vals {nm : Nat → Nat} : renCT nm fuel (T, sz, l.map fun x => PV.val (g x)) = some (T, sz, l.map fun x => PV.val (g x)) := by
  unfold renCT
  show ((l.map fun x => PV.val (g x)).mapM (renT nm (6 + 2))).map _ = _
  rw [renTM_flat fun _ => rfl]
  rfl
theorem reify_row {ob : Objs} {o : Nat} (h : ob o = some (T, sz, l.map fun x => PV.val (g x))) : reify false 0 ob fuel (.row o sz 0 l.length) = some (.lst false sz (l.map fun x => PV.val (g x))) := by
  simp only [reify_fuel, reifyS_row, h, Bool.false_eq_true, false_and, if_false, rowRe_vals]
/-- Two objects behind the call: the one that was handed in, a new one. -/
theorem ioR_two {ob : Objs} {nx o T T2 sz sz2 : Nat} {es es2 : List PV} {r : PV} : ioR [o] ob nx (some (r, [(T, sz, es), (T2, sz2, es2)])) = (renF (outF [o] nx) fuel r).bind fun r' => (es.mapM (renF (outF [o] nx) fuel)).bind fun es' => (es2.mapM (renF (outF [o] nx) fuel)).map fun es2' => (r', upd (upd ob o (some (T, sz, es'))) nx (some (T2, sz2, es2')), nx + 1) := by
  unfold ioR
  simp only [mapM_cons', mapM_nil', renC]
  cases renF (outF [o] nx) fuel r with
  | none => rfl
  | some r' =>
    cases es.mapM (renF (outF [o] nx) fuel) with
    | none => rfl
    | some es' =>
      cases es2.mapM (renF (outF [o] nx) fuel) with
      | none => rfl
      | some es2' => 
        simp only [Option.map_some, Option.bind_some, List.length_cons, List.length_nil, Nat.zero_add, Nat.reduceAdd, Nat.reduceSub, Option.some.injEq, Prod.mk.injEq, true_and, and_true]
        show putObs ob [(outn [o] nx 0, _), (outn [o] nx 1, _)] = _
        simp only [putObs, outn, List.length_cons, List.length_nil, Nat.zero_add, Nat.lt_one_iff, if_true, Nat.one_ne_zero, if_false, Nat.sub_self, Nat.add_zero, List.getD_cons_zero]
end
theorem renM_fuel {nm : Nat → Option Nat} {l : List PV} : l.mapM (renF nm fuel) = l.mapM (renF nm 8) := rfl
attribute [push_cast] ioR_two renM_fuel
section
variable {P : Program} {Γ : Ctx}
/-- A function with objects answers as R says, wherever the walk shows it. -/
theorem relIO_any (hm : P.follows .mixedOrders = true) {f : Nat} {fn : Func} {c : Code} (hΓ : SoundΓ P Γ) (hf : P.funcs[f]? = some fn) (hb : fn.body = some c) (N : Nat) (hN : fn.ntmps = N) (rs : List ResultVar) (hrs : fn.results.toList = rs) (hc : codeOk Γ true N c = true)
    (D : List PV → List CellIO → Prop) (R : List PV → List CellIO → PV → List CellIO → Prop) (hlen : ∀ ps cs, D ps cs → ps.length ≤ N)
    (h : ∀ ps cs, D ps cs → pq P Γ N c (fun x s' => ∃ r cs', R ps cs r cs' ∧ PostIO P rs cs.length r cs' x s') (initS ps).tm (fun o => cs[o]?) cs.length) : ∃ Φ : FunIO, SoundIO P f Φ ∧ ∀ ps cs, D ps cs → ∃ r cs', Φ ps cs = some (r, cs') ∧ R ps cs r cs' := by
  classical
  subst hN hrs
  let Z : List PV → List CellIO → PV × List CellIO → Prop := fun ps cs r => D ps cs ∧ R ps cs r.1 r.2 ∧ ∃ x s', Ev P Γ fn.ntmps c (initIO ps cs) x s' ∧ PostIO P fn.results.toList cs.length r.1 r.2 x s'
  let Φ : FunIO := fun ps cs => if h : ∃ r, Z ps cs r then some (Classical.choose h) else none
  have hΦ : ∀ ps cs r, Φ ps cs = some r → Z ps cs r := fun ps cs r hr => by
    simp only [Φ] at hr
    split at hr
    · rename_i hz
      cases hr
      exact Classical.choose_spec hz
    · cases hr
  refine ⟨Φ, soundIO_of_ev hΓ hf hb (fun ps cs r hr => hlen ps cs (hΦ ps cs r hr).1) fun ps cs r cs' hr => ?_, fun ps cs hd => ?_⟩
  · obtain ⟨_, _, x, s', h1, h2, news, h3, h4, h5, h6⟩ := hΦ ps cs (r, cs') hr
    rw [Option.bind_eq_some_iff] at h5
    obtain ⟨qs, h8, h9⟩ := h5
    refine ⟨x, s', qs, List.range cs.length ++ news, h1, h2, h8, h9, by simp, fun o ho => ?_, ?_, h6⟩
    · rw [List.getElem?_append_left (by simpa using ho), List.getElem?_range ho]
    · rw [List.nodup_append]
      exact ⟨List.nodup_range, h4, fun a ha b hb e => by
        have := h3 b hb
        have := List.mem_range.1 ha
        omega⟩
  · obtain ⟨x, s', h1, r, cs', h2, h3⟩ := pw_ok (mixed := true) (fun _ => hm) c _ _ hc (h ps cs hd)
    have hz : ∃ r, Z ps cs r := ⟨(r, cs'), hd, h2, x, s', h1, h3⟩
    have he : Φ ps cs = some (Classical.choose hz) := by simp only [Φ]; rw [dif_pos hz]
    exact ⟨(Classical.choose hz).1, (Classical.choose hz).2, he, (hΦ ps cs _ he).2.1⟩
end
section
variable {P : Program} {tm : Nat → PV} {ob : Objs} {nx : Nat} {rs : List ResultVar} {r : PV} {c' : CellIO} {x : X} {R : PV → List CellIO → Prop}
theorem i_any1 (hx : x = .normal ∨ x = .ret) (h1 : ((resPs P ⟨tm, ob, nx⟩ rs).bind fun qs => handF [0] ob fuel (onePV qs)) = some r) (h2 : handC [0] ob fuel 0 = some c') (hR : R r [c']) : ∃ r cs', R r cs' ∧ PostIO P rs 1 r cs' x ⟨tm, ob, nx⟩ := ⟨r, [c'], hR, i_end1 hx h1 h2⟩
theorem i_any0 (hx : x = .normal ∨ x = .ret) (h1 : ((resPs P ⟨tm, ob, nx⟩ rs).bind fun qs => handF [] ob fuel (onePV qs)) = some r) (hR : R r []) : ∃ r cs', R r cs' ∧ PostIO P rs 0 r cs' x ⟨tm, ob, nx⟩ := ⟨r, [], hR, i_endN0 hx h1⟩
end
end Go.Proofs.YtenldjifipnjpaaDoor
