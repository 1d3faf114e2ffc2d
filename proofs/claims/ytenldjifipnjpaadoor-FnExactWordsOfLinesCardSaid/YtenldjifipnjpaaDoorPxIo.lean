/- A call with objects: the caller's side. -/
import Derived.Test.YtenldjifipnjpaaDoorPxH
namespace Go.Proofs.YtenldjifipnjpaaDoor
open Go.RowKit
set_option linter.all false

theorem putObs_get : ∀ (l : List (Nat × CellIO)) (ob : Objs) (o : Nat) (c : CellIO), (l.map (·.1)).Nodup → putObs ob l o = some c → (o, c) ∈ l ∨ (o ∉ l.map (·.1) ∧ ob o = some c)
  | [], ob, o, c, _, h => .inr ⟨by simp, h⟩
  | p :: l, ob, o, c, hn, h => by
    simp only [List.map_cons, List.nodup_cons] at hn
    rcases putObs_get l _ o c hn.2 h with h1 | ⟨h1, h2⟩
    · exact .inl (by simp [h1])
    · unfold upd at h2
      split at h2
      · rename_i he
        cases h2
        left
        subst he
        simp
      · rename_i he
        exact .inr ⟨by simp [he]; simpa using h1, h2⟩

section
variable {P : Program} {Γ : Ctx} {io : IoS} {w0 : World} {N : Nat} {g : Gh} {s : AS} {a : Act} {w w' : World} {o : Oper} {p : PV}

theorem mapM_at {α β : Type} {f : α → Option β} {l : List α} {l' : List β} (h : l.mapM f = some l') {i : Nat} {y : β} (hy : l'[i]? = some y) : ∃ x, l[i]? = some x ∧ f x = some y := by
  have hg := mapM_get h
  have hi : i < l.length := by rw [← hg.1]; exact (List.getElem?_eq_some_iff.1 hy).1
  obtain ⟨y', h1, h2⟩ := hg.2 i l[i] (List.getElem?_eq_getElem hi)
  rw [hy] at h1
  cases h1
  exact ⟨_, List.getElem?_eq_getElem hi, h2⟩

set_option maxHeartbeats 1000000 in
theorem eff_io (h : Rel io w0 N g s a w) (hio : ∀ b, io b → b < w0.heap.size) {c : Call} (ho : o.op = .call c) {f : Nat} (hc : c.callee = .value (.func f)) (hf : Fnd P f) {Φ : FunIO} (hs : SoundIO P f Φ) {r : PV × Objs × Nat}
    (hv : ioEv Φ s.ob s.nx (c.args.toList.map (look s.tm)) = some r) : Turns P o io w0 N s a w r := by
  obtain ⟨fn, hfn, hname, hbody⟩ := hf
  unfold ioEv at hv
  dsimp only at hv
  generalize hos : dedup ((c.args.toList.map (look s.tm)).flatMap refsOf) = os at hv
  have hnd : os.Nodup := hos ▸ dedup_nodup _
  split at hv
  case h_2 => cases hv
  case h_1 cs qs hcs hqs =>
  split at hv
  case h_2 => cases hv
  case h_1 cs1 hcs1 =>
  split at hv
  case h_2 => cases hv
  case h_1 r0 cs' hΦ =>
  split at hv
  case h_2 => cases hv
  case h_1 r' cs2 hr' hcs2 =>
  simp only [Option.some.injEq] at hv
  subst hv
  have hl1 := (mapM_get hcs).1
  have hl2 := (mapM_get hcs1).1
  have hl3 := (mapM_get hcs2).1
  -- the objects handed over
  have hob : ∀ i c1, cs1[i]? = some c1 → ∃ c0, i < os.length ∧ s.ob (os.getD i 0) = some c0 ∧ renC (inn os) fuel c0 = some c1 := fun i c1 hi => by
    obtain ⟨c0, h1, h2⟩ := mapM_at hcs1 hi
    obtain ⟨o0, h3, h4⟩ := mapM_at hcs h1
    have := (List.getElem?_eq_some_iff.1 h3)
    obtain ⟨h5, h6⟩ := this
    exact ⟨c0, h5, by rw [show os.getD i 0 = o0 by simp [List.getD, h3]]; exact h4, h2⟩
  have hosS : ∀ i, i < os.length → ∃ c0, s.ob (os.getD i 0) = some c0 := fun i hi => by
    have hi1 : i < cs1.length := by omega
    obtain ⟨c0, _, h2, _⟩ := hob i cs1[i] (List.getElem?_eq_getElem hi1)
    exact ⟨c0, h2⟩
  have hinjo : ∀ i j, i < os.length → j < os.length → os.getD i 0 = os.getD j 0 → i = j := fun i j hi hj he => by
    have e1 : os[i]? = some (os.getD i 0) := by simp [hi]
    have e2 : os[j]? = some (os.getD j 0) := by simp [hj]
    rw [he] at e1
    exact (List.getElem?_inj hi hnd).1 (e1.trans e2.symm)
  let β : Nat → Nat := fun i => g.β (os.getD i 0)
  let κ : Nat → Nat := fun i => g.κ (os.getD i 0)
  have hinn : ∀ o1 o2, inn os o1 = some o2 → o2 < os.length ∧ os.getD o2 0 = o1 := fun o1 o2 hi => by
    unfold inn at hi
    split at hi
    · rename_i hm
      cases hi
      have hlt := List.idxOf_lt_length_of_mem hm
      exact ⟨hlt, by simp [List.getD, hlt]⟩
    · cases hi
  have hren : ∀ o1 o2, g.D o1 → inn os o1 = some o2 → (ghIO g.I β κ cs1.length).β o2 = g.β o1 ∧ (ghIO g.I β κ cs1.length).κ o2 = g.κ o1 ∧ (ghIO g.I β κ cs1.length).D o2 := fun o1 o2 _ hi => by
    obtain ⟨h1, h2⟩ := hinn o1 o2 hi
    exact ⟨by simp only [ghIO, β, h2], by simp only [ghIO, κ, h2], ⟨by simp only [ghIO]; omega, fun q => q⟩⟩
  have hargs : RepL (ghIO g.I β κ cs1.length) w qs (c.args.map a.eval).toList := by
    rw [Array.toList_map]
    exact RepL.conv (g := g) (g' := ghIO g.I β κ cs1.length) (Rep.ren (g := g) (g' := ghIO g.I β κ cs1.length) (fun _ _ hb => hb) hren fuel) (h.looks _) hqs
  have hO : ObjsIO g.I w β κ cs1 := by
    refine ⟨fun i hi => ?_, fun i j hi hj he => ?_, fun i c1 hi => ?_⟩
    · obtain ⟨c0, h1⟩ := hosS i (by omega)
      obtain ⟨_, _, h2, ⟨arr, h3, _⟩, _⟩ := h.ob _ _ h1
      exact ⟨lt_of_heap h3, h2⟩
    · obtain ⟨c0, h1⟩ := hosS i (by omega)
      obtain ⟨c0', h1'⟩ := hosS j (by omega)
      exact hinjo i j (by omega) (by omega) (h.inj _ _ (by rw [h1]; rfl) (by rw [h1']; rfl) he)
    · obtain ⟨c0, h0, h1, h2⟩ := hob i c1 hi
      unfold renC at h2
      rw [Option.map_eq_some_iff] at h2
      obtain ⟨es, h3, rfl⟩ := h2
      obtain ⟨_, _, _, ⟨arr, h4, h5⟩, h6, h7⟩ := h.ob _ _ h1
      have hl := (mapM_get h3).1
      exact ⟨⟨arr, h4, h5⟩, by simp only [hl]; exact h6, RepEs.conv (g := g) (g' := ghIO g.I β κ cs1.length) (Rep.ren (g := g) (g' := ghIO g.I β κ cs1.length) (fun _ _ hb => hb) hren fuel) h7 h3⟩
  have hrun : (execOp a.eval o).run P w = .ok (.enter f (c.args.map a.eval)) w := by
    unfold execOp
    simp only [ho, resolve, hc, Act.eval, Deferred.ofValue, Sem.run_bind, Sem.run_pure, Result.andThen_ok, invoke, callFunc, run_program, hfn]
    simp [hname, hbody]
  intro K Q hk
  unfold Oper.wp
  rw [hrun, Oper.upon_enter]
  refine (hs w g.I β κ qs cs1 _ r0 cs' hΦ h.lt hO (h.tab.keep h.fr fun t ht ⟨i, hi, he⟩ => by
    obtain ⟨c0, h1⟩ := hosS i (by omega)
    rcases (h.ob _ _ h1).2.1 with h2 | h2
    · have := h.tab.lt t ht
      simp only [β] at he
      omega
    · exact h.tab.apart t ht (he ▸ h2)) hargs).mono ?_
  rintro e w' ⟨v, β', κ', M, rfl, hfr, hle, hold, hnew, hM, hO', hrep⟩
  let g' : Gh := { I := addN g.I M, β := fun o => if o < g.nx then g.β o else β' (os.length + (o - g.nx)), κ := fun o => if o < g.nx then g.κ o else κ' (os.length + (o - g.nx)), nx := g.nx + (cs'.length - os.length), hole := fun o => g.hole o ∧ o < g.nx }
  have hgle : g.le g' := ⟨fun _ _ hb => .inl hb, fun o ho => ⟨Nat.lt_of_lt_of_le ho.1 (Nat.le_add_right _ _), fun q => ho.2 q.1⟩, fun o ho => by simp only [g', if_pos ho.1], fun o ho => by simp only [g', if_pos ho.1]⟩
  have hosnx : ∀ i, i < os.length → g.D (os.getD i 0) := fun i hi => by
    obtain ⟨c0, h1⟩ := hosS i hi
    exact (h.ob _ _ h1).1
  have hout : ∀ i, i < cs'.length → g'.β (outn os s.nx i) = β' i ∧ g'.κ (outn os s.nx i) = κ' i ∧ g'.D (outn os s.nx i) := fun i hi => by
    unfold outn
    rw [← h.nx]
    split
    · rename_i hlt
      have hx := hosnx i hlt
      have ho := hold i (by omega)
      refine ⟨?_, ?_, hgle.D _ hx⟩
      · simp only [g', if_pos hx.1]; exact ho.1.symm
      · simp only [g', if_pos hx.1]; exact ho.2.symm
    · rename_i hlt
      have e : os.length + (g.nx + (i - os.length) - g.nx) = i := by omega
      refine ⟨?_, ?_, ?_⟩
      · simp only [g']; rw [if_neg (by omega), e]
      · simp only [g']; rw [if_neg (by omega), e]
      · exact ⟨by simp only [g']; omega, fun q => by have := q.2; omega⟩
  have hren' : ∀ o1 o2, (ghIO (addN g.I M) β' κ' cs'.length).D o1 → (some (outn os s.nx o1)) = some o2 → g'.β o2 = (ghIO (addN g.I M) β' κ' cs'.length).β o1 ∧ g'.κ o2 = (ghIO (addN g.I M) β' κ' cs'.length).κ o1 ∧ g'.D o2 := fun o1 o2 h1 h2 => by
    cases h2
    exact hout o1 h1.1
  have hIsame : ∀ k b, g.I k b → w'.heap[b]? = w.heap[b]? := fun k b hb => hfr.block b (h.lt k b hb) (fun ⟨i, hi, he⟩ => (hO.lt i hi).2 k (he ▸ hb))
  have hpl : ∀ o c0, s.ob o = some c0 → g.β o < w.heap.size := fun o c0 hc0 => by
    obtain ⟨_, _, _, ⟨arr, h3, _⟩, _⟩ := h.ob _ _ hc0
    exact lt_of_heap h3
  have hkeys : ((((List.range cs2.length).map (outn os s.nx)).zip cs2).map (·.1)) = (List.range cs2.length).map (outn os s.nx) := by
    rw [List.map_fst_zip]; simp
  have houtinj : ∀ i j, i < cs'.length → j < cs'.length → outn os s.nx i = outn os s.nx j → i = j := fun i j hi hj he => by
    have h1 := (hout i hi).1
    have h2 := (hout j hj).1
    rw [he] at h1
    exact hO'.inj i j hi hj (h1.symm.trans h2)
  have hnodup : ((((List.range cs2.length).map (outn os s.nx)).zip cs2).map (·.1)).Nodup := by
    rw [hkeys]
    rw [List.nodup_iff_pairwise_ne, List.pairwise_map]
    refine (List.pairwise_lt_range).imp_of_mem fun {i j} hi hj hlt he => ?_
    have := houtinj i j (by have := List.mem_range.1 hi; omega) (by have := List.mem_range.1 hj; omega) he
    omega
  -- the objects afterwards
  have hobs : ∀ o1 c1, putObs s.ob (((List.range cs2.length).map (outn os s.nx)).zip cs2) o1 = some c1 →
      (∃ i, i < cs'.length ∧ o1 = outn os s.nx i ∧ cs2[i]? = some c1) ∨ (s.ob o1 = some c1 ∧ ∀ i, i < cs'.length → o1 ≠ outn os s.nx i) := fun o1 c1 h1 => by
    rcases putObs_get _ _ _ _ hnodup h1 with h2 | ⟨h2, h3⟩
    · left
      obtain ⟨i, hi, he⟩ := List.getElem_of_mem h2
      have hi2 : i < cs2.length := by simp at hi; exact hi
      rw [List.getElem_zip] at he
      simp only [List.getElem_map, List.getElem_range, Prod.mk.injEq] at he
      exact ⟨i, by omega, he.1.symm, by rw [List.getElem?_eq_getElem hi2, he.2]⟩
    · right
      refine ⟨h3, fun i hi he => h2 ?_⟩
      rw [hkeys, List.mem_map]
      exact ⟨i, List.mem_range.2 (by omega), he.symm⟩
  have hnotos : ∀ o1 c1, s.ob o1 = some c1 → (∀ i, i < cs'.length → o1 ≠ outn os s.nx i) → ∀ i, i < cs1.length → g.β o1 ≠ β i := fun o1 c1 h1 h2 i hi he => by
    obtain ⟨c0, h3⟩ := hosS i (by omega)
    have := h.inj o1 _ (by rw [h1]; rfl) (by rw [h3]; rfl) he
    refine h2 i (by omega) ?_
    unfold outn
    rw [if_pos (by omega)]
    exact this
  refine hk v w' g' ⟨h.nt, h.df, fun t => (h.tm t).mono hgle hIsame, fun o1 c1 h1 => ?_, fun o1 o2 h1 h2 he => ?_, ?_, ?_, ?_, ?_, ?_, ?_, ?_, h.tab⟩ (Rep.ren (g := ghIO (addN g.I M) β' κ' cs'.length) (g' := g') (fun _ _ hb => hb) hren' fuel _ _ _ hrep hr')
  · rcases hobs o1 c1 h1 with ⟨i, hi, rfl, hc1⟩ | ⟨h2, h3⟩
    · obtain ⟨k1, k2, k3⟩ := hout i hi
      obtain ⟨c0, hc0, hrc⟩ := mapM_at hcs2 hc1
      refine ⟨k3, ?_, ?_, ?_⟩
      · rw [k1]
        by_cases hlt : i < os.length
        · obtain ⟨c0', h4⟩ := hosS i hlt
          rw [(hold i (by omega)).1]
          exact (h.ob _ _ h4).2.1
        · have := hnew i (by omega) hi
          have := h.fr.size
          left; omega
      · intro k
        rw [k1]
        exact (hO'.lt i hi).2 k
      · obtain ⟨⟨arr, m1, m2⟩, m3, m4⟩ := hO'.at_ i c0 hc0
        unfold renC at hrc
        rw [Option.map_eq_some_iff] at hrc
        obtain ⟨es, h4, rfl⟩ := hrc
        have hl := (mapM_get h4).1
        refine ⟨⟨arr, by rw [k1]; exact m1, by rw [k2]; exact m2⟩, by rw [k2]; simp only [hl]; exact m3, ?_⟩
        rw [k1]
        exact RepEs.conv (g := ghIO (addN g.I M) β' κ' cs'.length) (g' := g') (Rep.ren (g := ghIO (addN g.I M) β' κ' cs'.length) (g' := g') (fun _ _ hb => hb) hren' fuel) m4 h4
    · obtain ⟨k1, k2, k3, k4⟩ := h.ob o1 c1 h2
      have hβ := hgle.β o1 k1
      have hlt := hpl o1 c1 h2
      refine ⟨hgle.D _ k1, by rw [hβ]; exact k2, fun k hb => ?_, k4.mono hgle k1 hIsame (hfr.block _ hlt fun ⟨i, hi, he⟩ => hnotos o1 c1 h2 h3 i hi he)⟩
      rw [hβ] at hb
      rcases hb with hb | ⟨_, hb⟩
      · exact k3 k hb
      · have := (hM _ hb).1
        omega
  · have key : ∀ o1, (putObs s.ob (((List.range cs2.length).map (outn os s.nx)).zip cs2) o1).isSome → (∃ i, i < cs'.length ∧ o1 = outn os s.nx i ∧ g'.β o1 = β' i) ∨ ((s.ob o1).isSome ∧ g'.β o1 = g.β o1 ∧ g.β o1 < w.heap.size ∧ ∀ i, i < cs1.length → g.β o1 ≠ β i) := fun o1 h1 => by
      obtain ⟨c1, hc1⟩ := Option.isSome_iff_exists.1 h1
      rcases hobs o1 c1 hc1 with ⟨i, hi, rfl, _⟩ | ⟨h2, h3⟩
      · exact .inl ⟨i, hi, rfl, (hout i hi).1⟩
      · exact .inr ⟨by simp [h2], hgle.β o1 (h.ob _ _ h2).1, hpl o1 c1 h2, hnotos o1 c1 h2 h3⟩
    have mixed : ∀ i o2, i < cs'.length → g.β o2 < w.heap.size → (∀ i, i < cs1.length → g.β o2 ≠ β i) → β' i ≠ g.β o2 := fun i o2 hi h2 h3 he => by
      by_cases hlt : i < cs1.length
      · exact h3 i hlt (by rw [← he]; exact (hold i hlt).1)
      · have := hnew i (by omega) hi
        omega
    rcases key o1 h1 with ⟨i, hi, rfl, e1⟩ | ⟨k1, k2, k3, k4⟩
    · rcases key o2 h2 with ⟨j, hj, rfl, e2⟩ | ⟨l1, l2, l3, l4⟩
      · rw [e1, e2] at he
        rw [hO'.inj i j hi hj he]
      · rw [e1, l2] at he
        exact (mixed i o2 hi l3 l4 he).elim
    · rcases key o2 h2 with ⟨j, hj, rfl, e2⟩ | ⟨l1, l2, l3, l4⟩
      · rw [e2, k2] at he
        exact (mixed j o1 hj k3 k4 he.symm).elim
      · rw [k2, l2] at he
        exact h.inj o1 o2 k1 l1 he
  · simp only [g', h.nx]
  · rintro k b (hb | ⟨_, hb⟩)
    · exact Nat.lt_of_lt_of_le (h.lt k b hb) hfr.size
    · exact (hM b hb).2
  · rintro b (hb | ⟨_, hb⟩)
    · exact h.new b hb
    · have h1 := (hM b hb).1
      have h2 := h.fr.size
      exact .inl ⟨by omega, fun hi => by have := hio b hi; omega⟩
  · refine ⟨hfr.os.trans h.fr.os, hfr.tape.trans h.fr.tape, hfr.output.trans h.fr.output, Nat.le_trans h.fr.size hfr.size, fun b hb hi => ?_⟩
    rw [hfr.block b (Nat.lt_of_lt_of_le hb h.fr.size) fun ⟨i, hi', he⟩ => ?_]
    · exact h.fr.block b hb hi
    · subst he
      obtain ⟨c0, h1⟩ := hosS i (by omega)
      rcases (h.ob _ _ h1).2.1 with h2 | h2
      · exact absurd hb (by simp only [β]; omega)
      · exact hi h2
  · rintro b (hb | ⟨hk, _⟩)
    · exact h.old b hb
    · cases hk
  · exact ⟨fun o1 ho1 => hgle.D o1 (h.fix.1 o1 ho1), fun o1 ho1 => by have hk := h.fix.1 o1 ho1; rw [hgle.β o1 hk, hgle.κ o1 hk]; exact h.fix.2 o1 ho1⟩
  · exact fun o1 ho1 => ⟨⟨(h.hl o1 ho1).1, (h.hl o1 ho1).2⟩, Nat.lt_of_lt_of_le (h.hl o1 ho1).2 (Nat.le_add_right _ _)⟩
end
end Go.Proofs.YtenldjifipnjpaaDoor
