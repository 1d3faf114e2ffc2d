/- One object more does no harm. -/
import Derived.Test.YtenldjifipnjpaaDoorPxJ
namespace Go.Proofs.YtenldjifipnjpaaDoor
open Go.RowKit
set_option linter.all false
section
variable {P : Program} {Γ : Ctx} {ob ob' : Objs}
theorem reify_more {fr : Bool} {n : Nat} (H : ∀ o c, ob o = some c → ob' o = some c) : ∀ (f : Nat) (p q : PV), reify fr n ob f p = some q → reify fr n ob' f p = some q
  | 0, p, q, h => by simp [reify] at h
  | f + 1, p, q, h => by
    cases p with
    | val v => exact h
    | dead => exact h
    | lst k sz es =>
      simp only [reify] at h ⊢
      split at h
      · cases h
      · rename_i hk
        rw [if_neg hk]
        simp only [Option.map_eq_some_iff] at h ⊢
        obtain ⟨es', h1, rfl⟩ := h
        exact ⟨es', mapM_imp (fun x _ y => reify_more H f x y) h1, rfl⟩
    | ptr k e o =>
      simp only [reify] at h ⊢
      split at h
      · cases h
      · rename_i hk
        rw [if_neg hk]
        simp only [Option.map_eq_some_iff] at h ⊢
        obtain ⟨e', h1, rfl⟩ := h
        exact ⟨e', reify_more H f _ _ h1, rfl⟩
    | own o sz i c =>
      simp only [reify] at h ⊢
      split at h
      · cases h
      · rename_i hk
        rw [if_neg hk]
        split at h
        · rename_i T sz' es ho
          rw [H o _ ho]
          dsimp only
          split at h
          · rename_i hs
            rw [if_pos hs]
            simp only [Option.bind_eq_some_iff, Option.map_eq_some_iff] at h ⊢
            obtain ⟨e, h1, e', h2, rfl⟩ := h
            exact ⟨e, h1, e', reify_more H f _ _ h2, rfl⟩
          · cases h
        · cases h
    | row o sz i m =>
      simp only [reify] at h ⊢
      split at h
      · cases h
      · rename_i hk
        rw [if_neg hk]
        split at h
        · rename_i T sz' es ho
          rw [H o _ ho]
          dsimp only
          split at h
          · rename_i hs
            rw [if_pos hs]
            simp only [Option.map_eq_some_iff] at h ⊢
            obtain ⟨es', h1, rfl⟩ := h
            exact ⟨es', mapM_imp (fun x _ y => reify_more H f x y) h1, rfl⟩
          · cases h
        · cases h
    | agg cs =>
      simp only [reify, Option.map_eq_some_iff] at h ⊢
      obtain ⟨es', h1, rfl⟩ := h
      exact ⟨es', mapM_imp (fun x _ y => reify_more H f x y) h1, rfl⟩
    | tup cs =>
      simp only [reify, Option.map_eq_some_iff] at h ⊢
      obtain ⟨es', h1, rfl⟩ := h
      exact ⟨es', mapM_imp (fun x _ y => reify_more H f x y) h1, rfl⟩
theorem sliceEs_more (H : ∀ o c, ob o = some c → ob' o = some c) {sz : Nat} {x : PV} {es : List PV} (h : sliceEs ob sz x = some es) : sliceEs ob' sz x = some es := by
  cases x with
  | row o s i n =>
    simp only [sliceEs] at h ⊢
    split at h
    · rename_i T sz' es' ho
      rw [H o _ ho]
      exact h
    · cases h
  | val v =>
    have e : sliceEs ob' sz (.val v) = sliceEs ob sz (.val v) := by unfold sliceEs; split <;> (first | rfl | (simp_all; done))
    rw [e]; exact h
  | _ => exact h
theorem evVal_more (H : ∀ o c, ob o = some c → ob' o = some c) {ρ : Operand → PV} {ty : Nat} {op : Op} {p : PV} (h : evVal P Γ ob ρ ty op = some p) : evVal P Γ ob' ρ ty op = some p := by
  cases op with
  | load t x =>
    simp only [evVal] at h ⊢
    split at h
    · rename_i o sz i f hx
      split at h
      · rename_i T sz' es ho
        rw [H o _ ho]
        exact h
      · cases h
    · exact h
    · cases h
  | convert s d x =>
    simp only [evVal] at h ⊢
    split at h
    · rename_i hc
      rw [if_pos hc]
      simp only [Option.map_eq_some_iff, Option.bind_eq_some_iff] at h ⊢
      obtain ⟨ns, ⟨es, h1, h2⟩, rfl⟩ := h
      exact ⟨ns, ⟨es, sliceEs_more H h1, h2⟩, rfl⟩
    · rename_i hc
      rw [if_neg hc]
      exact h
  | call c =>
    simp only [evVal] at h ⊢
    cases hc : c.callee with
    | value x =>
      simp only [hc] at h ⊢
      split at h
      · rename_i f hf
        split at h
        · rename_i φ ps h1 h2
          have h3 := mapM_imp (G := reify false 0 ob' fuel) (fun x _ y => reify_more H fuel x y) h2
          simp only [hf, h1, h3]
          exact h
        · cases h
      · cases h
    | invoke r m => simp [hc] at h
    | builtin b => cases b <;> (simp only [hc] at h ⊢; exact h)
  | slice t x lo hi mx => cases mx <;> exact h
  | _ => exact h
theorem upd_swap {α : Type} {f : Nat → α} {i j : Nat} {x y : α} (h : i ≠ j) : upd (upd f i x) j y = upd (upd f j y) i x := by
  funext t
  unfold upd
  by_cases h1 : t = j
  · by_cases h2 : t = i
    · omega
    · simp [h1]; omega
  · simp [h1]
theorem upd_eq {α : Type} {f : Nat → α} {i : Nat} {x : α} : upd f i x i = x := by simp [upd]
theorem upd_no {α : Type} {f : Nat → α} {i j : Nat} {x : α} (h : j ≠ i) : upd f i x j = f j := by simp [upd, h]
theorem putObs_swap {R : Nat} {c : CellIO} : ∀ {l : List (Nat × CellIO)} {ob : Objs}, R ∉ l.map (·.1) → putObs (upd ob R (some c)) l = upd (putObs ob l) R (some c)
  | [], ob, h => rfl
  | p :: l, ob, h => by
    simp only [List.map_cons, List.mem_cons, not_or] at h
    simp only [putObs]
    rw [upd_swap h.1, putObs_swap h.2]
theorem more_upd {R : Nat} {c : CellIO} (hR : ob R = none) : ∀ o d, ob o = some d → upd ob R (some c) o = some d := fun o d h => by
  by_cases e : o = R
  · subst e; rw [hR] at h; cases h
  · rw [upd_no e]; exact h
theorem srcEs_more (H : ∀ o c, ob o = some c → ob' o = some c) {sz : Nat} {x : PV} {es : List PV} (h : srcEs ob sz x = some es) : srcEs ob' sz x = some es := by
  unfold srcEs at h ⊢
  split at h
  · exact h
  · exact sliceEs_more H h
theorem cpEv_more {R nx t : Nat} {c : CellIO} {ob : Objs} {x y : PV} {r : PV × Objs × Nat} (hR : ob R = none) (h : cpEv P ob nx t x y = some r) :
    r.2.1 R = none ∧ nx ≤ r.2.2 ∧ cpEv P (upd ob R (some c)) nx t x y = some (r.1, upd r.2.1 R (some c), r.2.2) := by
  have H := more_upd (c := c) hR
  unfold cpEv at h ⊢
  split at h
  case h_2 => cases h
  split at h
  case h_2 => cases h
  split at h
  case h_3 => cases h
  case h_2 es2 kk ss h2 =>
    cases h
    rw [srcEs_more H h2]
    exact ⟨hR, Nat.le_refl _, rfl⟩
  rename_i es2 o sz' i n h2
  rw [srcEs_more H h2]
  dsimp only
  split at h
  case h_2 => cases h
  rename_i T sz'' es ho
  have hne : o ≠ R := fun e => by subst e; rw [hR] at ho; cases ho
  rw [H o _ ho]
  dsimp only
  split at h
  case isFalse => cases h
  case isTrue h3 =>
  cases h
  rw [if_pos h3]
  exact ⟨(upd_no (Ne.symm hne)).trans hR, Nat.le_refl _, by rw [upd_swap (Ne.symm hne)]⟩
theorem evEff_more {R : Nat} {c : CellIO} {ρ : Operand → PV} {s : AS} {op : Op} {r : PV × Objs × Nat} (hR : s.ob R = none) (hlt : R < s.nx) (h : evEff P Γ s ρ op = some r) :
    r.2.1 R = none ∧ s.nx ≤ r.2.2 ∧ evEff P Γ { s with ob := upd s.ob R (some c) } ρ op = some (r.1, upd r.2.1 R (some c), r.2.2) := by
  have hn : s.nx ≠ R := by omega
  have hn' : R ≠ s.nx := by omega
  have H := more_upd (c := c) hR
  cases op with
  | alloc t =>
    simp only [evEff] at h ⊢
    split at h
    · split at h
      · rename_i z hz h1
        cases h
        rw [if_pos h1]
        exact ⟨(upd_no hn').trans hR, by simp, by dsimp only; rw [upd_swap hn']⟩
      · cases h
    · cases h
  | box t x =>
    simp only [evEff] at h ⊢
    split at h
    · cases h
      exact ⟨(upd_no hn').trans hR, by simp, by dsimp only; rw [upd_swap hn']⟩
    · cases h
  | buildSlice t n ps =>
    simp only [evEff] at h ⊢
    split at h
    · cases h
      exact ⟨(upd_no hn').trans hR, by simp, by dsimp only; rw [upd_swap hn']⟩
    · cases h
  | makeSlice t l k =>
    simp only [evEff] at h ⊢
    split at h
    · split at h
      · split at h
        · rename_i h1
          cases h
          rw [if_pos h1]
          exact ⟨(upd_no hn').trans hR, by simp, by dsimp only; rw [upd_swap hn']⟩
        · cases h
      · cases h
    · cases h
  | store t x y =>
    simp only [evEff] at h ⊢
    split at h
    · rename_i o sz i f hx
      split at h
      · rename_i T sz' es ho
        have hne : o ≠ R := fun e => by subst e; rw [hR] at ho; cases ho
        rw [H o _ ho]
        dsimp only
        split at h
        · rename_i e cs he hc
          split at h
          · rename_i h1
            simp only [Option.map_eq_some_iff] at h
            obtain ⟨e', h2, rfl⟩ := h
            simp only [if_pos h1, h2, Option.map_some]
            exact ⟨(upd_no (Ne.symm hne)).trans hR, Nat.le_refl _, by rw [upd_swap (Ne.symm hne)]⟩
          · cases h
        · cases h
      · cases h
    · cases h
  | call k =>
    simp only [evEff] at h ⊢
    split at h
    · split at h
      · rename_i Φ hΦ
        unfold ioEv at h ⊢
        dsimp only at h ⊢
        split at h
        case h_2 => cases h
        rename_i cs qs hcs hqs
        have hno : R ∉ dedup ((k.args.toList.map ρ).flatMap refsOf) := fun hm => by
          obtain ⟨i, hi, he⟩ := List.getElem_of_mem hm
          have := (mapM_get hcs).2 i R (by rw [List.getElem?_eq_getElem hi, he])
          obtain ⟨y, _, hy⟩ := this
          rw [hR] at hy
          cases hy
        have hcs' := mapM_imp (G := upd s.ob R (some c)) (fun x _ y => H x y) hcs
        rw [hcs']
        split at h
        case h_2 => cases h
        split at h
        case h_2 => cases h
        split at h
        case h_2 => cases h
        rename_i cs1 e1 _ r0 cs' e2 _ _ r' cs2 e3 e4
        cases h
        have hnk : R ∉ ((((List.range cs2.length).map (outn (dedup ((k.args.toList.map ρ).flatMap refsOf)) s.nx)).zip cs2).map (·.1)) := fun hm => by
          rw [List.map_fst_zip (by simp), List.mem_map] at hm
          obtain ⟨i, hi, hm⟩ := hm
          unfold outn at hm
          split at hm
          · rename_i hl
            apply hno
            rw [← hm]
            refine List.mem_of_getElem? (i := i) ?_
            rw [List.getD_eq_getElem?_getD, List.getElem?_eq_getElem hl]
            rfl
          · omega
        refine ⟨(putObs_other _ _ _ hnk).trans hR, Nat.le_add_right _ _, ?_⟩
        simp only [hqs, e1, e2, e3, e4]
        rw [putObs_swap hnk]
      · cases h
    · split at h
      · rename_i x y t t' ha _
        exact cpEv_more hR h
      · cases h
    · split at h
      · rename_i x y t t' ha _
        split at h
        · split at h
          · split at h
            · rename_i es2 hes2
              have hes3 := sliceEs_more H hes2
              rw [hes3]
              dsimp only
              split at h
              · rename_i h1
                rw [if_pos h1]
                split at h
                · rename_i o sz' i n hx
                  split at h
                  · rename_i T sz'' es ho
                    have hne : o ≠ R := fun e => by subst e; rw [hR] at ho; cases ho
                    rw [H o _ ho]
                    dsimp only
                    split at h
                    · rename_i h2
                      cases h
                      rw [if_pos h2]
                      refine ⟨(upd_no hn').trans ((upd_no (Ne.symm hne)).trans hR), by simp, ?_⟩
                      rw [upd_swap (Ne.symm hne), upd_swap hn']
                    · cases h
                  · cases h
                · split at h
                  · rename_i h2
                    rw [if_pos h2]
                    split at h
                    · rename_i h3
                      cases h
                      rw [if_pos h3]
                      exact ⟨hR, Nat.le_refl _, rfl⟩
                    · rename_i h3
                      cases h
                      rw [if_neg h3]
                      exact ⟨(upd_no hn').trans hR, by simp, by dsimp only; rw [upd_swap hn']⟩
                  · cases h
              · cases h
            · cases h
          · cases h
        · cases h
      · cases h
    · cases h
  | _ => simp [evEff] at h
end
end Go.Proofs.YtenldjifipnjpaaDoor
