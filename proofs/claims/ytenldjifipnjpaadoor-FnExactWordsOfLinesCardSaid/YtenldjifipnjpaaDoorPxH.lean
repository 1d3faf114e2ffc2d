/- The model's operations make and turn the own objects as evEff says: each kind. -/
import Derived.Test.YtenldjifipnjpaaDoorPxG
namespace Go.Proofs.YtenldjifipnjpaaDoor
open Go.RowKit
set_option linter.all false
section
variable {P : Program} {Γ : Ctx} {io : IoS} {w0 : World} {N : Nat} {g : Gh} {s : AS} {a : Act} {w w' : World} {o : Oper} {p : PV}

theorem run_bytes {t k : Nat} (h : tyBytes P t = some k) : ∃ i, P.info? t = some i ∧ i.bytes = k := by
  unfold tyBytes at h
  cases hi : P.info? t with
  | none => simp [hi] at h
  | some i => exact ⟨i, rfl, by simpa [hi] using h⟩
theorem size_info {t k : Nat} {i : TypeInfo} (hi : P.info? t = some i) (h : tySize P t = some k) : i.size = k := by
  unfold tySize at h; simpa [hi] using h
theorem zero_info {t : Nat} {z : Value} {i : TypeInfo} (hi : P.info? t = some i) (h : zeroOf P t = some z) : i.zero = some z := by
  unfold zeroOf at h; simpa [hi] using h
theorem elem_info {t e : Nat} (h : tyElem P t = some e) : P.underlying t = some (.slice e) := by
  unfold tyElem at h
  split at h
  · rename_i e' hu; cases h; exact hu
  · cases h

theorem below_new (w : World) (o : Obj) : Below w.heap.size w (w.alloc o) := (Below.refl _ _).alloc (Nat.le_refl _) _

theorem eff_alloc (h : Rel io w0 N g s a w) (hio : ∀ b, io b → b < w0.heap.size) {t : Nat} (ho : o.op = .alloc t) {z : Value} (hz : zeroOf P t = some z) (h1 : z.cells.all (·.oneCell') = true) :
    Turns P o io w0 N s a w (.own s.nx z.cells.size 0 0, upd s.ob s.nx (some (t, z.cells.size, [ofVal z])), s.nx + 1) := by
  have hr : (execOp a.eval o).run P w = .ok (.value (.pointer (some ⟨w.heap.size, 0, none⟩))) (w.alloc (.cells z.cells t)) := by
    simp [execOp, ho, Instr.alloc, Sem.run_bind, run_zero hz w, newVar, newRow]
  refine Turns.new h hio hr (below_new _ _) (heap_alloc_new _ _) (Lays.one (ofVal_rep g w z) h1) (by simp) ?_
  rw [← h.nx]
  exact rep_own_new

theorem eff_box (h : Rel io w0 N g s a w) (hio : ∀ b, io b → b < w0.heap.size) {t : Nat} {x : Operand} (ho : o.op = .box t x) {cs : List PV} (hc : cellsL (look s.tm x) = some cs) :
    Turns P o io w0 N s a w (.own s.nx cs.length 0 0, upd s.ob s.nx (some (t, cs.length, [look s.tm x])), s.nx + 1) := by
  obtain ⟨h1, h2, h3⟩ := cellsL_rep (h.look x) hc
  have hr : (execOp a.eval o).run P w = .ok (.value (.pointer (some ⟨w.heap.size, 0, none⟩))) (w.alloc (.cells (a.eval x).cells t)) := by
    simp [execOp, ho, Instr.box, Sem.run_bind, newVar, newRow]
  rw [← h2]
  refine Turns.new h hio hr (below_new _ _) (heap_alloc_new _ _) (Lays.one (h.look x) h1) (by simp) ?_
  rw [← h.nx]
  exact rep_own_new

theorem eff_buildSlice (h : Rel io w0 N g s a w) (hio : ∀ b, io b → b < w0.heap.size) {t n e sz : Nat} {ps : Array (Nat × Operand)} {es : List PV} (ho : o.op = .buildSlice t n ps) (hc : rowEs P t n (partsOf (look s.tm) ps) = some (e, sz, es)) :
    Turns P o io w0 N s a w (.row s.nx sz 0 n, upd s.ob s.nx (some (e, sz, es)), s.nx + 1) := by
  obtain ⟨hl, arr, h2, h3, h4⟩ := run_buildSlice (w := w) hc (h.parts ps)
  have hsz := rowEs_len hc
  have hr : (execOp a.eval o).run P w = .ok (.value (.slice (some ⟨w.heap.size, 0, none⟩) n n)) (w.alloc (.cells arr e)) := by
    simp [execOp, ho, h3]
  refine Turns.new h hio hr (below_new _ _) (heap_alloc_new _ _) h4 (by rw [hl, h2]; exact Nat.le_refl _) ?_
  rw [← h.nx]
  exact rep_row_new (Nat.le_refl _) hsz (Nat.le_of_eq h2.symm)

theorem eff_makeSlice (h : Rel io w0 N g s a w) (hio : ∀ b, io b → b < w0.heap.size) {t e sz by_ : Nat} {x y : Operand} {z : Value} (ho : o.op = .makeSlice t x y) (he : tyElem P t = some e) (hz : zeroOf P e = some z) (hs : tySize P e = some sz) (hb : tyBytes P e = some by_)
    {kl kc : IntKind} {l c : Int} (hl : look s.tm x = .val (.int kl l)) (hc : look s.tm y = .val (.int kc c)) (h1 : z.cells.all (·.oneCell') = true) (h2 : z.cells.size = sz) (h3 : 0 ≤ l) (h4 : l ≤ c) (h5 : (by_ : Int) * c ≤ 281474976710656) (h6 : c ≤ 9223372036854775807) :
    Turns P o io w0 N s a w (.row s.nx sz 0 l.toNat, upd s.ob s.nx (some (e, sz, List.replicate l.toNat (ofVal z))), s.nx + 1) := by
  obtain ⟨i, hi, hby⟩ := run_bytes hb
  have hx := h.look x
  have hy := h.look y
  rw [hl] at hx
  rw [hc] at hy
  simp only [Rep] at hx hy
  have hm := run_make (P := P) w t e i z (elem_info he) hi (zero_info hi hz) kl kc l c h3 h4 (by rw [hby]; exact h5) h6
  rw [size_info hi hs] at hm
  have hr : (execOp a.eval o).run P w = .ok (.value (.slice (some ⟨w.heap.size, 0, none⟩) l.toNat c.toNat)) (w.alloc (.cells (madeCells z.cells (c.toNat * sz)) e)) := by
    simp only [execOp, ho, hx, hy]
    rw [Sem.run_bind, hm]
    rfl
  refine Turns.new h hio hr (below_new _ _) (heap_alloc_new _ _) (Lays.made h1 h2 (by omega)) (by rw [size_madeCells, List.length_replicate]; exact Nat.mul_le_mul_right _ (by omega)) ?_
  rw [← h.nx]
  exact rep_row_new (by omega) (by omega) (by rw [size_madeCells]; exact Nat.le_refl _)

theorem setL_length {α : Type} (l new : List α) (off : Nat) (h : off + new.length ≤ l.length) : (setL l off new).length = l.length := by
  unfold setL; simp; omega
theorem setL_get {α : Type} (l new : List α) (off : Nat) (h : off + new.length ≤ l.length) (i : Nat) : (setL l off new)[i]? = if off ≤ i ∧ i < off + new.length then new[i - off]? else l[i]? := by
  unfold setL
  have hl1 : (l.take off).length = off := by simp; omega
  by_cases c1 : i < off
  · rw [if_neg (by omega), List.append_assoc, List.getElem?_append_left (by omega)]
    simp [c1]
  · by_cases c2 : i < off + new.length
    · rw [if_pos (by omega), List.append_assoc, List.getElem?_append_right (by omega), hl1, List.getElem?_append_left (by omega)]
    · rw [if_neg (by omega), List.getElem?_append_right (by simp; omega)]
      simp only [List.length_append, hl1, List.getElem?_drop]
      congr 1
      omega

theorem cellsL_one {p : PV} {cs : List PV} (h : oneP p = true) (hc : cellsL p = some cs) : cs = [p] := by cases p <;> simp_all [cellsL, oneP]
/-- A value with some of its cells set. -/
theorem setP_rep {sz f : Nat} {e e' y : PV} {u v : Value} {cs : List PV} (he : Rep g w e u) (hu : u.cells.all (·.oneCell') = true) (hsz : u.cells.size = sz) (hy : Rep g w y v) (hc : cellsL y = some cs) (h : setP sz e f y cs = some e') :
    f + cs.length ≤ sz ∧ ∃ u', Rep g w e' u' ∧ u'.cells.all (·.oneCell') = true ∧ u'.cells.size = sz ∧ u'.cells.toList = setL u.cells.toList f v.cells.toList := by
  obtain ⟨h1, h2, h3⟩ := cellsL_rep hy hc
  unfold setP at h
  split at h
  · rename_i ecs
    split at h
    case isFalse => cases h
    case isTrue hle =>
      cases h
      simp only [Rep] at he
      obtain ⟨us, rfl, hl⟩ := he
      have hl1 := hl.get.1
      generalize v.cells = vc at h1 h2 h3 ⊢
      simp only [Value.cells, Array.length_toList] at hsz hl1 hu
      refine ⟨by omega, .agg (setL us.toList f vc.toList).toArray, ?_, ?_, ?_, ?_⟩
      · simp only [Rep]
        exact ⟨_, rfl, by simpa using hl.setL h3 f⟩
      · simp only [Value.cells, Array.all_eq_true_iff_forall_mem]
        intro x hx
        rw [List.mem_toArray] at hx
        unfold setL at hx
        rw [List.mem_append, List.mem_append] at hx
        rcases hx with (hx | hx) | hx
        · exact (Array.all_eq_true_iff_forall_mem.1 hu) x (by simpa using List.mem_of_mem_take hx)
        · exact (Array.all_eq_true_iff_forall_mem.1 h1) x (by simpa using hx)
        · exact (Array.all_eq_true_iff_forall_mem.1 hu) x (by simpa using List.mem_of_mem_drop hx)
      · simp only [Value.cells, List.size_toArray]
        rw [setL_length _ _ _ (by simp; omega)]
        simpa using hsz
      · simp [Value.cells]
  · split at h
    case isFalse => cases h
    case isTrue hh =>
      obtain ⟨rfl, rfl, hone⟩ := hh
      cases h
      have hcs := cellsL_one hone hc
      subst hcs
      simp only [List.length_singleton] at h2
      refine ⟨by simp, v, hy, h1, h2, ?_⟩
      unfold setL
      have e1 : u.cells.toList.length = 1 := by simpa using hsz
      have e2 : v.cells.toList.length = 1 := by simpa using h2
      rw [List.take_zero, List.nil_append, Nat.zero_add, e2, List.drop_eq_nil_of_le (by omega), List.append_nil]

theorem eff_store (h : Rel io w0 N g s a w) {t : Nat} {x y : Operand} (ho : o.op = .store t x y) {ob sz i f T : Nat} {es : List PV} {e e' : PV} {cs : List PV} (hx : look s.tm x = .own ob sz i f) (hob : s.ob ob = some (T, sz, es)) (he : es[i]? = some e)
    (hc : cellsL (look s.tm y) = some cs) (hsz : tySize P t = some cs.length) (hp : setP sz e f (look s.tm y) cs = some e') :
    Turns P o io w0 N s a w (.val undef, upd s.ob ob (some (T, sz, es.set i e')), s.nx) := by
  have hX := h.look x
  have hY := h.look y
  rw [hx] at hX
  simp only [Rep] at hX
  obtain ⟨hX, hlt⟩ := hX
  obtain ⟨k1, k2, k3, ⟨arr, k4, k5⟩, k6, k7⟩ := h.ob ob _ hob
  dsimp only at k4 k6 k7
  obtain ⟨u, m1, m2, m3⟩ := k7.get he
  obtain ⟨q1, u', q2, q3, q4, q5⟩ := setP_rep m1 m2.1 m3 hY hc hp
  obtain ⟨c1, c2, c3⟩ := cellsL_rep hY hc
  have hlays := k7.lays k4
  have hilt : i < es.length := (List.getElem?_eq_some_iff.1 he).1
  have hfit : i * sz + f + cs.length ≤ arr.size := by
    have : (i + 1) * sz ≤ es.length * sz := Nat.mul_le_mul_right _ (by omega)
    rw [Nat.add_one_mul] at this
    omega
  have hst := run_storeCells_at P (g.β ob) (i * sz + f) T (a.eval y).cells.toList 0 arr w k4 (by simp; omega) (fun v hv => (Array.all_eq_true_iff_forall_mem.1 c1) v (by simpa using hv))
  have hsv : (storeVar t ⟨g.β ob, i * sz + f, none⟩ (a.eval y)).run P w = .ok () (w.setRow (g.β ob) (setL arr.toList (i * sz + f) (a.eval y).cells.toList).toArray) := by
    unfold storeVar
    rw [Sem.run_bind, run_size hsz w]
    simp only [Result.andThen_ok, c2, ne_eq, not_true_eq_false, if_false, setL]
    simpa using hst
  have hr : (execOp a.eval o).run P w = .ok .skip (w.setRow (g.β ob) (setL arr.toList (i * sz + f) (a.eval y).cells.toList).toArray) := by
    simp only [execOp, ho, hX, Instr.storeAt, Instr.sureAddr, Sem.run_bind, Sem.run_pure, Result.andThen_ok, hsv]
  have hw : ∀ k b, g.I k b → (w.setRow (g.β ob) (setL arr.toList (i * sz + f) (a.eval y).cells.toList).toArray).heap[b]? = w.heap[b]? := fun k b hb => setRow_other _ _ _ _ (fun e => k3 k (e ▸ hb))
  refine Turns.skip (g' := g) hr (h.set hob (arr := (setL arr.toList (i * sz + f) (a.eval y).cells.toList).toArray) ⟨rfl, rfl, rfl, by simp [World.setRow]⟩ (fun b hb => setRow_other _ _ _ _ hb) (setRow_heap _ _ _ _ _ _ k4) (by rw [List.size_toArray, setL_length _ _ _ (by simp; omega)]; simpa using k5) ?_ (by simpa using k6)) rfl
  intro i' e1 he1
  rw [List.getElem?_set] at he1
  have hget : ∀ j, ((setL arr.toList (i * sz + f) (a.eval y).cells.toList).toArray)[j]? = if i * sz + f ≤ j ∧ j < i * sz + f + (a.eval y).cells.toList.length then (a.eval y).cells.toList[j - (i * sz + f)]? else arr[j]? := by
    intro j
    rw [List.getElem?_toArray, setL_get _ _ _ (by simp; omega)]
    simp
  by_cases hii : i = i'
  · subst hii
    rw [if_pos rfl, if_pos hilt] at he1
    cases he1
    refine ⟨u', q2, q3, q4, fun j hj => ?_⟩
    have e2 : u'.cells[j]? = u'.cells.toList[j]? := by simp
    rw [e2, q5, setL_get _ _ _ (by simp; omega), hget]
    obtain ⟨v1, v2, v3, v4, v5⟩ := hlays i e he
    by_cases hin : f ≤ j ∧ j < f + (a.eval y).cells.toList.length
    · rw [if_pos hin, if_pos (by omega)]
      congr 1
      omega
    · rw [if_neg hin, if_neg (by omega)]
      have m4 := m2.2 j (by omega)
      simp only [World.cell?, k4, Nat.zero_add] at m4
      simpa using m4
  · rw [if_neg hii] at he1
    obtain ⟨v1, v2, v3, v4, v5⟩ := hlays i' e1 he1
    refine ⟨v1, v2, v3, v4, fun j hj => ?_⟩
    rw [hget, if_neg, v5 j hj]
    have hne : i' < i ∨ i < i' := by omega
    simp only [Array.length_toList]
    rcases hne with hne | hne
    · have : (i' + 1) * sz ≤ i * sz := Nat.mul_le_mul_right _ (by omega)
      rw [Nat.add_one_mul] at this
      omega
    · have : (i + 1) * sz ≤ i' * sz := Nat.mul_le_mul_right _ (by omega)
      rw [Nat.add_one_mul] at this
      omega
end
end Go.Proofs.YtenldjifipnjpaaDoor
