/- The model's operations make and turn the own objects as evEff says. -/
import Derived.Test.YtenldjifipnjpaaDoorPxF
namespace Go.Proofs.YtenldjifipnjpaaDoor
open Go.RowKit
set_option linter.all false
section
variable {P : Program} {Γ : Ctx} {io : IoS} {w0 : World} {N : Nat} {g : Gh} {s : AS} {a : Act} {w w' : World} {o : Oper} {p : PV}

theorem Lays.nil (g : Gh) (w : World) (arr : Array Value) (sz : Nat) : Lays g w arr sz [] := fun i e he => by simp at he
theorem Lays.one {u : Value} {e : PV} (h : Rep g w e u) (h1 : u.cells.all (·.oneCell') = true) : Lays g w u.cells u.cells.size [e] := fun i x hx => by
  cases i with
  | zero => simp only [List.getElem?_cons_zero, Option.some.injEq] at hx; subst hx; exact ⟨u, h, h1, rfl, fun j hj => by simp⟩
  | succ i => simp at hx
theorem Lays.made {z : Value} {sz n m : Nat} (hz : z.cells.all (·.oneCell') = true) (hs : z.cells.size = sz) (hn : n ≤ m) : Lays g w (madeCells z.cells (m * sz)) sz (List.replicate n (ofVal z)) := fun i e he => by
  rw [List.getElem?_replicate] at he
  split at he
  case isFalse => cases he
  case isTrue hi =>
    cases he
    refine ⟨z, ofVal_rep g w z, hz, hs, fun j hj => ?_⟩
    have h1 : i * sz + j < m * sz := Nat.lt_of_lt_of_le (by rw [Nat.add_one_mul]; omega : i * sz + j < (i + 1) * sz) (Nat.mul_le_mul_right _ (by omega))
    have h2 : (i * sz + j) % z.cells.size = j := by rw [hs, Nat.mul_comm, Nat.mul_add_mod, Nat.mod_eq_of_lt hj]
    unfold madeCells
    rw [Array.getElem?_map, Array.getElem?_range]
    simp only [h1, if_true, Option.map_some, h2]
    rw [getElem!_pos z.cells j (by omega), Array.getElem?_eq_getElem (by omega)]

theorem RepEs.lays {arr : Array Value} {sz T b : Nat} {es : List PV} (h : RepEs g w sz es b 0) (hb : w.heap[b]? = some (.cells arr T (0, 0))) : Lays g w arr sz es := fun i e he => by
  obtain ⟨u, h1, h2, h3⟩ := h.get he
  refine ⟨u, h1, h2.1, h3, fun j hj => ?_⟩
  have := h2.2 j (by omega)
  simp only [World.cell?, hb, Nat.zero_add] at this
  simpa using this

/-- The cells of elements that lie in a row. -/
theorem RepEs.news {sz : Nat} : ∀ {es : List PV} {b off : Nat}, RepEs g w sz es b off → ∃ news : List Value, news.length = es.length * sz ∧ (∀ (j : Nat) u, news[j]? = some u → w.cell? ⟨b, off + j, none⟩ = some u) ∧ (∀ u ∈ news, u.oneCell' = true) ∧
    ∀ (i : Nat) e, es[i]? = some e → ∃ u, Rep g w e u ∧ u.cells.all (·.oneCell') = true ∧ u.cells.size = sz ∧ ∀ j, j < sz → news[i * sz + j]? = u.cells[j]?
  | [], b, off, h => ⟨[], by simp, by simp, by simp, by simp⟩
  | x :: es, b, off, h => by
    simp only [RepEs] at h
    obtain ⟨⟨u, h1, h2, h3⟩, h4⟩ := h
    obtain ⟨news, k1, k2, k3, k4⟩ := h4.news
    have hl : u.cells.toList.length = sz := by simpa using h3
    refine ⟨u.cells.toList ++ news, by simp [h3, k1, Nat.add_mul]; omega, fun j v hv => ?_, fun v hv => ?_, fun i e he => ?_⟩
    · by_cases hj : j < sz
      · rw [List.getElem?_append_left (by omega)] at hv
        rw [h2.2 j (by omega)]
        simpa using hv
      · rw [List.getElem?_append_right (by omega), hl] at hv
        have := k2 _ v hv
        rw [show off + sz + (j - sz) = off + j by omega] at this
        exact this
    · rw [List.mem_append] at hv
      rcases hv with hv | hv
      · exact (Array.all_eq_true_iff_forall_mem.1 h2.1) v (by simpa using hv)
      · exact k3 v hv
    · cases i with
      | zero =>
        simp only [List.getElem?_cons_zero, Option.some.injEq] at he
        subst he
        refine ⟨u, h1, h2.1, h3, fun j hj => ?_⟩
        rw [Nat.zero_mul, Nat.zero_add, List.getElem?_append_left (by omega)]
        simp
      | succ i =>
        simp only [List.getElem?_cons_succ] at he
        obtain ⟨v, m1, m2, m3, m4⟩ := k4 i e he
        refine ⟨v, m1, m2, m3, fun j hj => ?_⟩
        rw [List.getElem?_append_right (by rw [hl, Nat.add_one_mul]; omega), hl, show (i + 1) * sz + j - sz = i * sz + j by rw [Nat.add_one_mul]; omega]
        exact m4 j hj

theorem Lays.mono {arr : Array Value} {sz : Nat} {es : List PV} {g' : Gh} (h : Lays g w arr sz es) (hg : g.le g') (hw : ∀ k b, g.I k b → w'.heap[b]? = w.heap[b]?) : Lays g' w' arr sz es := fun i e he => by
  obtain ⟨u, h1, h2⟩ := h i e he
  exact ⟨u, h1.mono hg hw, h2⟩

/-- Elements behind elements. -/
theorem lays_append {sz n : Nat} {es es2 : List PV} {news : List Value} {arr arr' : Array Value} (hn : es.length = n) (h1 : Lays g w arr sz es)
    (h2 : ∀ (i : Nat) e, es2[i]? = some e → ∃ u, Rep g w e u ∧ u.cells.all (·.oneCell') = true ∧ u.cells.size = sz ∧ ∀ j, j < sz → news[i * sz + j]? = u.cells[j]?)
    (ha : ∀ j, j < n * sz → arr'[j]? = arr[j]?) (hb : ∀ j, j < news.length → arr'[n * sz + j]? = news[j]?) (hl : news.length = es2.length * sz) : Lays g w arr' sz (es ++ es2) := fun i e he => by
  by_cases hi : i < n
  · rw [List.getElem?_append_left (by omega)] at he
    obtain ⟨u, k1, k2, k3, k4⟩ := h1 i e he
    refine ⟨u, k1, k2, k3, fun j hj => ?_⟩
    rw [ha _ (Nat.lt_of_lt_of_le (by rw [Nat.add_one_mul]; omega : i * sz + j < (i + 1) * sz) (Nat.mul_le_mul_right _ (by omega)))]
    exact k4 j hj
  · rw [List.getElem?_append_right (by omega), hn] at he
    obtain ⟨u, k1, k2, k3, k4⟩ := h2 _ e he
    refine ⟨u, k1, k2, k3, fun j hj => ?_⟩
    have hlt : i - n < es2.length := (List.getElem?_eq_some_iff.1 he).1
    have e1 : i * sz + j = n * sz + ((i - n) * sz + j) := by rw [← Nat.add_assoc, ← Nat.add_mul]; congr 2; omega
    rw [e1, hb _ (by rw [hl]; exact Nat.lt_of_lt_of_le (by rw [Nat.add_one_mul]; omega : (i - n) * sz + j < (i - n + 1) * sz) (Nat.mul_le_mul_right _ (by omega)))]
    exact k4 j hj

def Turns (P : Program) (o : Oper) (io : IoS) (w0 : World) (N : Nat) (s : AS) (a : Act) (w : World) (r : PV × Objs × Nat) : Prop :=
  ∀ (K : Act → World → Prop) (Q : Exit → Act → World → Prop), (∀ v w' g', Rel io w0 N g' { s with ob := r.2.1, nx := r.2.2 } a w' → Rep g' w' r.1 v → K (a.put o.dst v) w') → o.wp P a w K Q

theorem Turns.run {v : Value} {g' : Gh} {r : PV × Objs × Nat} (h : (execOp a.eval o).run P w = .ok (.value v) w') (hr : Rel io w0 N g' { s with ob := r.2.1, nx := r.2.2 } a w') (hp : Rep g' w' r.1 v) : Turns P o io w0 N s a w r := fun K Q hk => by
  unfold Oper.wp
  rw [h, Oper.upon_value]
  exact hk v w' g' hr hp
theorem Turns.skip {g' : Gh} {r : PV × Objs × Nat} (h : (execOp a.eval o).run P w = .ok .skip w') (hr : Rel io w0 N g' { s with ob := r.2.1, nx := r.2.2 } a w') (hp : r.1 = .val undef) : Turns P o io w0 N s a w r := fun K Q hk => by
  unfold Oper.wp
  rw [h, Oper.upon_skip]
  exact hk undef w' g' hr (by rw [hp]; simp [Rep])

theorem rep_own_new {b k sz : Nat} : Rep (g.add b k) w (.own g.nx sz 0 0) (.pointer (some ⟨b, 0, none⟩)) := by
  simp only [Rep, Gh.add, upd_same]
  exact ⟨by simp, Gh.D_add⟩
theorem rep_row_new {b k sz n c : Nat} (h1 : n ≤ c) (h2 : c ≤ 9223372036854775807) (h3 : c * sz ≤ k) : Rep (g.add b k) w (.row g.nx sz 0 n) (.slice (some ⟨b, 0, none⟩) n c) := by
  simp only [Rep, Gh.add, upd_same]
  exact ⟨c, by simp, h1, h2, by simpa using h3, Gh.D_add⟩

theorem Turns.new (h : Rel io w0 N g s a w) (hio : ∀ b, io b → b < w0.heap.size) {v : Value} {p : PV} {arr : Array Value} {T sz : Nat} {es : List PV}
    (hr : (execOp a.eval o).run P w = .ok (.value v) w') (hb : Below w.heap.size w w') (hn : w'.heap[w.heap.size]? = some (.cells arr T (0, 0)))
    (hes : Lays g w arr sz es) (hlen : es.length * sz ≤ arr.size) (hp : Rep (g.add w.heap.size arr.size) w' p v) : Turns P o io w0 N s a w (p, upd s.ob s.nx (some (T, sz, es)), s.nx + 1) :=
  Turns.run hr (h.add hio hb hn hes hlen) hp
end
end Go.Proofs.YtenldjifipnjpaaDoor
