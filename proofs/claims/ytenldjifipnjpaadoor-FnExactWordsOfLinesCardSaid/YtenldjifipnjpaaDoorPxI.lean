/- append onto a row of the call's own; all operations that turn objects. -/
import Derived.Test.YtenldjifipnjpaaDoorPxIo
import Derived.Laws.CopyRow
namespace Go.Proofs.YtenldjifipnjpaaDoor
open Go.RowKit
set_option linter.all false
section
variable {P : Program} {Γ : Ctx} {io : IoS} {w0 : World} {N : Nat} {g : Gh} {s : AS} {a : Act} {w w' : World} {o : Oper} {p : PV}

theorem run_append_zero {t e sz : Nat} (w : World) (ht : P.underlying t = some (.slice e)) (hs : tySize P e = some sz) (ty : Nat) (b ad : Option Addr) (n c cap : Nat) (hn : n ≤ c) :
    (Builtin.append_ #[t, t] ty #[.slice b n c, .slice ad 0 cap]).run P w = .ok (.slice b n c) w := by
  cases ad with
  | none => cases b <;> simp [Builtin.append_, run_underlying ht, run_size hs w, Builtin.lenOf, Builtin.firstCells, storeCells, hn]
  | some ad => cases b <;> simp [Builtin.append_, run_underlying ht, run_size hs w, Builtin.lenOf, Builtin.firstCells, loadCells, loadCellsFrom, storeCells, hn]

theorem rep_row {ob sz n : Nat} {v : Value} (h : Rep g w (.row ob sz 0 n) v) : ∃ c, v = .slice (some ⟨g.β ob, 0, none⟩) n c ∧ n ≤ c ∧ c ≤ 9223372036854775807 ∧ c * sz ≤ g.κ ob ∧ g.D ob := by
  simp only [Rep] at h
  obtain ⟨c, h1, h2, h3, h4, h5⟩ := h
  exact ⟨c, by simpa using h1, h2, h3, by simpa using h4, h5⟩

theorem exec_append {x y : Operand} {c : Call} {t : Nat} (ho : o.op = .call c) (hc : c.callee = .builtin .append) (ha : c.args.toList = [x, y]) (ht : c.argTypes.toList = [t, t]) {v : Value}
    (h : (Builtin.append_ #[t, t] o.type #[a.eval x, a.eval y]).run P w = .ok v w') : (execOp a.eval o).run P w = .ok (.value v) w' := by
  have ha' : c.args = #[x, y] := by rw [← Array.toArray_toList (xs := c.args), ha]
  have ht' : c.argTypes = #[t, t] := by rw [← Array.toArray_toList (xs := c.argTypes), ht]
  simp [execOp, ho, resolve, hc, ha', ht', invoke, builtin, h]

theorem eff_append (h : Rel io w0 N g s a w) (hio : ∀ b, io b → b < w0.heap.size) {x y : Operand} {c : Call} {t e sz by_ : Nat} {z : Value} (ho : o.op = .call c) (hc : c.callee = .builtin .append) (ha : c.args.toList = [x, y]) (ht : c.argTypes.toList = [t, t])
    (he : tyElem P t = some e) (hz : zeroOf P e = some z) (hs : tySize P e = some sz) (hb : tyBytes P e = some by_) {es es2 : List PV} (h2 : sliceEs s.ob sz (look s.tm y) = some es2) (hsz : 0 < sz) (hzs : z.cells.size = sz)
    {ob n : Nat} (hx : look s.tm x = .row ob sz 0 n) (hob : s.ob ob = some (e, sz, es)) (hn : es.length = n) (h63 : n + es2.length ≤ 9223372036854775807) (hby : (n + es2.length) * by_ ≤ 140737488355328) :
    Turns P o io w0 N s a w (.row s.nx sz 0 (n + es2.length), upd (upd s.ob ob none) s.nx (some (e, sz, es ++ es2)), s.nx + 1) := by
  have hu := elem_info he
  obtain ⟨i, hi, hib⟩ := run_bytes hb
  have hisz := size_info hi hs
  have hiz := zero_info hi hz
  have hX := h.look x
  rw [hx] at hX
  obtain ⟨cap, hX, r1, r2, r3, r4⟩ := rep_row hX
  obtain ⟨k1, k2, k3, ⟨arr, k4, k5⟩, k6, k7⟩ := h.ob ob _ hob
  dsimp only at k4 k6 k7
  obtain ⟨ad, cap2, hY, q1, q2⟩ := sliceEs_rep h (h.look y) h2
  have hlays := k7.lays k4
  by_cases hm : es2.length = 0
  · have hnil : es2 = [] := List.eq_nil_of_length_eq_zero hm
    subst hnil
    have hrun := exec_append (a := a) ho hc ha ht (by rw [hX, hY]; exact run_append_zero w hu hs o.type (some ⟨g.β ob, 0, none⟩) ad n cap cap2 r1)
    have hren := h.rename hob
    rw [List.append_nil]
    refine Turns.run hrun hren ?_
    rw [← h.nx]
    exact rep_row_new r1 r2 r3
  · rcases q2 with rfl | ⟨b, off, rfl, q3⟩
    · simp at hm
    · obtain ⟨news, n1, n2, n3, n4⟩ := q3.news
      have hnews : ∀ j u, news[j]? = some u → w.cell? ((⟨b, off, none⟩ : Addr).add j) = some u := fun j u hj => by rw [Addr.add_mid]; exact n2 j u hj
      by_cases hroom : n + es2.length ≤ cap
      · have hfit : n * sz + news.length ≤ arr.size := by
          rw [n1, k5, ← Nat.add_mul]
          exact Nat.le_trans (Nat.mul_le_mul_right _ hroom) r3
        have hr := run_append_room (P := P) w t o.type e i hu hi (g.β ob) n cap arr k4 ⟨b, off, none⟩ es2.length cap2 news (by rw [hisz]; exact n1) hnews n3 hroom (by rw [hisz]; exact hfit)
        rw [hisz] at hr
        have hrun := exec_append (a := a) ho hc ha ht (by rw [hX, hY]; exact hr)
        have hsl : (arr.toList.take (n * sz) ++ news ++ arr.toList.drop (n * sz + news.length)) = setL arr.toList (n * sz) news := rfl
        rw [hsl] at hrun
        have hget : ∀ j, ((setL arr.toList (n * sz) news).toArray)[j]? = if n * sz ≤ j ∧ j < n * sz + news.length then news[j - n * sz]? else arr[j]? := by
          intro j
          rw [List.getElem?_toArray, setL_get _ _ _ (by simpa using hfit)]
          simp
        have hset := h.set (w' := w.setRow (g.β ob) (setL arr.toList (n * sz) news).toArray) (es' := es ++ es2) hob (arr := (setL arr.toList (n * sz) news).toArray) ⟨rfl, rfl, rfl, by simp [World.setRow]⟩ (fun b hb => setRow_other _ _ _ _ hb) (setRow_heap _ _ _ _ _ _ k4)
          (by rw [List.size_toArray, setL_length _ _ _ (by simpa using hfit)]; simpa using k5)
          (lays_append hn hlays n4 (fun j hj => by rw [hget, if_neg (by omega)]) (fun j hj => by rw [hget, if_pos (by omega)]; congr 1; omega) n1)
          (by rw [List.length_append, hn, ← k5, Nat.add_mul, ← n1]; exact hfit)
        have hren := hset.rename (ob := ob) (c := (e, sz, es ++ es2)) (by simp [upd])
        dsimp only at hren
        rw [upd_comm_eq] at hren
        refine Turns.run hrun hren ?_
        rw [← h.nx]
        exact rep_row_new hroom r2 r3
      · obtain ⟨olds, o1, o2, o3, o4⟩ := k7.news
        rw [hn] at o1
        have holds : ∀ j u, olds[j]? = some u → w.cell? ((⟨g.β ob, 0, none⟩ : Addr).add j) = some u := fun j u hj => by rw [Addr.add_mid]; exact o2 j u hj
        have hr := run_append_grow (P := P) w t o.type e i z hu hi hiz ⟨g.β ob, 0, none⟩ n cap olds (by rw [hisz]; exact o1) holds ⟨b, off, none⟩ es2.length cap2 news (by rw [hisz]; exact n1) hnews (by omega) (by omega) (by rw [hib]; exact growslice_fits (by omega) hby)
        have hrun := exec_append (a := a) ho hc ha ht (by rw [hX, hY]; exact hr)
        have hge := grownCap_ge w (n + es2.length) cap e
        have hcm := grownCap_le_maxLen w (n + es2.length) cap e (by simp only [maxLen]; omega)
        have hasz : (olds.toArray ++ news.toArray ++ Builtin.zeroCells z.cells (grownCap w (n + es2.length) cap e - (n + es2.length))).size = grownCap w (n + es2.length) cap e * sz := by
          simp only [Array.size_append, List.size_toArray, size_zeroCells, hzs, o1, n1, ← Nat.add_mul]
          congr 1
          omega
        have hget : ∀ j, j < (n + es2.length) * sz → (olds.toArray ++ news.toArray ++ Builtin.zeroCells z.cells (grownCap w (n + es2.length) cap e - (n + es2.length)))[j]? = (olds ++ news)[j]? := by
          intro j hj
          rw [Nat.add_mul] at hj
          rw [Array.getElem?_append_left (by simp [o1, n1]; omega), ← List.getElem?_toArray, List.append_toArray]
        have hbl : Below w.heap.size w (w.drew.alloc (.cells (olds.toArray ++ news.toArray ++ Builtin.zeroCells z.cells (grownCap w (n + es2.length) cap e - (n + es2.length))) e)) := ((Below.refl _ _).drew).alloc (Nat.le_refl _) _
        have hadd := (h.del ob).add (es := es ++ es2) (sz := sz) hio hbl (heap_alloc_new w.drew _)
          (lays_append (arr := olds.toArray) hn (fun i e he => by obtain ⟨u, m1, m2, m3, m4⟩ := o4 i e he; exact ⟨u, m1, m2, m3, fun j hj => by rw [List.getElem?_toArray]; exact m4 j hj⟩) n4
            (fun j hj => by rw [hget j (by rw [Nat.add_mul]; omega), List.getElem?_append_left (by omega), List.getElem?_toArray])
            (fun j hj => by rw [hget _ (by rw [Nat.add_mul]; omega), List.getElem?_append_right (by omega)]; congr 1; omega) n1)
          (by rw [hasz, List.length_append, hn]; exact Nat.mul_le_mul_right _ hge)
        refine Turns.run hrun hadd ?_
        rw [← h.nx]
        refine rep_row_new hge ?_ (Nat.le_of_eq hasz.symm)
        simpa [maxLen] using hcm

theorem eff_append_nil (h : Rel io w0 N g s a w) (hio : ∀ b, io b → b < w0.heap.size) {x y : Operand} {c : Call} {t e sz by_ : Nat} {z : Value} (ho : o.op = .call c) (hc : c.callee = .builtin .append) (ha : c.args.toList = [x, y]) (ht : c.argTypes.toList = [t, t])
    (he : tyElem P t = some e) (hz : zeroOf P e = some z) (hs : tySize P e = some sz) (hb : tyBytes P e = some by_) {es2 : List PV} (h2 : sliceEs s.ob sz (look s.tm y) = some es2) (hsz : 0 < sz) (hzs : z.cells.size = sz)
    (hx : isNil (look s.tm x) = true) (h63 : es2.length ≤ 9223372036854775807) (hby : es2.length * by_ ≤ 140737488355328) :
    (es2.length = 0 → Turns P o io w0 N s a w (look s.tm x, s.ob, s.nx)) ∧ (es2.length ≠ 0 → Turns P o io w0 N s a w (.row s.nx sz 0 es2.length, upd s.ob s.nx (some (e, sz, es2)), s.nx + 1)) := by
  have hu := elem_info he
  obtain ⟨i, hi, hib⟩ := run_bytes hb
  have hisz := size_info hi hs
  have hiz := zero_info hi hz
  have hX := h.look x
  have hX' := hX
  unfold isNil at hx
  split at hx
  case h_2 => cases hx
  case h_1 hl =>
  rw [hl] at hX'
  simp only [Rep] at hX'
  obtain ⟨ad, cap2, hY, q1, q2⟩ := sliceEs_rep h (h.look y) h2
  refine ⟨fun hm => ?_, fun hm => ?_⟩
  · rw [hm] at hY
    have hrun := exec_append (a := a) ho hc ha ht (by rw [hX', hY]; exact run_append_zero w hu hs o.type none ad 0 0 cap2 (Nat.le_refl _))
    exact Turns.run hrun h (by rw [← hX']; exact hX)
  · rcases q2 with rfl | ⟨b, off, rfl, q3⟩
    · simp at hm
    · obtain ⟨news, n1, n2, n3, n4⟩ := q3.news
      have hnews : ∀ j u, news[j]? = some u → w.cell? ((⟨b, off, none⟩ : Addr).add j) = some u := fun j u hj => by rw [Addr.add_mid]; exact n2 j u hj
      have hr := run_append_nil (P := P) w t o.type e i z hu hi hiz ⟨b, off, none⟩ es2.length cap2 news (by rw [hisz]; exact n1) hnews (by omega) (by omega) (by rw [hib]; omega)
      have hrun := exec_append (a := a) ho hc ha ht (by rw [hX', hY]; exact hr)
      have hge := grownCap_ge w es2.length 0 e
      have hcm := grownCap_le_maxLen w es2.length 0 e (by simp only [maxLen]; omega)
      have hasz : (news.toArray ++ Builtin.zeroCells z.cells (grownCap w es2.length 0 e - es2.length)).size = grownCap w es2.length 0 e * sz := by
        simp only [Array.size_append, List.size_toArray, size_zeroCells, hzs, n1, ← Nat.add_mul]
        congr 1
        omega
      have hbl : Below w.heap.size w (w.drew.alloc (.cells (news.toArray ++ Builtin.zeroCells z.cells (grownCap w es2.length 0 e - es2.length)) e)) := ((Below.refl _ _).drew).alloc (Nat.le_refl _) _
      refine Turns.new h hio hrun hbl (heap_alloc_new w.drew _) ?_ (by rw [hasz]; exact Nat.mul_le_mul_right _ hge) ?_
      · intro i' e' he'
        obtain ⟨u, m1, m2, m3, m4⟩ := n4 i' e' he'
        refine ⟨u, m1, m2, m3, fun j hj => ?_⟩
        have hlt : i' < es2.length := (List.getElem?_eq_some_iff.1 he').1
        have : (i' + 1) * sz ≤ es2.length * sz := Nat.mul_le_mul_right _ (by omega)
        rw [Nat.add_one_mul] at this
        rw [Array.getElem?_append_left (by simp [n1]; omega), List.getElem?_toArray]
        exact m4 j hj
      · rw [← h.nx]
        refine rep_row_new hge ?_ (Nat.le_of_eq hasz.symm)
        simpa [maxLen] using hcm

theorem srcEs_rep (h : Rel io w0 N g s a w) {sz : Nat} {x : PV} {es : List PV} {v : Value} (hx : Rep g w x v) (he : srcEs s.ob sz x = some es) (m : Nat) (hm : m ≤ es.length) :
    (Builtin.lenOf v).run P w = .ok es.length w ∧ ∃ news : List Value, (Builtin.firstCells sz m v).run P w = .ok news.toArray w ∧ news.length = m * sz ∧ (∀ u ∈ news, u.oneCell' = true) ∧
      ∀ (i : Nat) e, (es.take m)[i]? = some e → ∃ u, Rep g w e u ∧ u.cells.all (·.oneCell') = true ∧ u.cells.size = sz ∧ ∀ j, j < sz → news[i * sz + j]? = u.cells[j]? := by
  unfold srcEs at he
  split at he
  · rename_i b
    split at he
    case isFalse => cases he
    case isTrue hsz =>
    subst hsz
    cases he
    simp only [Rep] at hx
    subst hx
    have hl : (b.data.toList.map fun x => PV.val (.int .u8 x.toNat)).length = b.size := by rw [List.length_map]; exact Array.length_toList
    rw [hl] at hm ⊢
    refine ⟨by simp [Builtin.lenOf], (b.data.toList.take m).map fun x => .int .u8 x.toNat, ?_, ?_, ?_, fun i e hi => ?_⟩
    · have e1 : (b.extract 0 m).data.toList = b.data.toList.take m := by
        rw [ByteArray.data_extract, Array.toList_extract]
        simp [List.extract]
      have e2 : (b.extract 0 m).data.map (fun b => Value.int .u8 b.toNat) = ((b.data.toList.take m).map fun x => Value.int .u8 x.toNat).toArray := by
        rw [← Array.toArray_toList (xs := (b.extract 0 m).data.map _), Array.toList_map, e1]
      show (Sem.pure ((b.extract 0 m).data.map fun b => Value.int .u8 b.toNat)).run P w = _
      rw [e2]
      rfl
    · simp only [List.length_map, List.length_take, Array.length_toList]
      have : b.data.size = b.size := rfl
      omega
    · intro u hu
      obtain ⟨x, _, rfl⟩ := List.mem_map.1 hu
      rfl
    · rw [← List.map_take, List.getElem?_map, Option.map_eq_some_iff] at hi
      obtain ⟨x, hx, rfl⟩ := hi
      refine ⟨.int .u8 x.toNat, by simp [Rep], by simp [Value.cells, Value.oneCell'], rfl, fun j hj => ?_⟩
      obtain rfl : j = 0 := by omega
      simp only [Nat.mul_one, Nat.add_zero, List.getElem?_map, hx]
      rfl
  · obtain ⟨ad, cap, rfl, h1, h2⟩ := sliceEs_rep h hx he
    refine ⟨by simp [Builtin.lenOf], ?_⟩
    rcases h2 with rfl | ⟨b, off, rfl, h3⟩
    · obtain rfl : m = 0 := by simpa using hm
      refine ⟨[], ?_, by simp, by simp, by simp⟩
      cases ad with
      | none => simp [Builtin.firstCells]
      | some ad => exact run_firstCells_some (P := P) w sz 0 ad _ _ [] (by simp) (by simp)
    · obtain ⟨news, n1, n2, n3, n4⟩ := (h3.take m).news
      rw [List.length_take, Nat.min_eq_left hm] at n1
      exact ⟨news, run_firstCells_some (P := P) w sz m ⟨b, off, none⟩ _ _ news n1 (fun j u hj => by rw [Addr.add_mid]; exact n2 j u hj), n1, n3, n4⟩
theorem lays_splice {sz k : Nat} {es es2 : List PV} {news : List Value} {arr arr' : Array Value} (hk : k + es2.length ≤ es.length) (h1 : Lays g w arr sz es)
    (h2 : ∀ (i : Nat) e, es2[i]? = some e → ∃ u, Rep g w e u ∧ u.cells.all (·.oneCell') = true ∧ u.cells.size = sz ∧ ∀ j, j < sz → news[i * sz + j]? = u.cells[j]?)
    (ha : ∀ j, arr'[j]? = if k * sz ≤ j ∧ j < k * sz + news.length then news[j - k * sz]? else arr[j]?) (hl : news.length = es2.length * sz) : Lays g w arr' sz (es.take k ++ es2 ++ es.drop (k + es2.length)) := fun i e he => by
  have hlt : ∀ i m j : Nat, i < m → j < sz → i * sz + j < m * sz := fun i m j h h' => Nat.lt_of_lt_of_le (by rw [Nat.add_one_mul]; omega : i * sz + j < (i + 1) * sz) (Nat.mul_le_mul_right _ (by omega))
  have hkl : (es.take k).length = k := by simp; omega
  have e2 : (k + es2.length) * sz = k * sz + news.length := by rw [Nat.add_mul, hl]
  by_cases c1 : i < k
  · rw [List.append_assoc, List.getElem?_append_left (by omega), List.getElem?_take, if_pos c1] at he
    obtain ⟨u, k1, k2, k3, k4⟩ := h1 i e he
    refine ⟨u, k1, k2, k3, fun j hj => ?_⟩
    rw [ha, if_neg (by have := hlt i k j c1 hj; omega)]
    exact k4 j hj
  · by_cases c2 : i < k + es2.length
    · rw [List.append_assoc, List.getElem?_append_right (by omega), hkl, List.getElem?_append_left (by omega)] at he
      obtain ⟨u, k1, k2, k3, k4⟩ := h2 _ e he
      refine ⟨u, k1, k2, k3, fun j hj => ?_⟩
      have h3 := hlt i (k + es2.length) j c2 hj
      have h4 : k * sz ≤ i * sz := Nat.mul_le_mul_right _ (by omega)
      rw [ha, if_pos ⟨by omega, by omega⟩, show i * sz + j - k * sz = (i - k) * sz + j by rw [Nat.sub_mul]; omega]
      exact k4 j hj
    · rw [List.getElem?_append_right (by simp; omega)] at he
      have e3 : (es.take k ++ es2).length = k + es2.length := by simp; omega
      rw [e3, List.getElem?_drop, show k + es2.length + (i - (k + es2.length)) = i by omega] at he
      obtain ⟨u, k1, k2, k3, k4⟩ := h1 i e he
      refine ⟨u, k1, k2, k3, fun j hj => ?_⟩
      have h4 : (k + es2.length) * sz ≤ i * sz := Nat.mul_le_mul_right _ (by omega)
      rw [ha, if_neg (by omega)]
      exact k4 j hj
theorem eff_copy (h : Rel io w0 N g s a w) {x y : Operand} {c : Call} {t t' : Nat} (ho : o.op = .call c) (hc : c.callee = .builtin .copy) (ha : c.args.toList = [x, y]) (ht : c.argTypes.toList = [t, t'])
    {r : PV × Objs × Nat} (hv : cpEv P s.ob s.nx t (look s.tm x) (look s.tm y) = some r) : Turns P o io w0 N s a w r := by
  unfold cpEv at hv
  split at hv
  case h_2 => cases hv
  rename_i e he
  split at hv
  case h_2 => cases hv
  rename_i sz hs
  have ha' : c.args = #[x, y] := by rw [← Array.toArray_toList (xs := c.args), ha]
  have ht' : c.argTypes = #[t, t'] := by rw [← Array.toArray_toList (xs := c.argTypes), ht]
  have hu := elem_info he
  split at hv
  case h_3 => cases hv
  case h_2 es2 kk ss h2 hx =>
    cases hv
    have hX := h.look x
    rw [hx] at hX
    simp only [Rep] at hX
    obtain ⟨ad, cap, hX, _⟩ := hX
    obtain ⟨q1, news, q2, q3, _, _⟩ := srcEs_rep (P := P) h (h.look y) h2 0 (Nat.zero_le _)
    have hnil : news = [] := List.eq_nil_of_length_eq_zero (by simpa using q3)
    subst hnil
    have hcp : (Builtin.copy_ #[t, t'] o.type #[a.eval x, a.eval y]).run P w = .ok (.int .i64 0) w := by
      rw [hX]
      simp only [Builtin.copy_, List.getElem?_toArray, List.getElem?_cons_zero, List.getElem?_cons_succ, Sem.run_bind, run_underlying hu, Result.andThen_ok, q1, run_size hs w, List.length_nil]
      rw [show Nat.min es2.length 0 = 0 from Nat.min_zero _, q2]
      simp only [Result.andThen_ok]
      cases ad with
      | none => rfl
      | some ad => rfl
    have hrun : (execOp a.eval o).run P w = .ok (.value (.int .i64 0)) w := by
      simp [execOp, ho, resolve, hc, ha', ht', invoke, builtin, hcp]
    exact Turns.run hrun h (by simp [Rep])
  rename_i es2 ob sz' i n h2 hx
  split at hv
  case h_2 => cases hv
  rename_i T sz'' es hob
  split at hv
  case isFalse => cases hv
  case isTrue hh =>
  obtain ⟨rfl, rfl, hle⟩ := hh
  cases hv
  have hX := h.look x
  rw [hx] at hX
  simp only [Rep] at hX
  obtain ⟨cap, hX, r1, r2, r3, r4⟩ := hX
  obtain ⟨k1, k2, k3, ⟨arr, k4, k5⟩, k6, k7⟩ := h.ob ob _ hob
  dsimp only at k4 k6 k7
  have hlays := k7.lays k4
  generalize hm : min es2.length n = m
  have hm1 : m ≤ es2.length := by omega
  have hm2 : m ≤ n := by omega
  obtain ⟨q1, news, q2, q3, q4, q5⟩ := srcEs_rep (P := P) h (h.look y) h2 m hm1
  have hfit : i * sz'' + news.length ≤ arr.size := by
    rw [q3, ← Nat.add_mul, k5]
    exact Nat.le_trans (Nat.mul_le_mul_right _ (by omega)) k6
  have hst := run_storeCells_at (P := P) (g.β ob) (i * sz'') T news 0 arr w k4 (by omega) q4
  simp only [Nat.add_zero] at hst
  have hcp : (Builtin.copy_ #[t, t'] o.type #[a.eval x, a.eval y]).run P w = .ok (.int .i64 (m : Nat)) (w.setRow (g.β ob) (arr.toList.take (i * sz'') ++ news ++ arr.toList.drop (i * sz'' + news.length)).toArray) := by
    rw [hX]
    simp only [Builtin.copy_, List.getElem?_toArray, List.getElem?_cons_zero, List.getElem?_cons_succ, Sem.run_bind, run_underlying hu, Result.andThen_ok, q1, run_size hs w]
    rw [show Nat.min es2.length n = m from hm, q2]
    simp only [Result.andThen_ok]
    rw [hst]
    rfl
  have hrun : (execOp a.eval o).run P w = .ok (.value (.int .i64 (m : Nat))) (w.setRow (g.β ob) (setL arr.toList (i * sz'') news).toArray) := by
    simp [execOp, ho, resolve, hc, ha', ht', invoke, builtin, hcp, setL]
  have hget : ∀ j, ((setL arr.toList (i * sz'') news).toArray)[j]? = if i * sz'' ≤ j ∧ j < i * sz'' + news.length then news[j - i * sz'']? else arr[j]? := by
    intro j
    rw [List.getElem?_toArray, setL_get _ _ _ (by simpa using hfit)]
    simp
  have htl : (es2.take m).length = m := by simp; omega
  have hly := lays_splice (k := i) (es := es) (es2 := es2.take m) (by rw [htl]; omega) hlays q5 hget (by rw [htl]; exact q3)
  rw [htl] at hly
  have hset := h.set (w' := w.setRow (g.β ob) (setL arr.toList (i * sz'') news).toArray) hob (arr := (setL arr.toList (i * sz'') news).toArray) ⟨rfl, rfl, rfl, by simp [World.setRow]⟩ (fun b hb => setRow_other _ _ _ _ hb) (setRow_heap _ _ _ _ _ _ k4)
    (by rw [List.size_toArray, setL_length _ _ _ (by simpa using hfit)]; simpa using k5) hly
    (by
      have : (es.take i ++ es2.take m ++ es.drop (i + m)).length = es.length := by simp; omega
      rw [this]; exact k6)
  exact Turns.run hrun hset (by simp [Rep])
theorem evEff_ok (h : Rel io w0 N g s a w) (hΓ : SoundΓ P Γ) (hio : ∀ b, io b → b < w0.heap.size) {r : PV × Objs × Nat} (hv : evEff P Γ s (look s.tm) o.op = some r) : Turns P o io w0 N s a w r := by
  cases ho : o.op with
  | alloc t =>
    simp only [ho, evEff] at hv
    split at hv
    · rename_i z hz
      split at hv
      case isFalse => cases hv
      case isTrue h1 => cases hv; exact eff_alloc h hio ho hz h1
    · cases hv
  | box t x =>
    simp only [ho, evEff] at hv
    split at hv
    · rename_i cs hc; cases hv; exact eff_box h hio ho hc
    · cases hv
  | buildSlice t n ps =>
    simp only [ho, evEff] at hv
    split at hv
    · rename_i e sz es hc; cases hv; exact eff_buildSlice h hio ho hc
    · cases hv
  | makeSlice t l c =>
    simp only [ho, evEff] at hv
    split at hv
    · rename_i e he
      split at hv
      · rename_i z sz by_ kl l' kc c' hz hs hb hl hc
        split at hv
        case isFalse => cases hv
        case isTrue hh =>
          obtain ⟨h1, h2, h3, h4, h5, h6⟩ := hh
          cases hv
          exact eff_makeSlice h hio ho he hz hs hb hl hc h1 h2 h3 h4 h5 h6
      · cases hv
    · cases hv
  | store t x y =>
    simp only [ho, evEff] at hv
    split at hv
    · rename_i ob sz i f hx
      split at hv
      · rename_i T sz' es hob
        split at hv
        · rename_i e cs he hc
          split at hv
          case isFalse => cases hv
          case isTrue hh =>
            obtain ⟨rfl, hts⟩ := hh
            simp only [Option.map_eq_some_iff] at hv
            obtain ⟨e', hp, rfl⟩ := hv
            exact eff_store h ho hx hob he hc hts hp
        · cases hv
      · cases hv
    · cases hv
  | call c =>
    simp only [ho, evEff] at hv
    split at hv
    · rename_i x hc
      split at hv
      · rename_i Φ hΦ
        unfold calleeIO at hΦ
        split at hΦ
        · rename_i f hcf
          obtain ⟨h1, h2⟩ := hΓ.2 f Φ hΦ
          exact eff_io h hio ho hcf h1 h2 hv
        · cases hΦ
      · cases hv
    · rename_i hc
      split at hv
      · rename_i x y t t' ha ht
        exact eff_copy h ho hc ha ht hv
      · cases hv
    · rename_i hc
      split at hv
      · rename_i x y t t' ha ht
        split at hv
        · rename_i e he
          split at hv
          · rename_i z sz by_ hz hs hb
            split at hv
            · rename_i es2 h2
              split at hv
              case isFalse => cases hv
              case isTrue hh =>
                obtain ⟨rfl, hsz, hzs⟩ := hh
                split at hv
                · rename_i ob sz' i n hx
                  split at hv
                  · rename_i T sz'' es hob
                    split at hv
                    case isFalse => cases hv
                    case isTrue hh2 =>
                      obtain ⟨rfl, rfl, rfl, rfl, hn, h63, hby⟩ := hh2
                      cases hv
                      exact eff_append h hio ho hc ha ht he hz hs hb h2 hsz hzs hx hob hn h63 hby
                  · cases hv
                · split at hv
                  case isFalse => cases hv
                  case isTrue hh2 =>
                    obtain ⟨hnil, h63, hby⟩ := hh2
                    have := eff_append_nil h hio ho hc ha ht he hz hs hb h2 hsz hzs hnil h63 hby
                    split at hv
                    · rename_i h0; cases hv; exact this.1 h0
                    · rename_i h0; cases hv; exact this.2 h0
            · cases hv
          · cases hv
        · cases hv
      · cases hv
    · cases hv
  | _ => simp [ho, evEff] at hv
end
end Go.Proofs.YtenldjifipnjpaaDoor
