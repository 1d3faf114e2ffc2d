/- append onto a row of the call's own; all operations that turn objects. -/
import Derived.Test.YtbfcdpgnelihfaaPxIo
namespace Go.Proofs.Ytbfcdpgnelihfaa
open Go.RowKit
set_option linter.all false
section
variable {P : Program} {Γ : Ctx} {io : IoS} {w0 : World} {N : Nat} {g : Gh} {s : AS} {a : Act} {w w' : World} {o : Oper} {p : PV}

theorem run_append_zero {t e sz : Nat} (w : World) (ht : P.underlying t = some (.slice e)) (hs : tySize P e = some sz) (ty : Nat) (b ad : Option Addr) (n c cap : Nat) (hn : n ≤ c) :
    (Builtin.append_ #[t, t] ty #[.slice b n c, .slice ad 0 cap]).run P w = .ok (.slice b n c) w := by
  cases ad with
  | none => cases b <;> simp [Builtin.append_, run_underlying ht, run_size hs w, Builtin.lenOf, Builtin.firstCells, storeCells, hn]
  | some ad => cases b <;> simp [Builtin.append_, run_underlying ht, run_size hs w, Builtin.lenOf, Builtin.firstCells, loadCells, loadCellsFrom, storeCells, hn]

theorem rep_row {ob sz n : Nat} {v : Value} (h : Rep g w (.row ob sz 0 n) v) : ∃ c, v = .slice (some ⟨g.β ob, 0, none⟩) n c ∧ n ≤ c ∧ c ≤ 9223372036854775807 ∧ c * sz = g.κ ob ∧ g.D ob := by
  simp only [Rep] at h
  obtain ⟨c, h1, h2, h3, h4, h5⟩ := h
  exact ⟨c, by simpa using h1, h2, h3, by simpa using h4, h5⟩

theorem exec_append {x y : Operand} {c : Call} {t : Nat} (ho : o.op = .call c) (hc : c.callee = .builtin .append) (ha : c.args.toList = [x, y]) (ht : c.argTypes.toList = [t, t]) {v : Value}
    (h : (Builtin.append_ #[t, t] o.type #[a.eval x, a.eval y]).run P w = .ok v w') : (execOp a.eval o).run P w = .ok (.value v) w' := by
  have ha' : c.args = #[x, y] := by rw [← Array.toArray_toList (xs := c.args), ha]
  have ht' : c.argTypes = #[t, t] := by rw [← Array.toArray_toList (xs := c.argTypes), ht]
  simp [execOp, ho, resolve, hc, ha', ht', invoke, builtin, h]

theorem eff_append (h : Rel io w0 N g s a w) (hio : ∀ b, io b → b < w0.heap.size) {x y : Operand} {c : Call} {t e sz by_ : Nat} {z : Value} (ho : o.op = .call c) (hc : c.callee = .builtin .append) (ha : c.args.toList = [x, y]) (ht : c.argTypes.toList = [t, t])
    (he : tyElem P t = some e) (hz : zeroOf P e = some z) (hs : tySize P e = some sz) (hb : tyBytes P e = some by_) {es es2 : List PV} (h2 : sliceEs s.ob sz (look s.tm y) = some es2) (hsz : 0 < sz) (hzs : z.cells.size = sz)
    {ob n : Nat} (hx : look s.tm x = .row ob sz 0 n) (hob : s.ob ob = some (e, sz, es)) (hn : es.length = n) (h63 : n + es2.length ≤ 9223372036854775807) (hby : (n + es2.length) * by_ ≤ 140737488355328) :
    Turns P o io w0 N s a w (.row s.nx sz 0 (n + es2.length), upd (upd s.ob ob none) s.nx (some (e, sz, es ++ es2)), s.nx + 1) := by
  have hu := elem_info he
  obtain ⟨i, hi, hib⟩ := run_bytes hb
  have hisz := size_info hi hs
  have hiz := zero_info hi hz
  have hX := h.look x
  rw [hx] at hX
  obtain ⟨cap, hX, r1, r2, r3, r4⟩ := rep_row hX
  obtain ⟨k1, k2, k3, ⟨arr, k4, k5⟩, k6, k7⟩ := h.ob ob _ hob
  dsimp only at k4 k6 k7
  obtain ⟨ad, cap2, hY, q1, q2⟩ := sliceEs_rep h (h.look y) h2
  have hlays := k7.lays k4
  by_cases hm : es2.length = 0
  · have hnil : es2 = [] := List.eq_nil_of_length_eq_zero hm
    subst hnil
    have hrun := exec_append (a := a) ho hc ha ht (by rw [hX, hY]; exact run_append_zero w hu hs o.type (some ⟨g.β ob, 0, none⟩) ad n cap cap2 r1)
    have hren := h.rename hob
    rw [List.append_nil]
    refine Turns.run hrun hren ?_
    rw [← h.nx]
    exact rep_row_new r1 r2 r3
  · rcases q2 with rfl | ⟨b, off, rfl, q3⟩
    · simp at hm
    · obtain ⟨news, n1, n2, n3, n4⟩ := q3.news
      have hnews : ∀ j u, news[j]? = some u → w.cell? ((⟨b, off, none⟩ : Addr).add j) = some u := fun j u hj => by rw [Addr.add_mid]; exact n2 j u hj
      by_cases hroom : n + es2.length ≤ cap
      · have hfit : n * sz + news.length ≤ arr.size := by
          rw [n1, k5, ← r3, ← Nat.add_mul]
          exact Nat.mul_le_mul_right _ hroom
        have hr := run_append_room (P := P) w t o.type e i hu hi (g.β ob) n cap arr k4 ⟨b, off, none⟩ es2.length cap2 news (by rw [hisz]; exact n1) hnews n3 hroom (by rw [hisz]; exact hfit)
        rw [hisz] at hr
        have hrun := exec_append (a := a) ho hc ha ht (by rw [hX, hY]; exact hr)
        have hsl : (arr.toList.take (n * sz) ++ news ++ arr.toList.drop (n * sz + news.length)) = setL arr.toList (n * sz) news := rfl
        rw [hsl] at hrun
        have hget : ∀ j, ((setL arr.toList (n * sz) news).toArray)[j]? = if n * sz ≤ j ∧ j < n * sz + news.length then news[j - n * sz]? else arr[j]? := by
          intro j
          rw [List.getElem?_toArray, setL_get _ _ _ (by simpa using hfit)]
          simp
        have hset := h.set (w' := w.setRow (g.β ob) (setL arr.toList (n * sz) news).toArray) (es' := es ++ es2) hob (arr := (setL arr.toList (n * sz) news).toArray) ⟨rfl, rfl, rfl, by simp [World.setRow]⟩ (fun b hb => setRow_other _ _ _ _ hb) (setRow_heap _ _ _ _ _ _ k4)
          (by rw [List.size_toArray, setL_length _ _ _ (by simpa using hfit)]; simpa using k5)
          (lays_append hn hlays n4 (fun j hj => by rw [hget, if_neg (by omega)]) (fun j hj => by rw [hget, if_pos (by omega)]; congr 1; omega) n1)
          (by rw [List.length_append, hn, ← k5, Nat.add_mul, ← n1]; exact hfit)
        have hren := hset.rename (ob := ob) (c := (e, sz, es ++ es2)) (by simp [upd])
        dsimp only at hren
        rw [upd_comm_eq] at hren
        refine Turns.run hrun hren ?_
        rw [← h.nx]
        exact rep_row_new hroom r2 r3
      · obtain ⟨olds, o1, o2, o3, o4⟩ := k7.news
        rw [hn] at o1
        have holds : ∀ j u, olds[j]? = some u → w.cell? ((⟨g.β ob, 0, none⟩ : Addr).add j) = some u := fun j u hj => by rw [Addr.add_mid]; exact o2 j u hj
        have hr := run_append_grow (P := P) w t o.type e i z hu hi hiz ⟨g.β ob, 0, none⟩ n cap olds (by rw [hisz]; exact o1) holds ⟨b, off, none⟩ es2.length cap2 news (by rw [hisz]; exact n1) hnews (by omega) (by omega) (by rw [hib]; exact growslice_fits (by omega) hby)
        have hrun := exec_append (a := a) ho hc ha ht (by rw [hX, hY]; exact hr)
        have hge := grownCap_ge w (n + es2.length) cap e
        have hcm := grownCap_le_maxLen w (n + es2.length) cap e (by simp only [maxLen]; omega)
        have hasz : (olds.toArray ++ news.toArray ++ Builtin.zeroCells z.cells (grownCap w (n + es2.length) cap e - (n + es2.length))).size = grownCap w (n + es2.length) cap e * sz := by
          simp only [Array.size_append, List.size_toArray, size_zeroCells, hzs, o1, n1, ← Nat.add_mul]
          congr 1
          omega
        have hget : ∀ j, j < (n + es2.length) * sz → (olds.toArray ++ news.toArray ++ Builtin.zeroCells z.cells (grownCap w (n + es2.length) cap e - (n + es2.length)))[j]? = (olds ++ news)[j]? := by
          intro j hj
          rw [Nat.add_mul] at hj
          rw [Array.getElem?_append_left (by simp [o1, n1]; omega), ← List.getElem?_toArray, List.append_toArray]
        have hbl : Below w.heap.size w (w.drew.alloc (.cells (olds.toArray ++ news.toArray ++ Builtin.zeroCells z.cells (grownCap w (n + es2.length) cap e - (n + es2.length))) e)) := ((Below.refl _ _).drew).alloc (Nat.le_refl _) _
        have hadd := (h.del ob).add (es := es ++ es2) (sz := sz) hio hbl (heap_alloc_new w.drew _)
          (lays_append (arr := olds.toArray) hn (fun i e he => by obtain ⟨u, m1, m2, m3, m4⟩ := o4 i e he; exact ⟨u, m1, m2, m3, fun j hj => by rw [List.getElem?_toArray]; exact m4 j hj⟩) n4
            (fun j hj => by rw [hget j (by rw [Nat.add_mul]; omega), List.getElem?_append_left (by omega), List.getElem?_toArray])
            (fun j hj => by rw [hget _ (by rw [Nat.add_mul]; omega), List.getElem?_append_right (by omega)]; congr 1; omega) n1)
          (by rw [hasz, List.length_append, hn]; exact Nat.mul_le_mul_right _ hge)
        refine Turns.run hrun hadd ?_
        rw [← h.nx]
        refine rep_row_new hge ?_ hasz.symm
        simpa [maxLen] using hcm

theorem eff_append_nil (h : Rel io w0 N g s a w) (hio : ∀ b, io b → b < w0.heap.size) {x y : Operand} {c : Call} {t e sz by_ : Nat} {z : Value} (ho : o.op = .call c) (hc : c.callee = .builtin .append) (ha : c.args.toList = [x, y]) (ht : c.argTypes.toList = [t, t])
    (he : tyElem P t = some e) (hz : zeroOf P e = some z) (hs : tySize P e = some sz) (hb : tyBytes P e = some by_) {es2 : List PV} (h2 : sliceEs s.ob sz (look s.tm y) = some es2) (hsz : 0 < sz) (hzs : z.cells.size = sz)
    (hx : isNil (look s.tm x) = true) (h63 : es2.length ≤ 9223372036854775807) (hby : es2.length * by_ ≤ 140737488355328) :
    (es2.length = 0 → Turns P o io w0 N s a w (look s.tm x, s.ob, s.nx)) ∧ (es2.length ≠ 0 → Turns P o io w0 N s a w (.row s.nx sz 0 es2.length, upd s.ob s.nx (some (e, sz, es2)), s.nx + 1)) := by
  have hu := elem_info he
  obtain ⟨i, hi, hib⟩ := run_bytes hb
  have hisz := size_info hi hs
  have hiz := zero_info hi hz
  have hX := h.look x
  have hX' := hX
  unfold isNil at hx
  split at hx
  case h_2 => cases hx
  case h_1 hl =>
  rw [hl] at hX'
  simp only [Rep] at hX'
  obtain ⟨ad, cap2, hY, q1, q2⟩ := sliceEs_rep h (h.look y) h2
  refine ⟨fun hm => ?_, fun hm => ?_⟩
  · rw [hm] at hY
    have hrun := exec_append (a := a) ho hc ha ht (by rw [hX', hY]; exact run_append_zero w hu hs o.type none ad 0 0 cap2 (Nat.le_refl _))
    exact Turns.run hrun h (by rw [← hX']; exact hX)
  · rcases q2 with rfl | ⟨b, off, rfl, q3⟩
    · simp at hm
    · obtain ⟨news, n1, n2, n3, n4⟩ := q3.news
      have hnews : ∀ j u, news[j]? = some u → w.cell? ((⟨b, off, none⟩ : Addr).add j) = some u := fun j u hj => by rw [Addr.add_mid]; exact n2 j u hj
      have hr := run_append_nil (P := P) w t o.type e i z hu hi hiz ⟨b, off, none⟩ es2.length cap2 news (by rw [hisz]; exact n1) hnews (by omega) (by omega) (by rw [hib]; omega)
      have hrun := exec_append (a := a) ho hc ha ht (by rw [hX', hY]; exact hr)
      have hge := grownCap_ge w es2.length 0 e
      have hcm := grownCap_le_maxLen w es2.length 0 e (by simp only [maxLen]; omega)
      have hasz : (news.toArray ++ Builtin.zeroCells z.cells (grownCap w es2.length 0 e - es2.length)).size = grownCap w es2.length 0 e * sz := by
        simp only [Array.size_append, List.size_toArray, size_zeroCells, hzs, n1, ← Nat.add_mul]
        congr 1
        omega
      have hbl : Below w.heap.size w (w.drew.alloc (.cells (news.toArray ++ Builtin.zeroCells z.cells (grownCap w es2.length 0 e - es2.length)) e)) := ((Below.refl _ _).drew).alloc (Nat.le_refl _) _
      refine Turns.new h hio hrun hbl (heap_alloc_new w.drew _) ?_ (by rw [hasz]; exact Nat.mul_le_mul_right _ hge) ?_
      · intro i' e' he'
        obtain ⟨u, m1, m2, m3, m4⟩ := n4 i' e' he'
        refine ⟨u, m1, m2, m3, fun j hj => ?_⟩
        have hlt : i' < es2.length := (List.getElem?_eq_some_iff.1 he').1
        have : (i' + 1) * sz ≤ es2.length * sz := Nat.mul_le_mul_right _ (by omega)
        rw [Nat.add_one_mul] at this
        rw [Array.getElem?_append_left (by simp [n1]; omega), List.getElem?_toArray]
        exact m4 j hj
      · rw [← h.nx]
        refine rep_row_new hge ?_ hasz.symm
        simpa [maxLen] using hcm

theorem evEff_ok (h : Rel io w0 N g s a w) (hΓ : SoundΓ P Γ) (hio : ∀ b, io b → b < w0.heap.size) {r : PV × Objs × Nat} (hv : evEff P Γ s (look s.tm) o.op = some r) : Turns P o io w0 N s a w r := by
  cases ho : o.op with
  | alloc t =>
    simp only [ho, evEff] at hv
    split at hv
    · rename_i z hz
      split at hv
      case isFalse => cases hv
      case isTrue h1 => cases hv; exact eff_alloc h hio ho hz h1
    · cases hv
  | box t x =>
    simp only [ho, evEff] at hv
    split at hv
    · rename_i cs hc; cases hv; exact eff_box h hio ho hc
    · cases hv
  | buildSlice t n ps =>
    simp only [ho, evEff] at hv
    split at hv
    · rename_i e sz es hc; cases hv; exact eff_buildSlice h hio ho hc
    · cases hv
  | makeSlice t l c =>
    simp only [ho, evEff] at hv
    split at hv
    · rename_i e he
      split at hv
      · rename_i z sz by_ kl l' kc c' hz hs hb hl hc
        split at hv
        case isFalse => cases hv
        case isTrue hh =>
          obtain ⟨h1, h2, h3, h4, h5, h6⟩ := hh
          cases hv
          exact eff_makeSlice h hio ho he hz hs hb hl hc h1 h2 h3 h4 h5 h6
      · cases hv
    · cases hv
  | store t x y =>
    simp only [ho, evEff] at hv
    split at hv
    · rename_i ob sz i f hx
      split at hv
      · rename_i T sz' es hob
        split at hv
        · rename_i e cs he hc
          split at hv
          case isFalse => cases hv
          case isTrue hh =>
            obtain ⟨rfl, hts⟩ := hh
            simp only [Option.map_eq_some_iff] at hv
            obtain ⟨e', hp, rfl⟩ := hv
            exact eff_store h ho hx hob he hc hts hp
        · cases hv
      · cases hv
    · cases hv
  | call c =>
    simp only [ho, evEff] at hv
    split at hv
    · rename_i x hc
      split at hv
      · rename_i Φ hΦ
        unfold calleeIO at hΦ
        split at hΦ
        · rename_i f hcf
          obtain ⟨h1, h2⟩ := hΓ.2 f Φ hΦ
          exact eff_io h hio ho hcf h1 h2 hv
        · cases hΦ
      · cases hv
    · rename_i hc
      split at hv
      · rename_i x y t t' ha ht
        split at hv
        · rename_i e he
          split at hv
          · rename_i z sz by_ hz hs hb
            split at hv
            · rename_i es2 h2
              split at hv
              case isFalse => cases hv
              case isTrue hh =>
                obtain ⟨rfl, hsz, hzs⟩ := hh
                split at hv
                · rename_i ob sz' i n hx
                  split at hv
                  · rename_i T sz'' es hob
                    split at hv
                    case isFalse => cases hv
                    case isTrue hh2 =>
                      obtain ⟨rfl, rfl, rfl, rfl, hn, h63, hby⟩ := hh2
                      cases hv
                      exact eff_append h hio ho hc ha ht he hz hs hb h2 hsz hzs hx hob hn h63 hby
                  · cases hv
                · split at hv
                  case isFalse => cases hv
                  case isTrue hh2 =>
                    obtain ⟨hnil, h63, hby⟩ := hh2
                    have := eff_append_nil h hio ho hc ha ht he hz hs hb h2 hsz hzs hnil h63 hby
                    split at hv
                    · rename_i h0; cases hv; exact this.1 h0
                    · rename_i h0; cases hv; exact this.2 h0
            · cases hv
          · cases hv
        · cases hv
      · cases hv
    · cases hv
  | _ => simp [ho, evEff] at hv
end
end Go.Proofs.Ytbfcdpgnelihfaa
