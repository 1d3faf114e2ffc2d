/- Texts put into grids. -/
import Derived.Test.YtenldjifipnjpaaPxMark
import Derived.Test.YtenldjifipnjpaaPxGrid
namespace Go.Proofs.Ytenldjifipnjpaa
open Go.RowKit
set_option linter.all false
theorem map_app' {α β : Type} {f : α → β} {l l' : List α} : l.map f ++ l'.map f = (l ++ l').map f := List.map_append.symm
theorem min_l {a b : Nat} (h : a ≤ b) : min a b = a := Nat.min_eq_left h
attribute [push_cast] map_app' min_l List.take_length
abbrev u8L (zs : List Int) : List PV := zs.map fun n => .val (.int .u8 n)
/-! bytes.Clone, at bytes. -/
def ΨClone : FunN := G1 dUs fun l => if 0 < l.length ∧ l.length ≤ 1099511627776 then some (.row 0 1 0 l.length, [(5, 1, l.map fun n => .val (.int .u8 n))]) else none
theorem ΨClone_ap {l : List Int} (h : 0 < l.length) (h2 : l.length ≤ 1099511627776) : ΨClone [.lst false 1 (l.map fun n => .val (.int .u8 n))] = some (.row 0 1 0 l.length, [(5, 1, l.map fun n => .val (.int .u8 n))]) :=
  (G1_ap (A := dUs) l).trans (if_pos ⟨h, h2⟩)
theorem int_cells {g : Gh} {w : World} {b off : Nat} {k : IntKind} {l : List Int} (h : RepEs g w 1 (l.map fun n => PV.val (.int k n)) b off) : ∀ j : Nat, j < l.length → w.cell? ⟨b, off + j, none⟩ = some (.int k (l.getD j 0)) := fun j hj => by
  obtain ⟨u, h1, h2, _⟩ := h.get (i := j) (e := .val (.int k (l.getD j 0))) (by simp [hj])
  simp only [Rep] at h1
  subst h1
  have := h2.2 0 (by simp [Value.cells])
  simpa [Value.cells] using this
/-- A row that is known to be the call's own, as an object. -/
theorem own_obj {J : Bool → Nat → Prop} {w w' : World} {e n : Nat} {v : Value} {l : List Int} {k : IntKind} (hn : 0 < n) (hl : l.length = n) (hJ : ∀ k b, J k b → b < w.heap.size) (h : w'.ownsRow w.heap.size e 1 v n (l.map (Value.int k))) :
    ∃ b κ, w.heap.size ≤ b ∧ ObjsIO (addN J fun _ => False) w' (fun _ => b) (fun _ => κ) [(e, 1, l.map fun n => .val (.int k n))] ∧ Rep (ghIO (addN J fun _ => False) (fun _ => b) (fun _ => κ) 1) w' (.row 0 1 0 n) v := by
  obtain ⟨h0, h1⟩ := h
  rcases h1 with ⟨rfl, h1⟩ | ⟨b, cap, cur, rfl, h2, h3, h4, h5, h6, h7⟩
  · omega
  · rw [Nat.mul_one] at h6 h7
    refine ⟨b, cur.size, h2, ⟨fun o ho => ⟨lt_of_heap h3, fun k hk => ?_⟩, fun o o' ho ho' _ => by simp at ho ho'; omega, fun o cc hc => ?_⟩, ?_⟩
    · rcases hk with hk | ⟨_, hk⟩
      · have := hJ k _ hk
        omega
      · exact hk
    · have ho : o = 0 := by have := (List.getElem?_eq_some_iff.1 hc).1; simp at this; exact this
      subst ho
      simp only [List.getElem?_cons_zero, Option.some.injEq] at hc
      subst hc
      refine ⟨⟨cur, h3, rfl⟩, by simp [ghIO]; omega, ?_⟩
      refine RepEs.of fun i x hx => ?_
      rw [List.getElem?_map, Option.map_eq_some_iff] at hx
      obtain ⟨y, hy, rfl⟩ := hx
      refine ⟨.int k y, by simp [Rep], ⟨by simp [Value.cells, Value.oneCell'], fun j hj => ?_⟩, rfl⟩
      have hj0 : j = 0 := by simp [Value.cells] at hj; exact hj
      subst hj0
      have e1 : cur.toList[i]? = some (.int k y) := by
        have hi : i < n := by have := (List.getElem?_eq_some_iff.1 hy).1; omega
        have e2 : (cur.toList.take n)[i]? = some (.int k y) := by rw [h7]; simp [hy]
        rw [List.getElem?_take, if_pos hi] at e2
        exact e2
      simp only [World.cell?, ghIO, h3, Nat.zero_add, Nat.mul_one, Nat.add_zero]
      simpa [Value.cells] using e1
    · simp only [Rep, ghIO]
      exact ⟨cap, by simp, h4, by simp only [maxLen] at h5; omega, by omega, ⟨by simp, fun q => q⟩⟩
theorem clone_lift {l : List Int} (h : 0 < l.length) (h2 : l.length ≤ 1099511627776) : liftN ΨClone [.lst false 1 (l.map fun n => .val (.int .u8 n))] [] = some (.row 0 1 0 l.length, [(5, 1, l.map fun n => .val (.int .u8 n))]) := by
  refine (liftN_of (cs := []) (by rw [mapM_cons', mapM_nil', reify_fuel]; exact (congrArg (fun x => Option.bind x _) reifyS_vals).trans rfl) (ΨClone_ap h h2) rfl (by rw [mapM_cons', mapM_nil', renCT_vals]; rfl)).trans ?_
  rfl
def ΨGClone : FunN := G1 dGrid fun g => if 0 < g.2.length ∧ g.2.length ≤ 1099511627776 then some (.agg [.val (.int .i64 g.1), .row 0 1 0 g.2.length], [(5, 1, g.2.map fun n => .val (.int .u8 n))]) else none
theorem ΨGClone_ap {wd : Int} {l : List Int} (h : 0 < l.length) (h2 : l.length ≤ 1099511627776) : ΨGClone [.agg [.val (.int .i64 wd), .lst false 1 (l.map fun n => .val (.int .u8 n))]] = some (.agg [.val (.int .i64 wd), .row 0 1 0 l.length], [(5, 1, l.map fun n => .val (.int .u8 n))]) :=
  (G1_ap (A := dGrid) (wd, l)).trans (if_pos ⟨h, h2⟩)
def prB (s : ByteArray) : Bool := (List.range s.size).all fun i => inB (at8 s i) 32 126
theorem prB_no {s : ByteArray} {k : Nat} (h : k < s.size) (hb : inB (at8 s k) 32 126 = false) : prB s = false := by
  rw [Bool.eq_false_iff]
  intro hp
  have := List.all_eq_true.1 hp k (List.mem_range.2 h)
  rw [hb] at this
  cases this
theorem prB_yes {s : ByteArray} (h : ∀ j, j < s.size → inB (at8 s j) 32 126 = true) : prB s = true := List.all_eq_true.2 fun j hj => h j (List.mem_range.1 hj)
def putPre (wd : Int) (l : List Int) (col row : Int) (s : ByteArray) : Bool := inB col 0 wd && (inB row 0 ((l.length : Int) / wd - 1) && decide ((s.size : Int) ≤ wd - col))
def putL (wd : Int) (l : List Int) (col row : Int) (s : ByteArray) : List Int := l.take (row * wd + col).toNat ++ strI s ++ l.drop ((row * wd + col).toNat + s.size)
theorem strI_take {s : ByteArray} : (strI s).take s.size = strI s := List.take_of_length_le (by rw [strI_length]; exact Nat.le_refl _)
attribute [push_cast] strI_take
theorem putL_nil {wd : Int} {l : List Int} {col row : Int} {s : ByteArray} (h : s.size = 0) : putL wd l col row s = l := by
  have e : strI s = [] := List.eq_nil_of_length_eq_zero (by rw [strI_length]; exact h)
  unfold putL
  rw [e, h, List.append_nil, Nat.add_zero, List.take_append_drop]
/-- A text under way. -/
def putM (l : List Int) (a : Nat) (s : ByteArray) (j : Nat) : List Int := l.take a ++ (strI s).take j ++ l.drop (a + j)
theorem putM_zero {l : List Int} {a : Nat} {s : ByteArray} : putM l a s 0 = l := by simp [putM]
theorem putM_length {l : List Int} {a : Nat} {s : ByteArray} {j : Nat} (h : a + j ≤ l.length) (hj : j ≤ s.size) : (putM l a s j).length = l.length := by
  have := strI_length s
  simp [putM]
  omega
theorem strI_at (s : ByteArray) (j : Nat) : (strI s)[j]?.getD 0 = at8 s j := by
  unfold strI at8
  by_cases h : j < s.size
  · have h1 : j < s.data.toList.length := by rw [Array.length_toList]; exact h
    rw [getElem?_pos s j h, List.getElem?_map, List.getElem?_eq_getElem h1]
    rfl
  · rw [getElem?_neg s j h, List.getElem?_map, List.getElem?_eq_none (by rw [Array.length_toList]; exact Nat.le_of_not_lt h)]
    rfl
theorem putM_set {l : List Int} {a : Nat} {s : ByteArray} {j : Nat} (h : a + j < l.length) (hj : j < s.size) : (putM l a s j).set (a + j) (at8 s j) = putM l a s (j + 1) := by
  have hl := strI_length s
  have e1 : ((l.take a ++ (strI s).take j)).length = a + j := by simp; omega
  have e2 : l.drop (a + j) = l[a + j] :: l.drop (a + j + 1) := List.drop_eq_getElem_cons h
  have e3 : (strI s)[j]?.getD 0 = (strI s)[j] := by rw [List.getElem?_eq_getElem (by omega)]; rfl
  unfold putM
  rw [List.set_append_right _ _ (by omega), e1, Nat.sub_self, e2, List.set_cons_zero, ← strI_at, e3]
  have e4 : (strI s).take (j + 1) = (strI s).take j ++ [(strI s)[j]] := by
    rw [List.take_add_one, List.getElem?_eq_getElem (show j < (strI s).length by omega)]
    rfl
  rw [e4]
  simp only [List.append_assoc, List.cons_append, List.nil_append, Nat.add_assoc]
theorem putM_full {wd : Int} {l : List Int} {col row : Int} {s : ByteArray} : putM l (row * wd + col).toNat s s.size = putL wd l col row s := by
  unfold putM putL
  rw [strI_take]
/-- The bytes afterwards. -/
def putR (wd : Int) (l : List Int) (col row : Int) (s : ByteArray) : List Int := if putPre wd l col row s && prB s then putL wd l col row s else l
def putZ (wd : Int) (l : List Int) (col row : Int) (s : ByteArray) : PV × List CellIO :=
  if gridB wd l = true then (.tup [.agg [.val (.int .i64 wd), .row 0 1 0 l.length], .val (.bool (putPre wd l col row s && prB s))], [(5, 1, (putR wd l col row s).map fun n => .val (.int .u8 n))])
  else (.tup [.agg [.val (.int .i64 0), .val (.slice none 0 0)], .val (.bool false)], [])
theorem gridB_facts {wd : Int} {l : List Int} (h : gridB wd l = true) : (1 ≤ wd ∧ wd ≤ 60) ∧ (l.length : Int) % wd = 0 ∧ (1 ≤ (l.length : Int) / wd ∧ (l.length : Int) / wd ≤ 60) ∧ (l.length : Int) = (l.length : Int) / wd * wd ∧ 0 < l.length ∧ l.length ≤ 3600 ∧ (l.any fun n => !inB n 32 126) = false := by
  unfold gridB at h
  simp only [Bool.and_eq_true, decide_eq_true_eq, Bool.not_eq_true'] at h
  obtain ⟨⟨⟨h1, h2⟩, h3⟩, h4⟩ := h
  have b1 := inB_iff.1 h1
  have b3 := inB_iff.1 h3
  have e : (l.length : Int) = (l.length : Int) / wd * wd := by
    have := Int.mul_ediv_add_emod (l.length : Int) wd
    rw [h2, Int.mul_comm] at this
    omega
  have k1 : 1 * 1 ≤ (l.length : Int) / wd * wd := Int.mul_le_mul b3.1 b1.1 (by omega) (by omega)
  have k2 : (l.length : Int) / wd * wd ≤ 60 * 60 := Int.mul_le_mul b3.2 b1.2 (by omega) (by omega)
  exact ⟨b1, h2, b3, e, by omega, by omega, h4⟩
theorem row_fit {wd row n : Int} (h0 : 0 ≤ row) (h1 : row ≤ n / wd - 1) (hw : 1 ≤ wd) (he : n = n / wd * wd) : 0 ≤ row * wd ∧ row * wd + wd ≤ n := by
  refine ⟨Int.mul_nonneg h0 (by omega), ?_⟩
  have : (row + 1) * wd ≤ n / wd * wd := Int.mul_le_mul_of_nonneg_right (by omega) (by omega)
  rw [Int.add_mul] at this
  omega
abbrev okPut (l : List Int) (s : ByteArray) : Prop := okU l ∧ s.size ≤ 1099511627776
def ΨPut : FunN := G4 dGrid dI dI dS fun g col row s => if okPut g.2 s then some (putZ g.1 g.2 col row s) else none
theorem ΨPut_ap {wd col row : Int} {l : List Int} {s : ByteArray} (h : okPut l s) : ΨPut [.agg [.val (.int .i64 wd), .lst false 1 (l.map fun n => .val (.int .u8 n))], .val (.int .i64 col), .val (.int .i64 row), .val (.string s)] = some (putZ wd l col row s) :=
  (G4_ap (A := dGrid) (B := dI) (C := dI) (D := dS) (wd, l) col row s).trans (if_pos h)
theorem gclone_lift {wd : Int} {l : List Int} (h : 0 < l.length) (h2 : l.length ≤ 1099511627776) : liftN ΨGClone [.agg [.val (.int .i64 wd), .lst false 1 (l.map fun n => .val (.int .u8 n))]] [] = some (.agg [.val (.int .i64 wd), .row 0 1 0 l.length], [(5, 1, l.map fun n => .val (.int .u8 n))]) := by
  refine (liftN_of (cs := []) (qs := [.agg [.val (.int .i64 wd), .lst false 1 (l.map fun n => .val (.int .u8 n))]]) (by simp only [push_cast, ↓reduceIte, Nat.reduceEqDiff, Nat.reduceBEq, Nat.reduceAdd, Nat.reduceSub, Int.reduceToNat]) (ΨGClone_ap h h2) rfl (by rw [mapM_cons', mapM_nil', renCT_vals]; rfl)).trans ?_
  rfl
theorem io_ag {Φ : FunIO} {ob : Objs} {nx : Nat} {u : Value} {k : Bool} {sz : Nat} {α : Type} {g : α → Value} {l : List α} : ioEv Φ ob nx [.agg [.val u, .lst k sz (l.map fun x => PV.val (g x))]] = ioR [] ob nx (Φ [.agg [.val u, .lst k sz (l.map fun x => PV.val (g x))]] []) :=
  ioNo_of rfl (by simp only [mapM_cons', mapM_nil', renS_fuel, renS_agg, renS_val, renS_vals]; rfl)
attribute [push_cast] io_ag
def nrm1 (sz : Nat) : PV → PV
  | .agg cs => .agg (cs.map (nrm sz))
  | p => nrm sz p
theorem le_nrm1 (sz : Nat) (p : PV) : p.le (nrm1 sz p) := by
  unfold nrm1
  split
  · exact agg_le (leL_nrm sz _)
  · exact le_nrm sz p
theorem leL_nrm1 (sz : Nat) : ∀ ps : List PV, leL ps (ps.map (nrm1 sz))
  | [] => trivial
  | p :: ps => ⟨le_nrm1 sz p, leL_nrm1 sz ps⟩
def nilG (sz : Nat) (φ : Fun) : Fun := fun ps => φ (ps.map (nrm1 sz))
theorem Sound.nilG {P : Program} {f : Nat} {φ : Fun} (h : Sound P f φ) (sz : Nat) : Sound P f (Proofs.Ytenldjifipnjpaa.nilG sz φ) :=
  h.weak fun ps r hr => ⟨_, r, leL_nrm1 sz ps, hr, PV.le_refl _⟩
end Go.Proofs.Ytenldjifipnjpaa
