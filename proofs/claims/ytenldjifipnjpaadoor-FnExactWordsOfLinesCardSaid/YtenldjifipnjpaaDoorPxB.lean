/- Operations that give a value: what they give, said without addresses; and that the model's operations give just that. -/
import Derived.Test.YtenldjifipnjpaaDoorPxA
namespace Go.Proofs.YtenldjifipnjpaaDoor
open Go.RowKit
set_option linter.all false

/-- A computation that looks at nothing but the program. -/
def pureRun {α : Type} (P : Program) : Sem α → Option α
  | .pure a => some a
  | .program k => pureRun P (k P)
  | _ => none
theorem pureRun_run {α : Type} {P : Program} {m : Sem α} {x : α} (h : pureRun P m = some x) (w : World) : m.run P w = .ok x w := by
  induction m with
  | pure a => simp only [pureRun, Option.some.injEq] at h; subst h; rfl
  | program k ih => simp only [pureRun] at h; exact ih P h
  | _ => simp [pureRun] at h

def tySize (P : Program) (t : Nat) : Option Nat := (P.info? t).map (·.size)
def tyAgg (P : Program) (t : Nat) : Option Bool := (P.underlying t).map TypeDesc.isRow
def tyElem (P : Program) (t : Nat) : Option Nat := match P.underlying t with | some (.slice e) => some e | _ => none

def oneP : PV → Bool
  | .val v => v.oneCell'
  | .lst .. | .ptr .. | .own .. | .row .. => true
  | _ => false
/-- The cells of a value. -/
def cellsL : PV → Option (List PV)
  | .agg cs => if cs.all oneP then some cs else none
  | p => if oneP p then some [p] else none
def toVals : List PV → Option (List Value)
  | [] => some []
  | .val v :: cs => (toVals cs).map (v :: ·)
  | _ :: _ => none
def toVal : PV → Option Value
  | .val v => some v
  | .agg cs => (toVals cs).map fun vs => .agg vs.toArray
  | _ => none
/-- A part of a value, by the offset of its first cell and its type. -/
def subP (P : Program) (t f : Nat) (e : PV) : Option PV :=
  match cellsL e, tyAgg P t, tySize P t with
  | some cs, some true, some k => if f + k ≤ cs.length then some (.agg ((cs.drop f).take k)) else none
  | some cs, some false, _ => cs[f]?
  | _, _, _ => none

section
variable {g : Gh} {w : World}

theorem oneP_rep : ∀ {p : PV} {v : Value}, Rep g w p v → oneP p = true → v.oneCell' = true
  | .val u, v, h, ho => by simp only [Rep] at h; subst h; exact ho
  | .lst .., v, h, ho => by simp only [Rep] at h; obtain ⟨a, cap, rfl, _⟩ := h; rfl
  | .ptr .., v, h, ho => by simp only [Rep] at h; obtain ⟨b, off, rfl, _⟩ := h; rfl
  | .own .., v, h, ho => by simp only [Rep] at h; rw [h.1]; rfl
  | .row .., v, h, ho => by simp only [Rep] at h; obtain ⟨c, rfl, _⟩ := h; rfl
  | .dead, v, h, ho => by simp [oneP] at ho
  | .agg _, v, h, ho => by simp [oneP] at ho
  | .tup _, v, h, ho => by simp [oneP] at ho
theorem oneCell_cells {v : Value} (h : v.oneCell' = true) : v.cells = #[v] := by cases v <;> first | rfl | (simp [Value.oneCell'] at h)
theorem cellsL_rep {p : PV} {v : Value} {cs : List PV} (h : Rep g w p v) (hc : cellsL p = some cs) : v.cells.all (·.oneCell') = true ∧ v.cells.size = cs.length ∧ RepL g w cs v.cells.toList := by
  by_cases ho : oneP p = true
  · have hv := oneP_rep h ho
    have hcs : cs = [p] := by cases p <;> simp_all [cellsL, oneP]
    subst hcs
    rw [oneCell_cells hv]
    exact ⟨by simp [hv], rfl, by simp only [RepL]; exact ⟨v, [], rfl, h, rfl⟩⟩
  · cases p with
    | agg cs' =>
      simp only [cellsL] at hc
      split at hc
      case isFalse => cases hc
      case isTrue hall =>
        cases hc
        simp only [Rep] at h
        obtain ⟨vs, rfl, hl⟩ := h
        have hg := hl.get
        refine ⟨?_, by simpa [Value.cells] using hg.1, hl⟩
        simp only [Value.cells, Array.all_eq_true_iff_forall_mem]
        intro x hx
        obtain ⟨i, hi, rfl⟩ := List.getElem_of_mem (Array.mem_toList_iff.2 hx)
        have hi' : i < cs.length := by rw [← hg.1]; exact hi
        obtain ⟨v, hv1, hv2⟩ := hg.2 i cs[i] (List.getElem?_eq_getElem hi')
        rw [List.getElem?_eq_getElem hi] at hv1
        cases hv1
        exact oneP_rep hv2 (by rw [List.all_eq_true] at hall; exact hall _ (List.getElem_mem hi'))
    | _ => simp_all [cellsL, oneP]
theorem toVals_rep : ∀ {cs : List PV} {vs us : List Value}, RepL g w cs vs → toVals cs = some us → vs = us
  | [], vs, us, h, ht => by simp only [RepL] at h; simp only [toVals, Option.some.injEq] at ht; rw [h, ht]
  | .val v :: cs, vs, us, h, ht => by
    simp only [RepL, Rep] at h
    obtain ⟨_, vs', rfl, rfl, h2⟩ := h
    simp only [toVals, Option.map_eq_some_iff] at ht
    obtain ⟨us', h3, rfl⟩ := ht
    rw [toVals_rep h2 h3]
  | .dead :: cs, vs, us, h, ht => by simp [toVals] at ht
  | .lst .. :: cs, vs, us, h, ht => by simp [toVals] at ht
  | .ptr .. :: cs, vs, us, h, ht => by simp [toVals] at ht
  | .own .. :: cs, vs, us, h, ht => by simp [toVals] at ht
  | .row .. :: cs, vs, us, h, ht => by simp [toVals] at ht
  | .agg .. :: cs, vs, us, h, ht => by simp [toVals] at ht
  | .tup .. :: cs, vs, us, h, ht => by simp [toVals] at ht
theorem toVal_rep {p : PV} {v u : Value} (h : Rep g w p v) (ht : toVal p = some u) : v = u := by
  cases p with
  | val u' => simp only [Rep] at h; simp only [toVal, Option.some.injEq] at ht; rw [h, ht]
  | agg cs =>
    simp only [Rep] at h
    obtain ⟨vs, rfl, h2⟩ := h
    simp only [toVal, Option.map_eq_some_iff] at ht
    obtain ⟨us, h3, rfl⟩ := ht
    rw [← toVals_rep h2 h3]
  | _ => simp [toVal] at ht

theorem RepL.slice {cs : List PV} {vs : List Value} (h : RepL g w cs vs) (f k : Nat) : RepL g w ((cs.drop f).take k) ((vs.drop f).take k) := by
  have hg := h.get
  refine RepL.of (by simp [hg.1]) fun i c hc => ?_
  rw [List.getElem?_take] at hc ⊢
  split at hc
  case isFalse => cases hc
  case isTrue hi =>
    rw [if_pos hi]
    rw [List.getElem?_drop] at hc ⊢
    exact hg.2 _ _ hc

/-- Reading a part of a value that lies in memory. -/
theorem run_loadAt_sub {P : Program} {e p : PV} {u : Value} {b c f t : Nat} (hr : Rep g w e u) (hc : CellsAt w b c u) (hs : subP P t f e = some p) :
    ∃ v, (Instr.loadAt t (.pointer (some ⟨b, c + f, none⟩))).run P w = .ok v w ∧ Rep g w p v := by
  unfold subP at hs
  split at hs
  · rename_i cs k h1 h2 h3
    split at hs
    case isFalse => cases hs
    case isTrue hle =>
      cases hs
      obtain ⟨h4, h5, h6⟩ := cellsL_rep hr h1
      unfold tyAgg at h2
      cases hu : P.underlying t with
      | none => simp [hu] at h2
      | some d =>
        simp only [hu, Option.map_some, Option.some.injEq] at h2
        have hlen : ((u.cells.toList.drop f).take k).length = k := by simp; omega
        refine ⟨_, run_loadAt_mid w b (c + f) t ((u.cells.toList.drop f).take k) d ?_ hu h2 (by rw [hlen]; exact h3), ?_⟩
        · intro j v hv
          rw [List.getElem?_take] at hv
          split at hv
          case isFalse => cases hv
          case isTrue hj =>
            rw [List.getElem?_drop] at hv
            have := hc.2 (f + j) (by omega)
            rw [Nat.add_assoc, this]
            simpa using hv
        · simp only [Rep]
          exact ⟨_, rfl, by simpa using h6.slice f k⟩
  · rename_i cs h1 h2
    obtain ⟨h4, h5, h6⟩ := cellsL_rep hr h1
    have hg := h6.get
    obtain ⟨v, hv1, hv2⟩ := hg.2 f p hs
    have hf : f < u.cells.size := by
      have := (List.getElem?_eq_some_iff.1 hs).1
      omega
    have hcell := hc.2 f hf
    have hv1' : u.cells[f]? = some v := by simpa using hv1
    rw [hv1'] at hcell
    refine ⟨v, ?_, hv2⟩
    unfold tyAgg at h2
    cases hu : P.underlying t with
    | none => simp [hu] at h2
    | some d =>
      simp only [hu, Option.map_some, Option.some.injEq] at h2
      have hagg : (isAgg t).run P w = .ok false w := by
        unfold isAgg
        rw [Sem.run_bind, run_underlying hu w]
        cases d <;> simp_all
      simp [Instr.loadAt, Instr.sureAddr, loadVar, Sem.run_bind, hagg, hcell]
  · cases hs
end

/-- The offset of a field. -/
def fieldOff (P : Program) (t f : Nat) : Option Nat :=
  match P.underlying t with
  | some (.struct fs) => match fs[f]? with
    | some fd => match tySize P fd.type with
      | some (_ + 1) => some fd.offset
      | _ => none
    | none => none
  | _ => none
theorem run_fieldAt {P : Program} {t f k : Nat} (h : fieldOff P t f = some k) (b c : Nat) (w : World) :
    (Instr.fieldAt t (.pointer (some ⟨b, c, none⟩)) f).run P w = .ok (.pointer (some ⟨b, c + k, none⟩)) w := by
  unfold fieldOff at h
  split at h
  · rename_i fs hu
    split at h
    · rename_i fd hf
      split at h
      · rename_i n hn
        cases h
        unfold tySize at hn
        cases hi : P.info? fd.type with
        | none => simp [hi] at hn
        | some i =>
          simp only [hi, Option.map_some, Option.some.injEq] at hn
          have ha : (⟨b, c, none⟩ : Addr).add fd.offset = ⟨b, c + fd.offset, none⟩ := Addr.add_mid b c _
          simp [Instr.fieldAt, Instr.sureAddr, Sem.run_bind, run_underlying hu w, hf, fieldPlace, sizeOf, typeInfo, hi, hn, ha]
      · cases h
    · cases h
  · cases h

theorem zipIdx_foldl (off : Nat) : ∀ (l : List Value) (k : Nat) (cs : Array Value), off + k + l.length ≤ cs.size →
    ((l.zipIdx k).foldl (fun (cs : Array Value) (p : Value × Nat) => cs.setIfInBounds (off + p.2) p.1) cs).toList = cs.toList.take (off + k) ++ l ++ cs.toList.drop (off + k + l.length)
  | [], k, cs, h => by simp
  | x :: l, k, cs, h => by
    simp only [List.length_cons] at h
    simp only [List.zipIdx_cons, List.foldl_cons]
    rw [zipIdx_foldl off l (k + 1) _ (by simp; omega)]
    apply List.ext_getElem?
    intro i
    simp only [Array.toList_setIfInBounds, List.append_assoc, List.cons_append, List.length_cons]
    have hlen : (cs.toList.take (off + k)).length = off + k := by simp; omega
    have hlen2 : ((cs.toList.set (off + k) x).take (off + (k + 1))).length = off + k + 1 := by simp; omega
    by_cases h1 : i < off + k
    · rw [List.getElem?_append_left (by omega), List.getElem?_append_left (by omega)]
      simp [show i < off + (k + 1) by omega, h1, show ¬ off + k = i by omega]
    · by_cases h2 : i = off + k
      · subst h2
        rw [List.getElem?_append_left (by omega), List.getElem?_append_right (by omega), hlen]
        simp [List.getElem?_set, show off + k < cs.size by omega]
      · have e1 : ∀ (A B : List Value), A.length ≤ i → (A ++ B)[i]? = B[i - A.length]? := fun A B hA => List.getElem?_append_right hA
        rw [e1 _ _ (by rw [hlen2]; omega), e1 (cs.toList.take (off + k)) _ (by rw [hlen]; omega), hlen, hlen2]
        rw [show i - (off + k) = (i - (off + k + 1)) + 1 by omega, List.getElem?_cons_succ]
        by_cases h3 : i - (off + k + 1) < l.length
        · rw [List.getElem?_append_left h3, List.getElem?_append_left h3]
        · rw [List.getElem?_append_right (by omega), List.getElem?_append_right (by omega)]
          simp only [List.getElem?_drop, List.getElem?_set]
          rw [if_neg (by omega)]
          congr 1
          omega

/-- Cells set from an offset on. -/
def setL {α : Type} (l : List α) (off : Nat) (new : List α) : List α := l.take off ++ new ++ l.drop (off + new.length)
def fillP (place : Nat → Option (Nat × Nat)) (cells : List PV) : List (Nat × PV) → Option (List PV)
  | [] => some cells
  | (i, v) :: rest =>
    match place i, cellsL v with
    | some (off, size), some cs => if cs.length = size ∧ off + cs.length ≤ cells.length then fillP place (setL cells off cs) rest else none
    | _, _ => none

section
variable {g : Gh} {w : World}
theorem RepL.append {cs cs' : List PV} {vs vs' : List Value} (h : RepL g w cs vs) (h' : RepL g w cs' vs') : RepL g w (cs ++ cs') (vs ++ vs') := by
  have a := h.get
  have b := h'.get
  refine RepL.of (by simp [a.1, b.1]) fun i c hc => ?_
  by_cases hi : i < cs.length
  · rw [List.getElem?_append_left hi] at hc
    rw [List.getElem?_append_left (by omega)]
    exact a.2 i c hc
  · rw [List.getElem?_append_right (by omega)] at hc
    rw [List.getElem?_append_right (by omega), a.1]
    exact b.2 _ c hc
theorem RepL.drop {cs : List PV} {vs : List Value} (h : RepL g w cs vs) (k : Nat) : RepL g w (cs.drop k) (vs.drop k) := by
  have a := h.get
  refine RepL.of (by simp [a.1]) fun i c hc => ?_
  rw [List.getElem?_drop] at hc ⊢
  exact a.2 _ c hc
theorem RepL.take {cs : List PV} {vs : List Value} (h : RepL g w cs vs) (k : Nat) : RepL g w (cs.take k) (vs.take k) := by
  have := h.slice 0 k
  simpa using this
theorem RepL.setL {cs new : List PV} {vs nv : List Value} (h : RepL g w cs vs) (hn : RepL g w new nv) (off : Nat) : RepL g w (setL cs off new) (Proofs.YtenldjifipnjpaaDoor.setL vs off nv) := by
  unfold Proofs.YtenldjifipnjpaaDoor.setL
  rw [hn.get.1]
  exact ((h.take off).append hn).append (h.drop _)

/-- Parts with their values, as the model's operations take them. -/
def RepPs (g : Gh) (w : World) : List (Nat × PV) → List (Nat × Value) → Prop
  | [], vs => vs = []
  | p :: ps, vs => ∃ v vs', vs = (p.1, v) :: vs' ∧ Rep g w p.2 v ∧ RepPs g w ps vs'

theorem fill_rep (place : Nat → Option (Nat × Nat)) : ∀ {ps : List (Nat × PV)} {vs : List (Nat × Value)} {cells out : List PV} {us : Array Value},
    RepPs g w ps vs → RepL g w cells us.toList → fillP place cells ps = some out → ∃ us', Instr.fill place us vs = some us' ∧ RepL g w out us'.toList
  | [], vs, cells, out, us, hp, hc, hf => by
    simp only [RepPs] at hp
    subst hp
    simp only [fillP, Option.some.injEq] at hf
    subst hf
    exact ⟨us, by simp [Instr.fill], hc⟩
  | (i, p) :: ps, vs, cells, out, us, hp, hc, hf => by
    simp only [RepPs] at hp
    obtain ⟨v, vs', rfl, h1, h2⟩ := hp
    simp only [fillP] at hf
    split at hf
    · rename_i off size cs h3 h4
      split at hf
      case isFalse => cases hf
      case isTrue hle =>
        obtain ⟨h5, h6, h7⟩ := cellsL_rep h1 h4
        have hl := hc.get.1
        simp only [Array.length_toList] at hl
        have hfold := zipIdx_foldl off v.cells.toList 0 us (by simp; omega)
        have hst : (v.cells.zipIdx.foldl (fun cs (x : Value × Nat) => cs.setIfInBounds (off + x.2) x.1) us).toList = Proofs.YtenldjifipnjpaaDoor.setL us.toList off v.cells.toList := by
          rw [← Array.foldl_toList, Array.toList_zipIdx]
          simpa [Proofs.YtenldjifipnjpaaDoor.setL] using hfold
        obtain ⟨us', h8, h9⟩ := fill_rep place h2 (us := v.cells.zipIdx.foldl (fun cs (x : Value × Nat) => cs.setIfInBounds (off + x.2) x.1) us) (by rw [hst]; exact hc.setL h7 off) hf
        refine ⟨us', ?_, h9⟩
        simp only [Instr.fill, h3]
        rw [if_neg (by simp; omega)]
        exact h8
    · cases hf
end

def structPlaces (P : Program) (t : Nat) : Option (Array (Nat × Nat)) :=
  match P.underlying t with
  | some (.struct fs) => pureRun P (fs.mapM fun f => do pure (f.offset, ← sizeOf f.type))
  | _ => none
def zeroOf (P : Program) (t : Nat) : Option Value := (P.info? t).bind (·.zero)
def evBuild (P : Program) (t : Nat) (ps : List (Nat × PV)) : Option PV :=
  match zeroOf P t, structPlaces P t with
  | some z, some pl => (fillP (pl[·]?) (z.cells.toList.map PV.val) ps).map .agg
  | _, _ => none
theorem RepL.vals {g : Gh} {w : World} : ∀ (vs : List Value), RepL g w (vs.map PV.val) vs
  | [] => by simp [RepL]
  | v :: vs => by simp only [List.map_cons, RepL, Rep]; exact ⟨v, vs, rfl, rfl, RepL.vals vs⟩
theorem run_zero {P : Program} {t : Nat} {z : Value} (h : zeroOf P t = some z) (w : World) : (zeroValue t).run P w = .ok z w := by
  unfold zeroOf at h
  cases hi : P.info? t with
  | none => simp [hi] at h
  | some i =>
    simp only [hi, Option.bind_some] at h
    simp [zeroValue, typeInfo, hi, h]
theorem run_size {P : Program} {t k : Nat} (h : tySize P t = some k) (w : World) : (sizeOf t).run P w = .ok k w := by
  unfold tySize at h
  cases hi : P.info? t with
  | none => simp [hi] at h
  | some i =>
    simp only [hi, Option.map_some, Option.some.injEq] at h
    simp [sizeOf, typeInfo, hi, h]
theorem run_build {P : Program} {g : Gh} {w : World} {t : Nat} {ps : List (Nat × PV)} {vs : Array (Nat × Value)} {p : PV} (hp : RepPs g w ps vs.toList) (h : evBuild P t ps = some p) :
    ∃ v, (Instr.build t vs).run P w = .ok v w ∧ Rep g w p v := by
  unfold evBuild at h
  split at h
  · rename_i z pl h1 h2
    simp only [Option.map_eq_some_iff] at h
    obtain ⟨out, h3, rfl⟩ := h
    obtain ⟨us', h4, h5⟩ := fill_rep _ hp (us := z.cells) (RepL.vals _) h3
    unfold structPlaces at h2
    split at h2
    · rename_i fs hu
      refine ⟨.agg us', ?_, by simp only [Rep]; exact ⟨us', rfl, h5⟩⟩
      simp only [Instr.build, Sem.run_bind, run_zero h1, Result.andThen_ok, run_underlying hu w, pureRun_run h2 w, h4]
      rfl
    · cases h2
  · cases h

def asI : PV → Option Int
  | .val (.int _ i) => some i
  | _ => none
/-- The address of an element. -/
def evIndexAddr (P : Program) (t : Nat) (x : PV) (i : Int) : Option PV :=
  match P.underlying t with
  | some (.slice e) => match x, tySize P e with
    | .lst k sz es, some s => if s = sz ∧ 0 ≤ i then (es[i.toNat]?).map fun e => .ptr k e 0 else none
    | .row o sz j n, some s => if s = sz ∧ 0 ≤ i ∧ i < n then some (.own o sz (j + i.toNat) 0) else none
    | _, _ => none
  | some (.array n e) => match x, tySize P e with
    | .ptr k e f, some s => if 0 ≤ i ∧ i < n then some (.ptr k e (f + i.toNat * s)) else none
    | .own o sz j f, some s => if 0 ≤ i ∧ i < n then some (.own o sz j (f + i.toNat * s)) else none
    | _, _ => none
  | _ => none
theorem run_indexAddr {P : Program} {g : Gh} {w : World} {t : Nat} {x p : PV} {v : Value} {k : IntKind} {i : Int} (hx : Rep g w x v) (h : evIndexAddr P t x i = some p) :
    ∃ u, (Instr.indexAt t v (.int k i)).run P w = .ok u w ∧ Rep g w p u := by
  unfold evIndexAddr at h
  split at h
  · rename_i e hu
    split at h
    · rename_i kk sz es s h1
      split at h
      case isFalse => cases h
      case isTrue hc =>
        obtain ⟨rfl, h0⟩ := hc
        simp only [Option.map_eq_some_iff] at h
        obtain ⟨el, h2, rfl⟩ := h
        simp only [Rep] at hx
        obtain ⟨a, cap, rfl, h3, h4, h5⟩ := hx
        have hlt := (List.getElem?_eq_some_iff.1 h2).1
        have hilt : i < (es.length : Int) := by omega
        rcases h5 with rfl | ⟨b, off, rfl, h6, h7⟩
        · simp at hlt
        · obtain ⟨u, h8, h9, h10⟩ := h7.get h2
          refine ⟨.pointer (some ⟨b, off + i.toNat * s, none⟩), ?_, ?_⟩
          · have ha : (⟨b, off, none⟩ : Addr).add (i.toNat * s) = ⟨b, off + i.toNat * s, none⟩ := Addr.add_mid b off _
            simp [Instr.indexAt, asIntOf, Sem.run_bind, run_underlying hu w, h0, hilt, run_size h1 w, ha]
          · simp only [Rep]
            exact ⟨b, off + i.toNat * s, by simp, h6, u, h8, h9⟩
    · rename_i o sz j n s h1
      split at h
      case isFalse => cases h
      case isTrue hc =>
        obtain ⟨rfl, h0, hn⟩ := hc
        simp only [Option.some.injEq] at h
        subst h
        simp only [Rep] at hx
        obtain ⟨c, rfl, h2, h3, h4, h5⟩ := hx
        refine ⟨.pointer (some ⟨g.β o, j * s + i.toNat * s, none⟩), ?_, ?_⟩
        · have ha : (⟨g.β o, j * s, none⟩ : Addr).add (i.toNat * s) = ⟨g.β o, j * s + i.toNat * s, none⟩ := Addr.add_mid _ _ _
          simp [Instr.indexAt, asIntOf, Sem.run_bind, run_underlying hu w, h0, hn, run_size h1 w, ha]
        · simp only [Rep]
          exact ⟨by rw [Nat.add_mul]; rfl, h5⟩
    · cases h
  · rename_i n e hu
    split at h
    · rename_i kk el f s h1
      split at h
      case isFalse => cases h
      case isTrue hc =>
        obtain ⟨h0, hn⟩ := hc
        simp only [Option.some.injEq] at h
        subst h
        simp only [Rep] at hx
        obtain ⟨b, off, rfl, h2, h3⟩ := hx
        refine ⟨.pointer (some ⟨b, off + f + i.toNat * s, none⟩), ?_, ?_⟩
        · have ha : (⟨b, off + f, none⟩ : Addr).add (i.toNat * s) = ⟨b, off + f + i.toNat * s, none⟩ := Addr.add_mid _ _ _
          simp [Instr.indexAt, Instr.sureAddr, asIntOf, Sem.run_bind, run_underlying hu w, h0, hn, run_size h1 w, ha]
        · simp only [Rep]
          exact ⟨b, off, by rw [Nat.add_assoc], h2, h3⟩
    · rename_i o sz j f s h1
      split at h
      case isFalse => cases h
      case isTrue hc =>
        obtain ⟨h0, hn⟩ := hc
        simp only [Option.some.injEq] at h
        subst h
        simp only [Rep] at hx
        obtain ⟨rfl, h2⟩ := hx
        refine ⟨.pointer (some ⟨g.β o, j * sz + f + i.toNat * s, none⟩), ?_, ?_⟩
        · have ha : (⟨g.β o, j * sz + f, none⟩ : Addr).add (i.toNat * s) = ⟨g.β o, j * sz + f + i.toNat * s, none⟩ := Addr.add_mid _ _ _
          simp [Instr.indexAt, Instr.sureAddr, asIntOf, Sem.run_bind, run_underlying hu w, h0, hn, run_size h1 w, ha]
        · simp only [Rep]
          exact ⟨by rw [Nat.add_assoc], h2⟩
    · cases h
  · cases h

def isNil : PV → Bool
  | .val (.slice none 0 0) => true
  | _ => false
/-- A part of a slice. -/
def evSlice (P : Program) (t : Nat) (x : PV) (lo hi : Option Int) : Option PV :=
  match P.underlying t with
  | some (.slice e) => match x, tySize P e with
    | .lst k sz es, some s =>
      let l := lo.getD 0
      let h := hi.getD es.length
      if s = sz ∧ 0 ≤ l ∧ l ≤ h ∧ h ≤ es.length then some (.lst k sz ((es.drop l.toNat).take (h.toNat - l.toNat))) else none
    | .row o sz i n, some s =>
      let l := lo.getD 0
      let h := hi.getD n
      if s = sz ∧ 0 ≤ l ∧ l ≤ h ∧ h ≤ n then (if l = h then some (.lst true sz []) else some (.row o sz (i + l.toNat) (h.toNat - l.toNat))) else none
    | x, some s => if isNil x ∧ lo.getD 0 = 0 ∧ hi.getD 0 = 0 then some x else none
    | _, _ => none
  | _ => none
theorem run_sliceBounds {P : Program} {w : World} (len cap : Nat) (lo hi : Option Int) (kl kh : IntKind) (h1 : 0 ≤ lo.getD 0) (h2 : lo.getD 0 ≤ hi.getD len) (h3 : hi.getD len ≤ len) (h4 : len ≤ cap) :
    (Instr.sliceBounds true len cap (lo.map (Value.int kl)) (hi.map (Value.int kh)) none).run P w = .ok ((lo.getD 0).toNat, (hi.getD len).toNat, cap) w := by
  cases hi with
  | none =>
    cases lo with
    | none => simp [Instr.sliceBounds, Sem.run_bind]
    | some l =>
      simp only [Option.getD_some, Option.getD_none] at *
      simp [Instr.sliceBounds, Instr.sliceBound, asIntOf, Sem.run_bind, h1, h2]
  | some h =>
    simp only [Option.getD_some] at *
    have h0 : 0 ≤ h := by omega
    have hc : h ≤ (cap : Int) := by omega
    cases lo with
    | none => simp [Instr.sliceBounds, Instr.sliceBound, asIntOf, Sem.run_bind, h0, hc]
    | some l =>
      simp only [Option.getD_some] at *
      have hl : ¬ max h 0 < l := by omega
      simp [Instr.sliceBounds, Instr.sliceBound, asIntOf, Sem.run_bind, h0, hc, h1, hl]
theorem run_slice {P : Program} {g : Gh} {w : World} {t : Nat} {x p : PV} {v : Value} {kl kh : IntKind} {lo hi : Option Int} (hx : Rep g w x v) (h : evSlice P t x lo hi = some p) :
    ∃ u, (Instr.sliceAt t v (lo.map (Value.int kl)) (hi.map (Value.int kh)) none).run P w = .ok u w ∧ Rep g w p u := by
  unfold evSlice at h
  split at h
  · rename_i e hu
    split at h
    · rename_i kk sz es s h1
      dsimp only at h
      split at h
      case isFalse => cases h
      case isTrue hc =>
        obtain ⟨rfl, c1, c2, c3⟩ := hc
        simp only [Option.some.injEq] at h
        subst h
        simp only [Rep] at hx
        obtain ⟨a, cap, rfl, h3, h4, h5⟩ := hx
        have hb := run_sliceBounds (P := P) (w := w) es.length cap lo hi kl kh c1 c2 c3 h3
        refine ⟨_, by simp [Instr.sliceAt, Instr.slice, Sem.run_bind, run_underlying hu w, hb, run_size h1 w]; rfl, ?_⟩
        simp only [Rep]
        have hlen : ((es.drop (lo.getD 0).toNat).take ((hi.getD es.length).toNat - (lo.getD 0).toNat)).length = (hi.getD es.length).toNat - (lo.getD 0).toNat := by simp; omega
        refine ⟨_, _, by rw [hlen], by rw [hlen]; omega, by omega, ?_⟩
        by_cases hz : (hi.getD es.length).toNat - (lo.getD 0).toNat = 0
        · left; rw [hz]; rfl
        · right
          rcases h5 with rfl | ⟨b, off, rfl, h6, h7⟩
          · simp at c3 hz; omega
          · refine ⟨b, off + (lo.getD 0).toNat * s, ?_, h6, (h7.drop _).take _⟩
            rw [if_neg (by omega)]
            simp only [Option.map_some, Addr.add_mid]
    · rename_i o sz i n s h1
      dsimp only at h
      split at h
      case isFalse => cases h
      case isTrue hc =>
        obtain ⟨rfl, c1, c2, c3⟩ := hc
        simp only [Rep] at hx
        obtain ⟨c, rfl, h2, h3, h4, h5⟩ := hx
        have hb := run_sliceBounds (P := P) (w := w) n c lo hi kl kh c1 c2 c3 h2
        refine ⟨_, by simp [Instr.sliceAt, Instr.slice, Sem.run_bind, run_underlying hu w, hb, run_size h1 w]; rfl, ?_⟩
        split at h
        · rename_i heq
          simp only [Option.some.injEq] at h
          subst h
          simp only [Rep]
          refine ⟨_, _, by rw [show (hi.getD (n : Int)).toNat - (lo.getD 0).toNat = 0 by omega]; rfl, by simp, by omega, .inl trivial⟩
        · rename_i hne
          simp only [Option.some.injEq] at h
          subst h
          simp only [Rep]
          refine ⟨c - (lo.getD 0).toNat, ?_, by omega, by omega, by rw [show i + (lo.getD 0).toNat + (c - (lo.getD 0).toNat) = i + c by omega]; exact h4, h5⟩
          rw [if_neg (by omega)]
          simp only [Option.map_some, Addr.add_mid, Nat.add_mul]
    · rename_i s h1 h2
      split at h
      case isFalse => cases h
      case isTrue hc =>
        obtain ⟨c1, c2, c3⟩ := hc
        simp only [Option.some.injEq] at h
        subst h
        unfold isNil at c1
        split at c1
        · simp only [Rep] at hx
          subst hx
          have hb := run_sliceBounds (P := P) (w := w) 0 0 lo hi kl kh (by omega) (by have : hi.getD ((0 : Nat) : Int) = 0 := c3; omega) (by have : hi.getD ((0 : Nat) : Int) = 0 := c3; omega) (Nat.le_refl _)
          refine ⟨_, by simp [Instr.sliceAt, Instr.slice, Sem.run_bind, run_underlying hu w, hb, run_size h2 w]; rfl, ?_⟩
          have e1 : hi.getD ((0 : Nat) : Int) = 0 := c3
          simp only [Rep]
          simp [c2]
          have e2 : hi.getD 0 = 0 := c3
          simp [e2]
        · cases c1
    · cases h
  · cases h

end Go.Proofs.YtenldjifipnjpaaDoor
