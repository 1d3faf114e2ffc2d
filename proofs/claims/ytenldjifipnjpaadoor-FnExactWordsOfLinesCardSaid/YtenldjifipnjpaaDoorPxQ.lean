/- Calls with objects: the equations by which simp walks them, on both sides. -/
import Derived.Test.YtenldjifipnjpaaDoorPxP
namespace Go.Proofs.YtenldjifipnjpaaDoor
open Go.RowKit
set_option linter.all false
section
variable {P : Program} {Γ : Ctx} {Φ : FunIO} {ob : Objs} {nx : Nat}
/-- The call of a function with objects. -/
def ioGo (ob : Objs) (nx : Nat) (ps : List PV) : Option FunIO → Option (PV × Objs × Nat)
  | some Φ => ioEv Φ ob nx ps
  | none => none
theorem ee_call {s : AS} {ρ : Operand → PV} {f : Nat} {xs : Array Operand} {ts : Array TypeId} : evEff P Γ s ρ (.call { callee := .value (.func f), args := xs, argTypes := ts }) = ioGo s.ob s.nx (xs.toList.map ρ) (Γ.io f) := by
  simp only [evEff, calleeIO, ioGo]
  cases Γ.io f <;> rfl
theorem ioGo_some {ps : List PV} : ioGo ob nx ps (some Φ) = ioEv Φ ob nx ps := rfl
def outF (os : List Nat) (nx : Nat) : Nat → Option Nat := fun i => some (outn os nx i)
def ioR (os : List Nat) (ob : Objs) (nx : Nat) : Option (PV × List CellIO) → Option (PV × Objs × Nat)
  | some (r, cs') => match renF (outF os nx) fuel r, cs'.mapM (renC (outF os nx) fuel) with
    | some r', some cs2 => some (r', putObs ob (((List.range cs2.length).map (outn os nx)).zip cs2), nx + (cs'.length - os.length))
    | _, _ => none
  | none => none
theorem ioEv_eq (ps : List PV) (os : List Nat) (h : dedup (ps.flatMap refsOf) = os) : ioEv Φ ob nx ps = match os.mapM ob, ps.mapM (renF (inn os) fuel) with
    | some cs, some qs => match cs.mapM (renC (inn os) fuel) with
      | some cs1 => ioR os ob nx (Φ qs cs1)
      | none => none
    | _, _ => none := by
  subst h
  unfold ioEv
  dsimp only
  generalize dedup (ps.flatMap refsOf) = os
  cases os.mapM ob with
  | none => rfl
  | some cs =>
    cases ps.mapM (renF (inn os) fuel) with
    | none => rfl
    | some qs =>
      dsimp only
      cases cs.mapM (renC (inn os) fuel) with
      | none => rfl
      | some cs1 =>
        dsimp only
        unfold ioR
        cases Φ qs cs1 with
        | none => rfl
        | some r => rfl
/-- One object, first of the arguments. -/
def ioOne (Φ : FunIO) (ob : Objs) (nx o : Nat) (qs : List PV) : Option CellIO → Option (PV × Objs × Nat)
  | some c => (c.2.2.mapM (renF (inn [o]) fuel)).bind fun es => ioR [o] ob nx (Φ qs [(c.1, c.2.1, es)])
  | none => none
theorem one_mapM {α β : Type} {F : α → Option β} {x : α} : [x].mapM F = (F x).map fun y => [y] := by
  rw [mapM_cons', mapM_nil']
  cases F x <;> rfl
theorem ioOne_of {ps qs : List PV} {o : Nat} (h1 : dedup (ps.flatMap refsOf) = [o]) (h2 : ps.mapM (renF (inn [o]) fuel) = some qs) : ioEv Φ ob nx ps = ioOne Φ ob nx o qs (ob o) := by
  rw [ioEv_eq ps [o] h1, h2, one_mapM]
  unfold ioOne
  cases hb : ob o with
  | none => rfl
  | some c =>
    simp only [Option.map_some, one_mapM, renC]
    cases c.2.2.mapM (renF (inn [o]) fuel) <;> rfl
theorem inn_self (o : Nat) : inn [o] o = some 0 := by simp [inn]
theorem inn_ne {o a : Nat} (h : ¬ o = a) : inn [a] o = none := by simp [inn, h]
theorem renS_fuel (nm : Nat → Option Nat) (p : PV) : renF nm fuel p = renF nm 8 p := rfl
theorem renS_val (nm : Nat → Option Nat) (f : Nat) (v : Value) : renF nm (f + 1) (.val v) = some (.val v) := rfl
theorem renS_agg (nm : Nat → Option Nat) (f : Nat) (cs : List PV) : renF nm (f + 1) (.agg cs) = (cs.mapM (renF nm f)).map .agg := by simp only [renF]
theorem renS_tup (nm : Nat → Option Nat) (f : Nat) (cs : List PV) : renF nm (f + 1) (.tup cs) = (cs.mapM (renF nm f)).map .tup := by simp only [renF]
theorem renS_own (nm : Nat → Option Nat) (f o sz i c : Nat) : renF nm (f + 1) (.own o sz i c) = (nm o).map fun o' => .own o' sz i c := rfl
theorem renS_row (nm : Nat → Option Nat) (f o sz i m : Nat) : renF nm (f + 1) (.row o sz i m) = (nm o).map fun o' => .row o' sz i m := rfl
theorem ren_flat {nm : Nat → Option Nat} : ∀ {f : Nat} {p : PV}, flatP f p = true → renF nm f p = some p
  | 0, _, h => by simp [flatP] at h
  | f + 1, p, h => by
    cases p with
    | val v => rfl
    | dead => rfl
    | agg cs =>
      have h2 : ∀ c ∈ cs, flatP f c = true := by simpa [flatP] using h
      simp only [renF]
      rw [mapM_self fun c hc => ren_flat (h2 c hc)]
      rfl
    | _ => simp [flatP] at h
theorem flatP_mono : ∀ {f g : Nat} {p : PV}, f ≤ g → flatP f p = true → flatP g p = true
  | 0, _, p, _, h => by simp [flatP] at h
  | f + 1, 0, p, hg, h => by omega
  | f + 1, g + 1, p, hg, h => by
    cases p with
    | val v => rfl
    | dead => rfl
    | agg cs =>
      have h2 : ∀ c ∈ cs, flatP f c = true := by simpa [flatP] using h
      simp only [flatP, List.all_eq_true]
      exact fun c hc => flatP_mono (by omega) (h2 c hc)
    | _ => simp [flatP] at h
theorem renS_flat {α : Type} {nm : Nat → Option Nat} {f sz : Nat} {k : Bool} {g : α → PV} {l : List α} (h : ∀ x, flatP 2 (g x) = true) : renF nm (f + 3) (.lst k sz (l.map g)) = some (.lst k sz (l.map g)) := by
  show ((l.map g).mapM (renF nm (f + 2))).map (PV.lst k sz) = _
  rw [mapM_self fun e he => by obtain ⟨x, _, rfl⟩ := List.mem_map.1 he; exact ren_flat (flatP_mono (by omega) (h x))]
  rfl
theorem renM_flat {α : Type} {nm : Nat → Option Nat} {f : Nat} {g : α → PV} {l : List α} (h : ∀ x, flatP 2 (g x) = true) : (l.map g).mapM (renF nm (f + 2)) = some (l.map g) :=
  mapM_self fun e he => by obtain ⟨x, _, rfl⟩ := List.mem_map.1 he; exact ren_flat (flatP_mono (by omega) (h x))
section
variable {α : Type} {nm : Nat → Option Nat} {f sz : Nat} {k : Bool} {l : List α} {g g1 g2 g3 g4 : α → Value}
theorem renS_vals : renF nm (f + 3) (.lst k sz (l.map fun x => PV.val (g x))) = some (.lst k sz (l.map fun x => PV.val (g x))) := renS_flat fun _ => rfl
theorem renS_a2 : renF nm (f + 3) (.lst k sz (l.map fun x => PV.agg [.val (g1 x), .val (g2 x)])) = some (.lst k sz (l.map fun x => PV.agg [.val (g1 x), .val (g2 x)])) := renS_flat fun _ => rfl
theorem renS_a3 : renF nm (f + 3) (.lst k sz (l.map fun x => PV.agg [.val (g1 x), .val (g2 x), .val (g3 x)])) = some (.lst k sz (l.map fun x => PV.agg [.val (g1 x), .val (g2 x), .val (g3 x)])) := renS_flat fun _ => rfl
theorem renS_a4 : renF nm (f + 3) (.lst k sz (l.map fun x => PV.agg [.val (g1 x), .val (g2 x), .val (g3 x), .val (g4 x)])) = some (.lst k sz (l.map fun x => PV.agg [.val (g1 x), .val (g2 x), .val (g3 x), .val (g4 x)])) := renS_flat fun _ => rfl
theorem renM_vals : (l.map fun x => PV.val (g x)).mapM (renF nm 8) = some (l.map fun x => PV.val (g x)) := renM_flat fun _ => rfl
theorem renM_a2 : (l.map fun x => PV.agg [.val (g1 x), .val (g2 x)]).mapM (renF nm 8) = some (l.map fun x => PV.agg [.val (g1 x), .val (g2 x)]) := renM_flat fun _ => rfl
theorem renM_a3 : (l.map fun x => PV.agg [.val (g1 x), .val (g2 x), .val (g3 x)]).mapM (renF nm 8) = some (l.map fun x => PV.agg [.val (g1 x), .val (g2 x), .val (g3 x)]) := renM_flat fun _ => rfl
theorem renM_a4 : (l.map fun x => PV.agg [.val (g1 x), .val (g2 x), .val (g3 x), .val (g4 x)]).mapM (renF nm 8) = some (l.map fun x => PV.agg [.val (g1 x), .val (g2 x), .val (g3 x), .val (g4 x)]) := renM_flat fun _ => rfl
end
theorem io_o1 {o sz i c : Nat} : ioEv Φ ob nx [.own o sz i c] = ioOne Φ ob nx o [.own 0 sz i c] (ob o) := ioOne_of (by simp [refsOf, dedup]) (by simp only [mapM_cons', mapM_nil', renS_fuel, renS_own, inn_self]; rfl)
theorem io_o2 {o sz i c : Nat} {v : Value} : ioEv Φ ob nx [.own o sz i c, .val v] = ioOne Φ ob nx o [.own 0 sz i c, .val v] (ob o) := ioOne_of (by simp [refsOf, dedup]) (by simp only [mapM_cons', mapM_nil', renS_fuel, renS_own, renS_val, inn_self]; rfl)
theorem io_o3 {o sz i c : Nat} {u v : Value} : ioEv Φ ob nx [.own o sz i c, .val u, .val v] = ioOne Φ ob nx o [.own 0 sz i c, .val u, .val v] (ob o) := ioOne_of (by simp [refsOf, dedup]) (by simp only [mapM_cons', mapM_nil', renS_fuel, renS_own, renS_val, inn_self]; rfl)
theorem io_r1 {o sz i c : Nat} : ioEv Φ ob nx [.row o sz i c] = ioOne Φ ob nx o [.row 0 sz i c] (ob o) := ioOne_of (by simp [refsOf, dedup]) (by simp only [mapM_cons', mapM_nil', renS_fuel, renS_row, inn_self]; rfl)
theorem io_r2 {o sz i c : Nat} {v : Value} : ioEv Φ ob nx [.row o sz i c, .val v] = ioOne Φ ob nx o [.row 0 sz i c, .val v] (ob o) := ioOne_of (by simp [refsOf, dedup]) (by simp only [mapM_cons', mapM_nil', renS_fuel, renS_row, renS_val, inn_self]; rfl)
/-- No object among the arguments. -/
theorem ioNo_of {ps qs : List PV} (h1 : ps.flatMap refsOf = []) (h2 : ps.mapM (renF (inn []) fuel) = some qs) : ioEv Φ ob nx ps = ioR [] ob nx (Φ qs []) := by
  rw [ioEv_eq ps [] (by rw [h1]; rfl), h2, mapM_nil']
  rfl
theorem io_l1 {k : Bool} {sz : Nat} {α : Type} {g : α → Value} {l : List α} : ioEv Φ ob nx [.lst k sz (l.map fun x => PV.val (g x))] = ioR [] ob nx (Φ [.lst k sz (l.map fun x => PV.val (g x))] []) := ioNo_of rfl (by simp only [mapM_cons', mapM_nil', renS_fuel, renS_vals]; rfl)
theorem io_v1 {u : Value} : ioEv Φ ob nx [.val u] = ioR [] ob nx (Φ [.val u] []) := ioNo_of rfl rfl
theorem io_v2 {u v : Value} : ioEv Φ ob nx [.val u, .val v] = ioR [] ob nx (Φ [.val u, .val v] []) := ioNo_of rfl rfl
theorem ioOne_some {o T sz : Nat} {es qs : List PV} : ioOne Φ ob nx o qs (some (T, sz, es)) = (es.mapM (renF (inn [o]) fuel)).bind fun es => ioR [o] ob nx (Φ qs [(T, sz, es)]) := rfl
theorem ioR_one {o T sz : Nat} {es : List PV} {r : PV} : ioR [o] ob nx (some (r, [(T, sz, es)])) = (renF (outF [o] nx) fuel r).bind fun r' => (es.mapM (renF (outF [o] nx) fuel)).map fun es' => (r', upd ob o (some (T, sz, es')), nx) := by
  unfold ioR
  simp only [one_mapM, renC]
  cases renF (outF [o] nx) fuel r with
  | none => rfl
  | some r' =>
    cases es.mapM (renF (outF [o] nx) fuel) with
    | none => rfl
    | some es' => rfl
theorem ioR_new {T sz : Nat} {es : List PV} {r : PV} : ioR [] ob nx (some (r, [(T, sz, es)])) = (renF (outF [] nx) fuel r).bind fun r' => (es.mapM (renF (outF [] nx) fuel)).map fun es' => (r', upd ob nx (some (T, sz, es')), nx + 1) := by
  unfold ioR
  simp only [one_mapM, renC]
  cases renF (outF [] nx) fuel r with
  | none => rfl
  | some r' =>
    cases es.mapM (renF (outF [] nx) fuel) with
    | none => rfl
    | some es' => rfl
theorem ioR_none {r : PV} : ioR [] ob nx (some (r, [])) = (renF (outF [] nx) fuel r).map fun r' => (r', ob, nx) := by
  unfold ioR
  simp only [mapM_nil']
  cases renF (outF [] nx) fuel r with
  | none => rfl
  | some r' => rfl
theorem outF_0 {o nx : Nat} : outF [o] nx 0 = some o := rfl
theorem outF_n {nx : Nat} : outF [] nx 0 = some nx := by simp [outF, outn]
end
section
variable {out : List Nat} {ob : Objs} {f : Nat}
theorem handS_fuel (p : PV) : handF out ob fuel p = handF out ob 8 p := rfl
theorem handS_val (v : Value) : handF out ob (f + 1) (.val v) = some (.val v) := rfl
theorem handS_agg (cs : List PV) : handF out ob (f + 1) (.agg cs) = (cs.mapM (handF out ob f)).map .agg := by simp only [handF]
theorem handS_tup (cs : List PV) : handF out ob (f + 1) (.tup cs) = (cs.mapM (handF out ob f)).map .tup := by simp only [handF]
def hRow (out : List Nat) (ob : Objs) (f sz i m : Nat) : Option Nat → Option CellIO → Option PV
  | some o', _ => some (.row o' sz i m)
  | none, some (_, sz', es) => if sz = sz' ∧ i + m ≤ es.length then (((es.drop i).take m).mapM (handF out ob f)).map (.lst true sz) else none
  | none, none => none
theorem handS_row (o sz i m : Nat) : handF out ob (f + 1) (.row o sz i m) = hRow out ob f sz i m (inn out o) (ob o) := by
  simp only [handF]
  unfold hRow
  cases inn out o with
  | some o' => rfl
  | none => cases ob o <;> rfl
def hOwn (out : List Nat) (ob : Objs) (f sz i c : Nat) : Option Nat → Option CellIO → Option PV
  | some o', _ => some (.own o' sz i c)
  | none, some (_, sz', es) => if sz = sz' then (es[i]?).bind fun e => (handF out ob f e).map (.ptr true · c) else none
  | none, none => none
theorem handS_own (o sz i c : Nat) : handF out ob (f + 1) (.own o sz i c) = hOwn out ob f sz i c (inn out o) (ob o) := by
  simp only [handF]
  unfold hOwn
  cases inn out o with
  | some o' => rfl
  | none => cases ob o <;> rfl
theorem hOwn_some {sz i c o' : Nat} {x : Option CellIO} : hOwn out ob f sz i c (some o') x = some (.own o' sz i c) := rfl
theorem hRow_some {sz i m o' : Nat} {x : Option CellIO} : hRow out ob f sz i m (some o') x = some (.row o' sz i m) := rfl
theorem hand_flat : ∀ {f : Nat} {p : PV}, flatP f p = true → handF out ob f p = some p
  | 0, _, h => by simp [flatP] at h
  | f + 1, p, h => by
    cases p with
    | val v => rfl
    | dead => rfl
    | agg cs =>
      have h2 : ∀ c ∈ cs, flatP f c = true := by simpa [flatP] using h
      simp only [handF]
      rw [mapM_self fun c hc => hand_flat (h2 c hc)]
      rfl
    | _ => simp [flatP] at h
theorem handM_flat {α : Type} {g : α → PV} {l : List α} (h : ∀ x, flatP 2 (g x) = true) : (l.map g).mapM (handF out ob (f + 2)) = some (l.map g) :=
  mapM_self fun e he => by obtain ⟨x, _, rfl⟩ := List.mem_map.1 he; exact hand_flat (flatP_mono (by omega) (h x))
theorem handS_flat {α : Type} {k : Bool} {sz : Nat} {g : α → PV} {l : List α} (h : ∀ x, flatP 2 (g x) = true) : handF out ob (f + 3) (.lst k sz (l.map g)) = some (.lst k sz (l.map g)) := by
  show ((l.map g).mapM (handF out ob (f + 2))).map (PV.lst k sz) = _
  rw [handM_flat h]
  rfl
theorem hRow_flat {α : Type} {sz m T : Nat} {g : α → PV} {l : List α} (h : ∀ x, flatP 2 (g x) = true) (hm : m = l.length) : hRow out ob (f + 2) sz 0 m none (some (T, sz, l.map g)) = some (.lst true sz (l.map g)) := by
  subst hm
  have e : ((l.map g).drop 0).take l.length = l.map g := by
    rw [List.drop_zero, List.take_of_length_le (by simp)]
  simp only [hRow, e, handM_flat h, Nat.zero_add, List.length_map, Nat.le_refl, and_self, if_true, Option.map_some]
theorem hRow_lit {sz m T : Nat} {es : List PV} (hm : m = es.length) : hRow out ob f sz 0 m none (some (T, sz, es)) = (es.mapM (handF out ob f)).map (.lst true sz) := by
  subst hm
  simp [hRow]
section
variable {α : Type} {sz m T : Nat} {k : Bool} {l : List α} {g g1 g2 g3 g4 : α → Value}
theorem handS_vals : handF out ob (f + 3) (.lst k sz (l.map fun x => PV.val (g x))) = some (.lst k sz (l.map fun x => PV.val (g x))) := handS_flat fun _ => rfl
theorem handS_a2 : handF out ob (f + 3) (.lst k sz (l.map fun x => PV.agg [.val (g1 x), .val (g2 x)])) = some (.lst k sz (l.map fun x => PV.agg [.val (g1 x), .val (g2 x)])) := handS_flat fun _ => rfl
theorem handS_a3 : handF out ob (f + 3) (.lst k sz (l.map fun x => PV.agg [.val (g1 x), .val (g2 x), .val (g3 x)])) = some (.lst k sz (l.map fun x => PV.agg [.val (g1 x), .val (g2 x), .val (g3 x)])) := handS_flat fun _ => rfl
theorem handS_a4 : handF out ob (f + 3) (.lst k sz (l.map fun x => PV.agg [.val (g1 x), .val (g2 x), .val (g3 x), .val (g4 x)])) = some (.lst k sz (l.map fun x => PV.agg [.val (g1 x), .val (g2 x), .val (g3 x), .val (g4 x)])) := handS_flat fun _ => rfl
theorem handM_vals : (l.map fun x => PV.val (g x)).mapM (handF out ob 8) = some (l.map fun x => PV.val (g x)) := handM_flat fun _ => rfl
theorem handM_a2 : (l.map fun x => PV.agg [.val (g1 x), .val (g2 x)]).mapM (handF out ob 8) = some (l.map fun x => PV.agg [.val (g1 x), .val (g2 x)]) := handM_flat fun _ => rfl
theorem handM_a3 : (l.map fun x => PV.agg [.val (g1 x), .val (g2 x), .val (g3 x)]).mapM (handF out ob 8) = some (l.map fun x => PV.agg [.val (g1 x), .val (g2 x), .val (g3 x)]) := handM_flat fun _ => rfl
theorem handM_a4 : (l.map fun x => PV.agg [.val (g1 x), .val (g2 x), .val (g3 x), .val (g4 x)]).mapM (handF out ob 8) = some (l.map fun x => PV.agg [.val (g1 x), .val (g2 x), .val (g3 x), .val (g4 x)]) := handM_flat fun _ => rfl
theorem hRow_vals (hm : m = l.length) : hRow out ob (f + 2) sz 0 m none (some (T, sz, l.map fun x => PV.val (g x))) = some (.lst true sz (l.map fun x => PV.val (g x))) := hRow_flat (fun _ => rfl) hm
theorem hRow_a2 (hm : m = l.length) : hRow out ob (f + 2) sz 0 m none (some (T, sz, l.map fun x => PV.agg [.val (g1 x), .val (g2 x)])) = some (.lst true sz (l.map fun x => PV.agg [.val (g1 x), .val (g2 x)])) := hRow_flat (fun _ => rfl) hm
theorem hRow_a3 (hm : m = l.length) : hRow out ob (f + 2) sz 0 m none (some (T, sz, l.map fun x => PV.agg [.val (g1 x), .val (g2 x), .val (g3 x)])) = some (.lst true sz (l.map fun x => PV.agg [.val (g1 x), .val (g2 x), .val (g3 x)])) := hRow_flat (fun _ => rfl) hm
theorem hRow_a4 (hm : m = l.length) : hRow out ob (f + 2) sz 0 m none (some (T, sz, l.map fun x => PV.agg [.val (g1 x), .val (g2 x), .val (g3 x), .val (g4 x)])) = some (.lst true sz (l.map fun x => PV.agg [.val (g1 x), .val (g2 x), .val (g3 x), .val (g4 x)])) := hRow_flat (fun _ => rfl) hm
end
def hCell (out : List Nat) (ob : Objs) : Option CellIO → Option CellIO
  | some (T, sz, es) => (es.mapM (handF out ob fuel)).map fun es => (T, sz, es)
  | none => none
theorem handC_eq (o : Nat) : handC out ob fuel o = hCell out ob (ob o) := by
  unfold handC hCell
  cases ob o with
  | none => rfl
  | some c => rfl
theorem hCell_some {T sz : Nat} {es : List PV} : hCell out ob (some (T, sz, es)) = (es.mapM (handF out ob fuel)).map fun es => (T, sz, es) := rfl
end
section
variable {P : Program} {Γ : Ctx} {tm : Nat → PV} {ob : Objs} {nx : Nat} {rs : List ResultVar} {r : PV} {c' d' : CellIO} {x : X}
/-- The end: one object was handed in, none is new. -/
theorem i_end1 (hx : x = .normal ∨ x = .ret) (h1 : ((resPs P ⟨tm, ob, nx⟩ rs).bind fun qs => handF [0] ob fuel (onePV qs)) = some r) (h2 : handC [0] ob fuel 0 = some c') : PostIO P rs 1 r [c'] x ⟨tm, ob, nx⟩ :=
  ⟨hx, [], by simp, by simp, h1, by
    show [0].mapM (handC [0] ob fuel) = some [c']
    rw [one_mapM, h2]; rfl⟩
/-- None was handed in, one is new. -/
theorem i_endN1 (o : Nat) (hx : x = .normal ∨ x = .ret) (h1 : ((resPs P ⟨tm, ob, nx⟩ rs).bind fun qs => handF [o] ob fuel (onePV qs)) = some r) (h2 : handC [o] ob fuel o = some c') : PostIO P rs 0 r [c'] x ⟨tm, ob, nx⟩ :=
  ⟨hx, [o], by simp, by simp, h1, by
    show [o].mapM (handC [o] ob fuel) = some [c']
    rw [one_mapM, h2]; rfl⟩
theorem i_endN0 (hx : x = .normal ∨ x = .ret) (h1 : ((resPs P ⟨tm, ob, nx⟩ rs).bind fun qs => handF [] ob fuel (onePV qs)) = some r) : PostIO P rs 0 r [] x ⟨tm, ob, nx⟩ :=
  ⟨hx, [], by simp, by simp, h1, rfl⟩
theorem ls_one (c : CellIO) : (fun o => [c][o]?) = lo [(0, c)] := by
  funext o
  cases o with
  | zero => rfl
  | succ o => simp [lo, List.lookup]
theorem ls_nil : (fun o => ([] : List CellIO)[o]?) = noObs := by funext o; simp [noObs]
theorem sound_pq1 (hm : P.follows .mixedOrders = true) {f : Nat} {fn : Func} {c : Code} {Φ : FunIO} (hΓ : SoundΓ P Γ) (hf : P.funcs[f]? = some fn) (hb : fn.body = some c) (N : Nat) (hN : fn.ntmps = N) (rs : List ResultVar) (hrs : fn.results.toList = rs) (hc : codeOk Γ true N c = true)
    (h : ∀ ps cs r cs', Φ ps cs = some (r, cs') → ∃ o, cs = [o] ∧ ps.length ≤ N ∧ pq P Γ N c (PostIO P rs 1 r cs') (initS ps).tm (lo [(0, o)]) 1) : SoundIO P f Φ := by
  refine sound_pqIO hm hΓ hf hb N hN rs hrs hc fun ps cs r cs' hr => ?_
  obtain ⟨o, rfl, h1, h2⟩ := h ps cs r cs' hr
  refine ⟨h1, ?_⟩
  rw [ls_one]
  exact h2
theorem sound_pq0 (hm : P.follows .mixedOrders = true) {f : Nat} {fn : Func} {c : Code} {Φ : FunIO} (hΓ : SoundΓ P Γ) (hf : P.funcs[f]? = some fn) (hb : fn.body = some c) (N : Nat) (hN : fn.ntmps = N) (rs : List ResultVar) (hrs : fn.results.toList = rs) (hc : codeOk Γ true N c = true)
    (h : ∀ ps cs r cs', Φ ps cs = some (r, cs') → cs = [] ∧ ps.length ≤ N ∧ pq P Γ N c (PostIO P rs 0 r cs') (initS ps).tm noObs 0) : SoundIO P f Φ := by
  refine sound_pqIO hm hΓ hf hb N hN rs hrs hc fun ps cs r cs' hr => ?_
  obtain ⟨rfl, h1, h2⟩ := h ps cs r cs' hr
  refine ⟨h1, ?_⟩
  rw [ls_nil]
  exact h2
end
def onlyG (b : Bool) (c : Option CellIO) : Option CellIO := if b = true then c else none
theorem onlyV_ap (V : List Nat) (ob : Objs) (o : Nat) : onlyV V ob o = onlyG (V.contains o) (ob o) := rfl
theorem onlyG_true (c : Option CellIO) : onlyG true c = c := rfl
attribute [push_cast]
  ee_call ioGo_some io_o1 io_o2 io_o3 io_r1 io_r2 io_l1 io_v1 io_v2 ioOne_some ioR_one ioR_new ioR_none outF_0 outF_n inn_self inn_ne
  renS_fuel renS_val renS_agg renS_tup renS_own renS_row renS_vals renS_a2 renS_a3 renS_a4 renM_vals renM_a2 renM_a3 renM_a4
  handS_fuel handS_val handS_agg handS_tup handS_row handS_own hOwn_some hRow_some handS_vals handS_a2 handS_a3 handS_a4 handM_vals handM_a2 handM_a3 handM_a4 hRow_vals hRow_a2 hRow_a3 hRow_a4
  handC_eq hCell_some onlyV_ap onlyG_true List.contains_cons List.contains_nil
theorem lo_nil (o : Nat) : lo [] o = none := rfl
theorem lo_cons (k : Nat) (v : CellIO) (l : List (Nat × CellIO)) (o : Nat) : lo ((k, v) :: l) o = if o = k then some v else lo l o := by
  simp only [lo, List.lookup_cons]
  by_cases h : o = k
  · simp [h]
  · have : (o == k) = false := by simpa using h
    simp [this, h]
attribute [push_cast high] lo_nil lo_cons
/-! Literals: structs with fields, slices with elements. -/
def plF (l : List (Nat × Nat)) : Nat → Option (Nat × Nat) := fun i => l[i]?
theorem bl_of {P : Program} {t : Nat} {z : List PV} {zv : Value} {pl : Array (Nat × Nat)} (hz : zeroOf P t = some zv) (hzv : zv.cells.toList.map PV.val = z) (hp : structPlaces P t = some pl) (ps : List (Nat × PV)) : evBuild P t ps = (fillP (plF pl.toList) z ps).map .agg := by
  unfold evBuild
  rw [hz, hp]
  dsimp only
  rw [hzv]
  congr 2
  funext i
  simp [plF]
def fpG (l : List (Nat × Nat)) (cells : List PV) (rest : List (Nat × PV)) : Option (Nat × Nat) → Option (List PV) → Option (List PV)
  | some (off, size), some cs => if cs.length = size ∧ off + cs.length ≤ cells.length then fillP (plF l) (setL cells off cs) rest else none
  | _, _ => none
theorem fp_nil (l : List (Nat × Nat)) (cells : List PV) : fillP (plF l) cells [] = some cells := rfl
theorem fp_cons (l : List (Nat × Nat)) (cells : List PV) (i : Nat) (v : PV) (rest : List (Nat × PV)) : fillP (plF l) cells ((i, v) :: rest) = fpG l cells rest l[i]? (cellsL v) := rfl
theorem fpG_ok {l : List (Nat × Nat)} {cells cs : List PV} {rest : List (Nat × PV)} {off size : Nat} (h1 : cs.length = size) (h2 : off + cs.length ≤ cells.length) : fpG l cells rest (some (off, size)) (some cs) = fillP (plF l) (setL cells off cs) rest := by
  simp [fpG, h1]
  omega
theorem partsOf_nil {ρ : Operand → PV} : partsOf ρ (List.toArray []) = [] := rfl
theorem partsOf_cons {ρ : Operand → PV} {i : Nat} {x : Operand} {l : List (Nat × Operand)} : partsOf ρ (List.toArray ((i, x) :: l)) = (i, ρ x) :: partsOf ρ l.toArray := rfl
def okC (sz : Nat) : Option (List PV) → Bool
  | some cs => cs.length == sz
  | none => false
def rowC (e sz : Nat) (es : List PV) : Bool → Option (Nat × Nat × List PV)
  | true => some (e, sz, es)
  | false => none
theorem rowC_true (e sz : Nat) (es : List PV) : rowC e sz es true = some (e, sz, es) := rfl
theorem rw_of {P : Program} {t n e sz : Nat} {z : Value} (he : tyElem P t = some e) (hs : tySize P e = some sz) (hz : zeroOf P e = some z) (ps : List (Nat × PV)) (h1 : n * sz ≤ 16777216) (h2 : n ≤ 9223372036854775807) (hm : ps.map (·.1) = List.range n) :
    rowEs P t n ps = rowC e sz (ps.map (·.2)) ((ps.map (·.2)).all (okP sz)) := by
  unfold rowEs
  rw [he]
  dsimp only
  rw [hs, hz]
  dsimp only
  cases ((ps.map (·.2)).all (okP sz)) <;> simp [rowC, h1, h2, hm]
theorem okP_eq (sz : Nat) (p : PV) : okP sz p = okC sz (cellsL p) := by unfold okP okC; cases cellsL p <;> rfl
theorem okC_some (sz : Nat) (cs : List PV) : okC sz (some cs) = (cs.length == sz) := rfl
theorem rowV_some (e sz : Nat) (es : List PV) : rowV (some (e, sz, es)) = some (.lst true sz es) := rfl
theorem take_map' {α β : Type} {f : α → β} {l : List α} {n : Nat} : (l.map f).take n = (l.take n).map f := List.map_take.symm
theorem drop_map' {α β : Type} {f : α → β} {l : List α} {n : Nat} : (l.map f).drop n = (l.drop n).map f := List.map_drop.symm
attribute [push_cast]
  take_map' drop_map' Int.add_sub_cancel List.length_append List.length_take List.length_drop List.length_reverse Nat.sub_zero fp_nil fp_cons fpG_ok partsOf_nil partsOf_cons rowC_true okP_eq okC_some rowV_some
end Go.Proofs.YtenldjifipnjpaaDoor
