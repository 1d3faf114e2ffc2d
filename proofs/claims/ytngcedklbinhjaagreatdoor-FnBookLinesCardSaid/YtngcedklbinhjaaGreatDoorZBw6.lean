/- What the proof rests on, part 6: contracts of functions. No condition beyond what each states. -/
import Derived.Test.YtngcedklbinhjaaGreatDoorZBw5
namespace Go.Proofs.YtngcedklbinhjaaGreatDoor
open Go.RowKit
set_option linter.all false
section
variable {P : Program} {Γ : Ctx} {Φ : fG} {ob : aF} {nx : Nat}
def aB5 (ob : aF) (nx : Nat) (ps : List PV) : Option fG → Option (PV × aF × Nat)
 | some Φ => qH Φ ob nx ps
 | none => none
theorem abI {s : AS} {ρ : Operand → PV} {f : Nat} {xs : Array Operand} {ts : Array TypeId} : aQ P Γ s ρ (.call { callee := .value (.func f), args := xs, argTypes := ts }) = aB5 s.ob s.nx (xs.toList.map ρ) (Γ.io f) := by
 simp only [aQ, mG, aB5]
 cases Γ.io f <;> rfl
theorem uK {ps : List PV} : aB5 ob nx ps (some Φ) = qH Φ ob nx ps := rfl
def jy (os : List Nat) (nx : Nat) : Nat → Option Nat := fun i => some (kD os nx i)
def ioR (os : List Nat) (ob : aF) (nx : Nat) : Option (PV × List aV) → Option (PV × aF × Nat)
 | some (r, cs') => match dJ (jy os nx) fuel r, cs'.mapM (aaL (jy os nx) fuel) with
  | some r', some cs2 => some (r', iH ob (((List.range cs2.length).map (kD os nx)).zip cs2), nx + (cs'.length - os.length))
  | _, _ => none
 | none => none
theorem qM (ps : List PV) (os : List Nat) (h : dedup (ps.flatMap refsOf) = os) : qH Φ ob nx ps = match os.mapM ob, ps.mapM (dJ (inn os) fuel) with
  | some cs, some qs => match cs.mapM (aaL (inn os) fuel) with
   | some cs1 => ioR os ob nx (Φ qs cs1)
   | none => none
  | _, _ => none := by
 subst h
 unfold qH
 dsimp only
 generalize dedup (ps.flatMap refsOf) = os
 cases os.mapM ob with
 | none => rfl
 | some cs =>
  cases ps.mapM (dJ (inn os) fuel) with
  | none => rfl
  | some qs =>
   dsimp only
   cases cs.mapM (aaL (inn os) fuel) with
   | none => rfl
   | some cs1 =>
    dsimp only
    unfold ioR
    cases Φ qs cs1 with
    | none => rfl
    | some r => rfl
def oM (Φ : fG) (ob : aF) (nx o : Nat) (qs : List PV) : Option aV → Option (PV × aF × Nat)
 | some c => (c.2.2.mapM (dJ (inn [o]) fuel)).bind fun es => ioR [o] ob nx (Φ qs [(c.1, c.2.1, es)])
 | none => none
theorem jG {α β : Type} {F : α → Option β} {x : α} : [x].mapM F = (F x).map fun y => [y] := by
 rw [mapM_cons', mapM_nil']
 cases F x <;> rfl
theorem jI {ps qs : List PV} {o : Nat} (h1 : dedup (ps.flatMap refsOf) = [o]) (h2 : ps.mapM (dJ (inn [o]) fuel) = some qs) : qH Φ ob nx ps = oM Φ ob nx o qs (ob o) := by
 rw [qM ps [o] h1, h2, jG]
 unfold oM
 cases hb : ob o with
 | none => rfl
 | some c =>
  simp only [Option.map_some, jG, aaL]
  cases c.2.2.mapM (dJ (inn [o]) fuel) <;> rfl
theorem jD (o : Nat) : inn [o] o = some 0 := by simp [inn]
theorem awi {o a : Nat} (h : ¬ o = a) : inn [a] o = none := by simp [inn, h]
theorem fC (nm : Nat → Option Nat) (p : PV) : dJ nm fuel p = dJ nm 8 p := rfl
theorem iU (nm : Nat → Option Nat) (f : Nat) (v : Value) : dJ nm (f + 1) (.val v) = some (.val v) := rfl
theorem mO (nm : Nat → Option Nat) (f : Nat) (cs : List PV) : dJ nm (f + 1) (.agg cs) = (cs.mapM (dJ nm f)).map .agg := by simp only [dJ]
theorem ako (nm : Nat → Option Nat) (f : Nat) (cs : List PV) : dJ nm (f + 1) (.tup cs) = (cs.mapM (dJ nm f)).map .tup := by simp only [dJ]
theorem rV (nm : Nat → Option Nat) (f o sz i c : Nat) : dJ nm (f + 1) (.own o sz i c) = (nm o).map fun o' => .own o' sz i c := rfl
theorem mY (nm : Nat → Option Nat) (f o sz i m : Nat) : dJ nm (f + 1) (.row o sz i m) = (nm o).map fun o' => .row o' sz i m := rfl
theorem xC {nm : Nat → Option Nat} : ∀ {f : Nat} {p : PV}, fO f p = true → dJ nm f p = some p
 | 0, _, h => by simp [fO] at h
 | f + 1, p, h => by
  cases p with
  | val v => rfl
  | dead => rfl
  | agg cs =>
   have h2 : ∀ c ∈ cs, fO f c = true := by simpa [fO] using h
   simp only [dJ]
   rw [eH fun c hc => xC (h2 c hc)]
   rfl
  | _ => simp [fO] at h
theorem jR : ∀ {f g : Nat} {p : PV}, f ≤ g → fO f p = true → fO g p = true
 | 0, _, p, _, h => by simp [fO] at h
 | f + 1, 0, p, hg, h => by omega
 | f + 1, g + 1, p, hg, h => by
  cases p with
  | val v => rfl
  | dead => rfl
  | agg cs =>
   have h2 : ∀ c ∈ cs, fO f c = true := by simpa [fO] using h
   simp only [fO, List.all_eq_true]
   exact fun c hc => jR (by omega) (h2 c hc)
  | _ => simp [fO] at h
theorem ou {α : Type} {nm : Nat → Option Nat} {f sz : Nat} {k : Bool} {g : α → PV} {l : List α} (h : ∀ x, fO 2 (g x) = true) : dJ nm (f + 3) (.lst k sz (l.map g)) = some (.lst k sz (l.map g)) := by
 show ((l.map g).mapM (dJ nm (f + 2))).map (PV.lst k sz) = _
 rw [eH fun e he => by obtain ⟨x, _, rfl⟩ := List.mem_map.1 he; exact xC (jR (by omega) (h x))]
 rfl
theorem pO {α : Type} {nm : Nat → Option Nat} {f : Nat} {g : α → PV} {l : List α} (h : ∀ x, fO 2 (g x) = true) : (l.map g).mapM (dJ nm (f + 2)) = some (l.map g) :=
 eH fun e he => by obtain ⟨x, _, rfl⟩ := List.mem_map.1 he; exact xC (jR (by omega) (h x))
section
variable {α : Type} {nm : Nat → Option Nat} {f sz : Nat} {k : Bool} {l : List α} {g g1 g2 g3 g4 : α → Value}
theorem kr : dJ nm (f + 3) (.lst k sz (l.map fun x => PV.val (g x))) = some (.lst k sz (l.map fun x => PV.val (g x))) := ou fun _ => rfl
theorem apQ : dJ nm (f + 3) (.lst k sz (l.map fun x => PV.agg [.val (g1 x), .val (g2 x)])) = some (.lst k sz (l.map fun x => PV.agg [.val (g1 x), .val (g2 x)])) := ou fun _ => rfl
theorem arL : dJ nm (f + 3) (.lst k sz (l.map fun x => PV.agg [.val (g1 x), .val (g2 x), .val (g3 x)])) = some (.lst k sz (l.map fun x => PV.agg [.val (g1 x), .val (g2 x), .val (g3 x)])) := ou fun _ => rfl
theorem as7 : dJ nm (f + 3) (.lst k sz (l.map fun x => PV.agg [.val (g1 x), .val (g2 x), .val (g3 x), .val (g4 x)])) = some (.lst k sz (l.map fun x => PV.agg [.val (g1 x), .val (g2 x), .val (g3 x), .val (g4 x)])) := ou fun _ => rfl
theorem aaw : (l.map fun x => PV.val (g x)).mapM (dJ nm 8) = some (l.map fun x => PV.val (g x)) := pO fun _ => rfl
theorem aoX : (l.map fun x => PV.agg [.val (g1 x), .val (g2 x)]).mapM (dJ nm 8) = some (l.map fun x => PV.agg [.val (g1 x), .val (g2 x)]) := pO fun _ => rfl
theorem apx : (l.map fun x => PV.agg [.val (g1 x), .val (g2 x), .val (g3 x)]).mapM (dJ nm 8) = some (l.map fun x => PV.agg [.val (g1 x), .val (g2 x), .val (g3 x)]) := pO fun _ => rfl
theorem apW : (l.map fun x => PV.agg [.val (g1 x), .val (g2 x), .val (g3 x), .val (g4 x)]).mapM (dJ nm 8) = some (l.map fun x => PV.agg [.val (g1 x), .val (g2 x), .val (g3 x), .val (g4 x)]) := pO fun _ => rfl
end
theorem aDq {o sz i c : Nat} : qH Φ ob nx [.own o sz i c] = oM Φ ob nx o [.own 0 sz i c] (ob o) := jI (by simp [refsOf, dedup]) (by simp only [mapM_cons', mapM_nil', fC, rV, jD]; rfl)
theorem arh {o sz i c : Nat} {v : Value} : qH Φ ob nx [.own o sz i c, .val v] = oM Φ ob nx o [.own 0 sz i c, .val v] (ob o) := jI (by simp [refsOf, dedup]) (by simp only [mapM_cons', mapM_nil', fC, rV, iU, jD]; rfl)
theorem aCS {o sz i c : Nat} {u v : Value} : qH Φ ob nx [.own o sz i c, .val u, .val v] = oM Φ ob nx o [.own 0 sz i c, .val u, .val v] (ob o) := jI (by simp [refsOf, dedup]) (by simp only [mapM_cons', mapM_nil', fC, rV, iU, jD]; rfl)
theorem aAV {o sz i c : Nat} : qH Φ ob nx [.row o sz i c] = oM Φ ob nx o [.row 0 sz i c] (ob o) := jI (by simp [refsOf, dedup]) (by simp only [mapM_cons', mapM_nil', fC, mY, jD]; rfl)
theorem aCK {o sz i c : Nat} {v : Value} : qH Φ ob nx [.row o sz i c, .val v] = oM Φ ob nx o [.row 0 sz i c, .val v] (ob o) := jI (by simp [refsOf, dedup]) (by simp only [mapM_cons', mapM_nil', fC, mY, iU, jD]; rfl)
theorem uq {ps qs : List PV} (h1 : ps.flatMap refsOf = []) (h2 : ps.mapM (dJ (inn []) fuel) = some qs) : qH Φ ob nx ps = ioR [] ob nx (Φ qs []) := by
 rw [qM ps [] (by rw [h1]; rfl), h2, mapM_nil']
 rfl
theorem azW {k : Bool} {sz : Nat} {α : Type} {g : α → Value} {l : List α} : qH Φ ob nx [.lst k sz (l.map fun x => PV.val (g x))] = ioR [] ob nx (Φ [.lst k sz (l.map fun x => PV.val (g x))] []) := uq rfl (by simp only [mapM_cons', mapM_nil', fC, kr]; rfl)
theorem aBB {u : Value} : qH Φ ob nx [.val u] = ioR [] ob nx (Φ [.val u] []) := uq rfl rfl
theorem azp {u v : Value} : qH Φ ob nx [.val u, .val v] = ioR [] ob nx (Φ [.val u, .val v] []) := uq rfl rfl
theorem qg {o T sz : Nat} {es qs : List PV} : oM Φ ob nx o qs (some (T, sz, es)) = (es.mapM (dJ (inn [o]) fuel)).bind fun es => ioR [o] ob nx (Φ qs [(T, sz, es)]) := rfl
theorem ajF {o T sz : Nat} {es : List PV} {r : PV} : ioR [o] ob nx (some (r, [(T, sz, es)])) = (dJ (jy [o] nx) fuel r).bind fun r' => (es.mapM (dJ (jy [o] nx) fuel)).map fun es' => (r', upd ob o (some (T, sz, es')), nx) := by
 unfold ioR
 simp only [jG, aaL]
 cases dJ (jy [o] nx) fuel r with
 | none => rfl
 | some r' =>
  cases es.mapM (dJ (jy [o] nx) fuel) with
  | none => rfl
  | some es' => rfl
theorem aqo {T sz : Nat} {es : List PV} {r : PV} : ioR [] ob nx (some (r, [(T, sz, es)])) = (dJ (jy [] nx) fuel r).bind fun r' => (es.mapM (dJ (jy [] nx) fuel)).map fun es' => (r', upd ob nx (some (T, sz, es')), nx + 1) := by
 unfold ioR
 simp only [jG, aaL]
 cases dJ (jy [] nx) fuel r with
 | none => rfl
 | some r' =>
  cases es.mapM (dJ (jy [] nx) fuel) with
  | none => rfl
  | some es' => rfl
theorem amF {r : PV} : ioR [] ob nx (some (r, [])) = (dJ (jy [] nx) fuel r).map fun r' => (r', ob, nx) := by
 unfold ioR
 simp only [mapM_nil']
 cases dJ (jy [] nx) fuel r with
 | none => rfl
 | some r' => rfl
theorem auy {o nx : Nat} : jy [o] nx 0 = some o := rfl
theorem avA {nx : Nat} : jy [] nx 0 = some nx := by simp [jy, kD]
end
section
variable {out : List Nat} {ob : aF} {f : Nat}
theorem agb (p : PV) : cZ out ob fuel p = cZ out ob 8 p := rfl
theorem ajj (v : Value) : cZ out ob (f + 1) (.val v) = some (.val v) := rfl
theorem agn (cs : List PV) : cZ out ob (f + 1) (.agg cs) = (cs.mapM (cZ out ob f)).map .agg := by simp only [cZ]
theorem agu (cs : List PV) : cZ out ob (f + 1) (.tup cs) = (cs.mapM (cZ out ob f)).map .tup := by simp only [cZ]
def afZ (out : List Nat) (ob : aF) (f sz i m : Nat) : Option Nat → Option aV → Option PV
 | some o', _ => some (.row o' sz i m)
 | none, some (_, sz', es) => if sz = sz' ∧ i + m ≤ es.length then (((es.drop i).take m).mapM (cZ out ob f)).map (.lst true sz) else none
 | none, none => none
theorem ahz (o sz i m : Nat) : cZ out ob (f + 1) (.row o sz i m) = afZ out ob f sz i m (inn out o) (ob o) := by
 simp only [cZ]
 unfold afZ
 cases inn out o with
 | some o' => rfl
 | none => cases ob o <;> rfl
def aCE (out : List Nat) (ob : aF) (f sz i c : Nat) : Option Nat → Option aV → Option PV
 | some o', _ => some (.own o' sz i c)
 | none, some (_, sz', es) => if sz = sz' then (es[i]?).bind fun e => (cZ out ob f e).map (.ptr true · c) else none
 | none, none => none
theorem ahA (o sz i c : Nat) : cZ out ob (f + 1) (.own o sz i c) = aCE out ob f sz i c (inn out o) (ob o) := by
 simp only [cZ]
 unfold aCE
 cases inn out o with
 | some o' => rfl
 | none => cases ob o <;> rfl
theorem agC {sz i c o' : Nat} {x : Option aV} : aCE out ob f sz i c (some o') x = some (.own o' sz i c) := rfl
theorem agG {sz i m o' : Nat} {x : Option aV} : afZ out ob f sz i m (some o') x = some (.row o' sz i m) := rfl
theorem zu : ∀ {f : Nat} {p : PV}, fO f p = true → cZ out ob f p = some p
 | 0, _, h => by simp [fO] at h
 | f + 1, p, h => by
  cases p with
  | val v => rfl
  | dead => rfl
  | agg cs =>
   have h2 : ∀ c ∈ cs, fO f c = true := by simpa [fO] using h
   simp only [cZ]
   rw [eH fun c hc => zu (h2 c hc)]
   rfl
  | _ => simp [fO] at h
theorem iW {α : Type} {g : α → PV} {l : List α} (h : ∀ x, fO 2 (g x) = true) : (l.map g).mapM (cZ out ob (f + 2)) = some (l.map g) :=
 eH fun e he => by obtain ⟨x, _, rfl⟩ := List.mem_map.1 he; exact zu (jR (by omega) (h x))
theorem mM {α : Type} {k : Bool} {sz : Nat} {g : α → PV} {l : List α} (h : ∀ x, fO 2 (g x) = true) : cZ out ob (f + 3) (.lst k sz (l.map g)) = some (.lst k sz (l.map g)) := by
 show ((l.map g).mapM (cZ out ob (f + 2))).map (PV.lst k sz) = _
 rw [iW h]
 rfl
theorem pQ {α : Type} {sz m T : Nat} {g : α → PV} {l : List α} (h : ∀ x, fO 2 (g x) = true) (hm : m = l.length) : afZ out ob (f + 2) sz 0 m none (some (T, sz, l.map g)) = some (.lst true sz (l.map g)) := by
 subst hm
 have e : ((l.map g).drop 0).take l.length = l.map g := by
  rw [List.drop_zero, List.take_of_length_le (by simp)]
 simp only [afZ, e, iW h, Nat.zero_add, List.length_map, Nat.le_refl, and_self, if_true, Option.map_some]
theorem mR {sz m T : Nat} {es : List PV} (hm : m = es.length) : afZ out ob f sz 0 m none (some (T, sz, es)) = (es.mapM (cZ out ob f)).map (.lst true sz) := by
 subst hm
 simp [afZ]
section
variable {α : Type} {sz m T : Nat} {k : Bool} {l : List α} {g g1 g2 g3 g4 : α → Value}
theorem wJ : cZ out ob (f + 3) (.lst k sz (l.map fun x => PV.val (g x))) = some (.lst k sz (l.map fun x => PV.val (g x))) := mM fun _ => rfl
theorem amK : cZ out ob (f + 3) (.lst k sz (l.map fun x => PV.agg [.val (g1 x), .val (g2 x)])) = some (.lst k sz (l.map fun x => PV.agg [.val (g1 x), .val (g2 x)])) := mM fun _ => rfl
theorem amD : cZ out ob (f + 3) (.lst k sz (l.map fun x => PV.agg [.val (g1 x), .val (g2 x), .val (g3 x)])) = some (.lst k sz (l.map fun x => PV.agg [.val (g1 x), .val (g2 x), .val (g3 x)])) := mM fun _ => rfl
theorem al9 : cZ out ob (f + 3) (.lst k sz (l.map fun x => PV.agg [.val (g1 x), .val (g2 x), .val (g3 x), .val (g4 x)])) = some (.lst k sz (l.map fun x => PV.agg [.val (g1 x), .val (g2 x), .val (g3 x), .val (g4 x)])) := mM fun _ => rfl
theorem ae8 : (l.map fun x => PV.val (g x)).mapM (cZ out ob 8) = some (l.map fun x => PV.val (g x)) := iW fun _ => rfl
theorem amV : (l.map fun x => PV.agg [.val (g1 x), .val (g2 x)]).mapM (cZ out ob 8) = some (l.map fun x => PV.agg [.val (g1 x), .val (g2 x)]) := iW fun _ => rfl
theorem alk : (l.map fun x => PV.agg [.val (g1 x), .val (g2 x), .val (g3 x)]).mapM (cZ out ob 8) = some (l.map fun x => PV.agg [.val (g1 x), .val (g2 x), .val (g3 x)]) := iW fun _ => rfl
theorem am0 : (l.map fun x => PV.agg [.val (g1 x), .val (g2 x), .val (g3 x), .val (g4 x)]).mapM (cZ out ob 8) = some (l.map fun x => PV.agg [.val (g1 x), .val (g2 x), .val (g3 x), .val (g4 x)]) := iW fun _ => rfl
theorem ah6 (hm : m = l.length) : afZ out ob (f + 2) sz 0 m none (some (T, sz, l.map fun x => PV.val (g x))) = some (.lst true sz (l.map fun x => PV.val (g x))) := pQ (fun _ => rfl) hm
theorem aqL (hm : m = l.length) : afZ out ob (f + 2) sz 0 m none (some (T, sz, l.map fun x => PV.agg [.val (g1 x), .val (g2 x)])) = some (.lst true sz (l.map fun x => PV.agg [.val (g1 x), .val (g2 x)])) := pQ (fun _ => rfl) hm
theorem arb (hm : m = l.length) : afZ out ob (f + 2) sz 0 m none (some (T, sz, l.map fun x => PV.agg [.val (g1 x), .val (g2 x), .val (g3 x)])) = some (.lst true sz (l.map fun x => PV.agg [.val (g1 x), .val (g2 x), .val (g3 x)])) := pQ (fun _ => rfl) hm
theorem ark (hm : m = l.length) : afZ out ob (f + 2) sz 0 m none (some (T, sz, l.map fun x => PV.agg [.val (g1 x), .val (g2 x), .val (g3 x), .val (g4 x)])) = some (.lst true sz (l.map fun x => PV.agg [.val (g1 x), .val (g2 x), .val (g3 x), .val (g4 x)])) := pQ (fun _ => rfl) hm
end
def ao7 (out : List Nat) (ob : aF) : Option aV → Option aV
 | some (T, sz, es) => (es.mapM (cZ out ob fuel)).map fun es => (T, sz, es)
 | none => none
theorem alR (o : Nat) : kW out ob fuel o = ao7 out ob (ob o) := by
 unfold kW ao7
 cases ob o with
 | none => rfl
 | some c => rfl
theorem afe {T sz : Nat} {es : List PV} : ao7 out ob (some (T, sz, es)) = (es.mapM (cZ out ob fuel)).map fun es => (T, sz, es) := rfl
end
section
variable {P : Program} {Γ : Ctx} {tm : Nat → PV} {ob : aF} {nx : Nat} {rs : List ResultVar} {r : PV} {c' d' : aV} {x : X}
theorem ay1 (hx : x = .normal ∨ x = .ret) (h1 : ((gF P ⟨tm, ob, nx⟩ rs).bind fun qs => cZ [0] ob fuel (gY qs)) = some r) (h2 : kW [0] ob fuel 0 = some c') : gV P rs 1 r [c'] x ⟨tm, ob, nx⟩ :=
 ⟨hx, [], by simp, by simp, h1, by
  show [0].mapM (kW [0] ob fuel) = some [c']
  rw [jG, h2]; rfl⟩
theorem qj (o : Nat) (hx : x = .normal ∨ x = .ret) (h1 : ((gF P ⟨tm, ob, nx⟩ rs).bind fun qs => cZ [o] ob fuel (gY qs)) = some r) (h2 : kW [o] ob fuel o = some c') : gV P rs 0 r [c'] x ⟨tm, ob, nx⟩ :=
 ⟨hx, [o], by simp, by simp, h1, by
  show [o].mapM (kW [o] ob fuel) = some [c']
  rw [jG, h2]; rfl⟩
theorem qA (hx : x = .normal ∨ x = .ret) (h1 : ((gF P ⟨tm, ob, nx⟩ rs).bind fun qs => cZ [] ob fuel (gY qs)) = some r) : gV P rs 0 r [] x ⟨tm, ob, nx⟩ :=
 ⟨hx, [], by simp, by simp, h1, rfl⟩
theorem zi (c : aV) : (fun o => [c][o]?) = lo [(0, c)] := by
 funext o
 cases o with
 | zero => rfl
 | succ o => simp [lo, List.lookup]
theorem auM : (fun o => ([] : List aV)[o]?) = lH := by funext o; simp [lH]
theorem z8 (hm : P.follows .mixedOrders = true) {f : Nat} {fn : Func} {c : Code} {Φ : fG} (hΓ : aA P Γ) (hf : P.funcs[f]? = some fn) (hb : fn.body = some c) (N : Nat) (hN : fn.ntmps = N) (rs : List ResultVar) (hrs : fn.results.toList = rs) (hc : codeOk Γ true N c = true)
  (h : ∀ ps cs r cs', Φ ps cs = some (r, cs') → cs = [] ∧ ps.length ≤ N ∧ pq P Γ N c (gV P rs 0 r cs') (eO ps).tm lH 0) : dM P f Φ := by
 refine afR hm hΓ hf hb N hN rs hrs hc fun ps cs r cs' hr => ?_
 obtain ⟨rfl, h1, h2⟩ := h ps cs r cs' hr
 refine ⟨h1, ?_⟩
 rw [auM]
 exact h2
end
def aw7 (b : Bool) (c : Option aV) : Option aV := if b = true then c else none
theorem akn (V : List Nat) (ob : aF) (o : Nat) : vO V ob o = aw7 (V.contains o) (ob o) := rfl
theorem afl (c : Option aV) : aw7 true c = c := rfl
attribute [push_cast]
 abI uK aDq arh aCS aAV aCK azW aBB azp qg ajF aqo amF auy avA jD awi fC iU mO ako rV mY kr apQ arL as7 aaw aoX apx apW agb ajj agn agu ahz ahA agC agG wJ amK amD al9 ae8 amV alk am0 ah6 aqL arb ark alR afe akn afl List.contains_cons List.contains_nil
theorem ayI (o : Nat) : lo [] o = none := rfl
theorem asD (k : Nat) (v : aV) (l : List (Nat × aV)) (o : Nat) : lo ((k, v) :: l) o = if o = k then some v else lo l o := by
 simp only [lo, List.lookup_cons]
 by_cases h : o = k
 ·simp [h]
 ·have : (o == k) = false := by simpa using h
  simp [this, h]
attribute [push_cast high]
 ayI asD
def plF (l : List (Nat × Nat)) : Nat → Option (Nat × Nat) := fun i => l[i]?
theorem anV {P : Program} {t : Nat} {z : List PV} {zv : Value} {pl : Array (Nat × Nat)} (hz : zeroOf P t = some zv) (hzv : zv.cells.toList.map PV.val = z) (hs : aZ P t = none) (hp : vD P t = some pl) (ps : List (Nat × PV)) : bN P t ps = (gT (plF pl.toList) z ps).map .agg := by
 unfold bN
 rw [hz, hs]
 dsimp only
 rw [hp, hzv]
 dsimp only
 congr 2
 funext i
 unfold plF
 simp
theorem anM {P : Program} {t n e s o sz j f : Nat} {i : Int} (hu : P.underlying t = some (.array n e)) (hs : aR P e = some s) (h0 : 0 ≤ i) (h1 : i < (n : Int)) : aP P t (.own o sz j f) i = some (.own o sz j (f + i.toNat * s)) := by
 unfold aP
 rw [hu]
 dsimp only
 rw [hs]
 dsimp only
 rw [if_pos ⟨h0, h1⟩]
theorem ahv {P : Program} {t n e s f : Nat} {k : Bool} {x : PV} {i : Int} (hu : P.underlying t = some (.array n e)) (hs : aR P e = some s) (h0 : 0 ≤ i) (h1 : i < (n : Int)) : aP P t (.ptr k x f) i = some (.ptr k x (f + i.toNat * s)) := by
 unfold aP
 rw [hu]
 dsimp only
 rw [hs]
 dsimp only
 rw [if_pos ⟨h0, h1⟩]
theorem lI {P : Program} {t : Nat} {z : List PV} {zv : Value} {pl : Array (Nat × Nat)} (hz : zeroOf P t = some zv) (hzv : zv.cells.toList.map PV.val = z) (hp : aZ P t = some pl) (ps : List (Nat × PV)) : bN P t ps = (gT (plF pl.toList) z ps).map .agg := by
 unfold bN
 rw [hz, hp]
 dsimp only
 rw [hzv]
 congr 2
 funext i
 simp [plF]
def fpG (l : List (Nat × Nat)) (cells : List PV) (rest : List (Nat × PV)) : Option (Nat × Nat) → Option (List PV) → Option (List PV)
 | some (off, size), some cs => if cs.length = size ∧ off + cs.length ≤ cells.length then gT (plF l) (gD cells off cs) rest else none
 | _, _ => none
theorem avX (l : List (Nat × Nat)) (cells : List PV) : gT (plF l) cells [] = some cells := rfl
theorem ar6 (l : List (Nat × Nat)) (cells : List PV) (i : Nat) (v : PV) (rest : List (Nat × PV)) : gT (plF l) cells ((i, v) :: rest) = fpG l cells rest l[i]? (dh v) := rfl
theorem avY {l : List (Nat × Nat)} {cells cs : List PV} {rest : List (Nat × PV)} {off size : Nat} (h1 : cs.length = size) (h2 : off + cs.length ≤ cells.length) : fpG l cells rest (some (off, size)) (some cs) = gT (plF l) (gD cells off cs) rest := by
 simp [fpG, h1]
 omega
theorem abg {ρ : Operand → PV} : partsOf ρ (List.toArray []) = [] := rfl
theorem aaJ {ρ : Operand → PV} {i : Nat} {x : Operand} {l : List (Nat × Operand)} : partsOf ρ (List.toArray ((i, x) :: l)) = (i, ρ x) :: partsOf ρ l.toArray := rfl
def okC (sz : Nat) : Option (List PV) → Bool
 | some cs => cs.length == sz
 | none => false
def vk (e sz : Nat) (es : List PV) : Bool → Option (Nat × Nat × List PV)
 | true => some (e, sz, es)
 | false => none
theorem aiL (e sz : Nat) (es : List PV) : vk e sz es true = some (e, sz, es) := rfl
theorem jS {P : Program} {t n e sz : Nat} {z : Value} (he : eY P t = some e) (hs : aR P e = some sz) (hz : zeroOf P e = some z) (ps : List (Nat × PV)) (h1 : n * sz ≤ 16777216) (h2 : n ≤ 9223372036854775807) (hm : ps.map (·.1) = List.range n) :
  gP P t n ps = vk e sz (ps.map (·.2)) ((ps.map (·.2)).all (okP sz)) := by
 unfold gP
 rw [he]
 dsimp only
 rw [hs, hz]
 dsimp only
 cases ((ps.map (·.2)).all (okP sz)) <;> simp [vk, h1, h2, hm]
theorem awV (sz : Nat) (p : PV) : okP sz p = okC sz (dh p) := by unfold okP okC; cases dh p <;> rfl
theorem alY (sz : Nat) (cs : List PV) : okC sz (some cs) = (cs.length == sz) := rfl
theorem aif (e sz : Nat) (es : List PV) : aAH (some (e, sz, es)) = some (.lst true sz es) := rfl
theorem take_map' {α β : Type} {f : α → β} {l : List α} {n : Nat} : (l.map f).take n = (l.take n).map f := List.map_take.symm
theorem drop_map' {α β : Type} {f : α → β} {l : List α} {n : Nat} : (l.map f).drop n = (l.drop n).map f := List.map_drop.symm
attribute [push_cast]
 take_map' drop_map' Int.add_sub_cancel List.length_append List.length_take List.length_drop List.length_reverse Nat.sub_zero avX ar6 avY abg aaJ aiL awV alY aif
end Go.Proofs.YtngcedklbinhjaaGreatDoor
namespace Go.Proofs.YtngcedklbinhjaaGreatDoor
open Go.RowKit
set_option linter.all false
section
variable {P : Program} {Γ : Ctx}
theorem zG (hm : P.follows .mixedOrders = true) {f : Nat} {fn : Func} {c : Code} (hΓ : aA P Γ) (hf : P.funcs[f]? = some fn) (hb : fn.body = some c) (N : Nat) (hN : fn.ntmps = N) (rs : List ResultVar) (hrs : fn.results.toList = rs) (hc : codeOk Γ true N c = true)
  (D : List PV → Prop) (R : List PV → PV → Prop) (hlen : ∀ ps, D ps → ps.length ≤ N)
  (h : ∀ ps, D ps → pq P Γ N c (fun x s' => ∃ r, R ps r ∧ Post P rs r x s') (eO ps).tm (fun _ => none) 0) : ∃ φ : Fun, Sound P f φ ∧ ∀ ps, D ps → ∃ r, φ ps = some r ∧ R ps r := by
 classical
 subst hN hrs
 let Z : List PV → PV → Prop := fun ps r => D ps ∧ R ps r ∧ ∃ x s', Ev P Γ fn.ntmps c (eO ps) x s' ∧ Post P fn.results.toList r x s'
 let φ : Fun := fun ps => if h : ∃ r, Z ps r then some (Classical.choose h) else none
 have hφ : ∀ ps r, φ ps = some r → Z ps r := fun ps r hr => by
  simp only [φ] at hr
  split at hr
  ·rename_i hz
   cases hr
   exact Classical.choose_spec hz
  ·cases hr
 refine ⟨φ, uo hΓ hf hb (fun ps r hr => hlen ps (hφ ps r hr).1) fun ps r hr => ?_, fun ps hd => ?_⟩
 ·obtain ⟨_, _, x, s', h1, h2, h3⟩ := hφ ps r hr
  rw [Option.bind_eq_some_iff] at h3
  obtain ⟨qs, h4, h5⟩ := h3
  exact ⟨x, s', qs, h1, h2, h4, h5⟩
 ·obtain ⟨x, s', h1, r, h2, h3⟩ := y9 (mixed := true) (fun _ => hm) c _ _ hc (h ps hd)
  have hz : ∃ r, Z ps r := ⟨r, hd, h2, x, s', h1, h3⟩
  have he : φ ps = some (Classical.choose hz) := by simp only [φ]; rw [dif_pos hz]
  exact ⟨_, he, (hφ ps _ he).2.1⟩
theorem abA (hm : P.follows .mixedOrders = true) {f : Nat} {fn : Func} {c : Code} (hΓ : aA P Γ) (hf : P.funcs[f]? = some fn) (hb : fn.body = some c) (N : Nat) (hN : fn.ntmps = N) (rs : List ResultVar) (hrs : fn.results.toList = rs) (hc : codeOk Γ true N c = true)
  (D : List PV → aV → Prop) (R : List PV → aV → PV → aV → Prop) (hlen : ∀ ps o, D ps o → ps.length ≤ N)
  (h : ∀ ps o, D ps o → pq P Γ N c (fun x s' => ∃ r o', R ps o r o' ∧ gV P rs 1 r [o'] x s') (eO ps).tm (lo [(0, o)]) 1) : ∃ Φ : fG, dM P f Φ ∧ ∀ ps o, D ps o → ∃ r o', Φ ps [o] = some (r, [o']) ∧ R ps o r o' := by
 classical
 subst hN hrs
 let Z : List PV → List aV → PV × List aV → Prop := fun ps cs r => ∃ o o', cs = [o] ∧ r.2 = [o'] ∧ D ps o ∧ R ps o r.1 o' ∧ ∃ x s', Ev P Γ fn.ntmps c (pV ps cs) x s' ∧ gV P fn.results.toList 1 r.1 [o'] x s'
 let Φ : fG := fun ps cs => if h : ∃ r, Z ps cs r then some (Classical.choose h) else none
 have hΦ : ∀ ps cs r, Φ ps cs = some r → Z ps cs r := fun ps cs r hr => by
  simp only [Φ] at hr
  split at hr
  ·rename_i hz
   cases hr
   exact Classical.choose_spec hz
  ·cases hr
 refine ⟨Φ, kN hΓ hf hb (fun ps cs r hr => ?_) fun ps cs r cs' hr => ?_, fun ps o hd => ?_⟩
 ·obtain ⟨o, o', _, _, h1, _⟩ := hΦ ps cs r hr
  exact hlen ps o h1
 ·obtain ⟨o, o', rfl, h0, _, _, x, s', h1, h2, news, h3, h4, h5, h6⟩ := hΦ ps cs (r, cs') hr
  dsimp only at h0
  subst h0
  rw [Option.bind_eq_some_iff] at h5
  obtain ⟨qs, h8, h9⟩ := h5
  refine ⟨x, s', qs, List.range 1 ++ news, h1, h2, h8, h9, by simp, fun i hi => ?_, ?_, h6⟩
  ·have : i = 0 := by simpa using hi
   subst this
   rfl
  ·rw [List.nodup_append]
   exact ⟨List.nodup_range, h4, fun a ha b hb e => by
    have := h3 b hb
    have := List.mem_range.1 ha
    omega⟩
 ·have h' : pw P Γ fn.ntmps c (fun x s' => ∃ r o', R ps o r o' ∧ gV P fn.results.toList 1 r [o'] x s') (pV ps [o]) := by
   have := h ps o hd
   rw [← zi] at this
   exact this
  obtain ⟨x, s', h1, r, o', h2, h3⟩ := y9 (mixed := true) (fun _ => hm) c _ _ hc h'
  have hz : ∃ r, Z ps [o] r := ⟨(r, [o']), o, o', rfl, rfl, hd, h2, x, s', h1, h3⟩
  have he : Φ ps [o] = some (Classical.choose hz) := by simp only [Φ]; rw [dif_pos hz]
  obtain ⟨o1, o2, e1, e2, _, e3, _⟩ := hΦ ps [o] _ he
  cases e1
  exact ⟨(Classical.choose hz).1, o2, by rw [he, ← e2], e3⟩
end
abbrev rdC (T : Nat) (code : List Int) (p : Int) : aV := (T, 2, [.agg [.lst false 1 (code.map fun n => PV.val (.int .u8 n)), .val (.int .i64 p)]])
structure p8 (code : List Int) (p : Int) : Prop where
 len : code.length ≤ 2000
 byte : ∀ i : Nat, 0 ≤ code[i]?.getD 0 ∧ code[i]?.getD 0 ≤ 255
 pos : 0 ≤ p
 small : p ≤ 1000000000000
def adL (T : Nat) (Φ : fG) (B c : Int) {α : Type} (E : α → PV) (D : Int → Prop) (R : Int → α → Prop) : Prop :=
 ∀ code p n, p8 code p → p ≤ B → D n → ∃ a p', Φ [.own 0 2 0 0, .val (.int .i64 n)] [rdC T code p] = some (E a, [rdC T code p']) ∧ R n a ∧ p8 code p' ∧ p ≤ p' ∧ p' ≤ p + c
section
variable {P : Program} {Γ : Ctx} {imm : Md} {N : Nat} {gs : List (Option Nat)} {l : List Oper} {Q : AS → Prop} {tm : Nat → PV} {ob : aF} {nx T : Nat} {Φ : fG} {B c : Int} {α : Type} {E : α → PV}
theorem aC5 {o : Nat} {code : List Int} {p p' : Int} {a : α} {qs : List PV} (hE : ∀ nm a, dJ nm fuel (E a) = some (E a)) (ho : ob o = some (rdC T code p)) (h : Φ qs [rdC T code p] = some (E a, [rdC T code p'])) : oM Φ ob nx o qs (ob o) = some (E a, upd ob o (some (rdC T code p')), nx) := by
 have h1 : ∀ (nm : Nat → Option Nat) (q : Int), [PV.agg [.lst false 1 (code.map fun n => PV.val (.int .u8 n)), .val (.int .i64 q)]].mapM (dJ nm fuel) = some [PV.agg [.lst false 1 (code.map fun n => PV.val (.int .u8 n)), .val (.int .i64 q)]] := fun nm q => by
  simp only [jG, fC, mO, mapM_cons', mapM_nil', kr, iU, Option.bind_some, Option.map_some]
 rw [ho, qg, h1, Option.bind_some, h, ajF, hE, Option.bind_some, h1]
 rfl
theorem dG {D : Int → Prop} {R : Int → α → Prop} (hd : adL T Φ B c E D R) (hE : ∀ nm a, dJ nm fuel (E a) = some (E a)) {d f ty o : Nat} {x y : Operand} {ts : Array TypeId} {pos : String} {af : Array Edge} {code : List Int} {p n : Int} (hio : Γ.io f = some Φ) (hx : look tm x = .own o 2 0 0) (hy : look tm y = .val (.int .i64 n)) (ho : ob o = some (rdC T code p)) (hok : p8 code p) (hB : p ≤ B) (hD : D n)
  (he : lq Γ imm nx (look tm) (.call { callee := .value (.func f), args := #[x, y], argTypes := ts }) = true)
  (hk : ∀ a p', R n a → p8 code p' → p ≤ p' → p' ≤ p + c → wq P Γ imm gs l Q (upd tm d (E a)) (upd ob o (some (rdC T code p'))) nx) :
  wq P Γ imm gs ({ dst := some d, op := .call { callee := .value (.func f), args := #[x, y], argTypes := ts }, type := ty, pos := pos, after := af, guard := none } :: l) Q tm ob nx := by
 obtain ⟨a, p', h1, h2, h3, h4, h5⟩ := hd code p n hok hB hD
 refine i_E (by simp [fT, mG, hio]) he ?_ (hk a p' h2 h3 h4 h5)
 rw [abI, hio, uK]
 show qH Φ ob nx [look tm x, look tm y] = _
 rw [hx, hy, arh]
 exact aC5 hE ho h1
end
section
variable {v : Int}
theorem gl1 {a0 : Int} (h : v < 1) : ([.val (.int .i64 a0)] : List PV)[v.toNat]? = some (.val (.int .i64 (sel 0 [a0] v.toNat))) := by
 have hx : v.toNat < 1 := by omega
 have h2 := jU (f := fun n => PV.val (.int .i64 n)) (l := [a0]) (k := v.toNat) hx
 rw [← List.getElem?_map] at h2
 exact h2
theorem gs1 {a0 : ByteArray} (h : v < 1) : ([.val (.string a0)] : List PV)[v.toNat]? = some (.val (.string (sel .empty [a0] v.toNat))) := by
 have hx : v.toNat < 1 := by omega
 have h2 := ni (f := fun n => PV.val (.string n)) (l := [a0]) (k := v.toNat) hx
 rw [← List.getElem?_map] at h2
 exact h2
theorem gl2 {a0 a1 : Int} (h : v < 2) : ([.val (.int .i64 a0), .val (.int .i64 a1)] : List PV)[v.toNat]? = some (.val (.int .i64 (sel 0 [a0, a1] v.toNat))) := by
 have hx : v.toNat < 2 := by omega
 have h2 := jU (f := fun n => PV.val (.int .i64 n)) (l := [a0, a1]) (k := v.toNat) hx
 rw [← List.getElem?_map] at h2
 exact h2
theorem gs2 {a0 a1 : ByteArray} (h : v < 2) : ([.val (.string a0), .val (.string a1)] : List PV)[v.toNat]? = some (.val (.string (sel .empty [a0, a1] v.toNat))) := by
 have hx : v.toNat < 2 := by omega
 have h2 := ni (f := fun n => PV.val (.string n)) (l := [a0, a1]) (k := v.toNat) hx
 rw [← List.getElem?_map] at h2
 exact h2
theorem gl3 {a0 a1 a2 : Int} (h : v < 3) : ([.val (.int .i64 a0), .val (.int .i64 a1), .val (.int .i64 a2)] : List PV)[v.toNat]? = some (.val (.int .i64 (sel 0 [a0, a1, a2] v.toNat))) := by
 have hx : v.toNat < 3 := by omega
 have h2 := jU (f := fun n => PV.val (.int .i64 n)) (l := [a0, a1, a2]) (k := v.toNat) hx
 rw [← List.getElem?_map] at h2
 exact h2
theorem gs3 {a0 a1 a2 : ByteArray} (h : v < 3) : ([.val (.string a0), .val (.string a1), .val (.string a2)] : List PV)[v.toNat]? = some (.val (.string (sel .empty [a0, a1, a2] v.toNat))) := by
 have hx : v.toNat < 3 := by omega
 have h2 := ni (f := fun n => PV.val (.string n)) (l := [a0, a1, a2]) (k := v.toNat) hx
 rw [← List.getElem?_map] at h2
 exact h2
theorem gl4 {a0 a1 a2 a3 : Int} (h : v < 4) : ([.val (.int .i64 a0), .val (.int .i64 a1), .val (.int .i64 a2), .val (.int .i64 a3)] : List PV)[v.toNat]? = some (.val (.int .i64 (sel 0 [a0, a1, a2, a3] v.toNat))) := by
 have hx : v.toNat < 4 := by omega
 have h2 := jU (f := fun n => PV.val (.int .i64 n)) (l := [a0, a1, a2, a3]) (k := v.toNat) hx
 rw [← List.getElem?_map] at h2
 exact h2
theorem gs4 {a0 a1 a2 a3 : ByteArray} (h : v < 4) : ([.val (.string a0), .val (.string a1), .val (.string a2), .val (.string a3)] : List PV)[v.toNat]? = some (.val (.string (sel .empty [a0, a1, a2, a3] v.toNat))) := by
 have hx : v.toNat < 4 := by omega
 have h2 := ni (f := fun n => PV.val (.string n)) (l := [a0, a1, a2, a3]) (k := v.toNat) hx
 rw [← List.getElem?_map] at h2
 exact h2
theorem gl5 {a0 a1 a2 a3 a4 : Int} (h : v < 5) : ([.val (.int .i64 a0), .val (.int .i64 a1), .val (.int .i64 a2), .val (.int .i64 a3), .val (.int .i64 a4)] : List PV)[v.toNat]? = some (.val (.int .i64 (sel 0 [a0, a1, a2, a3, a4] v.toNat))) := by
 have hx : v.toNat < 5 := by omega
 have h2 := jU (f := fun n => PV.val (.int .i64 n)) (l := [a0, a1, a2, a3, a4]) (k := v.toNat) hx
 rw [← List.getElem?_map] at h2
 exact h2
theorem gs5 {a0 a1 a2 a3 a4 : ByteArray} (h : v < 5) : ([.val (.string a0), .val (.string a1), .val (.string a2), .val (.string a3), .val (.string a4)] : List PV)[v.toNat]? = some (.val (.string (sel .empty [a0, a1, a2, a3, a4] v.toNat))) := by
 have hx : v.toNat < 5 := by omega
 have h2 := ni (f := fun n => PV.val (.string n)) (l := [a0, a1, a2, a3, a4]) (k := v.toNat) hx
 rw [← List.getElem?_map] at h2
 exact h2
theorem gl6 {a0 a1 a2 a3 a4 a5 : Int} (h : v < 6) : ([.val (.int .i64 a0), .val (.int .i64 a1), .val (.int .i64 a2), .val (.int .i64 a3), .val (.int .i64 a4), .val (.int .i64 a5)] : List PV)[v.toNat]? = some (.val (.int .i64 (sel 0 [a0, a1, a2, a3, a4, a5] v.toNat))) := by
 have hx : v.toNat < 6 := by omega
 have h2 := jU (f := fun n => PV.val (.int .i64 n)) (l := [a0, a1, a2, a3, a4, a5]) (k := v.toNat) hx
 rw [← List.getElem?_map] at h2
 exact h2
theorem gs6 {a0 a1 a2 a3 a4 a5 : ByteArray} (h : v < 6) : ([.val (.string a0), .val (.string a1), .val (.string a2), .val (.string a3), .val (.string a4), .val (.string a5)] : List PV)[v.toNat]? = some (.val (.string (sel .empty [a0, a1, a2, a3, a4, a5] v.toNat))) := by
 have hx : v.toNat < 6 := by omega
 have h2 := ni (f := fun n => PV.val (.string n)) (l := [a0, a1, a2, a3, a4, a5]) (k := v.toNat) hx
 rw [← List.getElem?_map] at h2
 exact h2
theorem gl7 {a0 a1 a2 a3 a4 a5 a6 : Int} (h : v < 7) : ([.val (.int .i64 a0), .val (.int .i64 a1), .val (.int .i64 a2), .val (.int .i64 a3), .val (.int .i64 a4), .val (.int .i64 a5), .val (.int .i64 a6)] : List PV)[v.toNat]? = some (.val (.int .i64 (sel 0 [a0, a1, a2, a3, a4, a5, a6] v.toNat))) := by
 have hx : v.toNat < 7 := by omega
 have h2 := jU (f := fun n => PV.val (.int .i64 n)) (l := [a0, a1, a2, a3, a4, a5, a6]) (k := v.toNat) hx
 rw [← List.getElem?_map] at h2
 exact h2
theorem gs7 {a0 a1 a2 a3 a4 a5 a6 : ByteArray} (h : v < 7) : ([.val (.string a0), .val (.string a1), .val (.string a2), .val (.string a3), .val (.string a4), .val (.string a5), .val (.string a6)] : List PV)[v.toNat]? = some (.val (.string (sel .empty [a0, a1, a2, a3, a4, a5, a6] v.toNat))) := by
 have hx : v.toNat < 7 := by omega
 have h2 := ni (f := fun n => PV.val (.string n)) (l := [a0, a1, a2, a3, a4, a5, a6]) (k := v.toNat) hx
 rw [← List.getElem?_map] at h2
 exact h2
theorem gl8 {a0 a1 a2 a3 a4 a5 a6 a7 : Int} (h : v < 8) : ([.val (.int .i64 a0), .val (.int .i64 a1), .val (.int .i64 a2), .val (.int .i64 a3), .val (.int .i64 a4), .val (.int .i64 a5), .val (.int .i64 a6), .val (.int .i64 a7)] : List PV)[v.toNat]? = some (.val (.int .i64 (sel 0 [a0, a1, a2, a3, a4, a5, a6, a7] v.toNat))) := by
 have hx : v.toNat < 8 := by omega
 have h2 := jU (f := fun n => PV.val (.int .i64 n)) (l := [a0, a1, a2, a3, a4, a5, a6, a7]) (k := v.toNat) hx
 rw [← List.getElem?_map] at h2
 exact h2
theorem gs8 {a0 a1 a2 a3 a4 a5 a6 a7 : ByteArray} (h : v < 8) : ([.val (.string a0), .val (.string a1), .val (.string a2), .val (.string a3), .val (.string a4), .val (.string a5), .val (.string a6), .val (.string a7)] : List PV)[v.toNat]? = some (.val (.string (sel .empty [a0, a1, a2, a3, a4, a5, a6, a7] v.toNat))) := by
 have hx : v.toNat < 8 := by omega
 have h2 := ni (f := fun n => PV.val (.string n)) (l := [a0, a1, a2, a3, a4, a5, a6, a7]) (k := v.toNat) hx
 rw [← List.getElem?_map] at h2
 exact h2
theorem gl9 {a0 a1 a2 a3 a4 a5 a6 a7 a8 : Int} (h : v < 9) : ([.val (.int .i64 a0), .val (.int .i64 a1), .val (.int .i64 a2), .val (.int .i64 a3), .val (.int .i64 a4), .val (.int .i64 a5), .val (.int .i64 a6), .val (.int .i64 a7), .val (.int .i64 a8)] : List PV)[v.toNat]? = some (.val (.int .i64 (sel 0 [a0, a1, a2, a3, a4, a5, a6, a7, a8] v.toNat))) := by
 have hx : v.toNat < 9 := by omega
 have h2 := jU (f := fun n => PV.val (.int .i64 n)) (l := [a0, a1, a2, a3, a4, a5, a6, a7, a8]) (k := v.toNat) hx
 rw [← List.getElem?_map] at h2
 exact h2
theorem gs9 {a0 a1 a2 a3 a4 a5 a6 a7 a8 : ByteArray} (h : v < 9) : ([.val (.string a0), .val (.string a1), .val (.string a2), .val (.string a3), .val (.string a4), .val (.string a5), .val (.string a6), .val (.string a7), .val (.string a8)] : List PV)[v.toNat]? = some (.val (.string (sel .empty [a0, a1, a2, a3, a4, a5, a6, a7, a8] v.toNat))) := by
 have hx : v.toNat < 9 := by omega
 have h2 := ni (f := fun n => PV.val (.string n)) (l := [a0, a1, a2, a3, a4, a5, a6, a7, a8]) (k := v.toNat) hx
 rw [← List.getElem?_map] at h2
 exact h2
theorem aEn {a0 a1 a2 a3 a4 a5 a6 a7 a8 a9 : Int} (h : v < 10) : ([.val (.int .i64 a0), .val (.int .i64 a1), .val (.int .i64 a2), .val (.int .i64 a3), .val (.int .i64 a4), .val (.int .i64 a5), .val (.int .i64 a6), .val (.int .i64 a7), .val (.int .i64 a8), .val (.int .i64 a9)] : List PV)[v.toNat]? = some (.val (.int .i64 (sel 0 [a0, a1, a2, a3, a4, a5, a6, a7, a8, a9] v.toNat))) := by
 have hx : v.toNat < 10 := by omega
 have h2 := jU (f := fun n => PV.val (.int .i64 n)) (l := [a0, a1, a2, a3, a4, a5, a6, a7, a8, a9]) (k := v.toNat) hx
 rw [← List.getElem?_map] at h2
 exact h2
theorem aEa {a0 a1 a2 a3 a4 a5 a6 a7 a8 a9 : ByteArray} (h : v < 10) : ([.val (.string a0), .val (.string a1), .val (.string a2), .val (.string a3), .val (.string a4), .val (.string a5), .val (.string a6), .val (.string a7), .val (.string a8), .val (.string a9)] : List PV)[v.toNat]? = some (.val (.string (sel .empty [a0, a1, a2, a3, a4, a5, a6, a7, a8, a9] v.toNat))) := by
 have hx : v.toNat < 10 := by omega
 have h2 := ni (f := fun n => PV.val (.string n)) (l := [a0, a1, a2, a3, a4, a5, a6, a7, a8, a9]) (k := v.toNat) hx
 rw [← List.getElem?_map] at h2
 exact h2
theorem aD8 {a0 a1 a2 a3 a4 a5 a6 a7 a8 a9 a10 : Int} (h : v < 11) : ([.val (.int .i64 a0), .val (.int .i64 a1), .val (.int .i64 a2), .val (.int .i64 a3), .val (.int .i64 a4), .val (.int .i64 a5), .val (.int .i64 a6), .val (.int .i64 a7), .val (.int .i64 a8), .val (.int .i64 a9), .val (.int .i64 a10)] : List PV)[v.toNat]? = some (.val (.int .i64 (sel 0 [a0, a1, a2, a3, a4, a5, a6, a7, a8, a9, a10] v.toNat))) := by
 have hx : v.toNat < 11 := by omega
 have h2 := jU (f := fun n => PV.val (.int .i64 n)) (l := [a0, a1, a2, a3, a4, a5, a6, a7, a8, a9, a10]) (k := v.toNat) hx
 rw [← List.getElem?_map] at h2
 exact h2
theorem aDI {a0 a1 a2 a3 a4 a5 a6 a7 a8 a9 a10 : ByteArray} (h : v < 11) : ([.val (.string a0), .val (.string a1), .val (.string a2), .val (.string a3), .val (.string a4), .val (.string a5), .val (.string a6), .val (.string a7), .val (.string a8), .val (.string a9), .val (.string a10)] : List PV)[v.toNat]? = some (.val (.string (sel .empty [a0, a1, a2, a3, a4, a5, a6, a7, a8, a9, a10] v.toNat))) := by
 have hx : v.toNat < 11 := by omega
 have h2 := ni (f := fun n => PV.val (.string n)) (l := [a0, a1, a2, a3, a4, a5, a6, a7, a8, a9, a10]) (k := v.toNat) hx
 rw [← List.getElem?_map] at h2
 exact h2
theorem aDN {a0 a1 a2 a3 a4 a5 a6 a7 a8 a9 a10 a11 : Int} (h : v < 12) : ([.val (.int .i64 a0), .val (.int .i64 a1), .val (.int .i64 a2), .val (.int .i64 a3), .val (.int .i64 a4), .val (.int .i64 a5), .val (.int .i64 a6), .val (.int .i64 a7), .val (.int .i64 a8), .val (.int .i64 a9), .val (.int .i64 a10), .val (.int .i64 a11)] : List PV)[v.toNat]? = some (.val (.int .i64 (sel 0 [a0, a1, a2, a3, a4, a5, a6, a7, a8, a9, a10, a11] v.toNat))) := by
 have hx : v.toNat < 12 := by omega
 have h2 := jU (f := fun n => PV.val (.int .i64 n)) (l := [a0, a1, a2, a3, a4, a5, a6, a7, a8, a9, a10, a11]) (k := v.toNat) hx
 rw [← List.getElem?_map] at h2
 exact h2
theorem aEm {a0 a1 a2 a3 a4 a5 a6 a7 a8 a9 a10 a11 : ByteArray} (h : v < 12) : ([.val (.string a0), .val (.string a1), .val (.string a2), .val (.string a3), .val (.string a4), .val (.string a5), .val (.string a6), .val (.string a7), .val (.string a8), .val (.string a9), .val (.string a10), .val (.string a11)] : List PV)[v.toNat]? = some (.val (.string (sel .empty [a0, a1, a2, a3, a4, a5, a6, a7, a8, a9, a10, a11] v.toNat))) := by
 have hx : v.toNat < 12 := by omega
 have h2 := ni (f := fun n => PV.val (.string n)) (l := [a0, a1, a2, a3, a4, a5, a6, a7, a8, a9, a10, a11]) (k := v.toNat) hx
 rw [← List.getElem?_map] at h2
 exact h2
theorem aEx {a0 a1 a2 a3 a4 a5 a6 a7 a8 a9 a10 a11 a12 : Int} (h : v < 13) : ([.val (.int .i64 a0), .val (.int .i64 a1), .val (.int .i64 a2), .val (.int .i64 a3), .val (.int .i64 a4), .val (.int .i64 a5), .val (.int .i64 a6), .val (.int .i64 a7), .val (.int .i64 a8), .val (.int .i64 a9), .val (.int .i64 a10), .val (.int .i64 a11), .val (.int .i64 a12)] : List PV)[v.toNat]? = some (.val (.int .i64 (sel 0 [a0, a1, a2, a3, a4, a5, a6, a7, a8, a9, a10, a11, a12] v.toNat))) := by
 have hx : v.toNat < 13 := by omega
 have h2 := jU (f := fun n => PV.val (.int .i64 n)) (l := [a0, a1, a2, a3, a4, a5, a6, a7, a8, a9, a10, a11, a12]) (k := v.toNat) hx
 rw [← List.getElem?_map] at h2
 exact h2
theorem aEv {a0 a1 a2 a3 a4 a5 a6 a7 a8 a9 a10 a11 a12 : ByteArray} (h : v < 13) : ([.val (.string a0), .val (.string a1), .val (.string a2), .val (.string a3), .val (.string a4), .val (.string a5), .val (.string a6), .val (.string a7), .val (.string a8), .val (.string a9), .val (.string a10), .val (.string a11), .val (.string a12)] : List PV)[v.toNat]? = some (.val (.string (sel .empty [a0, a1, a2, a3, a4, a5, a6, a7, a8, a9, a10, a11, a12] v.toNat))) := by
 have hx : v.toNat < 13 := by omega
 have h2 := ni (f := fun n => PV.val (.string n)) (l := [a0, a1, a2, a3, a4, a5, a6, a7, a8, a9, a10, a11, a12]) (k := v.toNat) hx
 rw [← List.getElem?_map] at h2
 exact h2
theorem aD7 {a0 a1 a2 a3 a4 a5 a6 a7 a8 a9 a10 a11 a12 a13 : Int} (h : v < 14) : ([.val (.int .i64 a0), .val (.int .i64 a1), .val (.int .i64 a2), .val (.int .i64 a3), .val (.int .i64 a4), .val (.int .i64 a5), .val (.int .i64 a6), .val (.int .i64 a7), .val (.int .i64 a8), .val (.int .i64 a9), .val (.int .i64 a10), .val (.int .i64 a11), .val (.int .i64 a12), .val (.int .i64 a13)] : List PV)[v.toNat]? = some (.val (.int .i64 (sel 0 [a0, a1, a2, a3, a4, a5, a6, a7, a8, a9, a10, a11, a12, a13] v.toNat))) := by
 have hx : v.toNat < 14 := by omega
 have h2 := jU (f := fun n => PV.val (.int .i64 n)) (l := [a0, a1, a2, a3, a4, a5, a6, a7, a8, a9, a10, a11, a12, a13]) (k := v.toNat) hx
 rw [← List.getElem?_map] at h2
 exact h2
theorem aEo {a0 a1 a2 a3 a4 a5 a6 a7 a8 a9 a10 a11 a12 a13 : ByteArray} (h : v < 14) : ([.val (.string a0), .val (.string a1), .val (.string a2), .val (.string a3), .val (.string a4), .val (.string a5), .val (.string a6), .val (.string a7), .val (.string a8), .val (.string a9), .val (.string a10), .val (.string a11), .val (.string a12), .val (.string a13)] : List PV)[v.toNat]? = some (.val (.string (sel .empty [a0, a1, a2, a3, a4, a5, a6, a7, a8, a9, a10, a11, a12, a13] v.toNat))) := by
 have hx : v.toNat < 14 := by omega
 have h2 := ni (f := fun n => PV.val (.string n)) (l := [a0, a1, a2, a3, a4, a5, a6, a7, a8, a9, a10, a11, a12, a13]) (k := v.toNat) hx
 rw [← List.getElem?_map] at h2
 exact h2
theorem aEr {a0 a1 a2 a3 a4 a5 a6 a7 a8 a9 a10 a11 a12 a13 a14 : Int} (h : v < 15) : ([.val (.int .i64 a0), .val (.int .i64 a1), .val (.int .i64 a2), .val (.int .i64 a3), .val (.int .i64 a4), .val (.int .i64 a5), .val (.int .i64 a6), .val (.int .i64 a7), .val (.int .i64 a8), .val (.int .i64 a9), .val (.int .i64 a10), .val (.int .i64 a11), .val (.int .i64 a12), .val (.int .i64 a13), .val (.int .i64 a14)] : List PV)[v.toNat]? = some (.val (.int .i64 (sel 0 [a0, a1, a2, a3, a4, a5, a6, a7, a8, a9, a10, a11, a12, a13, a14] v.toNat))) := by
 have hx : v.toNat < 15 := by omega
 have h2 := jU (f := fun n => PV.val (.int .i64 n)) (l := [a0, a1, a2, a3, a4, a5, a6, a7, a8, a9, a10, a11, a12, a13, a14]) (k := v.toNat) hx
 rw [← List.getElem?_map] at h2
 exact h2
theorem aDO {a0 a1 a2 a3 a4 a5 a6 a7 a8 a9 a10 a11 a12 a13 a14 : ByteArray} (h : v < 15) : ([.val (.string a0), .val (.string a1), .val (.string a2), .val (.string a3), .val (.string a4), .val (.string a5), .val (.string a6), .val (.string a7), .val (.string a8), .val (.string a9), .val (.string a10), .val (.string a11), .val (.string a12), .val (.string a13), .val (.string a14)] : List PV)[v.toNat]? = some (.val (.string (sel .empty [a0, a1, a2, a3, a4, a5, a6, a7, a8, a9, a10, a11, a12, a13, a14] v.toNat))) := by
 have hx : v.toNat < 15 := by omega
 have h2 := ni (f := fun n => PV.val (.string n)) (l := [a0, a1, a2, a3, a4, a5, a6, a7, a8, a9, a10, a11, a12, a13, a14]) (k := v.toNat) hx
 rw [← List.getElem?_map] at h2
 exact h2
theorem gu1 {a0 : Int} (h : v < 1) : ([.val (.int .u8 a0)] : List PV)[v.toNat]? = some (.val (.int .u8 (sel 0 [a0] v.toNat))) := by
 have hx : v.toNat < 1 := by omega
 have h2 := jU (f := fun n => PV.val (.int .u8 n)) (l := [a0]) (k := v.toNat) hx
 rw [← List.getElem?_map] at h2
 exact h2
theorem gu2 {a0 a1 : Int} (h : v < 2) : ([.val (.int .u8 a0), .val (.int .u8 a1)] : List PV)[v.toNat]? = some (.val (.int .u8 (sel 0 [a0, a1] v.toNat))) := by
 have hx : v.toNat < 2 := by omega
 have h2 := jU (f := fun n => PV.val (.int .u8 n)) (l := [a0, a1]) (k := v.toNat) hx
 rw [← List.getElem?_map] at h2
 exact h2
theorem gu3 {a0 a1 a2 : Int} (h : v < 3) : ([.val (.int .u8 a0), .val (.int .u8 a1), .val (.int .u8 a2)] : List PV)[v.toNat]? = some (.val (.int .u8 (sel 0 [a0, a1, a2] v.toNat))) := by
 have hx : v.toNat < 3 := by omega
 have h2 := jU (f := fun n => PV.val (.int .u8 n)) (l := [a0, a1, a2]) (k := v.toNat) hx
 rw [← List.getElem?_map] at h2
 exact h2
theorem gu4 {a0 a1 a2 a3 : Int} (h : v < 4) : ([.val (.int .u8 a0), .val (.int .u8 a1), .val (.int .u8 a2), .val (.int .u8 a3)] : List PV)[v.toNat]? = some (.val (.int .u8 (sel 0 [a0, a1, a2, a3] v.toNat))) := by
 have hx : v.toNat < 4 := by omega
 have h2 := jU (f := fun n => PV.val (.int .u8 n)) (l := [a0, a1, a2, a3]) (k := v.toNat) hx
 rw [← List.getElem?_map] at h2
 exact h2
theorem gb1 {a0 b0 c0 d0 : Int} (h : v < 1) : ([.agg [.val (.int .i64 a0), .val (.int .i64 b0), .val (.int .i64 c0), .val (.int .i64 d0)]] : List PV)[v.toNat]? = some (.agg [.val (.int .i64 (sel i40 [(a0, b0, c0, d0)] v.toNat).1), .val (.int .i64 (sel i40 [(a0, b0, c0, d0)] v.toNat).2.1), .val (.int .i64 (sel i40 [(a0, b0, c0, d0)] v.toNat).2.2.1), .val (.int .i64 (sel i40 [(a0, b0, c0, d0)] v.toNat).2.2.2)]) := by
 have hx : v.toNat < 1 := by omega
 have h2 := vJ (g := fun x : I4 => PV.agg [.val (.int .i64 x.1), .val (.int .i64 x.2.1), .val (.int .i64 x.2.2.1), .val (.int .i64 x.2.2.2)]) (l := [(a0, b0, c0, d0)]) (i := v.toNat) hx
 rw [← List.getElem?_map] at h2
 exact h2
theorem gb2 {a0 a1 b0 b1 c0 c1 d0 d1 : Int} (h : v < 2) : ([.agg [.val (.int .i64 a0), .val (.int .i64 b0), .val (.int .i64 c0), .val (.int .i64 d0)], .agg [.val (.int .i64 a1), .val (.int .i64 b1), .val (.int .i64 c1), .val (.int .i64 d1)]] : List PV)[v.toNat]? = some (.agg [.val (.int .i64 (sel i40 [(a0, b0, c0, d0), (a1, b1, c1, d1)] v.toNat).1), .val (.int .i64 (sel i40 [(a0, b0, c0, d0), (a1, b1, c1, d1)] v.toNat).2.1), .val (.int .i64 (sel i40 [(a0, b0, c0, d0), (a1, b1, c1, d1)] v.toNat).2.2.1), .val (.int .i64 (sel i40 [(a0, b0, c0, d0), (a1, b1, c1, d1)] v.toNat).2.2.2)]) := by
 have hx : v.toNat < 2 := by omega
 have h2 := vJ (g := fun x : I4 => PV.agg [.val (.int .i64 x.1), .val (.int .i64 x.2.1), .val (.int .i64 x.2.2.1), .val (.int .i64 x.2.2.2)]) (l := [(a0, b0, c0, d0), (a1, b1, c1, d1)]) (i := v.toNat) hx
 rw [← List.getElem?_map] at h2
 exact h2
theorem gb3 {a0 a1 a2 b0 b1 b2 c0 c1 c2 d0 d1 d2 : Int} (h : v < 3) : ([.agg [.val (.int .i64 a0), .val (.int .i64 b0), .val (.int .i64 c0), .val (.int .i64 d0)], .agg [.val (.int .i64 a1), .val (.int .i64 b1), .val (.int .i64 c1), .val (.int .i64 d1)], .agg [.val (.int .i64 a2), .val (.int .i64 b2), .val (.int .i64 c2), .val (.int .i64 d2)]] : List PV)[v.toNat]? = some (.agg [.val (.int .i64 (sel i40 [(a0, b0, c0, d0), (a1, b1, c1, d1), (a2, b2, c2, d2)] v.toNat).1), .val (.int .i64 (sel i40 [(a0, b0, c0, d0), (a1, b1, c1, d1), (a2, b2, c2, d2)] v.toNat).2.1), .val (.int .i64 (sel i40 [(a0, b0, c0, d0), (a1, b1, c1, d1), (a2, b2, c2, d2)] v.toNat).2.2.1), .val (.int .i64 (sel i40 [(a0, b0, c0, d0), (a1, b1, c1, d1), (a2, b2, c2, d2)] v.toNat).2.2.2)]) := by
 have hx : v.toNat < 3 := by omega
 have h2 := vJ (g := fun x : I4 => PV.agg [.val (.int .i64 x.1), .val (.int .i64 x.2.1), .val (.int .i64 x.2.2.1), .val (.int .i64 x.2.2.2)]) (l := [(a0, b0, c0, d0), (a1, b1, c1, d1), (a2, b2, c2, d2)]) (i := v.toNat) hx
 rw [← List.getElem?_map] at h2
 exact h2
theorem gb4 {a0 a1 a2 a3 b0 b1 b2 b3 c0 c1 c2 c3 d0 d1 d2 d3 : Int} (h : v < 4) : ([.agg [.val (.int .i64 a0), .val (.int .i64 b0), .val (.int .i64 c0), .val (.int .i64 d0)], .agg [.val (.int .i64 a1), .val (.int .i64 b1), .val (.int .i64 c1), .val (.int .i64 d1)], .agg [.val (.int .i64 a2), .val (.int .i64 b2), .val (.int .i64 c2), .val (.int .i64 d2)], .agg [.val (.int .i64 a3), .val (.int .i64 b3), .val (.int .i64 c3), .val (.int .i64 d3)]] : List PV)[v.toNat]? = some (.agg [.val (.int .i64 (sel i40 [(a0, b0, c0, d0), (a1, b1, c1, d1), (a2, b2, c2, d2), (a3, b3, c3, d3)] v.toNat).1), .val (.int .i64 (sel i40 [(a0, b0, c0, d0), (a1, b1, c1, d1), (a2, b2, c2, d2), (a3, b3, c3, d3)] v.toNat).2.1), .val (.int .i64 (sel i40 [(a0, b0, c0, d0), (a1, b1, c1, d1), (a2, b2, c2, d2), (a3, b3, c3, d3)] v.toNat).2.2.1), .val (.int .i64 (sel i40 [(a0, b0, c0, d0), (a1, b1, c1, d1), (a2, b2, c2, d2), (a3, b3, c3, d3)] v.toNat).2.2.2)]) := by
 have hx : v.toNat < 4 := by omega
 have h2 := vJ (g := fun x : I4 => PV.agg [.val (.int .i64 x.1), .val (.int .i64 x.2.1), .val (.int .i64 x.2.2.1), .val (.int .i64 x.2.2.2)]) (l := [(a0, b0, c0, d0), (a1, b1, c1, d1), (a2, b2, c2, d2), (a3, b3, c3, d3)]) (i := v.toNat) hx
 rw [← List.getElem?_map] at h2
 exact h2
theorem gb5 {a0 a1 a2 a3 a4 b0 b1 b2 b3 b4 c0 c1 c2 c3 c4 d0 d1 d2 d3 d4 : Int} (h : v < 5) : ([.agg [.val (.int .i64 a0), .val (.int .i64 b0), .val (.int .i64 c0), .val (.int .i64 d0)], .agg [.val (.int .i64 a1), .val (.int .i64 b1), .val (.int .i64 c1), .val (.int .i64 d1)], .agg [.val (.int .i64 a2), .val (.int .i64 b2), .val (.int .i64 c2), .val (.int .i64 d2)], .agg [.val (.int .i64 a3), .val (.int .i64 b3), .val (.int .i64 c3), .val (.int .i64 d3)], .agg [.val (.int .i64 a4), .val (.int .i64 b4), .val (.int .i64 c4), .val (.int .i64 d4)]] : List PV)[v.toNat]? = some (.agg [.val (.int .i64 (sel i40 [(a0, b0, c0, d0), (a1, b1, c1, d1), (a2, b2, c2, d2), (a3, b3, c3, d3), (a4, b4, c4, d4)] v.toNat).1), .val (.int .i64 (sel i40 [(a0, b0, c0, d0), (a1, b1, c1, d1), (a2, b2, c2, d2), (a3, b3, c3, d3), (a4, b4, c4, d4)] v.toNat).2.1), .val (.int .i64 (sel i40 [(a0, b0, c0, d0), (a1, b1, c1, d1), (a2, b2, c2, d2), (a3, b3, c3, d3), (a4, b4, c4, d4)] v.toNat).2.2.1), .val (.int .i64 (sel i40 [(a0, b0, c0, d0), (a1, b1, c1, d1), (a2, b2, c2, d2), (a3, b3, c3, d3), (a4, b4, c4, d4)] v.toNat).2.2.2)]) := by
 have hx : v.toNat < 5 := by omega
 have h2 := vJ (g := fun x : I4 => PV.agg [.val (.int .i64 x.1), .val (.int .i64 x.2.1), .val (.int .i64 x.2.2.1), .val (.int .i64 x.2.2.2)]) (l := [(a0, b0, c0, d0), (a1, b1, c1, d1), (a2, b2, c2, d2), (a3, b3, c3, d3), (a4, b4, c4, d4)]) (i := v.toNat) hx
 rw [← List.getElem?_map] at h2
 exact h2
theorem gb6 {a0 a1 a2 a3 a4 a5 b0 b1 b2 b3 b4 b5 c0 c1 c2 c3 c4 c5 d0 d1 d2 d3 d4 d5 : Int} (h : v < 6) : ([.agg [.val (.int .i64 a0), .val (.int .i64 b0), .val (.int .i64 c0), .val (.int .i64 d0)], .agg [.val (.int .i64 a1), .val (.int .i64 b1), .val (.int .i64 c1), .val (.int .i64 d1)], .agg [.val (.int .i64 a2), .val (.int .i64 b2), .val (.int .i64 c2), .val (.int .i64 d2)], .agg [.val (.int .i64 a3), .val (.int .i64 b3), .val (.int .i64 c3), .val (.int .i64 d3)], .agg [.val (.int .i64 a4), .val (.int .i64 b4), .val (.int .i64 c4), .val (.int .i64 d4)], .agg [.val (.int .i64 a5), .val (.int .i64 b5), .val (.int .i64 c5), .val (.int .i64 d5)]] : List PV)[v.toNat]? = some (.agg [.val (.int .i64 (sel i40 [(a0, b0, c0, d0), (a1, b1, c1, d1), (a2, b2, c2, d2), (a3, b3, c3, d3), (a4, b4, c4, d4), (a5, b5, c5, d5)] v.toNat).1), .val (.int .i64 (sel i40 [(a0, b0, c0, d0), (a1, b1, c1, d1), (a2, b2, c2, d2), (a3, b3, c3, d3), (a4, b4, c4, d4), (a5, b5, c5, d5)] v.toNat).2.1), .val (.int .i64 (sel i40 [(a0, b0, c0, d0), (a1, b1, c1, d1), (a2, b2, c2, d2), (a3, b3, c3, d3), (a4, b4, c4, d4), (a5, b5, c5, d5)] v.toNat).2.2.1), .val (.int .i64 (sel i40 [(a0, b0, c0, d0), (a1, b1, c1, d1), (a2, b2, c2, d2), (a3, b3, c3, d3), (a4, b4, c4, d4), (a5, b5, c5, d5)] v.toNat).2.2.2)]) := by
 have hx : v.toNat < 6 := by omega
 have h2 := vJ (g := fun x : I4 => PV.agg [.val (.int .i64 x.1), .val (.int .i64 x.2.1), .val (.int .i64 x.2.2.1), .val (.int .i64 x.2.2.2)]) (l := [(a0, b0, c0, d0), (a1, b1, c1, d1), (a2, b2, c2, d2), (a3, b3, c3, d3), (a4, b4, c4, d4), (a5, b5, c5, d5)]) (i := v.toNat) hx
 rw [← List.getElem?_map] at h2
 exact h2
theorem gw1 {a0 : ByteArray} {b0 : Int} (h : v < 1) : ([.agg [.val (.string a0), .val (.int .i64 b0)]] : List PV)[v.toNat]? = some (.agg [.val (.string (sel w0 [(a0, b0)] v.toNat).1), .val (.int .i64 (sel w0 [(a0, b0)] v.toNat).2)]) := by
 have hx : v.toNat < 1 := by omega
 have h2 := alW (g := fun x : W2 => PV.agg [.val (.string x.1), .val (.int .i64 x.2)]) (l := [(a0, b0)]) (i := v.toNat) hx
 rw [← List.getElem?_map] at h2
 exact h2
theorem gw2 {a0 a1 : ByteArray} {b0 b1 : Int} (h : v < 2) : ([.agg [.val (.string a0), .val (.int .i64 b0)], .agg [.val (.string a1), .val (.int .i64 b1)]] : List PV)[v.toNat]? = some (.agg [.val (.string (sel w0 [(a0, b0), (a1, b1)] v.toNat).1), .val (.int .i64 (sel w0 [(a0, b0), (a1, b1)] v.toNat).2)]) := by
 have hx : v.toNat < 2 := by omega
 have h2 := alW (g := fun x : W2 => PV.agg [.val (.string x.1), .val (.int .i64 x.2)]) (l := [(a0, b0), (a1, b1)]) (i := v.toNat) hx
 rw [← List.getElem?_map] at h2
 exact h2
theorem gw3 {a0 a1 a2 : ByteArray} {b0 b1 b2 : Int} (h : v < 3) : ([.agg [.val (.string a0), .val (.int .i64 b0)], .agg [.val (.string a1), .val (.int .i64 b1)], .agg [.val (.string a2), .val (.int .i64 b2)]] : List PV)[v.toNat]? = some (.agg [.val (.string (sel w0 [(a0, b0), (a1, b1), (a2, b2)] v.toNat).1), .val (.int .i64 (sel w0 [(a0, b0), (a1, b1), (a2, b2)] v.toNat).2)]) := by
 have hx : v.toNat < 3 := by omega
 have h2 := alW (g := fun x : W2 => PV.agg [.val (.string x.1), .val (.int .i64 x.2)]) (l := [(a0, b0), (a1, b1), (a2, b2)]) (i := v.toNat) hx
 rw [← List.getElem?_map] at h2
 exact h2
theorem aDa (x : Nat) : (x = x + 1) = False := by simp
theorem aAe (x : Nat) : (x + 1 = x) = False := by simp
theorem aCa (x : Nat) : (x = x + 1 + 1) = False := by simp; omega
theorem aBA (x : Nat) : (x + 1 + 1 = x) = False := by simp; omega
theorem z_s (x : Nat) : (0 = x + 1) = False := by simp
theorem s_z (x : Nat) : (x + 1 = 0) = False := by simp
theorem azU (x : Nat) : (x = x + 1 + 1 + 1) = False := by simp; omega
theorem aBF (x : Nat) : (x + 1 + 1 + 1 = x) = False := by simp; omega
end
theorem ayU {l : List Int} {y : Int} : (l.map fun n => PV.val (.int .i64 n)) ++ [.val (.int .i64 y)] = (l ++ [y]).map fun n => PV.val (.int .i64 n) := by simp
theorem auF {l : List Int} {y : Int} : (l.map fun n => PV.val (.int .u8 n)) ++ [.val (.int .u8 y)] = (l ++ [y]).map fun n => PV.val (.int .u8 n) := by simp
theorem awj {l : List ByteArray} {y : ByteArray} : (l.map fun n => PV.val (.string n)) ++ [.val (.string y)] = (l ++ [y]).map fun n => PV.val (.string n) := by simp
theorem aB9 {l : List W2} {a : ByteArray} {b : Int} : (l.map fun x => PV.agg [.val (.string x.1), .val (.int .i64 x.2)]) ++ [.agg [.val (.string a), .val (.int .i64 b)]] = (l ++ [(a, b)]).map fun x => PV.agg [.val (.string x.1), .val (.int .i64 x.2)] := by simp
theorem ay4 {l : List I3} {a b c : Int} : (l.map fun x => PV.agg [.val (.int .i64 x.1), .val (.int .i64 x.2.1), .val (.int .i64 x.2.2)]) ++ [.agg [.val (.int .i64 a), .val (.int .i64 b), .val (.int .i64 c)]] = (l ++ [(a, b, c)]).map fun x => PV.agg [.val (.int .i64 x.1), .val (.int .i64 x.2.1), .val (.int .i64 x.2.2)] := by simp
theorem auC {l : List I4} {a b c d : Int} : (l.map fun x => PV.agg [.val (.int .i64 x.1), .val (.int .i64 x.2.1), .val (.int .i64 x.2.2.1), .val (.int .i64 x.2.2.2)]) ++ [.agg [.val (.int .i64 a), .val (.int .i64 b), .val (.int .i64 c), .val (.int .i64 d)]] = (l ++ [(a, b, c, d)]).map fun x => PV.agg [.val (.int .i64 x.1), .val (.int .i64 x.2.1), .val (.int .i64 x.2.2.1), .val (.int .i64 x.2.2.2)] := by simp
theorem bg {n : Nat} {a : Int} : List.replicate n (PV.val (.int .i64 a)) = (List.replicate n a).map fun n => PV.val (.int .i64 n) := by simp
theorem bf {n : Nat} {a : ByteArray} : List.replicate n (PV.val (.string a)) = (List.replicate n a).map fun n => PV.val (.string n) := by simp
theorem cO {n : Nat} {a : ByteArray} {b : Int} : List.replicate n (PV.agg [.val (.string a), .val (.int .i64 b)]) = (List.replicate n ((a, b) : W2)).map fun x => PV.agg [.val (.string x.1), .val (.int .i64 x.2)] := by simp
theorem bq {n : Nat} {a b c : Int} : List.replicate n (PV.agg [.val (.int .i64 a), .val (.int .i64 b), .val (.int .i64 c)]) = (List.replicate n ((a, b, c) : I3)).map fun x => PV.agg [.val (.int .i64 x.1), .val (.int .i64 x.2.1), .val (.int .i64 x.2.2)] := by simp
theorem bn {n : Nat} {a b c d : Int} : List.replicate n (PV.agg [.val (.int .i64 a), .val (.int .i64 b), .val (.int .i64 c), .val (.int .i64 d)]) = (List.replicate n ((a, b, c, d) : I4)).map fun x => PV.agg [.val (.int .i64 x.1), .val (.int .i64 x.2.1), .val (.int .i64 x.2.2.1), .val (.int .i64 x.2.2.2)] := by simp
theorem nat_ne {a b : Nat} (h : ¬ a = b) : (a = b) = False := by simp [h]
attribute [push_cast low]
 nat_ne
attribute [push_cast]
 ayU auF awj aB9 ay4 auC
attribute [push_cast]
 gl1 gs1 gl2 gs2 gl3 gs3 gl4 gs4 gl5 gs5 gl6 gs6 gl7 gs7 gl8 gs8 gl9 gs9 aEn aEa aD8 aDI aDN aEm aEx aEv aD7 aEo aEr aDO gu1 gu2 gu3 gu4 gb1 gb2 gb3 gb4 gb5 gb6 gw1 gw2 gw3 aDa aAe aCa aBA z_s s_z azU aBF Nat.le_refl Nat.add_right_cancel_iff
theorem aho {T : Nat} {code code' : List Int} {p p' : Int} (h : rdC T code p = rdC T code' p') : code = code' ∧ p = p' := by
 simp only [rdC, Prod.mk.injEq, true_and, List.cons.injEq, PV.agg.injEq, PV.lst.injEq, PV.val.injEq, Value.int.injEq, and_true] at h
 refine ⟨?_, h.2⟩
 have : Function.Injective fun n : Int => PV.val (.int .u8 n) := fun a b e => by simpa using e
 exact (List.map_inj_right (fun a b e => this e)).1 h.1
theorem p8.to {code : List Int} {p p' : Int} (h : p8 code p) (h1 : 0 ≤ p') (h2 : p' ≤ 1000000000000) : p8 code p' := ⟨h.len, h.byte, h1, h2⟩
section
variable {P : Program} {Γ : Ctx}
theorem qD (hm : P.follows .mixedOrders = true) {f : Nat} {fn : Func} {C : Code} (hΓ : aA P Γ) (hf : P.funcs[f]? = some fn) (hb : fn.body = some C) (N : Nat) (hN : fn.ntmps = N) (rs : List ResultVar) (hrs : fn.results.toList = rs) (hc : codeOk Γ true N C = true) (hN1 : 2 ≤ N)
  (T : Nat) (B c : Int) {α : Type} (E : α → PV) (D : Int → Prop) (R : Int → α → Prop)
  (h : ∀ code p n, p8 code p → p ≤ B → D n → pq P Γ N C (fun x s' => ∃ a p', R n a ∧ p8 code p' ∧ p ≤ p' ∧ p' ≤ p + c ∧ gV P rs 1 (E a) [rdC T code p'] x s') (eO [.own 0 2 0 0, .val (.int .i64 n)]).tm (lo [(0, rdC T code p)]) 1) :
  ∃ Φ : fG, dM P f Φ ∧ adL T Φ B c E D R := by
 obtain ⟨Φ, h1, h2⟩ := abA hm hΓ hf hb N hN rs hrs hc
  (fun ps o => ∃ code p n, ps = [.own 0 2 0 0, .val (.int .i64 n)] ∧ o = rdC T code p ∧ p8 code p ∧ p ≤ B ∧ D n)
  (fun ps o r o' => ∃ code p n a p', ps = [.own 0 2 0 0, .val (.int .i64 n)] ∧ o = rdC T code p ∧ r = E a ∧ o' = rdC T code p' ∧ R n a ∧ p8 code p' ∧ p ≤ p' ∧ p' ≤ p + c)
  (fun ps o ⟨code, p, n, e, _⟩ => by rw [e]; exact hN1) (fun ps o ⟨code, p, n, e1, e2, h3, h4, h5⟩ => by
   subst e1 e2
   refine tJ (fun x s' hx => ?_) _ _ (h code p n h3 h4 h5)
   obtain ⟨a, p', k1, k2, k3, k4, k5⟩ := hx
   exact ⟨E a, rdC T code p', ⟨code, p, n, a, p', rfl, rfl, rfl, rfl, k1, k2, k3, k4⟩, k5⟩)
 refine ⟨Φ, h1, fun code p n h3 h4 h5 => ?_⟩
 obtain ⟨r, o', e, code', p1, n1, a, p', e0, e1, rfl, rfl, k1, k2, k3, k4⟩ := h2 _ _ ⟨code, p, n, rfl, rfl, h3, h4, h5⟩
 obtain ⟨rfl, rfl⟩ := aho e1
 have : n = n1 := by simpa using e0
 subst this
 exact ⟨a, p', e, k1, k2, k3, k4⟩
end
def aBO (φ : Fun) {α : Type} (E : α → PV) (R : α → Prop) : Prop := ∀ code : List Int, (∀ i : Nat, 0 ≤ code[i]?.getD 0 ∧ code[i]?.getD 0 ≤ 255) → code.length ≤ 1048576 → ∃ a, φ [.lst false 1 (code.map fun n => PV.val (.int .u8 n))] = some (E a) ∧ R a
theorem aqH {P : Program} {Γ : Ctx} (hm : P.follows .mixedOrders = true) {f : Nat} {fn : Func} {C : Code} (hΓ : aA P Γ) (hf : P.funcs[f]? = some fn) (hb : fn.body = some C) (N : Nat) (hN : fn.ntmps = N) (rs : List ResultVar) (hrs : fn.results.toList = rs) (hc : codeOk Γ true N C = true) (hN1 : 1 ≤ N)
  {α : Type} (E : α → PV) (R : α → Prop)
  (h : ∀ code : List Int, (∀ i : Nat, 0 ≤ code[i]?.getD 0 ∧ code[i]?.getD 0 ≤ 255) → code.length ≤ 1048576 → pq P Γ N C (fun x s' => ∃ a, R a ∧ Post P rs (E a) x s') (eO [.lst false 1 (code.map fun n => PV.val (.int .u8 n))]).tm (fun _ => none) 0) :
  ∃ φ : Fun, Sound P f φ ∧ aBO φ E R := by
 obtain ⟨φ, h1, h2⟩ := zG hm hΓ hf hb N hN rs hrs hc
  (fun ps => ∃ code : List Int, ps = [.lst false 1 (code.map fun n => PV.val (.int .u8 n))] ∧ (∀ i : Nat, 0 ≤ code[i]?.getD 0 ∧ code[i]?.getD 0 ≤ 255) ∧ code.length ≤ 1048576)
  (fun ps r => ∃ a, r = E a ∧ R a)
  (fun ps ⟨code, e, _⟩ => by rw [e]; exact hN1) (fun ps ⟨code, e1, h3, h4⟩ => by
   subst e1
   refine tJ (fun x s' hx => ?_) _ _ (h code h3 h4)
   obtain ⟨a, k1, k2⟩ := hx
   exact ⟨E a, ⟨a, rfl, k1⟩, k2⟩)
 refine ⟨φ, h1, fun code h3 h4 => ?_⟩
 obtain ⟨r, e, a, rfl, k1⟩ := h2 _ ⟨code, rfl, h3, h4⟩
 exact ⟨a, e, k1⟩
theorem avs {P : Program} {t : Nat} {x y : Operand} {m n : Int} : jB P .xor t x y (some (.int .i64 m)) (some (.int .i64 n)) = some (.val (.int .i64 (IntKind.i64.wrap ((BitVec.ofInt 64 m ^^^ BitVec.ofInt 64 n).toNat)))) := by
 have : ak P (do eqGuard .xor t x y (.int .i64 m) (.int .i64 n); binOp .xor t (.int .i64 m) (.int .i64 n)) = some (.int .i64 (IntKind.i64.wrap ((BitVec.ofInt 64 m ^^^ BitVec.ofInt 64 n).toNat))) := by
  rfl
 simp only [jB, this, Option.map_some]
theorem aeB {m n : Int} (hm : 0 ≤ m) (hm2 : m ≤ 4611686018427387903) (hn : 0 ≤ n) (hn2 : n ≤ 4611686018427387903) : 0 ≤ IntKind.i64.wrap ((BitVec.ofInt 64 m ^^^ BitVec.ofInt 64 n).toNat) ∧ IntKind.i64.wrap ((BitVec.ofInt 64 m ^^^ BitVec.ofInt 64 n).toNat) ≤ 4611686018427387903 := by
 have e1 : (BitVec.ofInt 64 m).toNat = m.toNat := by rw [BitVec.toNat_ofInt]; omega
 have e2 : (BitVec.ofInt 64 n).toNat = n.toNat := by rw [BitVec.toNat_ofInt]; omega
 rw [BitVec.toNat_xor, e1, e2]
 have h : m.toNat ^^^ n.toNat < 2 ^ 62 := Nat.xor_lt_two_pow (by omega) (by omega)
 rw [eF (by omega) (by omega)]
 omega
theorem aBH {P : Program} {Γ : Ctx} {imm : Md} {gs : List (Option Nat)} {l : List Oper} {Q : AS → Prop} {tm : Nat → PV} {ob : aF} {nx d ty t t' : Nat} {x y : Operand} {pos : String} {af : Array Edge} {m n : Int}
  (h0 : fT Γ imm { dst := some d, op := .binOp .xor t x y t', type := ty, pos := pos, after := af, guard := none } = false)
  (hx : look tm x = .val (.int .i64 m)) (hy : look tm y = .val (.int .i64 n)) (hm : 0 ≤ m) (hm2 : m ≤ 4611686018427387903) (hn : 0 ≤ n) (hn2 : n ≤ 4611686018427387903)
  (hk : ∀ z : Int, 0 ≤ z → z ≤ 4611686018427387903 → wq P Γ imm gs l Q (upd tm d (.val (.int .i64 z))) ob nx) :
  wq P Γ imm gs ({ dst := some d, op := .binOp .xor t x y t', type := ty, pos := pos, after := af, guard := none } :: l) Q tm ob nx := by
 obtain ⟨h1, h2⟩ := aeB hm hm2 hn hn2
 refine i_V h0 rfl rfl ?_ (hk _ h1 h2)
 rw [adX, hx, hy]
 exact avs
theorem gK {P : Program} {rs : List ResultVar} {T : Nat} {α : Type} {E : α → PV} {R : α → Prop} {code : List Int} {p c : Int} {a : α} {p' : Int} {x : X} {tm : Nat → PV} {ob : aF} {nx : Nat} (hx : x = .normal ∨ x = .ret)
  (h3 : ((gF P ⟨tm, ob, nx⟩ rs).bind fun qs => cZ [0] ob fuel (gY qs)) = some (E a)) (h4 : kW [0] ob fuel 0 = some (rdC T code p')) (hR : R a) (ho : p8 code p') (h1 : p ≤ p') (h2 : p' ≤ p + c) :
  ∃ a p', R a ∧ p8 code p' ∧ p ≤ p' ∧ p' ≤ p + c ∧ gV P rs 1 (E a) [rdC T code p'] x ⟨tm, ob, nx⟩ := ⟨a, p', hR, ho, h1, h2, ay1 hx h3 h4⟩
theorem anN {P : Program} {rs : List ResultVar} {α : Type} {E : α → PV} {R : α → Prop} {a : α} {x : X} {tm : Nat → PV} {ob : aF} {nx : Nat} (hx : x = .normal ∨ x = .ret)
  (h3 : ((gF P ⟨tm, ob, nx⟩ rs).bind fun qs => reify true 0 ob fuel (gY qs)) = some (E a)) (hR : R a) :
  ∃ a, R a ∧ Post P rs (E a) x ⟨tm, ob, nx⟩ := ⟨a, hR, hx, h3⟩
abbrev okI (n : Int) : Prop := -9223372036854775808 ≤ n ∧ n ≤ 9223372036854775807
abbrev axu (n : Int) : Prop := 0 ≤ n ∧ n ≤ 255
abbrev okL {α : Type} (ok : α → Prop) (l : List α) : Prop := l.length ≤ 9223372036854775807 ∧ ∀ a ∈ l, ok a
theorem akU {code : List Int} (h : okL axu code) : ∀ i : Nat, 0 ≤ code[i]?.getD 0 ∧ code[i]?.getD 0 ≤ 255 := fun i => by
 by_cases hi : i < code.length
 ·simp only [List.getElem?_eq_getElem hi, Option.getD_some]
  exact h.2 _ (List.getElem_mem hi)
 ·rw [List.getElem?_eq_none (by omega)]
  simp
noncomputable instance {α : Type} (ok : α → Prop) (l : List α) : Decidable (okL ok l) := Classical.propDecidable _
theorem aiN {code : List Int} (h : ∀ i : Nat, 0 ≤ code[i]?.getD 0 ∧ code[i]?.getD 0 ≤ 255) : p8 (code.take 2000) 0 := by
 refine ⟨by simp; omega, fun i => ?_, by omega, by omega⟩
 rw [List.getElem?_take]
 split
 ·exact h i
 ·simp
end Go.Proofs.YtngcedklbinhjaaGreatDoor
namespace Go.Proofs.YtngcedklbinhjaaGreatDoor
open Go.RowKit
set_option linter.all false
theorem cu {α β : Type} {P : Program} (m : Sem α) (f : α → Sem β) : ak P (m >>= f) = (ak P m).bind fun x => ak P (f x) := by
 show ak P (m.bind f) = _
 induction m with
 | pure a => rfl
 | program k ih => simp only [Sem.bind, ak]; exact ih P
 | _ => rfl
def ac5 (P : Program) (t : Nat) (u v : Value) : Option Bool :=
 match P.underlying t, u, v with
 | some (.int _), .int k a, .int k' b => if k = k' then some (a == b) else none
 | some .bool, .bool a, .bool b => some (a == b)
 | some .string, .string a, .string b => some (a.toList == b.toList)
 | _, _, _ => none
def amC (P : Program) (xs ys : List Value) : List Field → Option Bool
 | [] => some true
 | f :: fs => match f.name == "_", eu P f.type, xs[f.offset]?, ys[f.offset]? with
  | false, some false, some u, some v => match ac5 P f.type u v, amC P xs ys fs with
   | some b, some c => some (b && c)
   | _, _ => none
  | _, _, _, _ => none
theorem pz {P : Program} {t : Nat} {d : TypeDesc} (h : P.underlying t = some d) : ak P (underlying t) = some d := by
 simp [underlying, Go.program, bind, Sem.bind, pure, ak, h]
theorem amq {P : Program} {d t : Nat} {u v : Value} {b : Bool} (h : ac5 P t u v = some b) : ak P (Op.equalIn (d + 1) t u v) = some b := by
 unfold ac5 at h
 split at h
 ·rename_i ik k a k' b' hu
  split at h
  ·rename_i hk
   subst hk
   cases h
   simp [Op.equalIn, cu, pz hu, ak, pure]
  ·cases h
 ·rename_i a b' hu
  cases h
  simp [Op.equalIn, cu, pz hu, ak, pure]
 ·rename_i a b' hu
  cases h
  simp [Op.equalIn, cu, pz hu, ak, pure, Go.beq_toListBytes]
 ·cases h
theorem ahO {P : Program} {t f : Nat} {xs : List Value} {v : Value} (ht : eu P t = some false) (h : xs[f]? = some v) : ak P (part t xs.toArray f) = some v := by
 unfold eu at ht
 cases hu : P.underlying t with
 | none => simp [hu] at ht
 | some d =>
  simp only [hu, Option.map_some, Option.some.injEq] at ht
  have : ak P (isAgg t) = some false := by
   unfold isAgg
   rw [cu, pz hu]
   cases d <;> simp_all [ak, pure]
  unfold part
  rw [cu, this]
  simp [h, ak, pure]
theorem uP {P : Program} {d : Nat} {xs ys : List Value} : ∀ {fs : List Field} {b : Bool}, amC P xs ys fs = some b → ak P (Op.eqFields (d + 1) xs.toArray ys.toArray fs) = some b
 | [], b, h => by
  simp only [amC, Option.some.injEq] at h
  subst h
  rfl
 | f :: fs, b, h => by
  simp only [amC] at h
  split at h
  ·rename_i u v hn ht hx hy
   split at h
   ·rename_i b1 b2 h1 h2
    cases h
    have hne : f.name ≠ "_" := by simpa using hn
    simp only [Op.eqFields]
    rw [if_pos hne, cu, ahO ht hx, Option.bind_some, cu, ahO ht hy, Option.bind_some, cu, amq h1, Option.bind_some]
    cases b1
    ·rfl
    ·simpa using uP h2
   ·cases h
  ·cases h
theorem zl {P : Program} {d t : Nat} {xs ys : Array Value} (ht : P.underlying t = some (.struct (P.fieldsOf t))) (hp : P.stoodInHeld t = false) :
  ak P (Op.equalIn (d + 1) t (.agg xs) (.agg ys)) = ak P (Op.eqFields d xs ys (P.fieldsOf t).toList) := by
 have hprog : ak P Go.program = some P := rfl
 simp only [Op.equalIn, cu, pz ht, Option.bind_some, hprog, hp, Bool.false_eq_true, if_false]
 rw [← Array.forIn_toList]
 generalize (P.fieldsOf t).toList = fs
 clear ht
 induction fs with
 | nil => simp [Op.eqFields, ak, pure]
 | cons f fs ih =>
  simp only [List.forIn_cons, Op.eqFields]
  split
  ·simp only [cu]
   cases ak P (part f.type xs f.offset) with
   | none => rfl
   | some a =>
    simp only [Option.bind_some]
    cases ak P (part f.type ys f.offset) with
    | none => rfl
    | some b =>
     simp only [Option.bind_some]
     cases ak P (Op.equalIn d f.type a b) with
     | none => rfl
     | some r =>
      cases r
      ·simp [ak, pure]
      ·simp only [Option.bind_some, Bool.not_true, Bool.false_eq_true, if_false, cu]
       simpa [ak, pure, cu] using ih
  ·simp only [cu]
   simpa [ak, pure, cu] using ih
theorem ace {P : Program} {t : Nat} {x y : Operand} {xs ys : List Value} {b : Bool} (ht : P.underlying t = some (.struct (P.fieldsOf t))) (hp : P.stoodInHeld t = false) (hg : P.eqGuardType P.depth t = false) (h : amC P xs ys (P.fieldsOf t).toList = some b) :
  jB P .eql t x y (some (.agg xs.toArray)) (some (.agg ys.toArray)) = some (.val (.bool b)) := by
 have hprog : ak P Go.program = some P := rfl
 have h1 : ak P (eqGuard .eql t x y (.agg xs.toArray) (.agg ys.toArray)) = some () := by
  simp [eqGuard, cu, hprog, hg, ak, pure]
 have h2 : ak P (binOp .eql t (.agg xs.toArray) (.agg ys.toArray)) = some (.bool b) := by
  show ak P (Op.equal t (.agg xs.toArray) (.agg ys.toArray) >>= fun r => pure (Value.bool r)) = _
  have h3 : ak P (Op.equal t (.agg xs.toArray) (.agg ys.toArray)) = some b := by
   show ak P (Op.equalIn (9998 + 1 + 1) t (.agg xs.toArray) (.agg ys.toArray)) = _
   rw [zl ht hp]
   exact uP h
  rw [fH h3]
  rfl
 simp only [jB]
 rw [fH h1, h2]
 rfl
theorem abW {P : Program} {t : Nat} {x y : Operand} {xs ys : List Value} {b : Bool} (ht : P.underlying t = some (.struct (P.fieldsOf t))) (hp : P.stoodInHeld t = false) (hg : P.eqGuardType P.depth t = false) (h : amC P xs ys (P.fieldsOf t).toList = some b) :
  jB P .neq t x y (some (.agg xs.toArray)) (some (.agg ys.toArray)) = some (.val (.bool (!b))) := by
 have hprog : ak P Go.program = some P := rfl
 have h1 : ak P (eqGuard .neq t x y (.agg xs.toArray) (.agg ys.toArray)) = some () := by
  simp [eqGuard, cu, hprog, hg, ak, pure]
 have h2 : ak P (binOp .neq t (.agg xs.toArray) (.agg ys.toArray)) = some (.bool (!b)) := by
  show ak P (Op.equal t (.agg xs.toArray) (.agg ys.toArray) >>= fun r => pure (Value.bool (!r))) = _
  have h3 : ak P (Op.equal t (.agg xs.toArray) (.agg ys.toArray)) = some b := by
   show ak P (Op.equalIn (9998 + 1 + 1) t (.agg xs.toArray) (.agg ys.toArray)) = _
   rw [zl ht hp]
   exact uP h
  rw [fH h3]
  rfl
 simp only [jB]
 rw [fH h1, h2]
 rfl
theorem ahd (cs : List PV) : toVal (.agg cs) = (iy cs).map fun vs => .agg vs.toArray := rfl
theorem abo (p q r : PV) : gY [p, q, r] = .tup [p, q, r] := rfl
theorem aeL (p q r s : PV) : gY [p, q, r, s] = .tup [p, q, r, s] := rfl
theorem aeH (p q r s t : PV) : gY [p, q, r, s, t] = .tup [p, q, r, s, t] := rfl
theorem aj4 {fr : Bool} {f sz m T : Nat} {ob : aF} {es : List PV} (hm : m = es.length) : om fr f ob sz 0 m (some (T, sz, es)) = (es.mapM (reify fr 0 ob f)).map (.lst fr sz) := by
 subst hm
 simp [om]
attribute [push_cast low]
 aj4
attribute [push_cast]
 abo aeL aeH ahd beq_self_eq_true
end Go.Proofs.YtngcedklbinhjaaGreatDoor
