/- What the proof rests on, part 5: contracts of functions. No condition beyond what each states. -/
import Derived.Test.YtngcedklbinhjaaGreatDoorZBw4
namespace Go.Proofs.YtngcedklbinhjaaGreatDoor
open Go.RowKit
set_option linter.all false
def agm (e sz by_ : Nat) (z : Value) (s : AS) : PV → PV → Option (PV × aF × Nat)
 | .val (.int _ l), .val (.int _ c) =>
  if 0 ≤ l ∧ l ≤ c ∧ (by_ : Int) * c ≤ 281474976710656 ∧ c ≤ 9223372036854775807 then some (.row s.nx sz 0 l.toNat, upd s.ob s.nx (some (e, sz, List.replicate l.toNat (dF z))), s.nx + 1) else none
 | _, _ => none
theorem asy {e sz by_ : Nat} {z : Value} {s : AS} {kl kc : IntKind} {l c : Int} (h0 : 0 ≤ l) (h1 : l ≤ c) (h2 : (by_ : Int) * c ≤ 281474976710656) (h3 : c ≤ 9223372036854775807) :
  agm e sz by_ z s (.val (.int kl l)) (.val (.int kc c)) = some (.row s.nx sz 0 l.toNat, upd s.ob s.nx (some (e, sz, List.replicate l.toNat (dF z))), s.nx + 1) := by
 simp [agm, h0, h1, h2, h3]
theorem aas {P : Program} {Γ : Ctx} {t e sz by_ : Nat} {z : Value} (he : eY P t = some e) (hz : zeroOf P e = some z) (hs : aR P e = some sz) (hb : bL P e = some by_) (h1 : z.cells.all (·.oneCell') = true) (h2 : z.cells.size = sz) (s : AS) (ρ : Operand → PV) (l c : Operand) :
  aQ P Γ s ρ (.makeSlice t l c) = agm e sz by_ z s (ρ l) (ρ c) := by
 simp only [aQ, he, hz, hs, hb]
 unfold agm
 split
 ·rename_i z' sz' by' kl l' kc c' e1 e2 e3 e4 e5
  cases e1; cases e2; cases e3
  rw [e4, e5]
  have key : ∀ C : Prop, (z.cells.all (·.oneCell') = true ∧ z.cells.size = sz ∧ C) = C := fun C => propext ⟨fun h => h.2.2, fun h => ⟨h1, h2, h⟩⟩
  simp only [key]
 ·rename_i hno
  split
  ·rename_i a b kl l' kc c' e4 e5
   exact (hno z sz by_ kl l' kc c' rfl rfl rfl e4 e5).elim
  ·rfl
theorem fZ {P : Program} {Γ : Ctx} {t sz : Nat} {z : Value} {p : PV} (hz : zeroOf P t = some z) (h1 : z.cells.all (·.oneCell') = true) (h2 : z.cells.size = sz) (h3 : dF z = p) (s : AS) (ρ : Operand → PV) :
  aQ P Γ s ρ (.alloc t) = some (.own s.nx sz 0 0, upd s.ob s.nx (some (t, sz, [p])), s.nx + 1) := by
 simp only [aQ, hz]
 rw [if_pos h1, h2, h3]
def qL (ob : aF) : PV → Option (Nat × Nat × List PV)
 | .row o _ _ _ => ob o
 | .own o _ _ _ => ob o
 | _ => none
def adE (e sz by_ nx : Nat) (ob : aF) (x : PV) (c : Option (Nat × Nat × List PV)) (es2 : Option (List PV)) : Option (PV × aF × Nat) :=
 match es2 with
 | some es2 => match x with
  | .row o sz' i n => match c with
   | some (T, sz'', es) => if i = 0 ∧ T = e ∧ sz' = sz ∧ sz'' = sz ∧ es.length = n ∧ n + es2.length ≤ 9223372036854775807 ∧ (n + es2.length) * by_ ≤ 140737488355328 then
     some (.row nx sz 0 (n + es2.length), upd (upd ob o none) nx (some (e, sz, es ++ es2)), nx + 1) else none
   | none => none
  | p => if isNil p = true ∧ es2.length ≤ 9223372036854775807 ∧ es2.length * by_ ≤ 140737488355328 then
    (if es2.length = 0 then some (p, ob, nx) else some (.row nx sz 0 es2.length, upd ob nx (some (e, sz, es2)), nx + 1)) else none
 | none => none
theorem qO {P : Program} {Γ : Ctx} {t e sz by_ : Nat} {z : Value} (he : eY P t = some e) (hz : zeroOf P e = some z) (hs : aR P e = some sz) (hb : bL P e = some by_) (h1 : 0 < sz) (h2 : z.cells.size = sz) (s : AS) (ρ : Operand → PV) (x y : Operand) :
  aQ P Γ s ρ (.call { callee := .builtin .append, args := #[x, y], argTypes := #[t, t] }) = adE e sz by_ s.nx s.ob (ρ x) (qL s.ob (ρ x)) (bZ s.ob sz (ρ y)) := by
 simp only [aQ, he, hz, hs, hb]
 unfold adE
 cases bZ s.ob sz (ρ y) with
 | none => rfl
 | some es2 =>
  simp only [h1, h2, and_self, if_true]
  cases ρ x <;> rfl
theorem ali {e sz by_ nx o n : Nat} {ob : aF} {es es2 : List PV} (h1 : es.length = n) (h2 : n + es2.length ≤ 9223372036854775807) (h3 : (n + es2.length) * by_ ≤ 140737488355328) :
  adE e sz by_ nx ob (.row o sz 0 n) (some (e, sz, es)) (some es2) = some (.row nx sz 0 (n + es2.length), upd (upd ob o none) nx (some (e, sz, es ++ es2)), nx + 1) := by
 simp [adE, h1, h2, h3]
theorem akq {e sz by_ nx : Nat} {ob : aF} {c : Option (Nat × Nat × List PV)} {es2 : List PV} (h1 : 0 < es2.length) (h2 : es2.length ≤ 9223372036854775807) (h3 : es2.length * by_ ≤ 140737488355328) :
  adE e sz by_ nx ob (.val (.slice none 0 0)) c (some es2) = some (.row nx sz 0 es2.length, upd ob nx (some (e, sz, es2)), nx + 1) := by
 have : ¬ es2.length = 0 := by omega
 have hn : ¬ es2 = [] := fun h => this (by rw [h]; rfl)
 simp [adE, isNil, h2, h3, hn]
def atv (b : ByteArray) : List Int := b.data.toList.map fun x => (x.toNat : Int)
theorem sK (b : ByteArray) : (atv b).length = b.size := by
 unfold atv
 rw [List.length_map]
 exact Array.length_toList
theorem agJ {ob : aF} {b : ByteArray} : ko ob 1 (.val (.string b)) = some ((atv b).map fun n => .val (.int .u8 n)) := by
 simp [ko, atv]
theorem aiY {ob : aF} {k : Bool} {sz s : Nat} {es : List PV} : ko ob sz (.lst k s es) = bZ ob sz (.lst k s es) := rfl
theorem ais {ob : aF} {o sz i n s : Nat} : ko ob sz (.row o s i n) = bZ ob sz (.row o s i n) := rfl
def cpX (sz nx : Nat) (ob : aF) (x : PV) (c : Option (Nat × Nat × List PV)) (es2 : Option (List PV)) : Option (PV × aF × Nat) :=
 match es2, x with
 | some es2, .row o sz' i n => match c with
  | some (T, sz'', es) => if sz' = sz ∧ sz'' = sz ∧ i + n ≤ es.length then
    some (.val (.int .i64 (min es2.length n : Nat)), upd ob o (some (T, sz, es.take i ++ es2.take (min es2.length n) ++ es.drop (i + min es2.length n))), nx) else none
  | none => none
 | some _, .lst _ _ [] => some (.val (.int .i64 0), ob, nx)
 | _, _ => none
theorem qP {P : Program} {Γ : Ctx} {t e sz : Nat} (he : eY P t = some e) (hs : aR P e = some sz) (s : AS) (ρ : Operand → PV) (x y : Operand) (t' : Nat) :
  aQ P Γ s ρ (.call { callee := .builtin .copy, args := #[x, y], argTypes := #[t, t'] }) = cpX sz s.nx s.ob (ρ x) (qL s.ob (ρ x)) (ko s.ob sz (ρ y)) := by
 simp only [aQ, am1, he, hs]
 unfold cpX
 cases ko s.ob sz (ρ y) with
 | none => rfl
 | some es2 =>
  cases hx : ρ x with
  | lst k sz' es => cases es <;> rfl
  | _ => rfl
theorem aoF {sz nx k' : Nat} {k : Bool} {ob : aF} {c : Option (Nat × Nat × List PV)} {es2 : List PV} : cpX sz nx ob (.lst k k' []) c (some es2) = some (.val (.int .i64 0), ob, nx) := rfl
theorem asv {sz nx o i n T : Nat} {ob : aF} {es es2 : List PV} (h : i + n ≤ es.length) : cpX sz nx ob (.row o sz i n) (some (T, sz, es)) (some es2) = some (.val (.int .i64 (min es2.length n : Nat)), upd ob o (some (T, sz, es.take i ++ es2.take (min es2.length n) ++ es.drop (i + min es2.length n))), nx) := by
 simp [cpX, h]
def azj (P : Program) (t : Nat) (ob : aF) (nx : Nat) (x y : PV) (c : Option (Nat × Nat × List PV)) : Option (PV × aF × Nat) :=
 match x, c with
 | .own o sz i f, some (T, sz', es) => match es[i]?, dh y with
  | some e, some cs => if sz = sz' ∧ aR P t = some cs.length then (apm sz e f y cs).map fun e' => (.val undef, upd ob o (some (T, sz, es.set i e')), nx) else none
  | _, _ => none
 | _, _ => none
theorem ayz {P : Program} {Γ : Ctx} (s : AS) (ρ : Operand → PV) (t : Nat) (x y : Operand) : aQ P Γ s ρ (.store t x y) = azj P t s.ob s.nx (ρ x) (ρ y) (qL s.ob (ρ x)) := by
 simp only [aQ]
 unfold azj
 cases hx : ρ x with
 | own o sz i f =>
  simp only [qL]
  cases s.ob o with
  | none => rfl
  | some c => rfl
 | _ => rfl
def agY : PV → Bool
 | .agg _ => true
 | _ => false
theorem asj (v : Value) : agY (.val v) = false := rfl
theorem aoe (k : Bool) (sz : Nat) (es : List PV) : agY (.lst k sz es) = false := rfl
theorem aqi (o sz i n : Nat) : agY (.row o sz i n) = false := rfl
theorem apP (o sz i f : Nat) : agY (.own o sz i f) = false := rfl
theorem arl (cs : List PV) : agY (.agg cs) = true := rfl
def stE (sz f : Nat) (ag : Bool) (cs : List PV) : PV → Option PV
 | .agg ecs => if f + cs.length ≤ ecs.length then some (PV.agg (gD ecs f cs)) else none
 | _ => if sz = 1 ∧ f = 0 ∧ ag = false then cs.head? else none
def stP (k : Option Nat) (ob : aF) (nx o T sz i f : Nat) (ag : Bool) (cs : Option (List PV)) (es : List PV) (e : Option PV) : Option (PV × aF × Nat) :=
 match k, cs, e with
 | some k, some cs, some e => if k = cs.length then
   (stE sz f ag cs e).map fun e' => (.val undef, upd ob o (some (T, sz, es.set i e')), nx)
   else none
 | _, _, _ => none
theorem akQ {P : Program} {t o sz i f T nx : Nat} {ob : aF} {es : List PV} {y : PV} :
  azj P t ob nx (.own o sz i f) y (some (T, sz, es)) = stP (aR P t) ob nx o T sz i f (agY y) (dh y) es (es[i]?) := by
 simp only [azj, stP]
 cases he : es[i]? with
 | none => cases aR P t <;> cases dh y <;> rfl
 | some e =>
  cases hc : dh y with
  | none => cases aR P t <;> rfl
  | some cs =>
   cases ht : aR P t with
   | none => simp
   | some k =>
    by_cases hk : k = cs.length
    ·have e2 : apm sz e f y cs = stE sz f (agY y) cs e := by
      have hone : ny y = true → cs.head? = some y ∧ agY y = false := by
       intro h
       cases y <;> simp_all [dh, ny, agY] <;> (subst hc; rfl)
      have hno : ny y = false → agY y = true := by
       intro h
       cases y <;> simp_all [dh, ny, agY]
      clear he
      cases e <;> simp only [apm, stE]
      all_goals
       cases ho : ny y with
       | true => simp [hone ho]
       | false => simp [hno ho]
     simp [hk, e2]
    ·simp [hk]
theorem aoA {k nx o T sz i f : Nat} {ob : aF} {ag : Bool} {cs ecs es : List PV} (hk : k = cs.length) (hf : f + cs.length ≤ ecs.length) :
  stP (some k) ob nx o T sz i f ag (some cs) es (some (.agg ecs)) = some (.val undef, upd ob o (some (T, sz, es.set i (.agg (gD ecs f cs)))), nx) := by
 simp [stP, stE, hk, hf]
theorem aso {nx o T i : Nat} {ob : aF} {es : List PV} {v : Value} {c : PV} :
  stP (some 1) ob nx o T 1 i 0 false (some [c]) es (some (.val v)) = some (.val undef, upd ob o (some (T, 1, es.set i c)), nx) := rfl
theorem an9 {nx o T i k sz : Nat} {b : Bool} {ob : aF} {es l : List PV} {c : PV} :
  stP (some 1) ob nx o T 1 i 0 false (some [c]) es (some (.lst b sz l)) = some (.val undef, upd ob o (some (T, 1, es.set i c)), nx) := rfl
theorem an6 {nx o T i a b' c' d : Nat} {ob : aF} {es : List PV} {c : PV} :
  stP (some 1) ob nx o T 1 i 0 false (some [c]) es (some (.row a b' c' d)) = some (.val undef, upd ob o (some (T, 1, es.set i c)), nx) := rfl
theorem arD {nx o T i a b' c' d : Nat} {ob : aF} {es : List PV} {c : PV} :
  stP (some 1) ob nx o T 1 i 0 false (some [c]) es (some (.own a b' c' d)) = some (.val undef, upd ob o (some (T, 1, es.set i c)), nx) := rfl
theorem arz {α β : Type} {f : α → β} {xs : List α} {i : Nat} {y : α} : (xs.map f).set i (f y) = (xs.set i y).map f := by rw [List.map_set]
theorem ahT {α : Type} (l new : List α) : gD l 0 new = new ++ l.drop new.length := by simp [gD]
theorem iY {α : Type} (x : α) (l : List α) (n : Nat) (new : List α) : gD (x :: l) (n + 1) new = x :: gD l n new := by
 simp [gD, Nat.add_right_comm n 1]
theorem axe {α : Type} (x : α) (l : List α) (new : List α) : gD (x :: l) 1 new = x :: gD l 0 new := iY x l 0 new
theorem awP {α : Type} (x : α) (l : List α) (new : List α) : gD (x :: l) 2 new = x :: gD l 1 new := iY x l 1 new
theorem axm {α : Type} (x : α) (l : List α) (new : List α) : gD (x :: l) 3 new = x :: gD l 2 new := iY x l 2 new
theorem awN {α : Type} (x : α) (l : List α) (new : List α) : gD (x :: l) 4 new = x :: gD l 3 new := iY x l 3 new
theorem axh {α : Type} (x : α) (l : List α) (new : List α) : gD (x :: l) 5 new = x :: gD l 4 new := iY x l 4 new
theorem ayb {α : Type} (x : α) (l : List α) (new : List α) : gD (x :: l) 6 new = x :: gD l 5 new := iY x l 5 new
theorem avq {α : Type} (x : α) (l : List α) (new : List α) : gD (x :: l) 7 new = x :: gD l 6 new := iY x l 6 new
structure Dec (α : Type) where
 d : PV → Option α
 e : α → PV
 h : ∀ p a, d p = some a → p = e a
 h' : ∀ a, d (e a) = some a
def F0 (F : Option PV) : Fun := fun ps => match ps with | [] => F | _ => none
def F1 {α : Type} (A : Dec α) (F : α → Option PV) : Fun := fun ps => match ps with | [p] => (A.d p).bind F | _ => none
def F2 {α β : Type} (A : Dec α) (B : Dec β) (F : α → β → Option PV) : Fun := fun ps => match ps with | [p, q] => (A.d p).bind fun a => (B.d q).bind fun b => F a b | _ => none
def F3 {α β γ : Type} (A : Dec α) (B : Dec β) (C : Dec γ) (F : α → β → γ → Option PV) : Fun := fun ps => match ps with | [p, q, r] => (A.d p).bind fun a => (B.d q).bind fun b => (C.d r).bind fun c => F a b c | _ => none
def F4 {α β γ δ : Type} (A : Dec α) (B : Dec β) (C : Dec γ) (D : Dec δ) (F : α → β → γ → δ → Option PV) : Fun := fun ps => match ps with | [p, q, r, s] => (A.d p).bind fun a => (B.d q).bind fun b => (C.d r).bind fun c => (D.d s).bind fun d => F a b c d | _ => none
section
variable {α β γ δ : Type} {A : Dec α} {B : Dec β} {C : Dec γ} {D : Dec δ} {ps : List PV} {r : PV}
theorem apy {F : Option PV} (h : F0 F ps = some r) : ps = [] ∧ F = some r := by
 unfold F0 at h
 split at h
 ·exact ⟨rfl, h⟩
 ·cases h
theorem bY {F : α → Option PV} (h : F1 A F ps = some r) : ∃ a, ps = [A.e a] ∧ F a = some r := by
 unfold F1 at h
 split at h
 ·rw [Option.bind_eq_some_iff] at h
  obtain ⟨a, h1, h2⟩ := h
  exact ⟨a, by rw [A.h _ _ h1], h2⟩
 ·cases h
theorem dA {F : α → β → Option PV} (h : F2 A B F ps = some r) : ∃ a b, ps = [A.e a, B.e b] ∧ F a b = some r := by
 unfold F2 at h
 split at h
 ·simp only [Option.bind_eq_some_iff] at h
  obtain ⟨a, h1, b, h2, h3⟩ := h
  exact ⟨a, b, by rw [A.h _ _ h1, B.h _ _ h2], h3⟩
 ·cases h
theorem jq {F : α → β → γ → Option PV} (h : F3 A B C F ps = some r) : ∃ a b c, ps = [A.e a, B.e b, C.e c] ∧ F a b c = some r := by
 unfold F3 at h
 split at h
 ·simp only [Option.bind_eq_some_iff] at h
  obtain ⟨a, h1, b, h2, c, h3, h4⟩ := h
  exact ⟨a, b, c, by rw [A.h _ _ h1, B.h _ _ h2, C.h _ _ h3], h4⟩
 ·cases h
theorem aio {F : α → β → γ → δ → Option PV} (h : F4 A B C D F ps = some r) : ∃ a b c d, ps = [A.e a, B.e b, C.e c, D.e d] ∧ F a b c d = some r := by
 unfold F4 at h
 split at h
 ·simp only [Option.bind_eq_some_iff] at h
  obtain ⟨a, h1, b, h2, c, h3, d, h4, h5⟩ := h
  exact ⟨a, b, c, d, by rw [A.h _ _ h1, B.h _ _ h2, C.h _ _ h3, D.h _ _ h4], h5⟩
 ·cases h
theorem jM {F : α → Option PV} (a : α) : F1 A F [A.e a] = F a := by simp [F1, A.h']
theorem kX {F : α → β → Option PV} (a : α) (b : β) : F2 A B F [A.e a, B.e b] = F a b := by simp [F2, A.h', B.h']
theorem aa0 {F : α → β → γ → Option PV} (a : α) (b : β) (c : γ) : F3 A B C F [A.e a, B.e b, C.e c] = F a b c := by simp [F3, A.h', B.h', C.h']
theorem axg {F : α → β → γ → δ → Option PV} (a : α) (b : β) (c : γ) (d : δ) : F4 A B C D F [A.e a, B.e b, C.e c, D.e d] = F a b c d := by simp [F4, A.h', B.h', C.h', D.h']
end
def dI : Dec Int := { d := fun | .val (.int .i64 n) => some n | _ => none, e := fun n => .val (.int .i64 n), h := fun p a h => by split at h <;> simp_all, h' := fun a => rfl }
def dU : Dec Int := { d := fun | .val (.int .u8 n) => some n | _ => none, e := fun n => .val (.int .u8 n), h := fun p a h => by split at h <;> simp_all, h' := fun a => rfl }
def dB : Dec Bool := { d := fun | .val (.bool n) => some n | _ => none, e := fun n => .val (.bool n), h := fun p a h => by split at h <;> simp_all, h' := fun a => rfl }
def dS : Dec ByteArray := { d := fun | .val (.string n) => some n | _ => none, e := fun n => .val (.string n), h := fun p a h => by split at h <;> simp_all, h' := fun a => rfl }
def dFn (f : Nat) : Dec Unit where
 d := fun | .val (.func (.func g) a b) => if g = f ∧ a.size = 0 ∧ b.size = 0 then some () else none | _ => none
 e := fun _ => .val (.func (.func f) #[] #[])
 h := fun p a h => by
  split at h
  ·split at h
   ·rename_i hh
    obtain ⟨rfl, h1, h2⟩ := hh
    rw [Array.eq_empty_of_size_eq_zero h1, Array.eq_empty_of_size_eq_zero h2]
   ·cases h
  ·cases h
 h' := fun a => by simp
theorem ade {α : Type} (A : Dec α) : ∀ {es : List PV} {l : List α}, es.mapM A.d = some l → es = l.map A.e
 | [], l, h => by simp only [List.mapM_nil, Option.pure_def, Option.some.injEq] at h; subst h; rfl
 | e :: es, l, h => by
  rw [mapM_cons', Option.bind_eq_some_iff] at h
  obtain ⟨a, h1, h2⟩ := h
  rw [Option.map_eq_some_iff] at h2
  obtain ⟨l', h3, rfl⟩ := h2
  rw [List.map_cons, A.h _ _ h1, ade A h3]
theorem adM {α : Type} (A : Dec α) : ∀ (l : List α), (l.map A.e).mapM A.d = some l
 | [] => rfl
 | a :: l => by rw [List.map_cons, mapM_cons', A.h', adM A l]; rfl
def dL {α : Type} (sz : Nat) (A : Dec α) : Dec (List α) where
 d := fun | .lst false s es => if s = sz then es.mapM A.d else none | _ => none
 e := fun l => .lst false sz (l.map A.e)
 h := fun p a h => by
  split at h
  ·split at h
   ·rename_i hs
    subst hs
    rw [ade A h]
   ·cases h
  ·cases h
 h' := fun a => by
  show (if sz = sz then (a.map A.e).mapM A.d else none) = some a
  rw [if_pos rfl, adM]
abbrev dIs := dL 1 dI
abbrev dUs := dL 1 dU
abbrev dSs := dL 1 dS
def dA2 {α β : Type} (A : Dec α) (B : Dec β) : Dec (α × β) where
 d := fun | .agg [p, q] => (A.d p).bind fun a => (B.d q).map fun b => (a, b) | _ => none
 e := fun x => .agg [A.e x.1, B.e x.2]
 h := fun p a h => by
  split at h
  ·simp only [Option.bind_eq_some_iff, Option.map_eq_some_iff] at h
   obtain ⟨x, h1, y, h2, rfl⟩ := h
   rw [A.h _ _ h1, B.h _ _ h2]
  ·cases h
 h' := fun a => by simp [A.h', B.h']
def dA3 {α β γ : Type} (A : Dec α) (B : Dec β) (C : Dec γ) : Dec (α × β × γ) where
 d := fun | .agg [p, q, r] => (A.d p).bind fun a => (B.d q).bind fun b => (C.d r).map fun c => (a, b, c) | _ => none
 e := fun x => .agg [A.e x.1, B.e x.2.1, C.e x.2.2]
 h := fun p a h => by
  split at h
  ·simp only [Option.bind_eq_some_iff, Option.map_eq_some_iff] at h
   obtain ⟨x, h1, y, h2, z, h3, rfl⟩ := h
   rw [A.h _ _ h1, B.h _ _ h2, C.h _ _ h3]
  ·cases h
 h' := fun a => by simp [A.h', B.h', C.h']
def dA4 {α β γ δ : Type} (A : Dec α) (B : Dec β) (C : Dec γ) (D : Dec δ) : Dec (α × β × γ × δ) where
 d := fun | .agg [p, q, r, s] => (A.d p).bind fun a => (B.d q).bind fun b => (C.d r).bind fun c => (D.d s).map fun d => (a, b, c, d) | _ => none
 e := fun x => .agg [A.e x.1, B.e x.2.1, C.e x.2.2.1, D.e x.2.2.2]
 h := fun p a h => by
  split at h
  ·simp only [Option.bind_eq_some_iff, Option.map_eq_some_iff] at h
   obtain ⟨x, h1, y, h2, z, h3, t, h4, rfl⟩ := h
   rw [A.h _ _ h1, B.h _ _ h2, C.h _ _ h3, D.h _ _ h4]
  ·cases h
 h' := fun a => by simp [A.h', B.h', C.h', D.h']
def dA5 {α β γ δ ε : Type} (A : Dec α) (B : Dec β) (C : Dec γ) (D : Dec δ) (E : Dec ε) : Dec (α × β × γ × δ × ε) where
 d := fun | .agg [p, q, r, s, t] => (A.d p).bind fun a => (B.d q).bind fun b => (C.d r).bind fun c => (D.d s).bind fun d => (E.d t).map fun e => (a, b, c, d, e) | _ => none
 e := fun x => .agg [A.e x.1, B.e x.2.1, C.e x.2.2.1, D.e x.2.2.2.1, E.e x.2.2.2.2]
 h := fun p a h => by
  split at h
  ·simp only [Option.bind_eq_some_iff, Option.map_eq_some_iff] at h
   obtain ⟨x, h1, y, h2, z, h3, t, h4, u, h5, rfl⟩ := h
   rw [A.h _ _ h1, B.h _ _ h2, C.h _ _ h3, D.h _ _ h4, E.h _ _ h5]
  ·cases h
 h' := fun a => by simp [A.h', B.h', C.h', D.h', E.h']
theorem bQ {α β γ δ ε : Type} (A : Dec α) (B : Dec β) (C : Dec γ) (D : Dec δ) (E : Dec ε) : (dA5 A B C D E).e = fun x => .agg [A.e x.1, B.e x.2.1, C.e x.2.2.1, D.e x.2.2.2.1, E.e x.2.2.2.2] := rfl
theorem eX : dI.e = fun n => .val (.int .i64 n) := rfl
theorem fq : dU.e = fun n => .val (.int .u8 n) := rfl
theorem eT : dB.e = fun n => .val (.bool n) := rfl
theorem fE : dS.e = fun n => .val (.string n) := rfl
theorem bS (f : Nat) : (dFn f).e = fun _ => .val (.func (.func f) #[] #[]) := rfl
theorem fA {α : Type} (sz : Nat) (A : Dec α) : (dL sz A).e = fun l => .lst false sz (l.map A.e) := rfl
theorem bO {α β : Type} (A : Dec α) (B : Dec β) : (dA2 A B).e = fun x => .agg [A.e x.1, B.e x.2] := rfl
theorem bP {α β γ : Type} (A : Dec α) (B : Dec β) (C : Dec γ) : (dA3 A B C).e = fun x => .agg [A.e x.1, B.e x.2.1, C.e x.2.2] := rfl
theorem bR {α β γ δ : Type} (A : Dec α) (B : Dec β) (C : Dec γ) (D : Dec δ) : (dA4 A B C D).e = fun x => .agg [A.e x.1, B.e x.2.1, C.e x.2.2.1, D.e x.2.2.2] := rfl
theorem asN (f : Nat) : atg (.val (.func (.func f) #[] #[])) = some f := rfl
theorem alo {P : Program} {Γ : Ctx} {ob : aF} {tm : Nat → PV} {ty : Nat} {x : Operand} {xs : Array Operand} {ts : Array TypeId} : aY P Γ ob (look tm) ty (.call { callee := .value x, args := xs, argTypes := ts }) =
  (match atg (look tm x) with | some f => ah Γ ob f (xs.toList.map (look tm)) | none => none) := by
 simp only [aY]
 cases atg (look tm x) with
 | none => rfl
 | some f => rfl
section
variable {P : Program} {Γ : Ctx} {ob : aF} {ρ : Operand → PV} {ty : Nat}
theorem aoZ (x : Operand) : aY P Γ ob ρ ty (.move x) = some (ρ x) := rfl
theorem ahy (x : Operand) : aY P Γ ob ρ ty (.assign x) = some (ρ x) := rfl
def axl (c x y : PV) : Option PV := match c with | .val (.bool b) => some (if b then x else y) | _ => none
theorem asA (b : Bool) (x y : PV) : axl (.val (.bool b)) x y = some (if b = true then x else y) := rfl
theorem asX (c x y : Operand) : aY P Γ ob ρ ty (.pick c x y) = axl (ρ c) (ρ x) (ρ y) := by simp only [aY]; rfl
theorem alJ (t : Nat) (ps : Array (Nat × Operand)) : aY P Γ ob ρ ty (.build t ps) = bN P t (partsOf ρ ps) := rfl
def aAH (r : Option (Nat × Nat × List PV)) : Option PV := match r with | some (_, sz, es) => some (.lst true sz es) | none => none
theorem xX (t n : Nat) (ps : Array (Nat × Operand)) : aY P Γ ob ρ ty (.buildSlice t n ps) = aAH (gP P t n (partsOf ρ ps)) := rfl
def aiP (P : Program) (t : Nat) (x : PV) (c : Option (Nat × Nat × List PV)) : Option PV := match x with
  | .own o sz i f => match c with
   | some (_, sz', es) => if sz = sz' then (es[i]?).bind (adt P t f) else none
   | none => none
  | .ptr _ e f => adt P t f e
  | _ => none
theorem aob (t : Nat) (x : Operand) : aY P Γ ob ρ ty (.load t x) = aiP P t (ρ x) (qL ob (ρ x)) := by
 simp only [aY]
 unfold aiP qL
 cases ρ x <;> rfl
theorem aj5 (t : Nat) (k : Bool) (e : PV) (f : Nat) (c : Option (Nat × Nat × List PV)) : aiP P t (.ptr k e f) c = adt P t f e := rfl
theorem aiv (t o sz i f T : Nat) (es : List PV) : aiP P t (.own o sz i f) (some (T, sz, es)) = (es[i]?).bind (adt P t f) := by simp [aiP]
theorem ame (o sz i n : Nat) : qL ob (.row o sz i n) = ob o := rfl
theorem akp (o sz i f : Nat) : qL ob (.own o sz i f) = ob o := rfl
theorem alc (k : Bool) (e : PV) (f : Nat) : qL ob (.ptr k e f) = none := rfl
theorem aky (v : Value) : qL ob (.val v) = none := rfl
theorem alm (k : Bool) (sz : Nat) (es : List PV) : qL ob (.lst k sz es) = none := rfl
def aA1 : PV → Option PV
  | .own o sz i f => some (.own o sz i f)
  | .ptr k e f => some (.ptr k e f)
  | _ => none
theorem abq (x : Operand) : aY P Γ ob ρ ty (.nilCheck x) = aA1 (ρ x) := rfl
theorem amk (o sz i f : Nat) : aA1 (.own o sz i f) = some (.own o sz i f) := rfl
theorem ana (k : Bool) (e : PV) (f : Nat) : aA1 (.ptr k e f) = some (.ptr k e f) := rfl
def jB (P : Program) (b : BinOp) (t : Nat) (x y : Operand) : Option Value → Option Value → Option PV
 | some u, some v => (ak P (do eqGuard b t x y u v; binOp b t u v)).map .val
 | _, _ => none
theorem adX (b : BinOp) (t : Nat) (x y : Operand) (t' : Nat) : aY P Γ ob ρ ty (.binOp b t x y t') = jB P b t x y (toVal (ρ x)) (toVal (ρ y)) := rfl
section
variable {t : Nat} {x y : Operand} {k : IntKind} {m n : Int}
theorem atX : jB P .add t x y (some (.int k m)) (some (.int k n)) = some (.val (.int k (k.wrap (m + n)))) := by simp only [jB, ax2, Option.map_some]
theorem aut : jB P .sub t x y (some (.int k m)) (some (.int k n)) = some (.val (.int k (k.wrap (m - n)))) := by simp only [jB, ayp, Option.map_some]
theorem ayT : jB P .mul t x y (some (.int k m)) (some (.int k n)) = some (.val (.int k (k.wrap (m * n)))) := by simp only [jB, ayG, Option.map_some]
theorem ayO (h : n ≠ 0) : jB P .quo t x y (some (.int k m)) (some (.int k n)) = some (.val (.int k (k.wrap (m.tdiv n)))) := by simp only [jB, auB h, Option.map_some]
theorem axx (h : n ≠ 0) : jB P .rem t x y (some (.int k m)) (some (.int k n)) = some (.val (.int k (m.tmod n))) := by simp only [jB, auo h, Option.map_some]
theorem awQ : jB P .lss t x y (some (.int k m)) (some (.int k n)) = some (.val (.bool (decide (m < n)))) := by simp only [jB, ayW, Option.map_some]
theorem axQ : jB P .leq t x y (some (.int k m)) (some (.int k n)) = some (.val (.bool (decide (m ≤ n)))) := by simp only [jB, aui, Option.map_some]
theorem auD : jB P .gtr t x y (some (.int k m)) (some (.int k n)) = some (.val (.bool (decide (n < m)))) := by simp only [jB, atJ, Option.map_some]
theorem ayK : jB P .geq t x y (some (.int k m)) (some (.int k n)) = some (.val (.bool (decide (n ≤ m)))) := by simp only [jB, aw8, Option.map_some]
theorem axP : jB P .eql t x y (some (.int k m)) (some (.int k n)) = some (.val (.bool (decide (m = n)))) := by simp only [jB, aua, Option.map_some]
theorem ayY : jB P .neq t x y (some (.int k m)) (some (.int k n)) = some (.val (.bool (!decide (m = n)))) := by simp only [jB, ayF, Option.map_some]
theorem anw {a b : Bool} (h : P.underlying t = some .bool) : ak P (Op.equal t (.bool a) (.bool b)) = some (a == b) := by
 unfold Op.equal Op.maxDepth
 rw [show (10000 : Nat) = 9999 + 1 from rfl, Op.equalIn]
 simp [underlying, Go.program, bind, Sem.bind, pure, ak, h]
theorem fH {α β : Type} {P : Program} {m : Sem α} {x : α} (h : ak P m = some x) (f : α → Sem β) : ak P (m >>= f) = ak P (f x) := by
 show ak P (m.bind f) = _
 induction m with
 | pure a => simp only [ak, Option.some.injEq] at h; subst h; rfl
 | program k ih => simp only [ak] at h; simp only [Sem.bind, ak]; exact ih P h
 | _ => simp [ak] at h
theorem aqT {a b : Bool} (h : P.underlying t = some .bool) : jB P .eql t x y (some (.bool a)) (some (.bool b)) = some (.val (.bool (a == b))) := by
 have h1 : ak P (eqGuard .eql t x y (.bool a) (.bool b)) = some () := by simp [eqGuard, pure, ak]
 have h2 : ak P (binOp .eql t (.bool a) (.bool b)) = some (.bool (a == b)) := by
  show ak P (Op.equal t (.bool a) (.bool b) >>= fun r => pure (Value.bool r)) = _
  rw [fH (anw h)]
  rfl
 simp only [jB]
 rw [fH h1, h2]
 rfl
theorem an5 {a b : Bool} (h : P.underlying t = some .bool) : jB P .neq t x y (some (.bool a)) (some (.bool b)) = some (.val (.bool (!(a == b)))) := by
 have h1 : ak P (eqGuard .neq t x y (.bool a) (.bool b)) = some () := by simp [eqGuard, pure, ak]
 have h2 : ak P (binOp .neq t (.bool a) (.bool b)) = some (.bool (!(a == b))) := by
  show ak P (Op.equal t (.bool a) (.bool b) >>= fun r => pure (Value.bool (!r))) = _
  rw [fH (anw h)]
  rfl
 simp only [jB]
 rw [fH h1, h2]
 rfl
end
def unP (P : Program) (u : UnOp) : Option Value → Option PV
 | some v => (ak P (Op.unary u v)).map .val
 | none => none
theorem as8 (u : UnOp) (t : Nat) (x : Operand) : aY P Γ ob ρ ty (.unOp u t x) = unP P u (toVal (ρ x)) := rfl
theorem axF {b : Bool} : unP P .not (some (.bool b)) = some (.val (.bool !b)) := by simp only [unP, avi, Option.map_some]
theorem av8 {k : IntKind} {n : Int} : unP P .neg (some (.int k n)) = some (.val (.int k (k.wrap (0 - n)))) := by simp only [unP, aus, Option.map_some]
def dK (P : Program) (src dst : Nat) (b : Bool) (es : Option (List PV)) (v : Option Value) : Option PV :=
 if b = true then (es.bind iP).map fun ns => .val (.string (bytesOf ns)) else match v with | some v => (ak P (convert src dst v)).map .val | none => none
theorem afx (src dst : Nat) (x : Operand) : aY P Γ ob ρ ty (.convert src dst x) = dK P src dst (aB P src && isStr P dst) (bZ ob 1 (ρ x)) (toVal (ρ x)) := by
 simp only [aY, dK]
 by_cases h : aB P src = true ∧ isStr P dst = true
 ·rw [if_pos h, if_pos (by simp [h.1, h.2])]
 ·rw [if_neg h, if_neg (by simpa using h)]
  cases toVal (ρ x) <;> rfl
theorem bU {src dst : Nat} {d : TypeDesc} {k k' : IntKind} {n : Int} {es : Option (List PV)} (h : P.underlying src = some d) (h' : P.underlying dst = some (.int k')) : dK P src dst false es (some (.int k n)) = some (.val (.int k' (k'.wrap n))) := by
 simp [dK, aoY h h']
theorem ayu {src dst : Nat} {es : List PV} {v : Option Value} : dK P src dst true (some es) v = (iP es).map fun ns => .val (.string (bytesOf ns)) := by
 simp [dK]
def azd (k : Option Nat) : PV → Option PV
 | .own o sz i c => match k with | some k => some (.own o sz i (c + k)) | none => none
 | .ptr b e c => match k with | some k => some (.ptr b e (c + k)) | none => none
 | _ => none
theorem aaU (t : Nat) (x : Operand) (f : Nat) : aY P Γ ob ρ ty (.fieldAddr t x f) = azd (aD P t f) (ρ x) := by
 simp only [aY]
 unfold azd
 cases ρ x <;> cases aD P t f <;> rfl
theorem amn (k o sz i c : Nat) : azd (some k) (.own o sz i c) = some (.own o sz i (c + k)) := rfl
theorem akT (k : Nat) (b : Bool) (e : PV) (c : Nat) : azd (some k) (.ptr b e c) = some (.ptr b e (c + k)) := rfl
def aCU (P : Program) (t : Nat) (x : PV) : PV → Option PV
 | .val (.int _ n) => aP P t x n
 | _ => none
theorem zH (t : Nat) (x i : Operand) : aY P Γ ob ρ ty (.indexAddr t x i) = aCU P t (ρ x) (ρ i) := by
 simp only [aY]
 unfold aCU asI
 split <;> (split at * <;> simp_all)
theorem akh (t : Nat) (x : PV) (k : IntKind) (n : Int) : aCU P t x (.val (.int k n)) = aP P t x n := rfl
def azh (P : Program) (t : Nat) : Option Value → Option Value → Option PV
 | some u, some v => (ak P (Instr.index t u v)).map .val
 | _, _ => none
theorem akt (t : Nat) (x i : Operand) : aY P Γ ob ρ ty (.index t x i) = azh P t (toVal (ρ x)) (toVal (ρ i)) := rfl
def aDE (i : Nat) : PV → Option PV
 | .tup vs => vs[i]?
 | _ => none
theorem aff (x : Operand) (i : Nat) : aY P Γ ob ρ ty (.extract x i) = aDE i (ρ x) := rfl
theorem alT (i : Nat) (vs : List PV) : aDE i (.tup vs) = vs[i]? := rfl
def mF (P : Program) (t ty : Nat) (x : PV) : Option PV := match ac6 P t x with
 | some p => some p
 | none => match toVal x with
  | some v => ((ak P (Builtin.len_ #[t] ty #[v]))).map .val
  | none => none
theorem axY (x : Operand) (t : Nat) : aY P Γ ob ρ ty (.call { callee := .builtin .len, args := #[x], argTypes := #[t] }) = mF P t ty (ρ x) := rfl
theorem qX {t ty sz e : Nat} {k : Bool} {es : List PV} (h : eY P t = some e) : mF P t ty (.lst k sz es) = some (.val (.int .i64 es.length)) := by simp [mF, ac6, h]
theorem qY {t ty o sz i n e : Nat} (h : eY P t = some e) : mF P t ty (.row o sz i n) = some (.val (.int .i64 n)) := by simp [mF, ac6, h]
theorem ayh {t ty : Nat} {s : ByteArray} (h : P.underlying t = some .string) : mF P t ty (.val (.string s)) = some (.val (.int .i64 s.size)) := by simp [mF, ac6, toVal, apL h]
theorem qV {t ty e : Nat} (h : P.underlying t = some (.slice e)) : mF P t ty (.val (.slice none 0 0)) = some (.val (.int .i64 0)) := by
 simp [mF, ac6, toVal, Builtin.len_, underlying, Go.program, bind, Sem.bind, pure, ak, h, goInt]
theorem axk (xs : Array Operand) (ts : Array TypeId) : aY P Γ ob ρ ty (.call { callee := .builtin .max, args := xs, argTypes := ts }) = (match kT (xs.toList.map ρ) with | some vs => (ak P (Builtin.max_ ts ty vs.toArray)).map .val | none => none) := rfl
theorem awn (xs : Array Operand) (ts : Array TypeId) : aY P Γ ob ρ ty (.call { callee := .builtin .min, args := xs, argTypes := ts }) = (match kT (xs.toList.map ρ) with | some vs => (ak P (Builtin.min_ ts ty vs.toArray)).map .val | none => none) := rfl
def ato (P : Program) (t : Nat) (x : PV) (lo hi : Option (Option Int)) : Option PV := match x with
  | .val (.string s) => match lo, hi with
   | some l, some h => (ak P (Instr.sliceAt t (.string s) (l.map (Value.int .i64)) (h.map (Value.int .i64)) none)).map .val
   | _, _ => none
  | p => match lo, hi with
   | some l, some h => bV P t p l h
   | _, _ => none
theorem amT (t : Nat) (x : Operand) (lo hi : Option Operand) : aY P Γ ob ρ ty (.slice t x lo hi none) = ato P t (ρ x) (akf (lo.map ρ)) (akf (hi.map ρ)) := by
 simp only [aY]
 unfold ato
 cases ρ x with
 | val v => cases v <;> rfl
 | _ => rfl
theorem atU (t : Nat) (k : Bool) (sz : Nat) (es : List PV) (lo hi : Option Int) : ato P t (.lst k sz es) (some lo) (some hi) = bV P t (.lst k sz es) lo hi := rfl
theorem avc (t : Nat) (o sz i n : Nat) (lo hi : Option Int) : ato P t (.row o sz i n) (some lo) (some hi) = bV P t (.row o sz i n) lo hi := rfl
def axT (t : Nat) (s : AS) (x : PV) : Option (List PV) → Option (PV × aF × Nat)
 | some cs => some (.own s.nx cs.length 0 0, upd s.ob s.nx (some (t, cs.length, [x])), s.nx + 1)
 | none => none
theorem avE (s : AS) (t : Nat) (x : Operand) : aQ P Γ s ρ (.box t x) = axT t s (ρ x) (dh (ρ x)) := rfl
theorem as4 (t : Nat) (s : AS) (x : PV) (cs : List PV) : axT t s x (some cs) = some (.own s.nx cs.length 0 0, upd s.ob s.nx (some (t, cs.length, [x])), s.nx + 1) := rfl
def aDC (n : Nat) (s : AS) : Option (Nat × Nat × List PV) → Option (PV × aF × Nat)
 | some (e, sz, es) => some (.row s.nx sz 0 n, upd s.ob s.nx (some (e, sz, es)), s.nx + 1)
 | none => none
theorem yx (s : AS) (t n : Nat) (ps : Array (Nat × Operand)) : aQ P Γ s ρ (.buildSlice t n ps) = aDC n s (gP P t n (partsOf ρ ps)) := rfl
theorem aoD (n : Nat) (s : AS) (e sz : Nat) (es : List PV) : aDC n s (some (e, sz, es)) = some (.row s.nx sz 0 n, upd s.ob s.nx (some (e, sz, es)), s.nx + 1) := rfl
theorem aeT {v : Value} (h : v.oneCell' = true) : dh (.val v) = some [.val v] := by simp [dh, ny, h]
theorem afL (k : Bool) (sz : Nat) (es : List PV) : dh (.lst k sz es) = some [.lst k sz es] := rfl
theorem afV (o sz i n : Nat) : dh (.row o sz i n) = some [.row o sz i n] := rfl
theorem aeO (o sz i n : Nat) : dh (.own o sz i n) = some [.own o sz i n] := rfl
theorem wK {cs : List PV} (h : cs.all ny = true) : dh (.agg cs) = some cs := by simp [dh, h]
theorem amL (v : Value) : ny (.val v) = v.oneCell' := rfl
theorem aku (k : Bool) (sz : Nat) (es : List PV) : ny (.lst k sz es) = true := rfl
theorem alx (o sz i n : Nat) : ny (.row o sz i n) = true := rfl
theorem al6 (o sz i n : Nat) : ny (.own o sz i n) = true := rfl
def aur (ag : Option Bool) (k : Option Nat) (f : Nat) : Option (List PV) → Option PV
 | some cs => match ag, k with
  | some true, some k => if f + k ≤ cs.length then some (.agg ((cs.drop f).take k)) else none
  | some false, _ => cs[f]?
  | _, _ => none
 | none => none
theorem arU (t f : Nat) (e : PV) : adt P t f e = aur (eu P t) (aR P t) f (dh e) := by
 unfold adt aur
 cases dh e <;> cases eu P t <;> cases aR P t <;> first | rfl | (rename_i b _; cases b <;> rfl) | (rename_i b; cases b <;> rfl) | skip
theorem alU (k : Option Nat) (f : Nat) (cs : List PV) : aur (some false) k f (some cs) = cs[f]? := by cases k <;> rfl
theorem akR (k f : Nat) (cs : List PV) (h : f + k ≤ cs.length) : aur (some true) (some k) f (some cs) = some (.agg ((cs.drop f).take k)) := by simp [aur, h]
end
theorem am9 {a b : Int} (h : 0 ≤ a) (h1 : 1 ≤ b) (h2 : a ≤ 4611686018427387904) : IntKind.i64.wrap (a / b) = a / b := by
 have := Int.ediv_nonneg h (show 0 ≤ b by omega)
 have := Int.ediv_le_self b h
 exact eF (by omega) (by omega)
theorem ala {a b : Int} (h : 0 ≤ a) : a.tdiv b = a / b := Int.tdiv_eq_ediv_of_nonneg h
theorem aly {a b : Int} (h : 0 ≤ a) : a.tmod b = a % b := Int.tmod_eq_emod_of_nonneg h
theorem aeK (k : IntKind) (n : Int) : dh (.val (.int k n)) = some [.val (.int k n)] := rfl
theorem acf (b : Bool) : dh (.val (.bool b)) = some [.val (.bool b)] := rfl
theorem aeR (b : ByteArray) : dh (.val (.string b)) = some [.val (.string b)] := rfl
theorem omg {α β : Type} {f : α → β} {l : List α} {k : Nat} {d : α} (h : k < l.length) : Option.map f l[k]? = some (f (l[k]?.getD d)) := by simp [h]
theorem jU {β : Type} {f : Int → β} {l : List Int} {k : Nat} (h : k < l.length) : Option.map f l[k]? = some (f (l[k]?.getD 0)) := omg h
theorem aBj {β : Type} {f : Bool → β} {l : List Bool} {k : Nat} (h : k < l.length) : Option.map f l[k]? = some (f (l[k]?.getD false)) := omg h
theorem ni {β : Type} {f : ByteArray → β} {l : List ByteArray} {k : Nat} (h : k < l.length) : Option.map f l[k]? = some (f (l[k]?.getD .empty)) := omg h
theorem acg (cs : List PV) : dh (.agg cs) = if cs.all ny = true then some cs else none := rfl
attribute [push_cast]
 aqB alo asN aoZ ahy asA asX alJ aAH xX aob aj5 aiv ame akp alc aky alm abq amk ana adX atX aut ayT ayO axx awQ axQ auD ayK axP ayY as8 axF av8 afx ayu aaU amn akT akh zH akt aff alT axY axk awn amT atU avc avE as4 yx aoD aeK acf aeR aeT jU aBj ni afL afV aeO acg amL aku alx al6 arU alU akR bZ asy ali akq ayz akQ asj aoe aqi apP arl aoA aso an9 an6 arD arz ahT axe awP axm awN axh ayb avq List.set_cons_zero List.drop_succ_cons List.drop_zero List.drop_nil List.nil_append List.cons_append List.take_succ_cons List.take_zero List.length_set afE afu afi afN nS tK afD afo aeW alE alf List.length_replicate look aiA aym amj aap beq_none abb yN vT ajb iy kT asI akf List.map_cons List.map_nil Option.map_some Option.map_none Option.bind_some List.getElem?_cons_zero List.getElem?_cons_succ List.getElem?_nil Option.getD_some Option.getD_none aj3 ajW ajn ai0 ahp decide_true decide_false Bool.true_and Bool.false_and Bool.and_true Bool.and_false Bool.or_true Bool.or_false Bool.true_or Bool.false_or Bool.not_true Bool.not_false Bool.not_not decide_eq_true_eq decide_eq_false_iff_not Bool.not_eq_true' Bool.not_eq_false' if_true if_false ite_true ite_false Bool.false_eq_true axX avS eF am9 ala aly List.length_map List.getElem?_map Int.toNat_natCast afk af5 toNat_add Int.natCast_nonneg and_self and_true true_and Nat.zero_add Nat.add_zero Int.natCast_zero Int.natCast_one Int.natCast_add at7 ax4 awF axy Value.oneCell' List.all_cons List.all_nil List.length_cons List.length_nil Option.isSome_some mapM_nil' mapM_cons' afJ iv bv sv al3 agree nE List.lookup_nil List.lookup_cons beq_self_eq_true al0
attribute [push_cast]
 sK agJ aiY ais asv aoF
end Go.Proofs.YtngcedklbinhjaaGreatDoor
namespace Go.Proofs.YtngcedklbinhjaaGreatDoor
open Go.RowKit
set_option linter.all false
section
variable {P : Program} {t : Nat} {x y : Operand}
def at8 (s : ByteArray) (i : Nat) : Int := ((s[i]?).getD 0).toNat
theorem iM (s : ByteArray) (i : Nat) : 0 ≤ at8 s i ∧ at8 s i ≤ 255 := by
 unfold at8
 have := ((s[i]?).getD 0).toNat_lt
 omega
theorem aaF (a b : ByteArray) : (a.toList == b.toList) = decide (a = b) := by
 rw [Bool.eq_iff_iff, decide_eq_true_eq, beq_iff_eq]
 constructor
 ·intro h
  rw [Go.ByteArray.toList_eq, Go.ByteArray.toList_eq] at h
  obtain ⟨x⟩ := a
  obtain ⟨y⟩ := b
  simpa using h
 ·rintro rfl
  rfl
theorem alP {a b : ByteArray} : ak P (do eqGuard .eql t x y (.string a) (.string b); binOp .eql t (.string a) (.string b)) = some (.bool (a.toList == b.toList)) := by
 simp [eqGuard, binOp, Op.stringOp, bind, Sem.bind, pure, ak]
theorem akP {a b : ByteArray} : ak P (do eqGuard .neq t x y (.string a) (.string b); binOp .neq t (.string a) (.string b)) = some (.bool (!(a.toList == b.toList))) := by
 simp [eqGuard, binOp, Op.stringOp, bind, Sem.bind, pure, ak]
theorem aoz {a b : ByteArray} : jB P .eql t x y (some (.string a)) (some (.string b)) = some (.val (.bool (decide (a = b)))) := by
 simp only [jB, alP, aaF, Option.map_some]
theorem aq9 {a b : ByteArray} : jB P .neq t x y (some (.string a)) (some (.string b)) = some (.val (.bool (!decide (a = b)))) := by
 simp only [jB, akP, aaF, Option.map_some]
theorem au8 {s : ByteArray} {i : Int} (h : P.underlying t = some .string) (h0 : 0 ≤ i) (h1 : i < s.size) : azh P t (some (.string s)) (some (.int .i64 i)) = some (.val (.int .u8 (at8 s i.toNat))) := by
 have hlt : i.toNat < s.size := by omega
 have hg : s[i.toNat]? = some s[i.toNat] := getElem?_pos s i.toNat hlt
 have : ak P (Instr.index t (.string s) (.int .i64 i)) = some (.int .u8 (at8 s i.toNat)) := by
  simp [Instr.index, asIntOf, underlying, Go.program, bind, Sem.bind, pure, ak, h, h0, hg, at8]
 simp only [azh, this, Option.map_some]
end
def fO : Nat → PV → Bool
 | 0, _ => false
 | _ + 1, .val _ => true
 | _ + 1, .dead => true
 | n + 1, .agg cs => cs.all (fO n)
 | _, _ => false
section
variable {α : Type} {n sz f : Nat} {ob : aF} {k fr : Bool} {g : α → PV} {l : List α}
theorem yu {f : Nat} (h : ∀ x, fO 2 (g x) = true) (hf : 2 ≤ f) : (l.map g).mapM (reify fr n ob f) = some (l.map g) := eH fun e he => by
 obtain ⟨x, _, rfl⟩ := List.mem_map.1 he
 obtain ⟨m, rfl⟩ : ∃ m, f = m + 2 := ⟨f - 2, by omega⟩
 have h2 := h x
 revert h2
 cases g x with
 | val v => intro _; rfl
 | dead => intro _; rfl
 | agg cs =>
  intro h2
  have h3 : ∀ c ∈ cs, fO 1 c = true := by simpa [fO] using h2
  simp only [reify]
  rw [eH fun c hc => ?_]
  ·rfl
  ·have := h3 c hc
   cases c with
   | agg cs' =>
    cases cs' with
    | nil => rfl
    | cons a l => simp [fO] at this
   | val v => rfl
   | dead => rfl
   | _ => simp [fO] at this
 | _ => intro h2; simp [fO] at h2
theorem jl (h : ∀ x, fO 2 (g x) = true) : reify false n ob (f + 3) (.lst k sz (l.map g)) = some (.lst false sz (l.map g)) := by
 show (if false = true ∧ k = false ∧ (l.map g) ≠ [] then none else ((l.map g).mapM (reify false n ob (f + 2))).map (PV.lst false sz)) = _
 rw [yu h (by omega)]
 simp
theorem kK (h : ∀ x, fO 2 (g x) = true) : reify true n ob (f + 3) (.lst true sz (l.map g)) = some (.lst true sz (l.map g)) := by
 show (if true = true ∧ true = false ∧ (l.map g) ≠ [] then none else ((l.map g).mapM (reify true n ob (f + 2))).map (PV.lst true sz)) = _
 rw [yu h (by omega)]
 simp
theorem jZ {m T : Nat} (h : ∀ x, fO 2 (g x) = true) (hm : m = l.length) : om fr (f + 2) ob sz 0 m (some (T, sz, l.map g)) = some (.lst fr sz (l.map g)) := by
 subst hm
 have e : ((l.map g).drop 0).take l.length = l.map g := by
  rw [List.drop_zero, List.take_of_length_le (by simp)]
 simp only [om, e, yu (n := 0) (fr := fr) (ob := ob) h (show 2 ≤ f + 2 by omega), Nat.zero_add, List.length_map, Nat.le_refl, and_self, if_true, Option.map_some]
end
section
variable {α : Type} {n sz f : Nat} {ob : aF} {k fr : Bool} {l : List α} {g1 g2 g3 g4 : α → Value}
theorem ahC : reify false n ob (f + 3) (.lst k sz (l.map fun x => PV.agg [.val (g1 x), .val (g2 x)])) = some (.lst false sz (l.map fun x => PV.agg [.val (g1 x), .val (g2 x)])) := jl fun _ => rfl
theorem ahk : reify true n ob (f + 3) (.lst true sz (l.map fun x => PV.agg [.val (g1 x), .val (g2 x)])) = some (.lst true sz (l.map fun x => PV.agg [.val (g1 x), .val (g2 x)])) := kK fun _ => rfl
theorem amG {m T : Nat} (hm : m = l.length) : om fr (f + 2) ob sz 0 m (some (T, sz, l.map fun x => PV.agg [.val (g1 x), .val (g2 x)])) = some (.lst fr sz (l.map fun x => PV.agg [.val (g1 x), .val (g2 x)])) := jZ (fun _ => rfl) hm
theorem ajX : reify false n ob (f + 3) (.lst k sz (l.map fun x => PV.agg [.val (g1 x), .val (g2 x), .val (g3 x)])) = some (.lst false sz (l.map fun x => PV.agg [.val (g1 x), .val (g2 x), .val (g3 x)])) := jl fun _ => rfl
theorem ajU : reify true n ob (f + 3) (.lst true sz (l.map fun x => PV.agg [.val (g1 x), .val (g2 x), .val (g3 x)])) = some (.lst true sz (l.map fun x => PV.agg [.val (g1 x), .val (g2 x), .val (g3 x)])) := kK fun _ => rfl
theorem alQ {m T : Nat} (hm : m = l.length) : om fr (f + 2) ob sz 0 m (some (T, sz, l.map fun x => PV.agg [.val (g1 x), .val (g2 x), .val (g3 x)])) = some (.lst fr sz (l.map fun x => PV.agg [.val (g1 x), .val (g2 x), .val (g3 x)])) := jZ (fun _ => rfl) hm
theorem agt : reify false n ob (f + 3) (.lst k sz (l.map fun x => PV.agg [.val (g1 x), .val (g2 x), .val (g3 x), .val (g4 x)])) = some (.lst false sz (l.map fun x => PV.agg [.val (g1 x), .val (g2 x), .val (g3 x), .val (g4 x)])) := jl fun _ => rfl
theorem aiB : reify true n ob (f + 3) (.lst true sz (l.map fun x => PV.agg [.val (g1 x), .val (g2 x), .val (g3 x), .val (g4 x)])) = some (.lst true sz (l.map fun x => PV.agg [.val (g1 x), .val (g2 x), .val (g3 x), .val (g4 x)])) := kK fun _ => rfl
theorem alr {m T : Nat} (hm : m = l.length) : om fr (f + 2) ob sz 0 m (some (T, sz, l.map fun x => PV.agg [.val (g1 x), .val (g2 x), .val (g3 x), .val (g4 x)])) = some (.lst fr sz (l.map fun x => PV.agg [.val (g1 x), .val (g2 x), .val (g3 x), .val (g4 x)])) := jZ (fun _ => rfl) hm
end
theorem air {α : Type} {l new : List α} (h : l.length ≤ new.length) : gD l 0 new = new := by simp [gD, h]
abbrev W2 := ByteArray × Int
abbrev I3 := Int × Int × Int
abbrev I4 := Int × Int × Int × Int
def w0 : W2 := (ByteArray.empty, 0)
def i30 : I3 := (0, 0, 0)
def i40 : I4 := (0, 0, 0, 0)
section
variable {β : Type} {i : Nat}
theorem aBd {g : W2 → PV} {l : List W2} (h : i < l.length) : ((l[i]?).map g).getD .dead = g ((l[i]?).getD w0) := by simp [h]
theorem ayk {g : I3 → PV} {l : List I3} (h : i < l.length) : ((l[i]?).map g).getD .dead = g ((l[i]?).getD i30) := by simp [h]
theorem ay2 {g : I4 → PV} {l : List I4} (h : i < l.length) : ((l[i]?).map g).getD .dead = g ((l[i]?).getD i40) := by simp [h]
theorem alW {g : W2 → β} {l : List W2} (h : i < l.length) : Option.map g l[i]? = some (g ((l[i]?).getD w0)) := by simp [h]
theorem avG {g : I3 → β} {l : List I3} (h : i < l.length) : Option.map g l[i]? = some (g ((l[i]?).getD i30)) := by simp [h]
theorem vJ {g : I4 → β} {l : List I4} (h : i < l.length) : Option.map g l[i]? = some (g ((l[i]?).getD i40)) := by simp [h]
theorem aCV {l : List W2} {s : ByteArray} {n : Int} : (l.map fun x => PV.agg [.val (.string x.1), .val (.int .i64 x.2)]).set i (.agg [.val (.string s), .val (.int .i64 n)]) = (l.set i (s, n)).map fun x => PV.agg [.val (.string x.1), .val (.int .i64 x.2)] := by rw [List.map_set]
theorem axC {l : List I3} {a b c : Int} : (l.map fun x => PV.agg [.val (.int .i64 x.1), .val (.int .i64 x.2.1), .val (.int .i64 x.2.2)]).set i (.agg [.val (.int .i64 a), .val (.int .i64 b), .val (.int .i64 c)]) = (l.set i (a, b, c)).map fun x => PV.agg [.val (.int .i64 x.1), .val (.int .i64 x.2.1), .val (.int .i64 x.2.2)] := by rw [List.map_set]
theorem avn {l : List I4} {a b c d : Int} : (l.map fun x => PV.agg [.val (.int .i64 x.1), .val (.int .i64 x.2.1), .val (.int .i64 x.2.2.1), .val (.int .i64 x.2.2.2)]).set i (.agg [.val (.int .i64 a), .val (.int .i64 b), .val (.int .i64 c), .val (.int .i64 d)]) = (l.set i (a, b, c, d)).map fun x => PV.agg [.val (.int .i64 x.1), .val (.int .i64 x.2.1), .val (.int .i64 x.2.2.1), .val (.int .i64 x.2.2.2)] := by rw [List.map_set]
end
abbrev dI4 : Dec I4 := dA4 dI dI dI dI
attribute [push_cast]
 aoz aq9 ahC ahk amG ajX ajU alQ agt aiB alr aBd ayk ay2 alW avG vJ aCV axC avn
attribute [push_cast high]
 air
end Go.Proofs.YtngcedklbinhjaaGreatDoor
namespace Go.Proofs.YtngcedklbinhjaaGreatDoor
open Go.RowKit
set_option linter.all false
def pV (ps : List PV) (cs : List aV) : AS := { tm := fun t => (ps[t]?).getD (.val undef), ob := fun o => cs[o]?, nx := cs.length }
def cZ (out : List Nat) (ob : aF) : Nat → PV → Option PV
 | 0, _ => none
 | n + 1, p => match p with
  | .val v => some (.val v)
  | .dead => some .dead
  | .lst k sz es => (es.mapM (cZ out ob n)).map (.lst k sz)
  | .ptr k e o => (cZ out ob n e).map (.ptr k · o)
  | .own o sz i f => match inn out o with
   | some o' => some (.own o' sz i f)
   | none => match ob o with
    | some (_, sz', es) => if sz = sz' then (es[i]?).bind fun e => (cZ out ob n e).map (.ptr true · f) else none
    | none => none
  | .row o sz i m => match inn out o with
   | some o' => some (.row o' sz i m)
   | none => match ob o with
    | some (_, sz', es) => if sz = sz' ∧ i + m ≤ es.length then (((es.drop i).take m).mapM (cZ out ob n)).map (.lst true sz) else none
    | none => none
  | .agg cs => (cs.mapM (cZ out ob n)).map .agg
  | .tup cs => (cs.mapM (cZ out ob n)).map .tup
def kW (out : List Nat) (ob : aF) (f : Nat) (o : Nat) : Option aV := (ob o).bind fun c => (c.2.2.mapM (cZ out ob f)).map fun es => (c.1, c.2.1, es)
theorem Rep.hand {out : List Nat} {ob : aF} {g g' : Gh} {w : World} (hI : ∀ k b, g.I k b → g'.I k b) (ho : ∀ o o', inn out o = some o' → g'.β o' = g.β o ∧ g'.κ o' = g.κ o ∧ g'.D o')
  (hob : ∀ o c, ob o = some c → rC g w o c) (hfz : ∀ o, (ob o).isSome → inn out o = none → g'.I true (g.β o)) :
  ∀ (f : Nat) (p q : PV) (v : Value), Rep g w p v → cZ out ob f p = some q → Rep g' w q v
 | 0, p, q, v, h, hr => by simp [cZ] at hr
 | f + 1, p, q, v, h, hr => by
  cases p with
  | val u => simp only [cZ, Option.some.injEq] at hr; subst hr; simpa [Rep] using h
  | dead => simp only [cZ, Option.some.injEq] at hr; subst hr; simp [Rep]
  | lst k sz es =>
   simp only [cZ, Option.map_eq_some_iff] at hr
   obtain ⟨es', h1, rfl⟩ := hr
   have hl := (dz h1).1
   simp only [Rep] at h ⊢
   obtain ⟨a, cap, rfl, h2, h3, h4⟩ := h
   refine ⟨a, cap, by rw [hl], by omega, h3, ?_⟩
   rcases h4 with rfl | ⟨b, off, rfl, h5, h6⟩
   ·left; exact List.eq_nil_of_length_eq_zero (by simpa using hl)
   ·right
    exact ⟨b, off, rfl, hI _ _ h5, dx.conv (g := g) (g' := g') (Rep.hand hI ho hob hfz f) h6 h1⟩
  | ptr k e o =>
   simp only [cZ, Option.map_eq_some_iff] at hr
   obtain ⟨e', h1, rfl⟩ := hr
   simp only [Rep] at h ⊢
   obtain ⟨b, off, rfl, h2, u, h3, h4⟩ := h
   exact ⟨b, off, rfl, hI _ _ h2, u, Rep.hand hI ho hob hfz f e e' u h3 h1, h4⟩
  | own o sz i c =>
   simp only [cZ] at hr
   split at hr
   ·rename_i o' hm
    cases hr
    simp only [Rep] at h ⊢
    obtain ⟨e1, _, e3⟩ := ho o o' hm
    exact ⟨by rw [e1]; exact h.1, e3⟩
   ·rename_i hm
    split at hr
    ·rename_i T sz' es hoo
     split at hr
     case isFalse => cases hr
     case isTrue hsz =>
      subst hsz
      simp only [Option.bind_eq_some_iff, Option.map_eq_some_iff] at hr
      obtain ⟨e, he, e', h1, rfl⟩ := hr
      simp only [Rep] at h ⊢
      obtain ⟨rfl, hlt⟩ := h
      obtain ⟨u, h2, h3, h4⟩ := (hob o _ hoo).2.2.get he
      exact ⟨g.β o, i * sz, rfl, hfz o (by simp [hoo]) hm, u, Rep.hand hI ho hob hfz f e e' u h2 h1, by simpa using h3⟩
    ·cases hr
  | row o sz i m =>
   simp only [cZ] at hr
   split at hr
   ·rename_i o' hm
    cases hr
    simp only [Rep] at h ⊢
    obtain ⟨c, h1, h2, h3, h4, h5⟩ := h
    obtain ⟨e1, e2, e3⟩ := ho o o' hm
    exact ⟨c, by rw [e1]; exact h1, h2, h3, by rw [e2]; exact h4, e3⟩
   ·rename_i hm
    split at hr
    ·rename_i T sz' es hoo
     split at hr
     case isFalse => cases hr
     case isTrue hsz =>
      obtain ⟨rfl, hle⟩ := hsz
      simp only [Option.map_eq_some_iff] at hr
      obtain ⟨es', h1, rfl⟩ := hr
      have hl := (dz h1).1
      have hl2 : es'.length = m := by rw [hl]; simp; omega
      simp only [Rep] at h ⊢
      obtain ⟨c, rfl, h2, h3, h4, h5⟩ := h
      refine ⟨_, c, by rw [hl2], by omega, h3, .inr ⟨g.β o, i * sz, rfl, hfz o (by simp [hoo]) hm, ?_⟩⟩
      have := ((hob o _ hoo).2.2.drop i).take m
      exact dx.conv (g := g) (g' := g') (Rep.hand hI ho hob hfz f) (by simpa using this) h1
    ·cases hr
  | agg cs =>
   simp only [cZ, Option.map_eq_some_iff] at hr
   obtain ⟨cs', h1, rfl⟩ := hr
   simp only [Rep] at h ⊢
   obtain ⟨vs, rfl, h2⟩ := h
   exact ⟨vs, rfl, dQ.conv (g := g) (g' := g') (Rep.hand hI ho hob hfz f) h2 h1⟩
  | tup cs =>
   simp only [cZ, Option.map_eq_some_iff] at hr
   obtain ⟨cs', h1, rfl⟩ := hr
   simp only [Rep] at h ⊢
   obtain ⟨vs, rfl, h2⟩ := h
   exact ⟨vs, rfl, dQ.conv (g := g) (g' := g') (Rep.hand hI ho hob hfz f) h2 h1⟩
section
variable {P : Program} {Γ : Ctx}
theorem kN {f : Nat} {fn : Func} {c : Code} {Φ : fG} (hΓ : aA P Γ) (hf : P.funcs[f]? = some fn) (hb : fn.body = some c)
  (hlen : ∀ ps cs r, Φ ps cs = some r → ps.length ≤ fn.ntmps)
  (h : ∀ ps cs r cs', Φ ps cs = some (r, cs') → ∃ x s' qs out, Ev P Γ fn.ntmps c (pV ps cs) x s' ∧ (x = .normal ∨ x = .ret) ∧ gF P s' fn.results.toList = some qs ∧ cZ out s'.ob fuel (gY qs) = some r ∧
    cs.length ≤ out.length ∧ (∀ o : Nat, o < cs.length → out[o]? = some o) ∧ out.Nodup ∧ out.mapM (kW out s'.ob fuel) = some cs') : dM P f Φ := by
 intro w J β κ ps cs args r cs' hr hJ hO hT hargs
 obtain ⟨x, s', qs, out, hev, hx, hres, hren, hol, hof, hond, hobs0⟩ := h ps cs r cs' hr
 have hsz : args.size = ps.length := by simpa using hargs.get.1
 have hle := hlen ps cs _ hr
 have hocs : cs'.length = out.length := (dz hobs0).1
 have hobs : ∀ (i o : Nat), out[i]? = some o → ∃ T sz es es', s'.ob o = some (T, sz, es) ∧ es.mapM (cZ out s'.ob fuel) = some es' ∧ cs'[i]? = some (T, sz, es') := fun i o hi => by
  obtain ⟨c1, h1, h2⟩ := (dz hobs0).2 i o hi
  unfold kW at h2
  simp only [Option.bind_eq_some_iff, Option.map_eq_some_iff] at h2
  obtain ⟨⟨T, sz, es⟩, h3, es', h4, rfl⟩ := h2
  exact ⟨T, sz, es, es', h3, h4, h1⟩
 have hinit : Rel ⟨fun b => ∃ o, o < cs.length ∧ b = β o, J false, cs.length, β, κ, J true, fun _ => False⟩ w fn.ntmps (kY J β κ cs.length) (pV ps cs) { tmps := args ++ Array.replicate (fn.ntmps - args.size) undef, defers := [] } w := by
  refine ⟨by simp; omega, rfl, fun t => ?_, fun o c ho => ?_, fun o o' ho ho' he => ?_, rfl, fun k b hi => hJ k b hi, fun b hi => .inr hi, Fr.refl _ _, fun b hi => hi, ⟨fun o ho => ⟨ho, fun q => q⟩, fun o ho => ⟨rfl, rfl⟩⟩, fun o ho => False.elim ho, hT⟩
  ·simp only [pV]
   cases hp : ps[t]? with
   | none =>
    have hge : ps.length ≤ t := by simpa using hp
    have : (args ++ Array.replicate (fn.ntmps - args.size) undef).getD t undef = undef := by
     simp only [Array.getD_eq_getD_getElem?]
     rw [Array.getElem?_append_right (by omega)]
     simp only [Array.getElem?_replicate]
     split <;> rfl
    rw [this]
    simp [Rep]
   | some p =>
    obtain ⟨v, hv, hrep⟩ := hargs.get.2 t p hp
    have hlt : t < args.size := by have := (List.getElem?_eq_some_iff.1 hp).1; omega
    have : (args ++ Array.replicate (fn.ntmps - args.size) undef).getD t undef = v := by
     simp only [Array.getD_eq_getD_getElem?]
     rw [Array.getElem?_append_left hlt]
     have : args[t]? = some v := by simpa using hv
     simp [this]
    rw [this]
    exact hrep
  ·have hlt : o < cs.length := (List.getElem?_eq_some_iff.1 ho).1
   exact ⟨⟨hlt, fun q => q⟩, .inr ⟨o, hlt, rfl⟩, fun k hi => (hO.lt o hlt).2 k hi, hO.at_ o c ho⟩
  ·have h1 : o < cs.length := by
    obtain ⟨c, hc⟩ := Option.isSome_iff_exists.1 ho
    exact (List.getElem?_eq_some_iff.1 hc).1
   have h2 : o' < cs.length := by
    obtain ⟨c, hc⟩ := Option.isSome_iff_exists.1 ho'
    exact (List.getElem?_eq_some_iff.1 hc).1
   exact hO.inj o o' h1 h2 he
 refine calls_of_wp hf hb (CWp.wp (hev.cwp hΓ.w (fun b hb => by obtain ⟨o, h1, rfl⟩ := hb; exact (hO.lt o h1).1) _ _ _ _ hinit fun g' a' w' hrel => ?_))
 have hsome : ∀ i o, out[i]? = some o → (s'.ob o).isSome := fun i o ho => by
  obtain ⟨T, sz, es, es', h1, _⟩ := hobs i o ho
  simp [h1]
 have hget : ∀ i, i < out.length → out[i]? = some (out.getD i 0) := fun i hi => by simp [hi]
 have hβ0 : ∀ o, o < cs.length → g'.β o = β o ∧ g'.κ o = κ o := fun o ho => hrel.fix.2 o ho
 have hinjO : ∀ i j, i < out.length → j < out.length → g'.β (out.getD i 0) = g'.β (out.getD j 0) → i = j := fun i j hi hj he => by
  have := hrel.inj _ _ (hsome i _ (hget i hi)) (hsome j _ (hget j hj)) he
  have e1 := hget i hi
  have e2 := hget j hj
  rw [this] at e1
  have e1 := e1.trans e2.symm
  exact (List.getElem?_inj hi hond).1 e1
 have hgof : ∀ o, o < cs.length → out.getD o 0 = o := fun o ho => by
  have := hof o ho
  simp [List.getD, this]
 have hinn : ∀ o1 o2, inn out o1 = some o2 → o2 < out.length ∧ out.getD o2 0 = o1 := fun o1 o2 hi => by
  unfold inn at hi
  split at hi
  ·rename_i hm
   cases hi
   have hlt := List.idxOf_lt_length_of_mem hm
   exact ⟨hlt, by simp [List.getD, hlt]⟩
  ·cases hi
 have hout : ∀ i, i < out.length → out.getD i 0 ∈ out := fun i hi => List.mem_of_getElem? (hget i hi)
 -- an object beyond the given ones lies in new memory
 have hnewO : ∀ o c, s'.ob o = some c → (∀ j, j < cs.length → o ≠ j) → w.heap.size ≤ g'.β o := fun o c ho hne => by
  rcases (hrel.ob _ _ ho).2.1 with k2 | ⟨j, k3, k4⟩
  ·exact k2
  ·exfalso
   rw [← (hβ0 j k3).1] at k4
   exact hne j k3 (hrel.inj _ _ (by rw [ho]; rfl) (hsome j j (hof j k3)) k4)
 have hnew : ∀ i, cs.length ≤ i → i < out.length → w.heap.size ≤ g'.β (out.getD i 0) := fun i h1 h2 => by
  obtain ⟨T, sz, es, es', k1, _⟩ := hobs i _ (hget i h2)
  refine hnewO _ _ k1 fun j hj he => ?_
  have e1 := hget i h2
  rw [he, ← hof j hj] at e1
  have := (List.getElem?_inj (by omega) hond).1 e1
  omega
 have hend : a'.defers = [] ∧ ∃ v, (results fn a'.tmps).run P w' = .ok v w' ∧ (∃ v' β' κ' M, Ending.returned v = .returned v' ∧ Fr (fun b => ∃ o, o < cs.length ∧ b = β o) w w' ∧ cs.length ≤ cs'.length ∧
     (∀ o, o < cs.length → β' o = β o ∧ κ' o = κ o) ∧ (∀ o, cs.length ≤ o → o < cs'.length → w.heap.size ≤ β' o) ∧ (∀ b, M b → w.heap.size ≤ b ∧ b < w'.heap.size) ∧
     uz (addN J M) w' β' κ' cs' ∧ Rep (kY (addN J M) β' κ' cs'.length) w' r v') := by
  obtain ⟨v, h1, h2⟩ := jT hrel hres
  let M : Nat → Prop := fun b => w.heap.size ≤ b ∧ b < w'.heap.size ∧ ∀ i, i < out.length → b ≠ g'.β (out.getD i 0)
  let G : Gh := kY (addN J M) (fun i => g'.β (out.getD i 0)) (fun i => g'.κ (out.getD i 0)) cs'.length
  have hI : ∀ k b, g'.I k b → G.I k b := fun k b hi => by
   cases k with
   | false => exact .inl (hrel.old b hi)
   | true =>
    rcases hrel.new b hi with hn | hn
    ·refine .inr ⟨rfl, hn.1, hrel.lt true b hi, fun i hil he => ?_⟩
     obtain ⟨T, sz, es, es', k1, _⟩ := hobs i _ (hget i hil)
     exact (hrel.ob _ _ k1).2.2.1 true (he ▸ hi)
    ·exact .inl hn
  have hom : ∀ o o', inn out o = some o' → G.β o' = g'.β o ∧ G.κ o' = g'.κ o ∧ G.D o' := fun o o' ho => by
   obtain ⟨k1, k2⟩ := hinn o o' ho
   exact ⟨by simp only [G, kY, k2], by simp only [G, kY, k2], ⟨by simp only [G, kY]; omega, fun q => q⟩⟩
  have hfz : ∀ o, (s'.ob o).isSome → inn out o = none → G.I true (g'.β o) := fun o ho hn => by
   obtain ⟨c, hc⟩ := Option.isSome_iff_exists.1 ho
   have hno : o ∉ out := fun hm => by simp [inn, hm] at hn
   obtain ⟨arr, m1, _⟩ := (hrel.ob _ _ hc).2.2.2.1
   refine .inr ⟨rfl, hnewO o c hc fun j hj he => hno (he ▸ List.mem_of_getElem? (hof j hj)), lt_of_heap m1, fun i hi he => hno ?_⟩
   rw [hrel.inj o _ (by rw [hc]; rfl) (hsome i _ (hget i hi)) he]
   exact hout i hi
  have hobA : ∀ o c, s'.ob o = some c → rC g' w' o c := fun o c ho => (hrel.ob o c ho).2.2.2
  refine ⟨hrel.df, v, h1, v, fun i => g'.β (out.getD i 0), fun i => g'.κ (out.getD i 0), M, rfl, hrel.fr, by omega, fun o ho => by dsimp only; rw [hgof o ho]; exact hβ0 o ho, fun o h3 h4 => hnew o h3 (by omega), fun b hb => ⟨hb.1, hb.2.1⟩, ⟨fun o ho => ?_, fun o o' ho ho' he => hinjO o o' (by omega) (by omega) he, fun o c hc => ?_⟩, Rep.hand (g := g') (g' := G) hI hom hobA hfz fuel _ _ _ h2 hren⟩
  ·obtain ⟨T, sz, es, es', k1, _⟩ := hobs o _ (hget o (by omega))
   obtain ⟨_, _, k3, ⟨arr, k4, _⟩, _⟩ := hrel.ob _ _ k1
   refine ⟨lt_of_heap k4, fun k hj => ?_⟩
   rcases hj with hj | ⟨_, hj⟩
   ·by_cases hoc : o < cs.length
    ·rw [hgof o hoc, (hβ0 o hoc).1] at hj
     exact (hO.lt o hoc).2 k hj
    ·have := hnew o (by omega) (by omega)
     have := hJ _ _ hj
     omega
   ·exact hj.2.2 o (by omega) rfl
  ·have ho : o < cs'.length := (List.getElem?_eq_some_iff.1 hc).1
   obtain ⟨T, sz, es, es', k1, k2, k3⟩ := hobs o _ (hget o (by omega))
   rw [k3] at hc
   cases hc
   obtain ⟨_, _, _, ⟨arr, m1, m2⟩, m3, m4⟩ := hrel.ob _ _ k1
   have hl := (dz k2).1
   exact ⟨⟨arr, m1, m2⟩, by rw [hl]; exact m3, dx.conv (g := g') (g' := G) (Rep.hand (g := g') (g' := G) hI hom hobA hfz fuel) m4 k2⟩
 rcases hx with rfl | rfl <;> exact hend
end
def gV (P : Program) (rs : List ResultVar) (m : Nat) (r : PV) (cs' : List aV) : X → AS → Prop := fun x s' => (x = .normal ∨ x = .ret) ∧ ∃ news : List Nat, (∀ o ∈ news, m ≤ o) ∧ news.Nodup ∧
 ((gF P s' rs).bind fun qs => cZ (List.range m ++ news) s'.ob fuel (gY qs)) = some r ∧ (List.range m ++ news).mapM (kW (List.range m ++ news) s'.ob fuel) = some cs'
theorem afR {P : Program} {Γ : Ctx} (hm : P.follows .mixedOrders = true) {f : Nat} {fn : Func} {c : Code} {Φ : fG} (hΓ : aA P Γ) (hf : P.funcs[f]? = some fn) (hb : fn.body = some c) (N : Nat) (hN : fn.ntmps = N) (rs : List ResultVar) (hrs : fn.results.toList = rs) (hc : codeOk Γ true N c = true)
  (h : ∀ ps cs r cs', Φ ps cs = some (r, cs') → ps.length ≤ N ∧ pq P Γ N c (gV P rs cs.length r cs') (pV ps cs).tm (fun o => cs[o]?) cs.length) : dM P f Φ := by
 subst hN hrs
 refine kN hΓ hf hb (fun ps cs r hr => (h ps cs r.1 r.2 hr).1) fun ps cs r cs' hr => ?_
 obtain ⟨x, s', h1, h2, news, h3, h4, h5, h6⟩ := y9 (mixed := true) (fun _ => hm) c _ _ hc (h ps cs r cs' hr).2
 rw [Option.bind_eq_some_iff] at h5
 obtain ⟨qs, h8, h9⟩ := h5
 refine ⟨x, s', qs, List.range cs.length ++ news, h1, h2, h8, h9, by simp, fun o ho => ?_, ?_, h6⟩
 ·rw [List.getElem?_append_left (by simpa using ho), List.getElem?_range ho]
 ·rw [List.nodup_append]
  exact ⟨List.nodup_range, h4, fun a ha b hb e => by
   have := h3 b hb
   have := List.mem_range.1 ha
   omega⟩
end Go.Proofs.YtngcedklbinhjaaGreatDoor
