/- Rules for makes, appends and stores; how arguments are read; lists that a loop fills. -/
import Derived.Test.YtenldjifipnjpaaDoorPxN
namespace Go.Proofs.YtenldjifipnjpaaDoor
open Go.RowKit
set_option linter.all false

def mkEv (e sz by_ : Nat) (z : Value) (s : AS) : PV → PV → Option (PV × Objs × Nat)
  | .val (.int _ l), .val (.int _ c) =>
    if 0 ≤ l ∧ l ≤ c ∧ (by_ : Int) * c ≤ 281474976710656 ∧ c ≤ 9223372036854775807 then some (.row s.nx sz 0 l.toNat, upd s.ob s.nx (some (e, sz, List.replicate l.toNat (ofVal z))), s.nx + 1) else none
  | _, _ => none
theorem mkEv_ok {e sz by_ : Nat} {z : Value} {s : AS} {kl kc : IntKind} {l c : Int} (h0 : 0 ≤ l) (h1 : l ≤ c) (h2 : (by_ : Int) * c ≤ 281474976710656) (h3 : c ≤ 9223372036854775807) :
    mkEv e sz by_ z s (.val (.int kl l)) (.val (.int kc c)) = some (.row s.nx sz 0 l.toNat, upd s.ob s.nx (some (e, sz, List.replicate l.toNat (ofVal z))), s.nx + 1) := by
  simp [mkEv, h0, h1, h2, h3]
theorem em_of {P : Program} {Γ : Ctx} {t e sz by_ : Nat} {z : Value} (he : tyElem P t = some e) (hz : zeroOf P e = some z) (hs : tySize P e = some sz) (hb : tyBytes P e = some by_) (h1 : z.cells.all (·.oneCell') = true) (h2 : z.cells.size = sz) (s : AS) (ρ : Operand → PV) (l c : Operand) :
    evEff P Γ s ρ (.makeSlice t l c) = mkEv e sz by_ z s (ρ l) (ρ c) := by
  simp only [evEff, he, hz, hs, hb]
  unfold mkEv
  split
  · rename_i z' sz' by' kl l' kc c' e1 e2 e3 e4 e5
    cases e1; cases e2; cases e3
    rw [e4, e5]
    have key : ∀ C : Prop, (z.cells.all (·.oneCell') = true ∧ z.cells.size = sz ∧ C) = C := fun C => propext ⟨fun h => h.2.2, fun h => ⟨h1, h2, h⟩⟩
    simp only [key]
  · rename_i hno
    split
    · rename_i a b kl l' kc c' e4 e5
      exact (hno z sz by_ kl l' kc c' rfl rfl rfl e4 e5).elim
    · rfl

theorem ea_of {P : Program} {Γ : Ctx} {t sz : Nat} {z : Value} {p : PV} (hz : zeroOf P t = some z) (h1 : z.cells.all (·.oneCell') = true) (h2 : z.cells.size = sz) (h3 : ofVal z = p) (s : AS) (ρ : Operand → PV) :
    evEff P Γ s ρ (.alloc t) = some (.own s.nx sz 0 0, upd s.ob s.nx (some (t, sz, [p])), s.nx + 1) := by
  simp only [evEff, hz]
  rw [if_pos h1, h2, h3]

def obOf (ob : Objs) : PV → Option (Nat × Nat × List PV)
  | .row o _ _ _ => ob o
  | .own o _ _ _ => ob o
  | _ => none
def apEv (e sz by_ nx : Nat) (ob : Objs) (x : PV) (c : Option (Nat × Nat × List PV)) (es2 : Option (List PV)) : Option (PV × Objs × Nat) :=
  match es2 with
  | some es2 => match x with
    | .row o sz' i n => match c with
      | some (T, sz'', es) => if i = 0 ∧ T = e ∧ sz' = sz ∧ sz'' = sz ∧ es.length = n ∧ n + es2.length ≤ 9223372036854775807 ∧ (n + es2.length) * by_ ≤ 140737488355328 then
          some (.row nx sz 0 (n + es2.length), upd (upd ob o none) nx (some (e, sz, es ++ es2)), nx + 1) else none
      | none => none
    | p => if isNil p = true ∧ es2.length ≤ 9223372036854775807 ∧ es2.length * by_ ≤ 140737488355328 then
        (if es2.length = 0 then some (p, ob, nx) else some (.row nx sz 0 es2.length, upd ob nx (some (e, sz, es2)), nx + 1)) else none
  | none => none
theorem eap_of {P : Program} {Γ : Ctx} {t e sz by_ : Nat} {z : Value} (he : tyElem P t = some e) (hz : zeroOf P e = some z) (hs : tySize P e = some sz) (hb : tyBytes P e = some by_) (h1 : 0 < sz) (h2 : z.cells.size = sz) (s : AS) (ρ : Operand → PV) (x y : Operand) :
    evEff P Γ s ρ (.call { callee := .builtin .append, args := #[x, y], argTypes := #[t, t] }) = apEv e sz by_ s.nx s.ob (ρ x) (obOf s.ob (ρ x)) (sliceEs s.ob sz (ρ y)) := by
  simp only [evEff, he, hz, hs, hb]
  unfold apEv
  cases sliceEs s.ob sz (ρ y) with
  | none => rfl
  | some es2 =>
    simp only [h1, h2, and_self, if_true]
    cases ρ x <;> rfl
theorem apEv_row {e sz by_ nx o n : Nat} {ob : Objs} {es es2 : List PV} (h1 : es.length = n) (h2 : n + es2.length ≤ 9223372036854775807) (h3 : (n + es2.length) * by_ ≤ 140737488355328) :
    apEv e sz by_ nx ob (.row o sz 0 n) (some (e, sz, es)) (some es2) = some (.row nx sz 0 (n + es2.length), upd (upd ob o none) nx (some (e, sz, es ++ es2)), nx + 1) := by
  simp [apEv, h1, h2, h3]
theorem apEv_nil {e sz by_ nx : Nat} {ob : Objs} {c : Option (Nat × Nat × List PV)} {es2 : List PV} (h1 : 0 < es2.length) (h2 : es2.length ≤ 9223372036854775807) (h3 : es2.length * by_ ≤ 140737488355328) :
    apEv e sz by_ nx ob (.val (.slice none 0 0)) c (some es2) = some (.row nx sz 0 es2.length, upd ob nx (some (e, sz, es2)), nx + 1) := by
  have : ¬ es2.length = 0 := by omega
  have hn : ¬ es2 = [] := fun h => this (by rw [h]; rfl)
  simp [apEv, isNil, h2, h3, hn]

/-- The bytes of a string, as numbers. -/
def strI (b : ByteArray) : List Int := b.data.toList.map fun x => (x.toNat : Int)
theorem strI_length (b : ByteArray) : (strI b).length = b.size := by
  unfold strI
  rw [List.length_map]
  exact Array.length_toList
theorem srcEs_str {ob : Objs} {b : ByteArray} : srcEs ob 1 (.val (.string b)) = some ((strI b).map fun n => .val (.int .u8 n)) := by
  simp [srcEs, strI]
theorem srcEs_lst {ob : Objs} {k : Bool} {sz s : Nat} {es : List PV} : srcEs ob sz (.lst k s es) = sliceEs ob sz (.lst k s es) := rfl
theorem srcEs_row {ob : Objs} {o sz i n s : Nat} : srcEs ob sz (.row o s i n) = sliceEs ob sz (.row o s i n) := rfl
def cpX (sz nx : Nat) (ob : Objs) (x : PV) (c : Option (Nat × Nat × List PV)) (es2 : Option (List PV)) : Option (PV × Objs × Nat) :=
  match es2, x with
  | some es2, .row o sz' i n => match c with
    | some (T, sz'', es) => if sz' = sz ∧ sz'' = sz ∧ i + n ≤ es.length then
        some (.val (.int .i64 (min es2.length n : Nat)), upd ob o (some (T, sz, es.take i ++ es2.take (min es2.length n) ++ es.drop (i + min es2.length n))), nx) else none
    | none => none
  | some _, .lst _ _ [] => some (.val (.int .i64 0), ob, nx)
  | _, _ => none
theorem ecp_of {P : Program} {Γ : Ctx} {t e sz : Nat} (he : tyElem P t = some e) (hs : tySize P e = some sz) (s : AS) (ρ : Operand → PV) (x y : Operand) (t' : Nat) :
    evEff P Γ s ρ (.call { callee := .builtin .copy, args := #[x, y], argTypes := #[t, t'] }) = cpX sz s.nx s.ob (ρ x) (obOf s.ob (ρ x)) (srcEs s.ob sz (ρ y)) := by
  simp only [evEff, cpEv, he, hs]
  unfold cpX
  cases srcEs s.ob sz (ρ y) with
  | none => rfl
  | some es2 =>
    cases hx : ρ x with
    | lst k sz' es => cases es <;> rfl
    | _ => rfl
theorem cpX_nil {sz nx k' : Nat} {k : Bool} {ob : Objs} {c : Option (Nat × Nat × List PV)} {es2 : List PV} : cpX sz nx ob (.lst k k' []) c (some es2) = some (.val (.int .i64 0), ob, nx) := rfl
theorem cpX_row {sz nx o i n T : Nat} {ob : Objs} {es es2 : List PV} (h : i + n ≤ es.length) : cpX sz nx ob (.row o sz i n) (some (T, sz, es)) (some es2) = some (.val (.int .i64 (min es2.length n : Nat)), upd ob o (some (T, sz, es.take i ++ es2.take (min es2.length n) ++ es.drop (i + min es2.length n))), nx) := by
  simp [cpX, h]
def stEv (P : Program) (t : Nat) (ob : Objs) (nx : Nat) (x y : PV) (c : Option (Nat × Nat × List PV)) : Option (PV × Objs × Nat) :=
  match x, c with
  | .own o sz i f, some (T, sz', es) => match es[i]?, cellsL y with
    | some e, some cs => if sz = sz' ∧ tySize P t = some cs.length then (setP sz e f y cs).map fun e' => (.val undef, upd ob o (some (T, sz, es.set i e')), nx) else none
    | _, _ => none
  | _, _ => none
theorem est_of {P : Program} {Γ : Ctx} (s : AS) (ρ : Operand → PV) (t : Nat) (x y : Operand) : evEff P Γ s ρ (.store t x y) = stEv P t s.ob s.nx (ρ x) (ρ y) (obOf s.ob (ρ x)) := by
  simp only [evEff]
  unfold stEv
  cases hx : ρ x with
  | own o sz i f =>
    simp only [obOf]
    cases s.ob o with
    | none => rfl
    | some c => rfl
  | _ => rfl
def agY : PV → Bool
  | .agg _ => true
  | _ => false
theorem agY_val (v : Value) : agY (.val v) = false := rfl
theorem agY_lst (k : Bool) (sz : Nat) (es : List PV) : agY (.lst k sz es) = false := rfl
theorem agY_row (o sz i n : Nat) : agY (.row o sz i n) = false := rfl
theorem agY_own (o sz i f : Nat) : agY (.own o sz i f) = false := rfl
theorem agY_agg (cs : List PV) : agY (.agg cs) = true := rfl
def stE (sz f : Nat) (ag : Bool) (cs : List PV) : PV → Option PV
  | .agg ecs => if f + cs.length ≤ ecs.length then some (PV.agg (setL ecs f cs)) else none
  | _ => if sz = 1 ∧ f = 0 ∧ ag = false then cs.head? else none
def stP (k : Option Nat) (ob : Objs) (nx o T sz i f : Nat) (ag : Bool) (cs : Option (List PV)) (es : List PV) (e : Option PV) : Option (PV × Objs × Nat) :=
  match k, cs, e with
  | some k, some cs, some e => if k = cs.length then
      (stE sz f ag cs e).map fun e' => (.val undef, upd ob o (some (T, sz, es.set i e')), nx)
      else none
  | _, _, _ => none
theorem stEv_own {P : Program} {t o sz i f T nx : Nat} {ob : Objs} {es : List PV} {y : PV} :
    stEv P t ob nx (.own o sz i f) y (some (T, sz, es)) = stP (tySize P t) ob nx o T sz i f (agY y) (cellsL y) es (es[i]?) := by
  simp only [stEv, stP]
  cases he : es[i]? with
  | none => cases tySize P t <;> cases cellsL y <;> rfl
  | some e =>
    cases hc : cellsL y with
    | none => cases tySize P t <;> rfl
    | some cs =>
      cases ht : tySize P t with
      | none => simp
      | some k =>
        by_cases hk : k = cs.length
        · have e2 : setP sz e f y cs = stE sz f (agY y) cs e := by
            have hone : oneP y = true → cs.head? = some y ∧ agY y = false := by
              intro h
              cases y <;> simp_all [cellsL, oneP, agY] <;> (subst hc; rfl)
            have hno : oneP y = false → agY y = true := by
              intro h
              cases y <;> simp_all [cellsL, oneP, agY]
            clear he
            cases e <;> simp only [setP, stE]
            all_goals
              cases ho : oneP y with
              | true => simp [hone ho]
              | false => simp [hno ho]
          simp [hk, e2]
        · simp [hk]
theorem stP_agg {k nx o T sz i f : Nat} {ob : Objs} {ag : Bool} {cs ecs es : List PV} (hk : k = cs.length) (hf : f + cs.length ≤ ecs.length) :
    stP (some k) ob nx o T sz i f ag (some cs) es (some (.agg ecs)) = some (.val undef, upd ob o (some (T, sz, es.set i (.agg (setL ecs f cs)))), nx) := by
  simp [stP, stE, hk, hf]
theorem stP_val {nx o T i : Nat} {ob : Objs} {es : List PV} {v : Value} {c : PV} :
    stP (some 1) ob nx o T 1 i 0 false (some [c]) es (some (.val v)) = some (.val undef, upd ob o (some (T, 1, es.set i c)), nx) := rfl
theorem stP_lst {nx o T i k sz : Nat} {b : Bool} {ob : Objs} {es l : List PV} {c : PV} :
    stP (some 1) ob nx o T 1 i 0 false (some [c]) es (some (.lst b sz l)) = some (.val undef, upd ob o (some (T, 1, es.set i c)), nx) := rfl
theorem stP_row {nx o T i a b' c' d : Nat} {ob : Objs} {es : List PV} {c : PV} :
    stP (some 1) ob nx o T 1 i 0 false (some [c]) es (some (.row a b' c' d)) = some (.val undef, upd ob o (some (T, 1, es.set i c)), nx) := rfl
theorem stP_own {nx o T i a b' c' d : Nat} {ob : Objs} {es : List PV} {c : PV} :
    stP (some 1) ob nx o T 1 i 0 false (some [c]) es (some (.own a b' c' d)) = some (.val undef, upd ob o (some (T, 1, es.set i c)), nx) := rfl
theorem set_map {α β : Type} {f : α → β} {xs : List α} {i : Nat} {y : α} : (xs.map f).set i (f y) = (xs.set i y).map f := by rw [List.map_set]
theorem setL_zero {α : Type} (l new : List α) : setL l 0 new = new ++ l.drop new.length := by simp [setL]
theorem setL_succ {α : Type} (x : α) (l : List α) (n : Nat) (new : List α) : setL (x :: l) (n + 1) new = x :: setL l n new := by
  simp [setL, Nat.add_right_comm n 1]
theorem setL_1 {α : Type} (x : α) (l : List α) (new : List α) : setL (x :: l) 1 new = x :: setL l 0 new := setL_succ x l 0 new
theorem setL_2 {α : Type} (x : α) (l : List α) (new : List α) : setL (x :: l) 2 new = x :: setL l 1 new := setL_succ x l 1 new
theorem setL_3 {α : Type} (x : α) (l : List α) (new : List α) : setL (x :: l) 3 new = x :: setL l 2 new := setL_succ x l 2 new
theorem setL_4 {α : Type} (x : α) (l : List α) (new : List α) : setL (x :: l) 4 new = x :: setL l 3 new := setL_succ x l 3 new
theorem setL_5 {α : Type} (x : α) (l : List α) (new : List α) : setL (x :: l) 5 new = x :: setL l 4 new := setL_succ x l 4 new
theorem setL_6 {α : Type} (x : α) (l : List α) (new : List α) : setL (x :: l) 6 new = x :: setL l 5 new := setL_succ x l 5 new
theorem setL_7 {α : Type} (x : α) (l : List α) (new : List α) : setL (x :: l) 7 new = x :: setL l 6 new := setL_succ x l 6 new

/-! How arguments are read. -/
structure Dec (α : Type) where
  d : PV → Option α
  e : α → PV
  h : ∀ p a, d p = some a → p = e a
  h' : ∀ a, d (e a) = some a
def F0 (F : Option PV) : Fun := fun ps => match ps with | [] => F | _ => none
def F1 {α : Type} (A : Dec α) (F : α → Option PV) : Fun := fun ps => match ps with | [p] => (A.d p).bind F | _ => none
def F2 {α β : Type} (A : Dec α) (B : Dec β) (F : α → β → Option PV) : Fun := fun ps => match ps with | [p, q] => (A.d p).bind fun a => (B.d q).bind fun b => F a b | _ => none
def F3 {α β γ : Type} (A : Dec α) (B : Dec β) (C : Dec γ) (F : α → β → γ → Option PV) : Fun := fun ps => match ps with | [p, q, r] => (A.d p).bind fun a => (B.d q).bind fun b => (C.d r).bind fun c => F a b c | _ => none
def F4 {α β γ δ : Type} (A : Dec α) (B : Dec β) (C : Dec γ) (D : Dec δ) (F : α → β → γ → δ → Option PV) : Fun := fun ps => match ps with | [p, q, r, s] => (A.d p).bind fun a => (B.d q).bind fun b => (C.d r).bind fun c => (D.d s).bind fun d => F a b c d | _ => none
section
variable {α β γ δ : Type} {A : Dec α} {B : Dec β} {C : Dec γ} {D : Dec δ} {ps : List PV} {r : PV}
theorem F0_some {F : Option PV} (h : F0 F ps = some r) : ps = [] ∧ F = some r := by
  unfold F0 at h
  split at h
  · exact ⟨rfl, h⟩
  · cases h
theorem F1_some {F : α → Option PV} (h : F1 A F ps = some r) : ∃ a, ps = [A.e a] ∧ F a = some r := by
  unfold F1 at h
  split at h
  · rw [Option.bind_eq_some_iff] at h
    obtain ⟨a, h1, h2⟩ := h
    exact ⟨a, by rw [A.h _ _ h1], h2⟩
  · cases h
theorem F2_some {F : α → β → Option PV} (h : F2 A B F ps = some r) : ∃ a b, ps = [A.e a, B.e b] ∧ F a b = some r := by
  unfold F2 at h
  split at h
  · simp only [Option.bind_eq_some_iff] at h
    obtain ⟨a, h1, b, h2, h3⟩ := h
    exact ⟨a, b, by rw [A.h _ _ h1, B.h _ _ h2], h3⟩
  · cases h
theorem F3_some {F : α → β → γ → Option PV} (h : F3 A B C F ps = some r) : ∃ a b c, ps = [A.e a, B.e b, C.e c] ∧ F a b c = some r := by
  unfold F3 at h
  split at h
  · simp only [Option.bind_eq_some_iff] at h
    obtain ⟨a, h1, b, h2, c, h3, h4⟩ := h
    exact ⟨a, b, c, by rw [A.h _ _ h1, B.h _ _ h2, C.h _ _ h3], h4⟩
  · cases h
theorem F4_some {F : α → β → γ → δ → Option PV} (h : F4 A B C D F ps = some r) : ∃ a b c d, ps = [A.e a, B.e b, C.e c, D.e d] ∧ F a b c d = some r := by
  unfold F4 at h
  split at h
  · simp only [Option.bind_eq_some_iff] at h
    obtain ⟨a, h1, b, h2, c, h3, d, h4, h5⟩ := h
    exact ⟨a, b, c, d, by rw [A.h _ _ h1, B.h _ _ h2, C.h _ _ h3, D.h _ _ h4], h5⟩
  · cases h
theorem F1_ap {F : α → Option PV} (a : α) : F1 A F [A.e a] = F a := by simp [F1, A.h']
theorem F2_ap {F : α → β → Option PV} (a : α) (b : β) : F2 A B F [A.e a, B.e b] = F a b := by simp [F2, A.h', B.h']
theorem F3_ap {F : α → β → γ → Option PV} (a : α) (b : β) (c : γ) : F3 A B C F [A.e a, B.e b, C.e c] = F a b c := by simp [F3, A.h', B.h', C.h']
theorem F4_ap {F : α → β → γ → δ → Option PV} (a : α) (b : β) (c : γ) (d : δ) : F4 A B C D F [A.e a, B.e b, C.e c, D.e d] = F a b c d := by simp [F4, A.h', B.h', C.h', D.h']
end
def dI : Dec Int := { d := fun | .val (.int .i64 n) => some n | _ => none, e := fun n => .val (.int .i64 n), h := fun p a h => by split at h <;> simp_all, h' := fun a => rfl }
def dU : Dec Int := { d := fun | .val (.int .u8 n) => some n | _ => none, e := fun n => .val (.int .u8 n), h := fun p a h => by split at h <;> simp_all, h' := fun a => rfl }
def dB : Dec Bool := { d := fun | .val (.bool n) => some n | _ => none, e := fun n => .val (.bool n), h := fun p a h => by split at h <;> simp_all, h' := fun a => rfl }
def dS : Dec ByteArray := { d := fun | .val (.string n) => some n | _ => none, e := fun n => .val (.string n), h := fun p a h => by split at h <;> simp_all, h' := fun a => rfl }
/-- A function without captured variables. -/
def dFn (f : Nat) : Dec Unit where
  d := fun | .val (.func (.func g) a b) => if g = f ∧ a.size = 0 ∧ b.size = 0 then some () else none | _ => none
  e := fun _ => .val (.func (.func f) #[] #[])
  h := fun p a h => by
    split at h
    · split at h
      · rename_i hh
        obtain ⟨rfl, h1, h2⟩ := hh
        rw [Array.eq_empty_of_size_eq_zero h1, Array.eq_empty_of_size_eq_zero h2]
      · cases h
    · cases h
  h' := fun a => by simp
theorem mapM_dec {α : Type} (A : Dec α) : ∀ {es : List PV} {l : List α}, es.mapM A.d = some l → es = l.map A.e
  | [], l, h => by simp only [List.mapM_nil, Option.pure_def, Option.some.injEq] at h; subst h; rfl
  | e :: es, l, h => by
    rw [mapM_cons', Option.bind_eq_some_iff] at h
    obtain ⟨a, h1, h2⟩ := h
    rw [Option.map_eq_some_iff] at h2
    obtain ⟨l', h3, rfl⟩ := h2
    rw [List.map_cons, A.h _ _ h1, mapM_dec A h3]
theorem mapM_enc {α : Type} (A : Dec α) : ∀ (l : List α), (l.map A.e).mapM A.d = some l
  | [] => rfl
  | a :: l => by rw [List.map_cons, mapM_cons', A.h', mapM_enc A l]; rfl
/-- A slice of elements. -/
def dL {α : Type} (sz : Nat) (A : Dec α) : Dec (List α) where
  d := fun | .lst false s es => if s = sz then es.mapM A.d else none | _ => none
  e := fun l => .lst false sz (l.map A.e)
  h := fun p a h => by
    split at h
    · split at h
      · rename_i hs
        subst hs
        rw [mapM_dec A h]
      · cases h
    · cases h
  h' := fun a => by
    show (if sz = sz then (a.map A.e).mapM A.d else none) = some a
    rw [if_pos rfl, mapM_enc]
abbrev dIs := dL 1 dI
abbrev dUs := dL 1 dU
abbrev dSs := dL 1 dS
/-- A struct of two, three, four parts of one cell. -/
def dA2 {α β : Type} (A : Dec α) (B : Dec β) : Dec (α × β) where
  d := fun | .agg [p, q] => (A.d p).bind fun a => (B.d q).map fun b => (a, b) | _ => none
  e := fun x => .agg [A.e x.1, B.e x.2]
  h := fun p a h => by
    split at h
    · simp only [Option.bind_eq_some_iff, Option.map_eq_some_iff] at h
      obtain ⟨x, h1, y, h2, rfl⟩ := h
      rw [A.h _ _ h1, B.h _ _ h2]
    · cases h
  h' := fun a => by simp [A.h', B.h']
def dA3 {α β γ : Type} (A : Dec α) (B : Dec β) (C : Dec γ) : Dec (α × β × γ) where
  d := fun | .agg [p, q, r] => (A.d p).bind fun a => (B.d q).bind fun b => (C.d r).map fun c => (a, b, c) | _ => none
  e := fun x => .agg [A.e x.1, B.e x.2.1, C.e x.2.2]
  h := fun p a h => by
    split at h
    · simp only [Option.bind_eq_some_iff, Option.map_eq_some_iff] at h
      obtain ⟨x, h1, y, h2, z, h3, rfl⟩ := h
      rw [A.h _ _ h1, B.h _ _ h2, C.h _ _ h3]
    · cases h
  h' := fun a => by simp [A.h', B.h', C.h']
def dA4 {α β γ δ : Type} (A : Dec α) (B : Dec β) (C : Dec γ) (D : Dec δ) : Dec (α × β × γ × δ) where
  d := fun | .agg [p, q, r, s] => (A.d p).bind fun a => (B.d q).bind fun b => (C.d r).bind fun c => (D.d s).map fun d => (a, b, c, d) | _ => none
  e := fun x => .agg [A.e x.1, B.e x.2.1, C.e x.2.2.1, D.e x.2.2.2]
  h := fun p a h => by
    split at h
    · simp only [Option.bind_eq_some_iff, Option.map_eq_some_iff] at h
      obtain ⟨x, h1, y, h2, z, h3, t, h4, rfl⟩ := h
      rw [A.h _ _ h1, B.h _ _ h2, C.h _ _ h3, D.h _ _ h4]
    · cases h
  h' := fun a => by simp [A.h', B.h', C.h', D.h']

def dA5 {α β γ δ ε : Type} (A : Dec α) (B : Dec β) (C : Dec γ) (D : Dec δ) (E : Dec ε) : Dec (α × β × γ × δ × ε) where
  d := fun | .agg [p, q, r, s, t] => (A.d p).bind fun a => (B.d q).bind fun b => (C.d r).bind fun c => (D.d s).bind fun d => (E.d t).map fun e => (a, b, c, d, e) | _ => none
  e := fun x => .agg [A.e x.1, B.e x.2.1, C.e x.2.2.1, D.e x.2.2.2.1, E.e x.2.2.2.2]
  h := fun p a h => by
    split at h
    · simp only [Option.bind_eq_some_iff, Option.map_eq_some_iff] at h
      obtain ⟨x, h1, y, h2, z, h3, t, h4, u, h5, rfl⟩ := h
      rw [A.h _ _ h1, B.h _ _ h2, C.h _ _ h3, D.h _ _ h4, E.h _ _ h5]
    · cases h
  h' := fun a => by simp [A.h', B.h', C.h', D.h', E.h']
theorem dA5_e {α β γ δ ε : Type} (A : Dec α) (B : Dec β) (C : Dec γ) (D : Dec δ) (E : Dec ε) : (dA5 A B C D E).e = fun x => .agg [A.e x.1, B.e x.2.1, C.e x.2.2.1, D.e x.2.2.2.1, E.e x.2.2.2.2] := rfl
theorem dI_e : dI.e = fun n => .val (.int .i64 n) := rfl
theorem dU_e : dU.e = fun n => .val (.int .u8 n) := rfl
theorem dB_e : dB.e = fun n => .val (.bool n) := rfl
theorem dS_e : dS.e = fun n => .val (.string n) := rfl
theorem dFn_e (f : Nat) : (dFn f).e = fun _ => .val (.func (.func f) #[] #[]) := rfl
theorem dL_e {α : Type} (sz : Nat) (A : Dec α) : (dL sz A).e = fun l => .lst false sz (l.map A.e) := rfl
theorem dA2_e {α β : Type} (A : Dec α) (B : Dec β) : (dA2 A B).e = fun x => .agg [A.e x.1, B.e x.2] := rfl
theorem dA3_e {α β γ : Type} (A : Dec α) (B : Dec β) (C : Dec γ) : (dA3 A B C).e = fun x => .agg [A.e x.1, B.e x.2.1, C.e x.2.2] := rfl
theorem dA4_e {α β γ δ : Type} (A : Dec α) (B : Dec β) (C : Dec γ) (D : Dec δ) : (dA4 A B C D).e = fun x => .agg [A.e x.1, B.e x.2.1, C.e x.2.2.1, D.e x.2.2.2] := rfl
theorem fnOf_fn (f : Nat) : fnOf (.val (.func (.func f) #[] #[])) = some f := rfl
theorem ev_callV {P : Program} {Γ : Ctx} {ob : Objs} {tm : Nat → PV} {ty : Nat} {x : Operand} {xs : Array Operand} {ts : Array TypeId} : evVal P Γ ob (look tm) ty (.call { callee := .value x, args := xs, argTypes := ts }) =
    (match fnOf (look tm x) with | some f => evCall Γ ob f (xs.toList.map (look tm)) | none => none) := by
  simp only [evVal]
  cases fnOf (look tm x) with
  | none => rfl
  | some f => rfl
section
variable {P : Program} {Γ : Ctx} {ob : Objs} {ρ : Operand → PV} {ty : Nat}
theorem ev_move (x : Operand) : evVal P Γ ob ρ ty (.move x) = some (ρ x) := rfl
theorem ev_assign (x : Operand) : evVal P Γ ob ρ ty (.assign x) = some (ρ x) := rfl
def pickP (c x y : PV) : Option PV := match c with | .val (.bool b) => some (if b then x else y) | _ => none
theorem pickP_b (b : Bool) (x y : PV) : pickP (.val (.bool b)) x y = some (if b = true then x else y) := rfl
theorem ev_pick (c x y : Operand) : evVal P Γ ob ρ ty (.pick c x y) = pickP (ρ c) (ρ x) (ρ y) := by simp only [evVal]; rfl
theorem ev_build (t : Nat) (ps : Array (Nat × Operand)) : evVal P Γ ob ρ ty (.build t ps) = evBuild P t (partsOf ρ ps) := rfl
def rowV (r : Option (Nat × Nat × List PV)) : Option PV := match r with | some (_, sz, es) => some (.lst true sz es) | none => none
theorem ev_buildSlice (t n : Nat) (ps : Array (Nat × Operand)) : evVal P Γ ob ρ ty (.buildSlice t n ps) = rowV (rowEs P t n (partsOf ρ ps)) := rfl
def loadP (P : Program) (t : Nat) (x : PV) (c : Option (Nat × Nat × List PV)) : Option PV := match x with
    | .own o sz i f => match c with
      | some (_, sz', es) => if sz = sz' then (es[i]?).bind (subP P t f) else none
      | none => none
    | .ptr _ e f => subP P t f e
    | _ => none
theorem ev_load (t : Nat) (x : Operand) : evVal P Γ ob ρ ty (.load t x) = loadP P t (ρ x) (obOf ob (ρ x)) := by
  simp only [evVal]
  unfold loadP obOf
  cases ρ x <;> rfl
theorem loadP_ptr (t : Nat) (k : Bool) (e : PV) (f : Nat) (c : Option (Nat × Nat × List PV)) : loadP P t (.ptr k e f) c = subP P t f e := rfl
theorem loadP_own (t o sz i f T : Nat) (es : List PV) : loadP P t (.own o sz i f) (some (T, sz, es)) = (es[i]?).bind (subP P t f) := by simp [loadP]
theorem obOf_row (o sz i n : Nat) : obOf ob (.row o sz i n) = ob o := rfl
theorem obOf_own (o sz i f : Nat) : obOf ob (.own o sz i f) = ob o := rfl
theorem obOf_ptr (k : Bool) (e : PV) (f : Nat) : obOf ob (.ptr k e f) = none := rfl
theorem obOf_val (v : Value) : obOf ob (.val v) = none := rfl
theorem obOf_lst (k : Bool) (sz : Nat) (es : List PV) : obOf ob (.lst k sz es) = none := rfl
def nilP : PV → Option PV
    | .own o sz i f => some (.own o sz i f)
    | .ptr k e f => some (.ptr k e f)
    | _ => none
theorem ev_nilCheck (x : Operand) : evVal P Γ ob ρ ty (.nilCheck x) = nilP (ρ x) := rfl
theorem nilP_own (o sz i f : Nat) : nilP (.own o sz i f) = some (.own o sz i f) := rfl
theorem nilP_ptr (k : Bool) (e : PV) (f : Nat) : nilP (.ptr k e f) = some (.ptr k e f) := rfl
/-- An operation on two values. -/
def binP (P : Program) (b : BinOp) (t : Nat) (x y : Operand) : Option Value → Option Value → Option PV
  | some u, some v => (pureRun P (do eqGuard b t x y u v; binOp b t u v)).map .val
  | _, _ => none
theorem ev_binOp (b : BinOp) (t : Nat) (x y : Operand) (t' : Nat) : evVal P Γ ob ρ ty (.binOp b t x y t') = binP P b t x y (toVal (ρ x)) (toVal (ρ y)) := rfl
section
variable {t : Nat} {x y : Operand} {k : IntKind} {m n : Int}
theorem bp_add : binP P .add t x y (some (.int k m)) (some (.int k n)) = some (.val (.int k (k.wrap (m + n)))) := by simp only [binP, pr_add, Option.map_some]
theorem bp_sub : binP P .sub t x y (some (.int k m)) (some (.int k n)) = some (.val (.int k (k.wrap (m - n)))) := by simp only [binP, pr_sub, Option.map_some]
theorem bp_mul : binP P .mul t x y (some (.int k m)) (some (.int k n)) = some (.val (.int k (k.wrap (m * n)))) := by simp only [binP, pr_mul, Option.map_some]
theorem bp_quo (h : n ≠ 0) : binP P .quo t x y (some (.int k m)) (some (.int k n)) = some (.val (.int k (k.wrap (m.tdiv n)))) := by simp only [binP, pr_quo h, Option.map_some]
theorem bp_rem (h : n ≠ 0) : binP P .rem t x y (some (.int k m)) (some (.int k n)) = some (.val (.int k (m.tmod n))) := by simp only [binP, pr_rem h, Option.map_some]
theorem bp_lss : binP P .lss t x y (some (.int k m)) (some (.int k n)) = some (.val (.bool (decide (m < n)))) := by simp only [binP, pr_lss, Option.map_some]
theorem bp_leq : binP P .leq t x y (some (.int k m)) (some (.int k n)) = some (.val (.bool (decide (m ≤ n)))) := by simp only [binP, pr_leq, Option.map_some]
theorem bp_gtr : binP P .gtr t x y (some (.int k m)) (some (.int k n)) = some (.val (.bool (decide (n < m)))) := by simp only [binP, pr_gtr, Option.map_some]
theorem bp_geq : binP P .geq t x y (some (.int k m)) (some (.int k n)) = some (.val (.bool (decide (n ≤ m)))) := by simp only [binP, pr_geq, Option.map_some]
theorem bp_eql : binP P .eql t x y (some (.int k m)) (some (.int k n)) = some (.val (.bool (decide (m = n)))) := by simp only [binP, pr_eql, Option.map_some]
theorem bp_neq : binP P .neq t x y (some (.int k m)) (some (.int k n)) = some (.val (.bool (!decide (m = n)))) := by simp only [binP, pr_neq, Option.map_some]
theorem pr_eqB {a b : Bool} (h : P.underlying t = some .bool) : pureRun P (Op.equal t (.bool a) (.bool b)) = some (a == b) := by
  unfold Op.equal Op.maxDepth
  rw [show (10000 : Nat) = 9999 + 1 from rfl, Op.equalIn]
  simp [underlying, Go.program, bind, Sem.bind, pure, pureRun, h]
theorem pureRun_bind {α β : Type} {P : Program} {m : Sem α} {x : α} (h : pureRun P m = some x) (f : α → Sem β) : pureRun P (m >>= f) = pureRun P (f x) := by
  show pureRun P (m.bind f) = _
  induction m with
  | pure a => simp only [pureRun, Option.some.injEq] at h; subst h; rfl
  | program k ih => simp only [pureRun] at h; simp only [Sem.bind, pureRun]; exact ih P h
  | _ => simp [pureRun] at h
theorem bp_eqlB {a b : Bool} (h : P.underlying t = some .bool) : binP P .eql t x y (some (.bool a)) (some (.bool b)) = some (.val (.bool (a == b))) := by
  have h1 : pureRun P (eqGuard .eql t x y (.bool a) (.bool b)) = some () := by simp [eqGuard, pure, pureRun]
  have h2 : pureRun P (binOp .eql t (.bool a) (.bool b)) = some (.bool (a == b)) := by
    show pureRun P (Op.equal t (.bool a) (.bool b) >>= fun r => pure (Value.bool r)) = _
    rw [pureRun_bind (pr_eqB h)]
    rfl
  simp only [binP]
  rw [pureRun_bind h1, h2]
  rfl
theorem bp_neqB {a b : Bool} (h : P.underlying t = some .bool) : binP P .neq t x y (some (.bool a)) (some (.bool b)) = some (.val (.bool (!(a == b)))) := by
  have h1 : pureRun P (eqGuard .neq t x y (.bool a) (.bool b)) = some () := by simp [eqGuard, pure, pureRun]
  have h2 : pureRun P (binOp .neq t (.bool a) (.bool b)) = some (.bool (!(a == b))) := by
    show pureRun P (Op.equal t (.bool a) (.bool b) >>= fun r => pure (Value.bool (!r))) = _
    rw [pureRun_bind (pr_eqB h)]
    rfl
  simp only [binP]
  rw [pureRun_bind h1, h2]
  rfl
end
def unP (P : Program) (u : UnOp) : Option Value → Option PV
  | some v => (pureRun P (Op.unary u v)).map .val
  | none => none
theorem ev_unOp (u : UnOp) (t : Nat) (x : Operand) : evVal P Γ ob ρ ty (.unOp u t x) = unP P u (toVal (ρ x)) := rfl
theorem up_not {b : Bool} : unP P .not (some (.bool b)) = some (.val (.bool !b)) := by simp only [unP, pr_not, Option.map_some]
theorem up_neg {k : IntKind} {n : Int} : unP P .neg (some (.int k n)) = some (.val (.int k (k.wrap (0 - n)))) := by simp only [unP, pr_neg, Option.map_some]
def convP (P : Program) (src dst : Nat) (b : Bool) (es : Option (List PV)) (v : Option Value) : Option PV :=
  if b = true then (es.bind byteNs).map fun ns => .val (.string (bytesOf ns)) else match v with | some v => (pureRun P (convert src dst v)).map .val | none => none
theorem ev_convert (src dst : Nat) (x : Operand) : evVal P Γ ob ρ ty (.convert src dst x) = convP P src dst (isByteSlice P src && isStr P dst) (sliceEs ob 1 (ρ x)) (toVal (ρ x)) := by
  simp only [evVal, convP]
  by_cases h : isByteSlice P src = true ∧ isStr P dst = true
  · rw [if_pos h, if_pos (by simp [h.1, h.2])]
  · rw [if_neg h, if_neg (by simpa using h)]
    cases toVal (ρ x) <;> rfl
theorem cv_int {src dst : Nat} {d : TypeDesc} {k k' : IntKind} {n : Int} {es : Option (List PV)} (h : P.underlying src = some d) (h' : P.underlying dst = some (.int k')) : convP P src dst false es (some (.int k n)) = some (.val (.int k' (k'.wrap n))) := by
  simp [convP, pr_conv h h']
theorem cv_str {src dst : Nat} {es : List PV} {v : Option Value} : convP P src dst true (some es) v = (byteNs es).map fun ns => .val (.string (bytesOf ns)) := by
  simp [convP]
def fadP (k : Option Nat) : PV → Option PV
  | .own o sz i c => match k with | some k => some (.own o sz i (c + k)) | none => none
  | .ptr b e c => match k with | some k => some (.ptr b e (c + k)) | none => none
  | _ => none
theorem ev_fieldAddr (t : Nat) (x : Operand) (f : Nat) : evVal P Γ ob ρ ty (.fieldAddr t x f) = fadP (fieldOff P t f) (ρ x) := by
  simp only [evVal]
  unfold fadP
  cases ρ x <;> cases fieldOff P t f <;> rfl
theorem fadP_own (k o sz i c : Nat) : fadP (some k) (.own o sz i c) = some (.own o sz i (c + k)) := rfl
theorem fadP_ptr (k : Nat) (b : Bool) (e : PV) (c : Nat) : fadP (some k) (.ptr b e c) = some (.ptr b e (c + k)) := rfl
def ixaP (P : Program) (t : Nat) (x : PV) : PV → Option PV
  | .val (.int _ n) => evIndexAddr P t x n
  | _ => none
theorem ev_indexAddr (t : Nat) (x i : Operand) : evVal P Γ ob ρ ty (.indexAddr t x i) = ixaP P t (ρ x) (ρ i) := by
  simp only [evVal]
  unfold ixaP asI
  split <;> (split at * <;> simp_all)
theorem ixaP_int (t : Nat) (x : PV) (k : IntKind) (n : Int) : ixaP P t x (.val (.int k n)) = evIndexAddr P t x n := rfl
def idxP (P : Program) (t : Nat) : Option Value → Option Value → Option PV
  | some u, some v => (pureRun P (Instr.index t u v)).map .val
  | _, _ => none
theorem ev_index (t : Nat) (x i : Operand) : evVal P Γ ob ρ ty (.index t x i) = idxP P t (toVal (ρ x)) (toVal (ρ i)) := rfl
def extP (i : Nat) : PV → Option PV
  | .tup vs => vs[i]?
  | _ => none
theorem ev_extract (x : Operand) (i : Nat) : evVal P Γ ob ρ ty (.extract x i) = extP i (ρ x) := rfl
theorem extP_tup (i : Nat) (vs : List PV) : extP i (.tup vs) = vs[i]? := rfl
def lenP (P : Program) (t ty : Nat) (x : PV) : Option PV := match evLen P t x with
  | some p => some p
  | none => match toVal x with
    | some v => ((pureRun P (Builtin.len_ #[t] ty #[v]))).map .val
    | none => none
theorem ev_len (x : Operand) (t : Nat) : evVal P Γ ob ρ ty (.call { callee := .builtin .len, args := #[x], argTypes := #[t] }) = lenP P t ty (ρ x) := rfl
theorem lp_lst {t ty sz e : Nat} {k : Bool} {es : List PV} (h : tyElem P t = some e) : lenP P t ty (.lst k sz es) = some (.val (.int .i64 es.length)) := by simp [lenP, evLen, h]
theorem lp_row {t ty o sz i n e : Nat} (h : tyElem P t = some e) : lenP P t ty (.row o sz i n) = some (.val (.int .i64 n)) := by simp [lenP, evLen, h]
theorem lp_str {t ty : Nat} {s : ByteArray} (h : P.underlying t = some .string) : lenP P t ty (.val (.string s)) = some (.val (.int .i64 s.size)) := by simp [lenP, evLen, toVal, pr_lenS h]
theorem lp_nil {t ty e : Nat} (h : P.underlying t = some (.slice e)) : lenP P t ty (.val (.slice none 0 0)) = some (.val (.int .i64 0)) := by
  simp [lenP, evLen, toVal, Builtin.len_, underlying, Go.program, bind, Sem.bind, pure, pureRun, h, goInt]
theorem ev_max (xs : Array Operand) (ts : Array TypeId) : evVal P Γ ob ρ ty (.call { callee := .builtin .max, args := xs, argTypes := ts }) = (match toValsA (xs.toList.map ρ) with | some vs => (pureRun P (Builtin.max_ ts ty vs.toArray)).map .val | none => none) := rfl
theorem ev_min (xs : Array Operand) (ts : Array TypeId) : evVal P Γ ob ρ ty (.call { callee := .builtin .min, args := xs, argTypes := ts }) = (match toValsA (xs.toList.map ρ) with | some vs => (pureRun P (Builtin.min_ ts ty vs.toArray)).map .val | none => none) := rfl
def slcP (P : Program) (t : Nat) (x : PV) (lo hi : Option (Option Int)) : Option PV := match x with
    | .val (.string s) => match lo, hi with
      | some l, some h => (pureRun P (Instr.sliceAt t (.string s) (l.map (Value.int .i64)) (h.map (Value.int .i64)) none)).map .val
      | _, _ => none
    | p => match lo, hi with
      | some l, some h => evSlice P t p l h
      | _, _ => none
theorem ev_slice (t : Nat) (x : Operand) (lo hi : Option Operand) : evVal P Γ ob ρ ty (.slice t x lo hi none) = slcP P t (ρ x) (optI (lo.map ρ)) (optI (hi.map ρ)) := by
  simp only [evVal]
  unfold slcP
  cases ρ x with
  | val v => cases v <;> rfl
  | _ => rfl
theorem sp_lst (t : Nat) (k : Bool) (sz : Nat) (es : List PV) (lo hi : Option Int) : slcP P t (.lst k sz es) (some lo) (some hi) = evSlice P t (.lst k sz es) lo hi := rfl
theorem sp_row (t : Nat) (o sz i n : Nat) (lo hi : Option Int) : slcP P t (.row o sz i n) (some lo) (some hi) = evSlice P t (.row o sz i n) lo hi := rfl
/-- The box of a value. -/
def boxEv (t : Nat) (s : AS) (x : PV) : Option (List PV) → Option (PV × Objs × Nat)
  | some cs => some (.own s.nx cs.length 0 0, upd s.ob s.nx (some (t, cs.length, [x])), s.nx + 1)
  | none => none
theorem ee_box (s : AS) (t : Nat) (x : Operand) : evEff P Γ s ρ (.box t x) = boxEv t s (ρ x) (cellsL (ρ x)) := rfl
theorem be_some (t : Nat) (s : AS) (x : PV) (cs : List PV) : boxEv t s x (some cs) = some (.own s.nx cs.length 0 0, upd s.ob s.nx (some (t, cs.length, [x])), s.nx + 1) := rfl
def rowE (n : Nat) (s : AS) : Option (Nat × Nat × List PV) → Option (PV × Objs × Nat)
  | some (e, sz, es) => some (.row s.nx sz 0 n, upd s.ob s.nx (some (e, sz, es)), s.nx + 1)
  | none => none
theorem ee_buildSlice (s : AS) (t n : Nat) (ps : Array (Nat × Operand)) : evEff P Γ s ρ (.buildSlice t n ps) = rowE n s (rowEs P t n (partsOf ρ ps)) := rfl
theorem re_some (n : Nat) (s : AS) (e sz : Nat) (es : List PV) : rowE n s (some (e, sz, es)) = some (.row s.nx sz 0 n, upd s.ob s.nx (some (e, sz, es)), s.nx + 1) := rfl
theorem cellsL_val {v : Value} (h : v.oneCell' = true) : cellsL (.val v) = some [.val v] := by simp [cellsL, oneP, h]
theorem cellsL_lst (k : Bool) (sz : Nat) (es : List PV) : cellsL (.lst k sz es) = some [.lst k sz es] := rfl
theorem cellsL_row (o sz i n : Nat) : cellsL (.row o sz i n) = some [.row o sz i n] := rfl
theorem cellsL_own (o sz i n : Nat) : cellsL (.own o sz i n) = some [.own o sz i n] := rfl
theorem cellsL_agg {cs : List PV} (h : cs.all oneP = true) : cellsL (.agg cs) = some cs := by simp [cellsL, h]
theorem oneP_val (v : Value) : oneP (.val v) = v.oneCell' := rfl
theorem oneP_lst (k : Bool) (sz : Nat) (es : List PV) : oneP (.lst k sz es) = true := rfl
theorem oneP_row (o sz i n : Nat) : oneP (.row o sz i n) = true := rfl
theorem oneP_own (o sz i n : Nat) : oneP (.own o sz i n) = true := rfl
def subC (ag : Option Bool) (k : Option Nat) (f : Nat) : Option (List PV) → Option PV
  | some cs => match ag, k with
    | some true, some k => if f + k ≤ cs.length then some (.agg ((cs.drop f).take k)) else none
    | some false, _ => cs[f]?
    | _, _ => none
  | none => none
theorem subP_eq (t f : Nat) (e : PV) : subP P t f e = subC (tyAgg P t) (tySize P t) f (cellsL e) := by
  unfold subP subC
  cases cellsL e <;> cases tyAgg P t <;> cases tySize P t <;> first | rfl | (rename_i b _; cases b <;> rfl) | (rename_i b; cases b <;> rfl) | skip
theorem subC_one (k : Option Nat) (f : Nat) (cs : List PV) : subC (some false) k f (some cs) = cs[f]? := by cases k <;> rfl
theorem subC_agg (k f : Nat) (cs : List PV) (h : f + k ≤ cs.length) : subC (some true) (some k) f (some cs) = some (.agg ((cs.drop f).take k)) := by simp [subC, h]
end

theorem wrap_div {a b : Int} (h : 0 ≤ a) (h1 : 1 ≤ b) (h2 : a ≤ 4611686018427387904) : IntKind.i64.wrap (a / b) = a / b := by
  have := Int.ediv_nonneg h (show 0 ≤ b by omega)
  have := Int.ediv_le_self b h
  exact wrap_id (by omega) (by omega)
theorem tdiv_pos {a b : Int} (h : 0 ≤ a) : a.tdiv b = a / b := Int.tdiv_eq_ediv_of_nonneg h
theorem tmod_pos {a b : Int} (h : 0 ≤ a) : a.tmod b = a % b := Int.tmod_eq_emod_of_nonneg h
/-! Lists that a loop fills. -/
def fillL (f : Nat → PV) (z : PV) (k n : Nat) : List PV := (List.range n).map fun j => if j < k then f j else z
theorem fillL_length (f : Nat → PV) (z : PV) (k n : Nat) : (fillL f z k n).length = n := by simp [fillL]
theorem fillL_get (f : Nat → PV) (z : PV) {k n : Nat} (h : k < n) : (fillL f z k n)[k]? = some z := by simp [fillL, h]
theorem fillL_set (f : Nat → PV) (z : PV) {k n : Nat} (h : k < n) : (fillL f z k n).set k (f k) = fillL f z (k + 1) n := by
  apply List.ext_getElem?
  intro i
  rw [List.getElem?_set, fillL_length]
  by_cases hi : k = i
  · subst hi
    simp [h, fillL]
  · rw [if_neg hi]
    by_cases hn : i < n
    · simp only [fillL, List.getElem?_map, List.getElem?_range hn, Option.map_some]
      congr 1
      by_cases h1 : i < k
      · rw [if_pos h1, if_pos (by omega)]
      · rw [if_neg h1, if_neg (by omega)]
    · rw [List.getElem?_eq_none (by rw [fillL_length]; omega), List.getElem?_eq_none (by rw [fillL_length]; omega)]
theorem fillL_full (f : Nat → PV) (z : PV) (n : Nat) : fillL f z n n = (List.range n).map f := by
  unfold fillL
  apply List.map_congr_left
  intro i hi
  rw [if_pos (by simpa using hi)]
theorem fillL_zero (f : Nat → PV) (z : PV) (n : Nat) : fillL f z 0 n = List.replicate n z := by
  apply List.ext_getElem?
  intro i
  by_cases hn : i < n
  · simp [fillL, hn]
  · rw [List.getElem?_eq_none (by rw [fillL_length]; omega), List.getElem?_eq_none (by simp; omega)]
theorem range_map_get {α : Type} (l : List α) (d : α) (f : α → PV) : ((List.range l.length).map fun j => f ((l[j]?).getD d)) = l.map f := by
  apply List.ext_getElem?
  intro i
  by_cases hi : i < l.length
  · simp [hi]
  · rw [List.getElem?_eq_none (by simp; omega), List.getElem?_eq_none (by simp; omega)]
/-- A copy under way: the first k elements stand, the others are z. -/
def fillZ {α : Type} (zs : List α) (z : α) (k : Nat) : List α := zs.take k ++ List.replicate (zs.length - k) z
theorem fillZ_length {α : Type} {zs : List α} {z : α} {k : Nat} : (fillZ zs z k).length = zs.length := by
  simp [fillZ]; omega
theorem fillZ_zero {α : Type} {zs : List α} {z : α} : fillZ zs z 0 = List.replicate zs.length z := by simp [fillZ]
theorem fillZ_full {α : Type} {zs : List α} {z : α} {k : Nat} (h : zs.length ≤ k) : fillZ zs z k = zs := by
  simp [fillZ, List.take_of_length_le h, Nat.sub_eq_zero_of_le h]
theorem fillZ_set {α : Type} {zs : List α} {z : α} {k : Nat} {y : α} (h : k < zs.length) (hy : zs[k]? = some y) : (fillZ zs z k).set k y = fillZ zs z (k + 1) := by
  have e : zs.length - k = (zs.length - (k + 1)) + 1 := by omega
  have hl : (zs.take k).length = k := by simp; omega
  unfold fillZ
  rw [List.set_append_right _ _ (by omega), hl, Nat.sub_self, e, List.replicate_succ, List.set_cons_zero, List.take_add_one, hy]
  simp
theorem cellsL_int (k : IntKind) (n : Int) : cellsL (.val (.int k n)) = some [.val (.int k n)] := rfl
theorem cellsL_bool (b : Bool) : cellsL (.val (.bool b)) = some [.val (.bool b)] := rfl
theorem cellsL_str (b : ByteArray) : cellsL (.val (.string b)) = some [.val (.string b)] := rfl
theorem omg {α β : Type} {f : α → β} {l : List α} {k : Nat} {d : α} (h : k < l.length) : Option.map f l[k]? = some (f (l[k]?.getD d)) := by simp [h]
theorem omg_i {β : Type} {f : Int → β} {l : List Int} {k : Nat} (h : k < l.length) : Option.map f l[k]? = some (f (l[k]?.getD 0)) := omg h
theorem omg_b {β : Type} {f : Bool → β} {l : List Bool} {k : Nat} (h : k < l.length) : Option.map f l[k]? = some (f (l[k]?.getD false)) := omg h
theorem omg_s {β : Type} {f : ByteArray → β} {l : List ByteArray} {k : Nat} (h : k < l.length) : Option.map f l[k]? = some (f (l[k]?.getD .empty)) := omg h
theorem cellsL_aggI (cs : List PV) : cellsL (.agg cs) = if cs.all oneP = true then some cs else none := rfl
attribute [push_cast]
  ev_call
  ev_callV
  fnOf_fn
  ev_move
  ev_assign
  pickP_b
  ev_pick
  ev_build
  rowV
  ev_buildSlice
  ev_load
  loadP_ptr
  loadP_own
  obOf_row
  obOf_own
  obOf_ptr
  obOf_val
  obOf_lst
  ev_nilCheck
  nilP_own
  nilP_ptr
  ev_binOp
  bp_add
  bp_sub
  bp_mul
  bp_quo
  bp_rem
  bp_lss
  bp_leq
  bp_gtr
  bp_geq
  bp_eql
  bp_neq
  ev_unOp
  up_not
  up_neg
  ev_convert
  cv_str
  ev_fieldAddr
  fadP_own
  fadP_ptr
  ixaP_int
  ev_indexAddr
  ev_index
  ev_extract
  extP_tup
  ev_len
  ev_max
  ev_min
  ev_slice
  sp_lst
  sp_row
  ee_box
  be_some
  ee_buildSlice
  re_some
  cellsL_int
  cellsL_bool
  cellsL_str
  cellsL_val
  omg_i
  omg_b
  omg_s
  cellsL_lst
  cellsL_row
  cellsL_own
  cellsL_aggI
  oneP_val
  oneP_lst
  oneP_row
  oneP_own
  subP_eq
  subC_one
  subC_agg
  sliceEs
  mkEv_ok
  apEv_row
  apEv_nil
  est_of
  stEv_own
  agY_val
  agY_lst
  agY_row
  agY_own
  agY_agg
  stP_agg
  stP_val
  stP_lst
  stP_row
  stP_own
  set_map
  setL_zero
  setL_1
  setL_2
  setL_3
  setL_4
  setL_5
  setL_6
  setL_7
  List.set_cons_zero
  List.drop_succ_cons
  List.drop_zero
  List.drop_nil
  List.nil_append
  List.cons_append
  List.take_succ_cons
  List.take_zero
  List.length_set
  reify_fuel
  reifyS_val
  reifyS_agg
  reifyS_tup
  reifyS_vals
  reifyT_vals
  reifyS_row
  rowRe_vals
  resPs_cell
  resC_own
  elOf_own
  fillL_length
  List.length_replicate
  look
  upd_apply
  gq_gqd
  gqd_some
  boolOf_undef
  beq_none
  boolOf_bool
  beq_some_true
  beq_some_false
  toVal_val
  toVals
  toValsA
  asI
  optI
  List.map_cons
  List.map_nil
  Option.map_some
  Option.map_none
  Option.bind_some
  List.getElem?_cons_zero
  List.getElem?_cons_succ
  List.getElem?_nil
  Option.getD_some
  Option.getD_none
  reify_val
  onePV_one
  onePV_two
  resPs_nil
  resPs_tmp
  decide_true
  decide_false
  Bool.true_and
  Bool.false_and
  Bool.and_true
  Bool.and_false
  Bool.or_true
  Bool.or_false
  Bool.true_or
  Bool.false_or
  Bool.not_true
  Bool.not_false
  Bool.not_not
  decide_eq_true_eq
  decide_eq_false_iff_not
  Bool.not_eq_true'
  Bool.not_eq_false'
  if_true
  if_false
  ite_true
  ite_false
  Bool.false_eq_true
  pr_max
  pr_min
  wrap_id
  wrap_div
  tdiv_pos
  tmod_pos
  List.length_map
  List.getElem?_map
  Int.toNat_natCast
  toNat_pred
  toNat_succ
  toNat_add
  Int.natCast_nonneg
  and_self
  and_true
  true_and
  Nat.zero_add
  Nat.add_zero
  Int.natCast_zero
  Int.natCast_one
  Int.natCast_add
  get_iv
  get_nv
  get_sv
  get_bv
  Value.oneCell'
  List.all_cons
  List.all_nil
  List.length_cons
  List.length_nil
  Option.isSome_some
  mapM_nil'
  mapM_cons'
  reify_vals
  iv
  bv
  sv
  lk_apply
  agree
  agreeO
  List.lookup_nil
  List.lookup_cons
  beq_self_eq_true
  initS_tm
attribute [push_cast] strI_length srcEs_str srcEs_lst srcEs_row cpX_row cpX_nil
end Go.Proofs.YtenldjifipnjpaaDoor
