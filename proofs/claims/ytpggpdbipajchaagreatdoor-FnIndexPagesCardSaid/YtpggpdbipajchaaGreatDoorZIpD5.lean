/- What the proof rests on, part 5: contracts of functions. No condition beyond what each states. -/
import Derived.Test.YtpggpdbipajchaaGreatDoorZIpD4
namespace Go.Proofs.YtpggpdbipajchaaGreatDoor
open Go.RowKit
set_option linter.all false
def mkEv (e sz by_ : Nat) (z : Value) (s : AS) : PV → PV → Option (PV × Objs × Nat)
  | .val (.int _ l), .val (.int _ c) =>
    if 0 ≤ l ∧ l ≤ c ∧ (by_ : Int) * c ≤ 281474976710656 ∧ c ≤ 9223372036854775807 then some (.row s.nx sz 0 l.toNat, upd s.ob s.nx (some (e, sz, List.replicate l.toNat (ofVal z))), s.nx + 1) else none
  | _, _ => none
theorem mkEv_ok {e sz by_ : Nat} {z : Value} {s : AS} {kl kc : IntKind} {l c : Int} (h0 : 0 ≤ l) (h1 : l ≤ c) (h2 : (by_ : Int) * c ≤ 281474976710656) (h3 : c ≤ 9223372036854775807) :
    mkEv e sz by_ z s (.val (.int kl l)) (.val (.int kc c)) = some (.row s.nx sz 0 l.toNat, upd s.ob s.nx (some (e, sz, List.replicate l.toNat (ofVal z))), s.nx + 1) := by
  simp [mkEv, h0, h1, h2, h3]
theorem em_of {P : Program} {Γ : Ctx} {t e sz by_ : Nat} {z : Value} (he : tyElem P t = some e) (hz : zeroOf P e = some z) (hs : tySize P e = some sz) (hb : tyBytes P e = some by_) (h1 : z.cells.all (·.oneCell') = true) (h2 : z.cells.size = sz) (s : AS) (ρ : Operand → PV) (l c : Operand) :
    evEff P Γ s ρ (.makeSlice t l c) = mkEv e sz by_ z s (ρ l) (ρ c) := by
  simp only [evEff, he, hz, hs, hb]
  unfold mkEv
  split
  · rename_i z' sz' by' kl l' kc c' e1 e2 e3 e4 e5
    cases e1; cases e2; cases e3
    rw [e4, e5]
    have key : ∀ C : Prop, (z.cells.all (·.oneCell') = true ∧ z.cells.size = sz ∧ C) = C := fun C => propext ⟨fun h => h.2.2, fun h => ⟨h1, h2, h⟩⟩
    simp only [key]
  · rename_i hno
    split
    · rename_i a b kl l' kc c' e4 e5
      exact (hno z sz by_ kl l' kc c' rfl rfl rfl e4 e5).elim
    · rfl
theorem ea_of {P : Program} {Γ : Ctx} {t sz : Nat} {z : Value} {p : PV} (hz : zeroOf P t = some z) (h1 : z.cells.all (·.oneCell') = true) (h2 : z.cells.size = sz) (h3 : ofVal z = p) (s : AS) (ρ : Operand → PV) :
    evEff P Γ s ρ (.alloc t) = some (.own s.nx sz 0 0, upd s.ob s.nx (some (t, sz, [p])), s.nx + 1) := by
  simp only [evEff, hz]
  rw [if_pos h1, h2, h3]
def obOf (ob : Objs) : PV → Option (Nat × Nat × List PV)
  | .row o _ _ _ => ob o
  | .own o _ _ _ => ob o
  | _ => none
def apEv (e sz by_ nx : Nat) (ob : Objs) (x : PV) (c : Option (Nat × Nat × List PV)) (es2 : Option (List PV)) : Option (PV × Objs × Nat) :=
  match es2 with
  | some es2 => match x with
    | .row o sz' i n => match c with
      | some (T, sz'', es) => if i = 0 ∧ T = e ∧ sz' = sz ∧ sz'' = sz ∧ es.length = n ∧ n + es2.length ≤ 9223372036854775807 ∧ (n + es2.length) * by_ ≤ 140737488355328 then
          some (.row nx sz 0 (n + es2.length), upd (upd ob o none) nx (some (e, sz, es ++ es2)), nx + 1) else none
      | none => none
    | p => if isNil p = true ∧ es2.length ≤ 9223372036854775807 ∧ es2.length * by_ ≤ 140737488355328 then
        (if es2.length = 0 then some (p, ob, nx) else some (.row nx sz 0 es2.length, upd ob nx (some (e, sz, es2)), nx + 1)) else none
  | none => none
theorem eap_of {P : Program} {Γ : Ctx} {t e sz by_ : Nat} {z : Value} (he : tyElem P t = some e) (hz : zeroOf P e = some z) (hs : tySize P e = some sz) (hb : tyBytes P e = some by_) (h1 : 0 < sz) (h2 : z.cells.size = sz) (s : AS) (ρ : Operand → PV) (x y : Operand) :
    evEff P Γ s ρ (.call { callee := .builtin .append, args := #[x, y], argTypes := #[t, t] }) = apEv e sz by_ s.nx s.ob (ρ x) (obOf s.ob (ρ x)) (sliceEs s.ob sz (ρ y)) := by
  simp only [evEff, he, hz, hs, hb]
  unfold apEv
  cases sliceEs s.ob sz (ρ y) with
  | none => rfl
  | some es2 =>
    simp only [h1, h2, and_self, if_true]
    cases ρ x <;> rfl
theorem apEv_row {e sz by_ nx o n : Nat} {ob : Objs} {es es2 : List PV} (h1 : es.length = n) (h2 : n + es2.length ≤ 9223372036854775807) (h3 : (n + es2.length) * by_ ≤ 140737488355328) :
    apEv e sz by_ nx ob (.row o sz 0 n) (some (e, sz, es)) (some es2) = some (.row nx sz 0 (n + es2.length), upd (upd ob o none) nx (some (e, sz, es ++ es2)), nx + 1) := by
  simp [apEv, h1, h2, h3]
theorem apEv_nil {e sz by_ nx : Nat} {ob : Objs} {c : Option (Nat × Nat × List PV)} {es2 : List PV} (h1 : 0 < es2.length) (h2 : es2.length ≤ 9223372036854775807) (h3 : es2.length * by_ ≤ 140737488355328) :
    apEv e sz by_ nx ob (.val (.slice none 0 0)) c (some es2) = some (.row nx sz 0 es2.length, upd ob nx (some (e, sz, es2)), nx + 1) := by
  have : ¬ es2.length = 0 := by omega
  have hn : ¬ es2 = [] := fun h => this (by rw [h]; rfl)
  simp [apEv, isNil, h2, h3, hn]
def strI (b : ByteArray) : List Int := b.data.toList.map fun x => (x.toNat : Int)
theorem strI_length (b : ByteArray) : (strI b).length = b.size := by
  unfold strI
  rw [List.length_map]
  exact Array.length_toList
theorem srcEs_str {ob : Objs} {b : ByteArray} : srcEs ob 1 (.val (.string b)) = some ((strI b).map fun n => .val (.int .u8 n)) := by
  simp [srcEs, strI]
theorem srcEs_lst {ob : Objs} {k : Bool} {sz s : Nat} {es : List PV} : srcEs ob sz (.lst k s es) = sliceEs ob sz (.lst k s es) := rfl
theorem srcEs_row {ob : Objs} {o sz i n s : Nat} : srcEs ob sz (.row o s i n) = sliceEs ob sz (.row o s i n) := rfl
def cpX (sz nx : Nat) (ob : Objs) (x : PV) (c : Option (Nat × Nat × List PV)) (es2 : Option (List PV)) : Option (PV × Objs × Nat) :=
  match es2, x with
  | some es2, .row o sz' i n => match c with
    | some (T, sz'', es) => if sz' = sz ∧ sz'' = sz ∧ i + n ≤ es.length then
        some (.val (.int .i64 (min es2.length n : Nat)), upd ob o (some (T, sz, es.take i ++ es2.take (min es2.length n) ++ es.drop (i + min es2.length n))), nx) else none
    | none => none
  | some _, .lst _ _ [] => some (.val (.int .i64 0), ob, nx)
  | _, _ => none
theorem ecp_of {P : Program} {Γ : Ctx} {t e sz : Nat} (he : tyElem P t = some e) (hs : tySize P e = some sz) (s : AS) (ρ : Operand → PV) (x y : Operand) (t' : Nat) :
    evEff P Γ s ρ (.call { callee := .builtin .copy, args := #[x, y], argTypes := #[t, t'] }) = cpX sz s.nx s.ob (ρ x) (obOf s.ob (ρ x)) (srcEs s.ob sz (ρ y)) := by
  simp only [evEff, cpEv, he, hs]
  unfold cpX
  cases srcEs s.ob sz (ρ y) with
  | none => rfl
  | some es2 =>
    cases hx : ρ x with
    | lst k sz' es => cases es <;> rfl
    | _ => rfl
theorem cpX_nil {sz nx k' : Nat} {k : Bool} {ob : Objs} {c : Option (Nat × Nat × List PV)} {es2 : List PV} : cpX sz nx ob (.lst k k' []) c (some es2) = some (.val (.int .i64 0), ob, nx) := rfl
theorem cpX_row {sz nx o i n T : Nat} {ob : Objs} {es es2 : List PV} (h : i + n ≤ es.length) : cpX sz nx ob (.row o sz i n) (some (T, sz, es)) (some es2) = some (.val (.int .i64 (min es2.length n : Nat)), upd ob o (some (T, sz, es.take i ++ es2.take (min es2.length n) ++ es.drop (i + min es2.length n))), nx) := by
  simp [cpX, h]
def stEv (P : Program) (t : Nat) (ob : Objs) (nx : Nat) (x y : PV) (c : Option (Nat × Nat × List PV)) : Option (PV × Objs × Nat) :=
  match x, c with
  | .own o sz i f, some (T, sz', es) => match es[i]?, cellsL y with
    | some e, some cs => if sz = sz' ∧ tySize P t = some cs.length then (setP sz e f y cs).map fun e' => (.val undef, upd ob o (some (T, sz, es.set i e')), nx) else none
    | _, _ => none
  | _, _ => none
theorem est_of {P : Program} {Γ : Ctx} (s : AS) (ρ : Operand → PV) (t : Nat) (x y : Operand) : evEff P Γ s ρ (.store t x y) = stEv P t s.ob s.nx (ρ x) (ρ y) (obOf s.ob (ρ x)) := by
  simp only [evEff]
  unfold stEv
  cases hx : ρ x with
  | own o sz i f =>
    simp only [obOf]
    cases s.ob o with
    | none => rfl
    | some c => rfl
  | _ => rfl
def agY : PV → Bool
  | .agg _ => true
  | _ => false
theorem agY_val (v : Value) : agY (.val v) = false := rfl
theorem agY_lst (k : Bool) (sz : Nat) (es : List PV) : agY (.lst k sz es) = false := rfl
theorem agY_row (o sz i n : Nat) : agY (.row o sz i n) = false := rfl
theorem agY_own (o sz i f : Nat) : agY (.own o sz i f) = false := rfl
theorem agY_agg (cs : List PV) : agY (.agg cs) = true := rfl
def stE (sz f : Nat) (ag : Bool) (cs : List PV) : PV → Option PV
  | .agg ecs => if f + cs.length ≤ ecs.length then some (PV.agg (setL ecs f cs)) else none
  | _ => if sz = 1 ∧ f = 0 ∧ ag = false then cs.head? else none
def stP (k : Option Nat) (ob : Objs) (nx o T sz i f : Nat) (ag : Bool) (cs : Option (List PV)) (es : List PV) (e : Option PV) : Option (PV × Objs × Nat) :=
  match k, cs, e with
  | some k, some cs, some e => if k = cs.length then
      (stE sz f ag cs e).map fun e' => (.val undef, upd ob o (some (T, sz, es.set i e')), nx)
      else none
  | _, _, _ => none
theorem stEv_own {P : Program} {t o sz i f T nx : Nat} {ob : Objs} {es : List PV} {y : PV} :
    stEv P t ob nx (.own o sz i f) y (some (T, sz, es)) = stP (tySize P t) ob nx o T sz i f (agY y) (cellsL y) es (es[i]?) := by
  simp only [stEv, stP]
  cases he : es[i]? with
  | none => cases tySize P t <;> cases cellsL y <;> rfl
  | some e =>
    cases hc : cellsL y with
    | none => cases tySize P t <;> rfl
    | some cs =>
      cases ht : tySize P t with
      | none => simp
      | some k =>
        by_cases hk : k = cs.length
        · have e2 : setP sz e f y cs = stE sz f (agY y) cs e := by
            have hone : oneP y = true → cs.head? = some y ∧ agY y = false := by
              intro h
              cases y <;> simp_all [cellsL, oneP, agY] <;> (subst hc; rfl)
            have hno : oneP y = false → agY y = true := by
              intro h
              cases y <;> simp_all [cellsL, oneP, agY]
            clear he
            cases e <;> simp only [setP, stE]
            all_goals
              cases ho : oneP y with
              | true => simp [hone ho]
              | false => simp [hno ho]
          simp [hk, e2]
        · simp [hk]
theorem stP_agg {k nx o T sz i f : Nat} {ob : Objs} {ag : Bool} {cs ecs es : List PV} (hk : k = cs.length) (hf : f + cs.length ≤ ecs.length) :
    stP (some k) ob nx o T sz i f ag (some cs) es (some (.agg ecs)) = some (.val undef, upd ob o (some (T, sz, es.set i (.agg (setL ecs f cs)))), nx) := by
  simp [stP, stE, hk, hf]
theorem stP_val {nx o T i : Nat} {ob : Objs} {es : List PV} {v : Value} {c : PV} :
    stP (some 1) ob nx o T 1 i 0 false (some [c]) es (some (.val v)) = some (.val undef, upd ob o (some (T, 1, es.set i c)), nx) := rfl
theorem stP_lst {nx o T i k sz : Nat} {b : Bool} {ob : Objs} {es l : List PV} {c : PV} :
    stP (some 1) ob nx o T 1 i 0 false (some [c]) es (some (.lst b sz l)) = some (.val undef, upd ob o (some (T, 1, es.set i c)), nx) := rfl
theorem stP_row {nx o T i a b' c' d : Nat} {ob : Objs} {es : List PV} {c : PV} :
    stP (some 1) ob nx o T 1 i 0 false (some [c]) es (some (.row a b' c' d)) = some (.val undef, upd ob o (some (T, 1, es.set i c)), nx) := rfl
theorem stP_own {nx o T i a b' c' d : Nat} {ob : Objs} {es : List PV} {c : PV} :
    stP (some 1) ob nx o T 1 i 0 false (some [c]) es (some (.own a b' c' d)) = some (.val undef, upd ob o (some (T, 1, es.set i c)), nx) := rfl
theorem set_map {α β : Type} {f : α → β} {xs : List α} {i : Nat} {y : α} : (xs.map f).set i (f y) = (xs.set i y).map f := by rw [List.map_set]
theorem setL_zero {α : Type} (l new : List α) : setL l 0 new = new ++ l.drop new.length := by simp [setL]
theorem setL_succ {α : Type} (x : α) (l : List α) (n : Nat) (new : List α) : setL (x :: l) (n + 1) new = x :: setL l n new := by
  simp [setL, Nat.add_right_comm n 1]
theorem setL_1 {α : Type} (x : α) (l : List α) (new : List α) : setL (x :: l) 1 new = x :: setL l 0 new := setL_succ x l 0 new
theorem setL_2 {α : Type} (x : α) (l : List α) (new : List α) : setL (x :: l) 2 new = x :: setL l 1 new := setL_succ x l 1 new
theorem setL_3 {α : Type} (x : α) (l : List α) (new : List α) : setL (x :: l) 3 new = x :: setL l 2 new := setL_succ x l 2 new
theorem setL_4 {α : Type} (x : α) (l : List α) (new : List α) : setL (x :: l) 4 new = x :: setL l 3 new := setL_succ x l 3 new
theorem setL_5 {α : Type} (x : α) (l : List α) (new : List α) : setL (x :: l) 5 new = x :: setL l 4 new := setL_succ x l 4 new
theorem setL_6 {α : Type} (x : α) (l : List α) (new : List α) : setL (x :: l) 6 new = x :: setL l 5 new := setL_succ x l 5 new
theorem setL_7 {α : Type} (x : α) (l : List α) (new : List α) : setL (x :: l) 7 new = x :: setL l 6 new := setL_succ x l 6 new
structure Dec (α : Type) where
  d : PV → Option α
  e : α → PV
  h : ∀ p a, d p = some a → p = e a
  h' : ∀ a, d (e a) = some a
def F0 (F : Option PV) : Fun := fun ps => match ps with | [] => F | _ => none
def F1 {α : Type} (A : Dec α) (F : α → Option PV) : Fun := fun ps => match ps with | [p] => (A.d p).bind F | _ => none
def F2 {α β : Type} (A : Dec α) (B : Dec β) (F : α → β → Option PV) : Fun := fun ps => match ps with | [p, q] => (A.d p).bind fun a => (B.d q).bind fun b => F a b | _ => none
def F3 {α β γ : Type} (A : Dec α) (B : Dec β) (C : Dec γ) (F : α → β → γ → Option PV) : Fun := fun ps => match ps with | [p, q, r] => (A.d p).bind fun a => (B.d q).bind fun b => (C.d r).bind fun c => F a b c | _ => none
section
variable {α β γ δ : Type} {A : Dec α} {B : Dec β} {C : Dec γ} {D : Dec δ} {ps : List PV} {r : PV}
theorem F0_some {F : Option PV} (h : F0 F ps = some r) : ps = [] ∧ F = some r := by
  unfold F0 at h
  split at h
  · exact ⟨rfl, h⟩
  · cases h
theorem F1_some {F : α → Option PV} (h : F1 A F ps = some r) : ∃ a, ps = [A.e a] ∧ F a = some r := by
  unfold F1 at h
  split at h
  · rw [Option.bind_eq_some_iff] at h
    obtain ⟨a, h1, h2⟩ := h
    exact ⟨a, by rw [A.h _ _ h1], h2⟩
  · cases h
theorem F2_some {F : α → β → Option PV} (h : F2 A B F ps = some r) : ∃ a b, ps = [A.e a, B.e b] ∧ F a b = some r := by
  unfold F2 at h
  split at h
  · simp only [Option.bind_eq_some_iff] at h
    obtain ⟨a, h1, b, h2, h3⟩ := h
    exact ⟨a, b, by rw [A.h _ _ h1, B.h _ _ h2], h3⟩
  · cases h
theorem F3_some {F : α → β → γ → Option PV} (h : F3 A B C F ps = some r) : ∃ a b c, ps = [A.e a, B.e b, C.e c] ∧ F a b c = some r := by
  unfold F3 at h
  split at h
  · simp only [Option.bind_eq_some_iff] at h
    obtain ⟨a, h1, b, h2, c, h3, h4⟩ := h
    exact ⟨a, b, c, by rw [A.h _ _ h1, B.h _ _ h2, C.h _ _ h3], h4⟩
  · cases h
theorem F1_ap {F : α → Option PV} (a : α) : F1 A F [A.e a] = F a := by simp [F1, A.h']
theorem F2_ap {F : α → β → Option PV} (a : α) (b : β) : F2 A B F [A.e a, B.e b] = F a b := by simp [F2, A.h', B.h']
end
def dI : Dec Int := { d := fun | .val (.int .i64 n) => some n | _ => none, e := fun n => .val (.int .i64 n), h := fun p a h => by split at h <;> simp_all, h' := fun a => rfl }
def dU : Dec Int := { d := fun | .val (.int .u8 n) => some n | _ => none, e := fun n => .val (.int .u8 n), h := fun p a h => by split at h <;> simp_all, h' := fun a => rfl }
def dB : Dec Bool := { d := fun | .val (.bool n) => some n | _ => none, e := fun n => .val (.bool n), h := fun p a h => by split at h <;> simp_all, h' := fun a => rfl }
def dS : Dec ByteArray := { d := fun | .val (.string n) => some n | _ => none, e := fun n => .val (.string n), h := fun p a h => by split at h <;> simp_all, h' := fun a => rfl }
def dFn (f : Nat) : Dec Unit where
  d := fun | .val (.func (.func g) a b) => if g = f ∧ a.size = 0 ∧ b.size = 0 then some () else none | _ => none
  e := fun _ => .val (.func (.func f) #[] #[])
  h := fun p a h => by
    split at h
    · split at h
      · rename_i hh
        obtain ⟨rfl, h1, h2⟩ := hh
        rw [Array.eq_empty_of_size_eq_zero h1, Array.eq_empty_of_size_eq_zero h2]
      · cases h
    · cases h
  h' := fun a => by simp
theorem mapM_dec {α : Type} (A : Dec α) : ∀ {es : List PV} {l : List α}, es.mapM A.d = some l → es = l.map A.e
  | [], l, h => by simp only [List.mapM_nil, Option.pure_def, Option.some.injEq] at h; subst h; rfl
  | e :: es, l, h => by
    rw [mapM_cons', Option.bind_eq_some_iff] at h
    obtain ⟨a, h1, h2⟩ := h
    rw [Option.map_eq_some_iff] at h2
    obtain ⟨l', h3, rfl⟩ := h2
    rw [List.map_cons, A.h _ _ h1, mapM_dec A h3]
theorem mapM_enc {α : Type} (A : Dec α) : ∀ (l : List α), (l.map A.e).mapM A.d = some l
  | [] => rfl
  | a :: l => by rw [List.map_cons, mapM_cons', A.h', mapM_enc A l]; rfl
def dL {α : Type} (sz : Nat) (A : Dec α) : Dec (List α) where
  d := fun | .lst false s es => if s = sz then es.mapM A.d else none | _ => none
  e := fun l => .lst false sz (l.map A.e)
  h := fun p a h => by
    split at h
    · split at h
      · rename_i hs
        subst hs
        rw [mapM_dec A h]
      · cases h
    · cases h
  h' := fun a => by
    show (if sz = sz then (a.map A.e).mapM A.d else none) = some a
    rw [if_pos rfl, mapM_enc]
abbrev dIs := dL 1 dI
abbrev dUs := dL 1 dU
abbrev dSs := dL 1 dS
def dA2 {α β : Type} (A : Dec α) (B : Dec β) : Dec (α × β) where
  d := fun | .agg [p, q] => (A.d p).bind fun a => (B.d q).map fun b => (a, b) | _ => none
  e := fun x => .agg [A.e x.1, B.e x.2]
  h := fun p a h => by
    split at h
    · simp only [Option.bind_eq_some_iff, Option.map_eq_some_iff] at h
      obtain ⟨x, h1, y, h2, rfl⟩ := h
      rw [A.h _ _ h1, B.h _ _ h2]
    · cases h
  h' := fun a => by simp [A.h', B.h']
def dA3 {α β γ : Type} (A : Dec α) (B : Dec β) (C : Dec γ) : Dec (α × β × γ) where
  d := fun | .agg [p, q, r] => (A.d p).bind fun a => (B.d q).bind fun b => (C.d r).map fun c => (a, b, c) | _ => none
  e := fun x => .agg [A.e x.1, B.e x.2.1, C.e x.2.2]
  h := fun p a h => by
    split at h
    · simp only [Option.bind_eq_some_iff, Option.map_eq_some_iff] at h
      obtain ⟨x, h1, y, h2, z, h3, rfl⟩ := h
      rw [A.h _ _ h1, B.h _ _ h2, C.h _ _ h3]
    · cases h
  h' := fun a => by simp [A.h', B.h', C.h']
def dA4 {α β γ δ : Type} (A : Dec α) (B : Dec β) (C : Dec γ) (D : Dec δ) : Dec (α × β × γ × δ) where
  d := fun | .agg [p, q, r, s] => (A.d p).bind fun a => (B.d q).bind fun b => (C.d r).bind fun c => (D.d s).map fun d => (a, b, c, d) | _ => none
  e := fun x => .agg [A.e x.1, B.e x.2.1, C.e x.2.2.1, D.e x.2.2.2]
  h := fun p a h => by
    split at h
    · simp only [Option.bind_eq_some_iff, Option.map_eq_some_iff] at h
      obtain ⟨x, h1, y, h2, z, h3, t, h4, rfl⟩ := h
      rw [A.h _ _ h1, B.h _ _ h2, C.h _ _ h3, D.h _ _ h4]
    · cases h
  h' := fun a => by simp [A.h', B.h', C.h', D.h']
def dA5 {α β γ δ ε : Type} (A : Dec α) (B : Dec β) (C : Dec γ) (D : Dec δ) (E : Dec ε) : Dec (α × β × γ × δ × ε) where
  d := fun | .agg [p, q, r, s, t] => (A.d p).bind fun a => (B.d q).bind fun b => (C.d r).bind fun c => (D.d s).bind fun d => (E.d t).map fun e => (a, b, c, d, e) | _ => none
  e := fun x => .agg [A.e x.1, B.e x.2.1, C.e x.2.2.1, D.e x.2.2.2.1, E.e x.2.2.2.2]
  h := fun p a h => by
    split at h
    · simp only [Option.bind_eq_some_iff, Option.map_eq_some_iff] at h
      obtain ⟨x, h1, y, h2, z, h3, t, h4, u, h5, rfl⟩ := h
      rw [A.h _ _ h1, B.h _ _ h2, C.h _ _ h3, D.h _ _ h4, E.h _ _ h5]
    · cases h
  h' := fun a => by simp [A.h', B.h', C.h', D.h', E.h']
theorem dA5_e {α β γ δ ε : Type} (A : Dec α) (B : Dec β) (C : Dec γ) (D : Dec δ) (E : Dec ε) : (dA5 A B C D E).e = fun x => .agg [A.e x.1, B.e x.2.1, C.e x.2.2.1, D.e x.2.2.2.1, E.e x.2.2.2.2] := rfl
theorem dI_e : dI.e = fun n => .val (.int .i64 n) := rfl
theorem dU_e : dU.e = fun n => .val (.int .u8 n) := rfl
theorem dB_e : dB.e = fun n => .val (.bool n) := rfl
theorem dS_e : dS.e = fun n => .val (.string n) := rfl
theorem dFn_e (f : Nat) : (dFn f).e = fun _ => .val (.func (.func f) #[] #[]) := rfl
theorem dL_e {α : Type} (sz : Nat) (A : Dec α) : (dL sz A).e = fun l => .lst false sz (l.map A.e) := rfl
theorem dA2_e {α β : Type} (A : Dec α) (B : Dec β) : (dA2 A B).e = fun x => .agg [A.e x.1, B.e x.2] := rfl
theorem dA3_e {α β γ : Type} (A : Dec α) (B : Dec β) (C : Dec γ) : (dA3 A B C).e = fun x => .agg [A.e x.1, B.e x.2.1, C.e x.2.2] := rfl
theorem dA4_e {α β γ δ : Type} (A : Dec α) (B : Dec β) (C : Dec γ) (D : Dec δ) : (dA4 A B C D).e = fun x => .agg [A.e x.1, B.e x.2.1, C.e x.2.2.1, D.e x.2.2.2] := rfl
theorem fnOf_fn (f : Nat) : fnOf (.val (.func (.func f) #[] #[])) = some f := rfl
theorem ev_callV {P : Program} {Γ : Ctx} {ob : Objs} {tm : Nat → PV} {ty : Nat} {x : Operand} {xs : Array Operand} {ts : Array TypeId} : evVal P Γ ob (look tm) ty (.call { callee := .value x, args := xs, argTypes := ts }) =
    (match fnOf (look tm x) with | some f => evCall Γ ob f (xs.toList.map (look tm)) | none => none) := by
  simp only [evVal]
  cases fnOf (look tm x) with
  | none => rfl
  | some f => rfl
section
variable {P : Program} {Γ : Ctx} {ob : Objs} {ρ : Operand → PV} {ty : Nat}
theorem ev_move (x : Operand) : evVal P Γ ob ρ ty (.move x) = some (ρ x) := rfl
theorem ev_assign (x : Operand) : evVal P Γ ob ρ ty (.assign x) = some (ρ x) := rfl
def pickP (c x y : PV) : Option PV := match c with | .val (.bool b) => some (if b then x else y) | _ => none
theorem pickP_b (b : Bool) (x y : PV) : pickP (.val (.bool b)) x y = some (if b = true then x else y) := rfl
theorem ev_pick (c x y : Operand) : evVal P Γ ob ρ ty (.pick c x y) = pickP (ρ c) (ρ x) (ρ y) := by simp only [evVal]; rfl
theorem ev_build (t : Nat) (ps : Array (Nat × Operand)) : evVal P Γ ob ρ ty (.build t ps) = evBuild P t (partsOf ρ ps) := rfl
def rowV (r : Option (Nat × Nat × List PV)) : Option PV := match r with | some (_, sz, es) => some (.lst true sz es) | none => none
theorem ev_buildSlice (t n : Nat) (ps : Array (Nat × Operand)) : evVal P Γ ob ρ ty (.buildSlice t n ps) = rowV (rowEs P t n (partsOf ρ ps)) := rfl
def loadP (P : Program) (t : Nat) (x : PV) (c : Option (Nat × Nat × List PV)) : Option PV := match x with
    | .own o sz i f => match c with
      | some (_, sz', es) => if sz = sz' then (es[i]?).bind (subP P t f) else none
      | none => none
    | .ptr _ e f => subP P t f e
    | _ => none
theorem ev_load (t : Nat) (x : Operand) : evVal P Γ ob ρ ty (.load t x) = loadP P t (ρ x) (obOf ob (ρ x)) := by
  simp only [evVal]
  unfold loadP obOf
  cases ρ x <;> rfl
theorem loadP_ptr (t : Nat) (k : Bool) (e : PV) (f : Nat) (c : Option (Nat × Nat × List PV)) : loadP P t (.ptr k e f) c = subP P t f e := rfl
theorem loadP_own (t o sz i f T : Nat) (es : List PV) : loadP P t (.own o sz i f) (some (T, sz, es)) = (es[i]?).bind (subP P t f) := by simp [loadP]
theorem obOf_row (o sz i n : Nat) : obOf ob (.row o sz i n) = ob o := rfl
theorem obOf_own (o sz i f : Nat) : obOf ob (.own o sz i f) = ob o := rfl
theorem obOf_ptr (k : Bool) (e : PV) (f : Nat) : obOf ob (.ptr k e f) = none := rfl
theorem obOf_val (v : Value) : obOf ob (.val v) = none := rfl
theorem obOf_lst (k : Bool) (sz : Nat) (es : List PV) : obOf ob (.lst k sz es) = none := rfl
def nilP : PV → Option PV
    | .own o sz i f => some (.own o sz i f)
    | .ptr k e f => some (.ptr k e f)
    | _ => none
theorem ev_nilCheck (x : Operand) : evVal P Γ ob ρ ty (.nilCheck x) = nilP (ρ x) := rfl
theorem nilP_own (o sz i f : Nat) : nilP (.own o sz i f) = some (.own o sz i f) := rfl
theorem nilP_ptr (k : Bool) (e : PV) (f : Nat) : nilP (.ptr k e f) = some (.ptr k e f) := rfl
def binP (P : Program) (b : BinOp) (t : Nat) (x y : Operand) : Option Value → Option Value → Option PV
  | some u, some v => (pureRun P (do eqGuard b t x y u v; binOp b t u v)).map .val
  | _, _ => none
theorem ev_binOp (b : BinOp) (t : Nat) (x y : Operand) (t' : Nat) : evVal P Γ ob ρ ty (.binOp b t x y t') = binP P b t x y (toVal (ρ x)) (toVal (ρ y)) := rfl
section
variable {t : Nat} {x y : Operand} {k : IntKind} {m n : Int}
theorem bp_add : binP P .add t x y (some (.int k m)) (some (.int k n)) = some (.val (.int k (k.wrap (m + n)))) := by simp only [binP, pr_add, Option.map_some]
theorem bp_sub : binP P .sub t x y (some (.int k m)) (some (.int k n)) = some (.val (.int k (k.wrap (m - n)))) := by simp only [binP, pr_sub, Option.map_some]
theorem bp_mul : binP P .mul t x y (some (.int k m)) (some (.int k n)) = some (.val (.int k (k.wrap (m * n)))) := by simp only [binP, pr_mul, Option.map_some]
theorem bp_quo (h : n ≠ 0) : binP P .quo t x y (some (.int k m)) (some (.int k n)) = some (.val (.int k (k.wrap (m.tdiv n)))) := by simp only [binP, pr_quo h, Option.map_some]
theorem bp_rem (h : n ≠ 0) : binP P .rem t x y (some (.int k m)) (some (.int k n)) = some (.val (.int k (m.tmod n))) := by simp only [binP, pr_rem h, Option.map_some]
theorem bp_lss : binP P .lss t x y (some (.int k m)) (some (.int k n)) = some (.val (.bool (decide (m < n)))) := by simp only [binP, pr_lss, Option.map_some]
theorem bp_leq : binP P .leq t x y (some (.int k m)) (some (.int k n)) = some (.val (.bool (decide (m ≤ n)))) := by simp only [binP, pr_leq, Option.map_some]
theorem bp_gtr : binP P .gtr t x y (some (.int k m)) (some (.int k n)) = some (.val (.bool (decide (n < m)))) := by simp only [binP, pr_gtr, Option.map_some]
theorem bp_geq : binP P .geq t x y (some (.int k m)) (some (.int k n)) = some (.val (.bool (decide (n ≤ m)))) := by simp only [binP, pr_geq, Option.map_some]
theorem bp_eql : binP P .eql t x y (some (.int k m)) (some (.int k n)) = some (.val (.bool (decide (m = n)))) := by simp only [binP, pr_eql, Option.map_some]
theorem bp_neq : binP P .neq t x y (some (.int k m)) (some (.int k n)) = some (.val (.bool (!decide (m = n)))) := by simp only [binP, pr_neq, Option.map_some]
theorem pr_eqB {a b : Bool} (h : P.underlying t = some .bool) : pureRun P (Op.equal t (.bool a) (.bool b)) = some (a == b) := by
  unfold Op.equal Op.maxDepth
  rw [show (10000 : Nat) = 9999 + 1 from rfl, Op.equalIn]
  simp [underlying, Go.program, bind, Sem.bind, pure, pureRun, h]
theorem pureRun_bind {α β : Type} {P : Program} {m : Sem α} {x : α} (h : pureRun P m = some x) (f : α → Sem β) : pureRun P (m >>= f) = pureRun P (f x) := by
  show pureRun P (m.bind f) = _
  induction m with
  | pure a => simp only [pureRun, Option.some.injEq] at h; subst h; rfl
  | program k ih => simp only [pureRun] at h; simp only [Sem.bind, pureRun]; exact ih P h
  | _ => simp [pureRun] at h
theorem bp_eqlB {a b : Bool} (h : P.underlying t = some .bool) : binP P .eql t x y (some (.bool a)) (some (.bool b)) = some (.val (.bool (a == b))) := by
  have h1 : pureRun P (eqGuard .eql t x y (.bool a) (.bool b)) = some () := by simp [eqGuard, pure, pureRun]
  have h2 : pureRun P (binOp .eql t (.bool a) (.bool b)) = some (.bool (a == b)) := by
    show pureRun P (Op.equal t (.bool a) (.bool b) >>= fun r => pure (Value.bool r)) = _
    rw [pureRun_bind (pr_eqB h)]
    rfl
  simp only [binP]
  rw [pureRun_bind h1, h2]
  rfl
theorem bp_neqB {a b : Bool} (h : P.underlying t = some .bool) : binP P .neq t x y (some (.bool a)) (some (.bool b)) = some (.val (.bool (!(a == b)))) := by
  have h1 : pureRun P (eqGuard .neq t x y (.bool a) (.bool b)) = some () := by simp [eqGuard, pure, pureRun]
  have h2 : pureRun P (binOp .neq t (.bool a) (.bool b)) = some (.bool (!(a == b))) := by
    show pureRun P (Op.equal t (.bool a) (.bool b) >>= fun r => pure (Value.bool (!r))) = _
    rw [pureRun_bind (pr_eqB h)]
    rfl
  simp only [binP]
  rw [pureRun_bind h1, h2]
  rfl
end
def unP (P : Program) (u : UnOp) : Option Value → Option PV
  | some v => (pureRun P (Op.unary u v)).map .val
  | none => none
theorem ev_unOp (u : UnOp) (t : Nat) (x : Operand) : evVal P Γ ob ρ ty (.unOp u t x) = unP P u (toVal (ρ x)) := rfl
theorem up_not {b : Bool} : unP P .not (some (.bool b)) = some (.val (.bool !b)) := by simp only [unP, pr_not, Option.map_some]
theorem up_neg {k : IntKind} {n : Int} : unP P .neg (some (.int k n)) = some (.val (.int k (k.wrap (0 - n)))) := by simp only [unP, pr_neg, Option.map_some]
def convP (P : Program) (src dst : Nat) (b : Bool) (es : Option (List PV)) (v : Option Value) : Option PV :=
  if b = true then (es.bind byteNs).map fun ns => .val (.string (bytesOf ns)) else match v with | some v => (pureRun P (convert src dst v)).map .val | none => none
theorem ev_convert (src dst : Nat) (x : Operand) : evVal P Γ ob ρ ty (.convert src dst x) = convP P src dst (isByteSlice P src && isStr P dst) (sliceEs ob 1 (ρ x)) (toVal (ρ x)) := by
  simp only [evVal, convP]
  by_cases h : isByteSlice P src = true ∧ isStr P dst = true
  · rw [if_pos h, if_pos (by simp [h.1, h.2])]
  · rw [if_neg h, if_neg (by simpa using h)]
    cases toVal (ρ x) <;> rfl
theorem cv_int {src dst : Nat} {d : TypeDesc} {k k' : IntKind} {n : Int} {es : Option (List PV)} (h : P.underlying src = some d) (h' : P.underlying dst = some (.int k')) : convP P src dst false es (some (.int k n)) = some (.val (.int k' (k'.wrap n))) := by
  simp [convP, pr_conv h h']
theorem cv_str {src dst : Nat} {es : List PV} {v : Option Value} : convP P src dst true (some es) v = (byteNs es).map fun ns => .val (.string (bytesOf ns)) := by
  simp [convP]
def fadP (k : Option Nat) : PV → Option PV
  | .own o sz i c => match k with | some k => some (.own o sz i (c + k)) | none => none
  | .ptr b e c => match k with | some k => some (.ptr b e (c + k)) | none => none
  | _ => none
theorem ev_fieldAddr (t : Nat) (x : Operand) (f : Nat) : evVal P Γ ob ρ ty (.fieldAddr t x f) = fadP (fieldOff P t f) (ρ x) := by
  simp only [evVal]
  unfold fadP
  cases ρ x <;> cases fieldOff P t f <;> rfl
theorem fadP_own (k o sz i c : Nat) : fadP (some k) (.own o sz i c) = some (.own o sz i (c + k)) := rfl
theorem fadP_ptr (k : Nat) (b : Bool) (e : PV) (c : Nat) : fadP (some k) (.ptr b e c) = some (.ptr b e (c + k)) := rfl
def ixaP (P : Program) (t : Nat) (x : PV) : PV → Option PV
  | .val (.int _ n) => evIndexAddr P t x n
  | _ => none
theorem ev_indexAddr (t : Nat) (x i : Operand) : evVal P Γ ob ρ ty (.indexAddr t x i) = ixaP P t (ρ x) (ρ i) := by
  simp only [evVal]
  unfold ixaP asI
  split <;> (split at * <;> simp_all)
theorem ixaP_int (t : Nat) (x : PV) (k : IntKind) (n : Int) : ixaP P t x (.val (.int k n)) = evIndexAddr P t x n := rfl
def idxP (P : Program) (t : Nat) : Option Value → Option Value → Option PV
  | some u, some v => (pureRun P (Instr.index t u v)).map .val
  | _, _ => none
theorem ev_index (t : Nat) (x i : Operand) : evVal P Γ ob ρ ty (.index t x i) = idxP P t (toVal (ρ x)) (toVal (ρ i)) := rfl
def extP (i : Nat) : PV → Option PV
  | .tup vs => vs[i]?
  | _ => none
theorem ev_extract (x : Operand) (i : Nat) : evVal P Γ ob ρ ty (.extract x i) = extP i (ρ x) := rfl
theorem extP_tup (i : Nat) (vs : List PV) : extP i (.tup vs) = vs[i]? := rfl
def lenP (P : Program) (t ty : Nat) (x : PV) : Option PV := match evLen P t x with
  | some p => some p
  | none => match toVal x with
    | some v => ((pureRun P (Builtin.len_ #[t] ty #[v]))).map .val
    | none => none
theorem ev_len (x : Operand) (t : Nat) : evVal P Γ ob ρ ty (.call { callee := .builtin .len, args := #[x], argTypes := #[t] }) = lenP P t ty (ρ x) := rfl
theorem lp_lst {t ty sz e : Nat} {k : Bool} {es : List PV} (h : tyElem P t = some e) : lenP P t ty (.lst k sz es) = some (.val (.int .i64 es.length)) := by simp [lenP, evLen, h]
theorem lp_row {t ty o sz i n e : Nat} (h : tyElem P t = some e) : lenP P t ty (.row o sz i n) = some (.val (.int .i64 n)) := by simp [lenP, evLen, h]
theorem lp_str {t ty : Nat} {s : ByteArray} (h : P.underlying t = some .string) : lenP P t ty (.val (.string s)) = some (.val (.int .i64 s.size)) := by simp [lenP, evLen, toVal, pr_lenS h]
theorem lp_nil {t ty e : Nat} (h : P.underlying t = some (.slice e)) : lenP P t ty (.val (.slice none 0 0)) = some (.val (.int .i64 0)) := by
  simp [lenP, evLen, toVal, Builtin.len_, underlying, Go.program, bind, Sem.bind, pure, pureRun, h, goInt]
theorem ev_max (xs : Array Operand) (ts : Array TypeId) : evVal P Γ ob ρ ty (.call { callee := .builtin .max, args := xs, argTypes := ts }) = (match toValsA (xs.toList.map ρ) with | some vs => (pureRun P (Builtin.max_ ts ty vs.toArray)).map .val | none => none) := rfl
theorem ev_min (xs : Array Operand) (ts : Array TypeId) : evVal P Γ ob ρ ty (.call { callee := .builtin .min, args := xs, argTypes := ts }) = (match toValsA (xs.toList.map ρ) with | some vs => (pureRun P (Builtin.min_ ts ty vs.toArray)).map .val | none => none) := rfl
def slcP (P : Program) (t : Nat) (x : PV) (lo hi : Option (Option Int)) : Option PV := match x with
    | .val (.string s) => match lo, hi with
      | some l, some h => (pureRun P (Instr.sliceAt t (.string s) (l.map (Value.int .i64)) (h.map (Value.int .i64)) none)).map .val
      | _, _ => none
    | p => match lo, hi with
      | some l, some h => evSlice P t p l h
      | _, _ => none
theorem ev_slice (t : Nat) (x : Operand) (lo hi : Option Operand) : evVal P Γ ob ρ ty (.slice t x lo hi none) = slcP P t (ρ x) (optI (lo.map ρ)) (optI (hi.map ρ)) := by
  simp only [evVal]
  unfold slcP
  cases ρ x with
  | val v => cases v <;> rfl
  | _ => rfl
theorem sp_lst (t : Nat) (k : Bool) (sz : Nat) (es : List PV) (lo hi : Option Int) : slcP P t (.lst k sz es) (some lo) (some hi) = evSlice P t (.lst k sz es) lo hi := rfl
theorem sp_row (t : Nat) (o sz i n : Nat) (lo hi : Option Int) : slcP P t (.row o sz i n) (some lo) (some hi) = evSlice P t (.row o sz i n) lo hi := rfl
def boxEv (t : Nat) (s : AS) (x : PV) : Option (List PV) → Option (PV × Objs × Nat)
  | some cs => some (.own s.nx cs.length 0 0, upd s.ob s.nx (some (t, cs.length, [x])), s.nx + 1)
  | none => none
theorem ee_box (s : AS) (t : Nat) (x : Operand) : evEff P Γ s ρ (.box t x) = boxEv t s (ρ x) (cellsL (ρ x)) := rfl
theorem be_some (t : Nat) (s : AS) (x : PV) (cs : List PV) : boxEv t s x (some cs) = some (.own s.nx cs.length 0 0, upd s.ob s.nx (some (t, cs.length, [x])), s.nx + 1) := rfl
def rowE (n : Nat) (s : AS) : Option (Nat × Nat × List PV) → Option (PV × Objs × Nat)
  | some (e, sz, es) => some (.row s.nx sz 0 n, upd s.ob s.nx (some (e, sz, es)), s.nx + 1)
  | none => none
theorem ee_buildSlice (s : AS) (t n : Nat) (ps : Array (Nat × Operand)) : evEff P Γ s ρ (.buildSlice t n ps) = rowE n s (rowEs P t n (partsOf ρ ps)) := rfl
theorem re_some (n : Nat) (s : AS) (e sz : Nat) (es : List PV) : rowE n s (some (e, sz, es)) = some (.row s.nx sz 0 n, upd s.ob s.nx (some (e, sz, es)), s.nx + 1) := rfl
theorem cellsL_val {v : Value} (h : v.oneCell' = true) : cellsL (.val v) = some [.val v] := by simp [cellsL, oneP, h]
theorem cellsL_lst (k : Bool) (sz : Nat) (es : List PV) : cellsL (.lst k sz es) = some [.lst k sz es] := rfl
theorem cellsL_row (o sz i n : Nat) : cellsL (.row o sz i n) = some [.row o sz i n] := rfl
theorem cellsL_own (o sz i n : Nat) : cellsL (.own o sz i n) = some [.own o sz i n] := rfl
theorem oneP_val (v : Value) : oneP (.val v) = v.oneCell' := rfl
theorem oneP_lst (k : Bool) (sz : Nat) (es : List PV) : oneP (.lst k sz es) = true := rfl
theorem oneP_row (o sz i n : Nat) : oneP (.row o sz i n) = true := rfl
theorem oneP_own (o sz i n : Nat) : oneP (.own o sz i n) = true := rfl
def subC (ag : Option Bool) (k : Option Nat) (f : Nat) : Option (List PV) → Option PV
  | some cs => match ag, k with
    | some true, some k => if f + k ≤ cs.length then some (.agg ((cs.drop f).take k)) else none
    | some false, _ => cs[f]?
    | _, _ => none
  | none => none
theorem subP_eq (t f : Nat) (e : PV) : subP P t f e = subC (tyAgg P t) (tySize P t) f (cellsL e) := by
  unfold subP subC
  cases cellsL e <;> cases tyAgg P t <;> cases tySize P t <;> first | rfl | (rename_i b _; cases b <;> rfl) | (rename_i b; cases b <;> rfl) | skip
theorem subC_one (k : Option Nat) (f : Nat) (cs : List PV) : subC (some false) k f (some cs) = cs[f]? := by cases k <;> rfl
theorem subC_agg (k f : Nat) (cs : List PV) (h : f + k ≤ cs.length) : subC (some true) (some k) f (some cs) = some (.agg ((cs.drop f).take k)) := by simp [subC, h]
end
theorem wrap_div {a b : Int} (h : 0 ≤ a) (h1 : 1 ≤ b) (h2 : a ≤ 4611686018427387904) : IntKind.i64.wrap (a / b) = a / b := by
  have := Int.ediv_nonneg h (show 0 ≤ b by omega)
  have := Int.ediv_le_self b h
  exact wrap_id (by omega) (by omega)
theorem tdiv_pos {a b : Int} (h : 0 ≤ a) : a.tdiv b = a / b := Int.tdiv_eq_ediv_of_nonneg h
theorem tmod_pos {a b : Int} (h : 0 ≤ a) : a.tmod b = a % b := Int.tmod_eq_emod_of_nonneg h
theorem cellsL_int (k : IntKind) (n : Int) : cellsL (.val (.int k n)) = some [.val (.int k n)] := rfl
theorem cellsL_bool (b : Bool) : cellsL (.val (.bool b)) = some [.val (.bool b)] := rfl
theorem cellsL_str (b : ByteArray) : cellsL (.val (.string b)) = some [.val (.string b)] := rfl
theorem omg {α β : Type} {f : α → β} {l : List α} {k : Nat} {d : α} (h : k < l.length) : Option.map f l[k]? = some (f (l[k]?.getD d)) := by simp [h]
theorem omg_i {β : Type} {f : Int → β} {l : List Int} {k : Nat} (h : k < l.length) : Option.map f l[k]? = some (f (l[k]?.getD 0)) := omg h
theorem omg_b {β : Type} {f : Bool → β} {l : List Bool} {k : Nat} (h : k < l.length) : Option.map f l[k]? = some (f (l[k]?.getD false)) := omg h
theorem omg_s {β : Type} {f : ByteArray → β} {l : List ByteArray} {k : Nat} (h : k < l.length) : Option.map f l[k]? = some (f (l[k]?.getD .empty)) := omg h
theorem cellsL_aggI (cs : List PV) : cellsL (.agg cs) = if cs.all oneP = true then some cs else none := rfl
attribute [push_cast]
  ev_call ev_callV fnOf_fn ev_move ev_assign pickP_b ev_pick ev_build rowV ev_buildSlice ev_load loadP_ptr loadP_own obOf_row obOf_own obOf_ptr obOf_val obOf_lst ev_nilCheck nilP_own nilP_ptr ev_binOp bp_add bp_sub bp_mul bp_quo bp_rem bp_lss bp_leq bp_gtr bp_geq bp_eql bp_neq ev_unOp up_not up_neg ev_convert cv_str ev_fieldAddr fadP_own fadP_ptr ixaP_int ev_indexAddr ev_index ev_extract extP_tup ev_len ev_max ev_min ev_slice sp_lst sp_row ee_box be_some ee_buildSlice re_some cellsL_int cellsL_bool cellsL_str cellsL_val omg_i omg_b omg_s cellsL_lst cellsL_row cellsL_own cellsL_aggI oneP_val oneP_lst oneP_row oneP_own subP_eq subC_one subC_agg sliceEs mkEv_ok apEv_row apEv_nil est_of stEv_own agY_val agY_lst agY_row agY_own agY_agg stP_agg stP_val stP_lst stP_row stP_own set_map setL_zero setL_1 setL_2 setL_3 setL_4 setL_5 setL_6 setL_7 List.set_cons_zero List.drop_succ_cons List.drop_zero List.drop_nil List.nil_append List.cons_append List.take_succ_cons List.take_zero List.length_set reify_fuel reifyS_val reifyS_agg reifyS_tup reifyS_vals reifyT_vals reifyS_row rowRe_vals resPs_cell resC_own elOf_own List.length_replicate look upd_apply gq_gqd gqd_some boolOf_undef beq_none boolOf_bool beq_some_true beq_some_false toVal_val toVals toValsA asI optI List.map_cons List.map_nil Option.map_some Option.map_none Option.bind_some List.getElem?_cons_zero List.getElem?_cons_succ List.getElem?_nil Option.getD_some Option.getD_none reify_val onePV_one onePV_two resPs_nil resPs_tmp decide_true decide_false Bool.true_and Bool.false_and Bool.and_true Bool.and_false Bool.or_true Bool.or_false Bool.true_or Bool.false_or Bool.not_true Bool.not_false Bool.not_not decide_eq_true_eq decide_eq_false_iff_not Bool.not_eq_true' Bool.not_eq_false' if_true if_false ite_true ite_false Bool.false_eq_true pr_max pr_min wrap_id wrap_div tdiv_pos tmod_pos List.length_map List.getElem?_map Int.toNat_natCast toNat_pred toNat_succ toNat_add Int.natCast_nonneg and_self and_true true_and Nat.zero_add Nat.add_zero Int.natCast_zero Int.natCast_one Int.natCast_add get_iv get_nv get_sv get_bv Value.oneCell' List.all_cons List.all_nil List.length_cons List.length_nil Option.isSome_some mapM_nil' mapM_cons' reify_vals iv bv sv lk_apply agree agreeO List.lookup_nil List.lookup_cons beq_self_eq_true initS_tm
attribute [push_cast]
  strI_length srcEs_str srcEs_lst srcEs_row cpX_row cpX_nil
end Go.Proofs.YtpggpdbipajchaaGreatDoor
namespace Go.Proofs.YtpggpdbipajchaaGreatDoor
open Go.RowKit
set_option linter.all false
section
variable {P : Program} {t : Nat} {x y : Operand}
def at8 (s : ByteArray) (i : Nat) : Int := ((s[i]?).getD 0).toNat
theorem at8_rng (s : ByteArray) (i : Nat) : 0 ≤ at8 s i ∧ at8 s i ≤ 255 := by
  unfold at8
  have := ((s[i]?).getD 0).toNat_lt
  omega
theorem bytes_teq (a b : ByteArray) : (a.toList == b.toList) = decide (a = b) := by
  rw [Bool.eq_iff_iff, decide_eq_true_eq, beq_iff_eq]
  constructor
  · intro h
    rw [Go.ByteArray.toList_eq, Go.ByteArray.toList_eq] at h
    obtain ⟨x⟩ := a
    obtain ⟨y⟩ := b
    simpa using h
  · rintro rfl
    rfl
theorem pr_strEq {a b : ByteArray} : pureRun P (do eqGuard .eql t x y (.string a) (.string b); binOp .eql t (.string a) (.string b)) = some (.bool (a.toList == b.toList)) := by
  simp [eqGuard, binOp, Op.stringOp, bind, Sem.bind, pure, pureRun]
theorem pr_strNe {a b : ByteArray} : pureRun P (do eqGuard .neq t x y (.string a) (.string b); binOp .neq t (.string a) (.string b)) = some (.bool (!(a.toList == b.toList))) := by
  simp [eqGuard, binOp, Op.stringOp, bind, Sem.bind, pure, pureRun]
theorem bp_eqlS {a b : ByteArray} : binP P .eql t x y (some (.string a)) (some (.string b)) = some (.val (.bool (decide (a = b)))) := by
  simp only [binP, pr_strEq, bytes_teq, Option.map_some]
theorem bp_neqS {a b : ByteArray} : binP P .neq t x y (some (.string a)) (some (.string b)) = some (.val (.bool (!decide (a = b)))) := by
  simp only [binP, pr_strNe, bytes_teq, Option.map_some]
theorem ix_str {s : ByteArray} {i : Int} (h : P.underlying t = some .string) (h0 : 0 ≤ i) (h1 : i < s.size) : idxP P t (some (.string s)) (some (.int .i64 i)) = some (.val (.int .u8 (at8 s i.toNat))) := by
  have hlt : i.toNat < s.size := by omega
  have hg : s[i.toNat]? = some s[i.toNat] := getElem?_pos s i.toNat hlt
  have : pureRun P (Instr.index t (.string s) (.int .i64 i)) = some (.int .u8 (at8 s i.toNat)) := by
    simp [Instr.index, asIntOf, underlying, Go.program, bind, Sem.bind, pure, pureRun, h, h0, hg, at8]
  simp only [idxP, this, Option.map_some]
end
def flatP : Nat → PV → Bool
  | 0, _ => false
  | _ + 1, .val _ => true
  | _ + 1, .dead => true
  | n + 1, .agg cs => cs.all (flatP n)
  | _, _ => false
section
variable {α : Type} {n sz f : Nat} {ob : Objs} {k fr : Bool} {g : α → PV} {l : List α}
theorem flat_map {f : Nat} (h : ∀ x, flatP 2 (g x) = true) (hf : 2 ≤ f) : (l.map g).mapM (reify fr n ob f) = some (l.map g) := mapM_self fun e he => by
  obtain ⟨x, _, rfl⟩ := List.mem_map.1 he
  obtain ⟨m, rfl⟩ : ∃ m, f = m + 2 := ⟨f - 2, by omega⟩
  have h2 := h x
  revert h2
  cases g x with
  | val v => intro _; rfl
  | dead => intro _; rfl
  | agg cs =>
    intro h2
    have h3 : ∀ c ∈ cs, flatP 1 c = true := by simpa [flatP] using h2
    simp only [reify]
    rw [mapM_self fun c hc => ?_]
    · rfl
    · have := h3 c hc
      cases c with
      | agg cs' =>
        cases cs' with
        | nil => rfl
        | cons a l => simp [flatP] at this
      | val v => rfl
      | dead => rfl
      | _ => simp [flatP] at this
  | _ => intro h2; simp [flatP] at h2
theorem reifyS_flat (h : ∀ x, flatP 2 (g x) = true) : reify false n ob (f + 3) (.lst k sz (l.map g)) = some (.lst false sz (l.map g)) := by
  show (if false = true ∧ k = false ∧ (l.map g) ≠ [] then none else ((l.map g).mapM (reify false n ob (f + 2))).map (PV.lst false sz)) = _
  rw [flat_map h (by omega)]
  simp
theorem reifyT_flat (h : ∀ x, flatP 2 (g x) = true) : reify true n ob (f + 3) (.lst true sz (l.map g)) = some (.lst true sz (l.map g)) := by
  show (if true = true ∧ true = false ∧ (l.map g) ≠ [] then none else ((l.map g).mapM (reify true n ob (f + 2))).map (PV.lst true sz)) = _
  rw [flat_map h (by omega)]
  simp
theorem rowRe_flat {m T : Nat} (h : ∀ x, flatP 2 (g x) = true) (hm : m = l.length) : rowRe fr (f + 2) ob sz 0 m (some (T, sz, l.map g)) = some (.lst fr sz (l.map g)) := by
  subst hm
  have e : ((l.map g).drop 0).take l.length = l.map g := by
    rw [List.drop_zero, List.take_of_length_le (by simp)]
  simp only [rowRe, e, flat_map (n := 0) (fr := fr) (ob := ob) h (show 2 ≤ f + 2 by omega), Nat.zero_add, List.length_map, Nat.le_refl, and_self, if_true, Option.map_some]
end
section
variable {α : Type} {n sz f : Nat} {ob : Objs} {k fr : Bool} {l : List α} {g1 g2 g3 g4 : α → Value}
theorem reifyS_a2 : reify false n ob (f + 3) (.lst k sz (l.map fun x => PV.agg [.val (g1 x), .val (g2 x)])) = some (.lst false sz (l.map fun x => PV.agg [.val (g1 x), .val (g2 x)])) := reifyS_flat fun _ => rfl
theorem reifyT_a2 : reify true n ob (f + 3) (.lst true sz (l.map fun x => PV.agg [.val (g1 x), .val (g2 x)])) = some (.lst true sz (l.map fun x => PV.agg [.val (g1 x), .val (g2 x)])) := reifyT_flat fun _ => rfl
theorem rowRe_a2 {m T : Nat} (hm : m = l.length) : rowRe fr (f + 2) ob sz 0 m (some (T, sz, l.map fun x => PV.agg [.val (g1 x), .val (g2 x)])) = some (.lst fr sz (l.map fun x => PV.agg [.val (g1 x), .val (g2 x)])) := rowRe_flat (fun _ => rfl) hm
theorem reifyS_a3 : reify false n ob (f + 3) (.lst k sz (l.map fun x => PV.agg [.val (g1 x), .val (g2 x), .val (g3 x)])) = some (.lst false sz (l.map fun x => PV.agg [.val (g1 x), .val (g2 x), .val (g3 x)])) := reifyS_flat fun _ => rfl
theorem reifyT_a3 : reify true n ob (f + 3) (.lst true sz (l.map fun x => PV.agg [.val (g1 x), .val (g2 x), .val (g3 x)])) = some (.lst true sz (l.map fun x => PV.agg [.val (g1 x), .val (g2 x), .val (g3 x)])) := reifyT_flat fun _ => rfl
theorem rowRe_a3 {m T : Nat} (hm : m = l.length) : rowRe fr (f + 2) ob sz 0 m (some (T, sz, l.map fun x => PV.agg [.val (g1 x), .val (g2 x), .val (g3 x)])) = some (.lst fr sz (l.map fun x => PV.agg [.val (g1 x), .val (g2 x), .val (g3 x)])) := rowRe_flat (fun _ => rfl) hm
theorem reifyS_a4 : reify false n ob (f + 3) (.lst k sz (l.map fun x => PV.agg [.val (g1 x), .val (g2 x), .val (g3 x), .val (g4 x)])) = some (.lst false sz (l.map fun x => PV.agg [.val (g1 x), .val (g2 x), .val (g3 x), .val (g4 x)])) := reifyS_flat fun _ => rfl
theorem reifyT_a4 : reify true n ob (f + 3) (.lst true sz (l.map fun x => PV.agg [.val (g1 x), .val (g2 x), .val (g3 x), .val (g4 x)])) = some (.lst true sz (l.map fun x => PV.agg [.val (g1 x), .val (g2 x), .val (g3 x), .val (g4 x)])) := reifyT_flat fun _ => rfl
theorem rowRe_a4 {m T : Nat} (hm : m = l.length) : rowRe fr (f + 2) ob sz 0 m (some (T, sz, l.map fun x => PV.agg [.val (g1 x), .val (g2 x), .val (g3 x), .val (g4 x)])) = some (.lst fr sz (l.map fun x => PV.agg [.val (g1 x), .val (g2 x), .val (g3 x), .val (g4 x)])) := rowRe_flat (fun _ => rfl) hm
end
theorem setL_full {α : Type} {l new : List α} (h : l.length ≤ new.length) : setL l 0 new = new := by simp [setL, h]
abbrev W2 := ByteArray × Int
abbrev I3 := Int × Int × Int
abbrev I4 := Int × Int × Int × Int
def w0 : W2 := (ByteArray.empty, 0)
def i30 : I3 := (0, 0, 0)
def i40 : I4 := (0, 0, 0, 0)
section
variable {β : Type} {i : Nat}
theorem get_w {g : W2 → PV} {l : List W2} (h : i < l.length) : ((l[i]?).map g).getD .dead = g ((l[i]?).getD w0) := by simp [h]
theorem get_i3 {g : I3 → PV} {l : List I3} (h : i < l.length) : ((l[i]?).map g).getD .dead = g ((l[i]?).getD i30) := by simp [h]
theorem get_i4 {g : I4 → PV} {l : List I4} (h : i < l.length) : ((l[i]?).map g).getD .dead = g ((l[i]?).getD i40) := by simp [h]
theorem omg_w {g : W2 → β} {l : List W2} (h : i < l.length) : Option.map g l[i]? = some (g ((l[i]?).getD w0)) := by simp [h]
theorem omg_i3 {g : I3 → β} {l : List I3} (h : i < l.length) : Option.map g l[i]? = some (g ((l[i]?).getD i30)) := by simp [h]
theorem omg_i4 {g : I4 → β} {l : List I4} (h : i < l.length) : Option.map g l[i]? = some (g ((l[i]?).getD i40)) := by simp [h]
theorem set_w {l : List W2} {s : ByteArray} {n : Int} : (l.map fun x => PV.agg [.val (.string x.1), .val (.int .i64 x.2)]).set i (.agg [.val (.string s), .val (.int .i64 n)]) = (l.set i (s, n)).map fun x => PV.agg [.val (.string x.1), .val (.int .i64 x.2)] := by rw [List.map_set]
theorem set_i3 {l : List I3} {a b c : Int} : (l.map fun x => PV.agg [.val (.int .i64 x.1), .val (.int .i64 x.2.1), .val (.int .i64 x.2.2)]).set i (.agg [.val (.int .i64 a), .val (.int .i64 b), .val (.int .i64 c)]) = (l.set i (a, b, c)).map fun x => PV.agg [.val (.int .i64 x.1), .val (.int .i64 x.2.1), .val (.int .i64 x.2.2)] := by rw [List.map_set]
theorem set_i4 {l : List I4} {a b c d : Int} : (l.map fun x => PV.agg [.val (.int .i64 x.1), .val (.int .i64 x.2.1), .val (.int .i64 x.2.2.1), .val (.int .i64 x.2.2.2)]).set i (.agg [.val (.int .i64 a), .val (.int .i64 b), .val (.int .i64 c), .val (.int .i64 d)]) = (l.set i (a, b, c, d)).map fun x => PV.agg [.val (.int .i64 x.1), .val (.int .i64 x.2.1), .val (.int .i64 x.2.2.1), .val (.int .i64 x.2.2.2)] := by rw [List.map_set]
end
abbrev dW2 : Dec W2 := dA2 dS dI
abbrev dI4 : Dec I4 := dA4 dI dI dI dI
attribute [push_cast]
  bp_eqlS bp_neqS reifyS_a2 reifyT_a2 rowRe_a2 reifyS_a3 reifyT_a3 rowRe_a3 reifyS_a4 reifyT_a4 rowRe_a4 get_w get_i3 get_i4 omg_w omg_i3 omg_i4 set_w set_i3 set_i4
attribute [push_cast high]
  setL_full
end Go.Proofs.YtpggpdbipajchaaGreatDoor
namespace Go.Proofs.YtpggpdbipajchaaGreatDoor
open Go.RowKit
set_option linter.all false
def initIO (ps : List PV) (cs : List CellIO) : AS := { tm := fun t => (ps[t]?).getD (.val undef), ob := fun o => cs[o]?, nx := cs.length }
def handF (out : List Nat) (ob : Objs) : Nat → PV → Option PV
  | 0, _ => none
  | n + 1, p => match p with
    | .val v => some (.val v)
    | .dead => some .dead
    | .lst k sz es => (es.mapM (handF out ob n)).map (.lst k sz)
    | .ptr k e o => (handF out ob n e).map (.ptr k · o)
    | .own o sz i f => match inn out o with
      | some o' => some (.own o' sz i f)
      | none => match ob o with
        | some (_, sz', es) => if sz = sz' then (es[i]?).bind fun e => (handF out ob n e).map (.ptr true · f) else none
        | none => none
    | .row o sz i m => match inn out o with
      | some o' => some (.row o' sz i m)
      | none => match ob o with
        | some (_, sz', es) => if sz = sz' ∧ i + m ≤ es.length then (((es.drop i).take m).mapM (handF out ob n)).map (.lst true sz) else none
        | none => none
    | .agg cs => (cs.mapM (handF out ob n)).map .agg
    | .tup cs => (cs.mapM (handF out ob n)).map .tup
def handC (out : List Nat) (ob : Objs) (f : Nat) (o : Nat) : Option CellIO := (ob o).bind fun c => (c.2.2.mapM (handF out ob f)).map fun es => (c.1, c.2.1, es)
theorem Rep.hand {out : List Nat} {ob : Objs} {g g' : Gh} {w : World} (hI : ∀ k b, g.I k b → g'.I k b) (ho : ∀ o o', inn out o = some o' → g'.β o' = g.β o ∧ g'.κ o' = g.κ o ∧ g'.D o')
    (hob : ∀ o c, ob o = some c → ObjAt g w o c) (hfz : ∀ o, (ob o).isSome → inn out o = none → g'.I true (g.β o)) :
    ∀ (f : Nat) (p q : PV) (v : Value), Rep g w p v → handF out ob f p = some q → Rep g' w q v
  | 0, p, q, v, h, hr => by simp [handF] at hr
  | f + 1, p, q, v, h, hr => by
    cases p with
    | val u => simp only [handF, Option.some.injEq] at hr; subst hr; simpa [Rep] using h
    | dead => simp only [handF, Option.some.injEq] at hr; subst hr; simp [Rep]
    | lst k sz es =>
      simp only [handF, Option.map_eq_some_iff] at hr
      obtain ⟨es', h1, rfl⟩ := hr
      have hl := (mapM_get h1).1
      simp only [Rep] at h ⊢
      obtain ⟨a, cap, rfl, h2, h3, h4⟩ := h
      refine ⟨a, cap, by rw [hl], by omega, h3, ?_⟩
      rcases h4 with rfl | ⟨b, off, rfl, h5, h6⟩
      · left; exact List.eq_nil_of_length_eq_zero (by simpa using hl)
      · right
        exact ⟨b, off, rfl, hI _ _ h5, RepEs.conv (g := g) (g' := g') (Rep.hand hI ho hob hfz f) h6 h1⟩
    | ptr k e o =>
      simp only [handF, Option.map_eq_some_iff] at hr
      obtain ⟨e', h1, rfl⟩ := hr
      simp only [Rep] at h ⊢
      obtain ⟨b, off, rfl, h2, u, h3, h4⟩ := h
      exact ⟨b, off, rfl, hI _ _ h2, u, Rep.hand hI ho hob hfz f e e' u h3 h1, h4⟩
    | own o sz i c =>
      simp only [handF] at hr
      split at hr
      · rename_i o' hm
        cases hr
        simp only [Rep] at h ⊢
        obtain ⟨e1, _, e3⟩ := ho o o' hm
        exact ⟨by rw [e1]; exact h.1, e3⟩
      · rename_i hm
        split at hr
        · rename_i T sz' es hoo
          split at hr
          case isFalse => cases hr
          case isTrue hsz =>
            subst hsz
            simp only [Option.bind_eq_some_iff, Option.map_eq_some_iff] at hr
            obtain ⟨e, he, e', h1, rfl⟩ := hr
            simp only [Rep] at h ⊢
            obtain ⟨rfl, hlt⟩ := h
            obtain ⟨u, h2, h3, h4⟩ := (hob o _ hoo).2.2.get he
            exact ⟨g.β o, i * sz, rfl, hfz o (by simp [hoo]) hm, u, Rep.hand hI ho hob hfz f e e' u h2 h1, by simpa using h3⟩
        · cases hr
    | row o sz i m =>
      simp only [handF] at hr
      split at hr
      · rename_i o' hm
        cases hr
        simp only [Rep] at h ⊢
        obtain ⟨c, h1, h2, h3, h4, h5⟩ := h
        obtain ⟨e1, e2, e3⟩ := ho o o' hm
        exact ⟨c, by rw [e1]; exact h1, h2, h3, by rw [e2]; exact h4, e3⟩
      · rename_i hm
        split at hr
        · rename_i T sz' es hoo
          split at hr
          case isFalse => cases hr
          case isTrue hsz =>
            obtain ⟨rfl, hle⟩ := hsz
            simp only [Option.map_eq_some_iff] at hr
            obtain ⟨es', h1, rfl⟩ := hr
            have hl := (mapM_get h1).1
            have hl2 : es'.length = m := by rw [hl]; simp; omega
            simp only [Rep] at h ⊢
            obtain ⟨c, rfl, h2, h3, h4, h5⟩ := h
            refine ⟨_, c, by rw [hl2], by omega, h3, .inr ⟨g.β o, i * sz, rfl, hfz o (by simp [hoo]) hm, ?_⟩⟩
            have := ((hob o _ hoo).2.2.drop i).take m
            exact RepEs.conv (g := g) (g' := g') (Rep.hand hI ho hob hfz f) (by simpa using this) h1
        · cases hr
    | agg cs =>
      simp only [handF, Option.map_eq_some_iff] at hr
      obtain ⟨cs', h1, rfl⟩ := hr
      simp only [Rep] at h ⊢
      obtain ⟨vs, rfl, h2⟩ := h
      exact ⟨vs, rfl, RepL.conv (g := g) (g' := g') (Rep.hand hI ho hob hfz f) h2 h1⟩
    | tup cs =>
      simp only [handF, Option.map_eq_some_iff] at hr
      obtain ⟨cs', h1, rfl⟩ := hr
      simp only [Rep] at h ⊢
      obtain ⟨vs, rfl, h2⟩ := h
      exact ⟨vs, rfl, RepL.conv (g := g) (g' := g') (Rep.hand hI ho hob hfz f) h2 h1⟩
section
variable {P : Program} {Γ : Ctx}
theorem soundIO_of_ev {f : Nat} {fn : Func} {c : Code} {Φ : FunIO} (hΓ : SoundΓ P Γ) (hf : P.funcs[f]? = some fn) (hb : fn.body = some c)
    (hlen : ∀ ps cs r, Φ ps cs = some r → ps.length ≤ fn.ntmps)
    (h : ∀ ps cs r cs', Φ ps cs = some (r, cs') → ∃ x s' qs out, Ev P Γ fn.ntmps c (initIO ps cs) x s' ∧ (x = .normal ∨ x = .ret) ∧ resPs P s' fn.results.toList = some qs ∧ handF out s'.ob fuel (onePV qs) = some r ∧
      cs.length ≤ out.length ∧ (∀ o : Nat, o < cs.length → out[o]? = some o) ∧ out.Nodup ∧ out.mapM (handC out s'.ob fuel) = some cs') : SoundIO P f Φ := by
  intro w J β κ ps cs args r cs' hr hJ hO hT hargs
  obtain ⟨x, s', qs, out, hev, hx, hres, hren, hol, hof, hond, hobs0⟩ := h ps cs r cs' hr
  have hsz : args.size = ps.length := by simpa using hargs.get.1
  have hle := hlen ps cs _ hr
  have hocs : cs'.length = out.length := (mapM_get hobs0).1
  have hobs : ∀ (i o : Nat), out[i]? = some o → ∃ T sz es es', s'.ob o = some (T, sz, es) ∧ es.mapM (handF out s'.ob fuel) = some es' ∧ cs'[i]? = some (T, sz, es') := fun i o hi => by
    obtain ⟨c1, h1, h2⟩ := (mapM_get hobs0).2 i o hi
    unfold handC at h2
    simp only [Option.bind_eq_some_iff, Option.map_eq_some_iff] at h2
    obtain ⟨⟨T, sz, es⟩, h3, es', h4, rfl⟩ := h2
    exact ⟨T, sz, es, es', h3, h4, h1⟩
  have hinit : Rel ⟨fun b => ∃ o, o < cs.length ∧ b = β o, J false, cs.length, β, κ, J true, fun _ => False⟩ w fn.ntmps (ghIO J β κ cs.length) (initIO ps cs) { tmps := args ++ Array.replicate (fn.ntmps - args.size) undef, defers := [] } w := by
    refine ⟨by simp; omega, rfl, fun t => ?_, fun o c ho => ?_, fun o o' ho ho' he => ?_, rfl, fun k b hi => hJ k b hi, fun b hi => .inr hi, Fr.refl _ _, fun b hi => hi, ⟨fun o ho => ⟨ho, fun q => q⟩, fun o ho => ⟨rfl, rfl⟩⟩, fun o ho => False.elim ho, hT⟩
    · simp only [initIO]
      cases hp : ps[t]? with
      | none =>
        have hge : ps.length ≤ t := by simpa using hp
        have : (args ++ Array.replicate (fn.ntmps - args.size) undef).getD t undef = undef := by
          simp only [Array.getD_eq_getD_getElem?]
          rw [Array.getElem?_append_right (by omega)]
          simp only [Array.getElem?_replicate]
          split <;> rfl
        rw [this]
        simp [Rep]
      | some p =>
        obtain ⟨v, hv, hrep⟩ := hargs.get.2 t p hp
        have hlt : t < args.size := by have := (List.getElem?_eq_some_iff.1 hp).1; omega
        have : (args ++ Array.replicate (fn.ntmps - args.size) undef).getD t undef = v := by
          simp only [Array.getD_eq_getD_getElem?]
          rw [Array.getElem?_append_left hlt]
          have : args[t]? = some v := by simpa using hv
          simp [this]
        rw [this]
        exact hrep
    · have hlt : o < cs.length := (List.getElem?_eq_some_iff.1 ho).1
      exact ⟨⟨hlt, fun q => q⟩, .inr ⟨o, hlt, rfl⟩, fun k hi => (hO.lt o hlt).2 k hi, hO.at_ o c ho⟩
    · have h1 : o < cs.length := by
        obtain ⟨c, hc⟩ := Option.isSome_iff_exists.1 ho
        exact (List.getElem?_eq_some_iff.1 hc).1
      have h2 : o' < cs.length := by
        obtain ⟨c, hc⟩ := Option.isSome_iff_exists.1 ho'
        exact (List.getElem?_eq_some_iff.1 hc).1
      exact hO.inj o o' h1 h2 he
  refine calls_of_wp hf hb (CWp.wp (hev.cwp hΓ.w (fun b hb => by obtain ⟨o, h1, rfl⟩ := hb; exact (hO.lt o h1).1) _ _ _ _ hinit fun g' a' w' hrel => ?_))
  have hsome : ∀ i o, out[i]? = some o → (s'.ob o).isSome := fun i o ho => by
    obtain ⟨T, sz, es, es', h1, _⟩ := hobs i o ho
    simp [h1]
  have hget : ∀ i, i < out.length → out[i]? = some (out.getD i 0) := fun i hi => by simp [hi]
  have hβ0 : ∀ o, o < cs.length → g'.β o = β o ∧ g'.κ o = κ o := fun o ho => hrel.fix.2 o ho
  have hinjO : ∀ i j, i < out.length → j < out.length → g'.β (out.getD i 0) = g'.β (out.getD j 0) → i = j := fun i j hi hj he => by
    have := hrel.inj _ _ (hsome i _ (hget i hi)) (hsome j _ (hget j hj)) he
    have e1 := hget i hi
    have e2 := hget j hj
    rw [this] at e1
    have e1 := e1.trans e2.symm
    exact (List.getElem?_inj hi hond).1 e1
  have hgof : ∀ o, o < cs.length → out.getD o 0 = o := fun o ho => by
    have := hof o ho
    simp [List.getD, this]
  have hinn : ∀ o1 o2, inn out o1 = some o2 → o2 < out.length ∧ out.getD o2 0 = o1 := fun o1 o2 hi => by
    unfold inn at hi
    split at hi
    · rename_i hm
      cases hi
      have hlt := List.idxOf_lt_length_of_mem hm
      exact ⟨hlt, by simp [List.getD, hlt]⟩
    · cases hi
  have hout : ∀ i, i < out.length → out.getD i 0 ∈ out := fun i hi => List.mem_of_getElem? (hget i hi)
  -- an object beyond the given ones lies in new memory
  have hnewO : ∀ o c, s'.ob o = some c → (∀ j, j < cs.length → o ≠ j) → w.heap.size ≤ g'.β o := fun o c ho hne => by
    rcases (hrel.ob _ _ ho).2.1 with k2 | ⟨j, k3, k4⟩
    · exact k2
    · exfalso
      rw [← (hβ0 j k3).1] at k4
      exact hne j k3 (hrel.inj _ _ (by rw [ho]; rfl) (hsome j j (hof j k3)) k4)
  have hnew : ∀ i, cs.length ≤ i → i < out.length → w.heap.size ≤ g'.β (out.getD i 0) := fun i h1 h2 => by
    obtain ⟨T, sz, es, es', k1, _⟩ := hobs i _ (hget i h2)
    refine hnewO _ _ k1 fun j hj he => ?_
    have e1 := hget i h2
    rw [he, ← hof j hj] at e1
    have := (List.getElem?_inj (by omega) hond).1 e1
    omega
  have hend : a'.defers = [] ∧ ∃ v, (results fn a'.tmps).run P w' = .ok v w' ∧ (∃ v' β' κ' M, Ending.returned v = .returned v' ∧ Fr (fun b => ∃ o, o < cs.length ∧ b = β o) w w' ∧ cs.length ≤ cs'.length ∧
      (∀ o, o < cs.length → β' o = β o ∧ κ' o = κ o) ∧ (∀ o, cs.length ≤ o → o < cs'.length → w.heap.size ≤ β' o) ∧ (∀ b, M b → w.heap.size ≤ b ∧ b < w'.heap.size) ∧
      ObjsIO (addN J M) w' β' κ' cs' ∧ Rep (ghIO (addN J M) β' κ' cs'.length) w' r v') := by
    obtain ⟨v, h1, h2⟩ := results_ok hrel hres
    let M : Nat → Prop := fun b => w.heap.size ≤ b ∧ b < w'.heap.size ∧ ∀ i, i < out.length → b ≠ g'.β (out.getD i 0)
    let G : Gh := ghIO (addN J M) (fun i => g'.β (out.getD i 0)) (fun i => g'.κ (out.getD i 0)) cs'.length
    have hI : ∀ k b, g'.I k b → G.I k b := fun k b hi => by
      cases k with
      | false => exact .inl (hrel.old b hi)
      | true =>
        rcases hrel.new b hi with hn | hn
        · refine .inr ⟨rfl, hn.1, hrel.lt true b hi, fun i hil he => ?_⟩
          obtain ⟨T, sz, es, es', k1, _⟩ := hobs i _ (hget i hil)
          exact (hrel.ob _ _ k1).2.2.1 true (he ▸ hi)
        · exact .inl hn
    have hom : ∀ o o', inn out o = some o' → G.β o' = g'.β o ∧ G.κ o' = g'.κ o ∧ G.D o' := fun o o' ho => by
      obtain ⟨k1, k2⟩ := hinn o o' ho
      exact ⟨by simp only [G, ghIO, k2], by simp only [G, ghIO, k2], ⟨by simp only [G, ghIO]; omega, fun q => q⟩⟩
    have hfz : ∀ o, (s'.ob o).isSome → inn out o = none → G.I true (g'.β o) := fun o ho hn => by
      obtain ⟨c, hc⟩ := Option.isSome_iff_exists.1 ho
      have hno : o ∉ out := fun hm => by simp [inn, hm] at hn
      obtain ⟨arr, m1, _⟩ := (hrel.ob _ _ hc).2.2.2.1
      refine .inr ⟨rfl, hnewO o c hc fun j hj he => hno (he ▸ List.mem_of_getElem? (hof j hj)), lt_of_heap m1, fun i hi he => hno ?_⟩
      rw [hrel.inj o _ (by rw [hc]; rfl) (hsome i _ (hget i hi)) he]
      exact hout i hi
    have hobA : ∀ o c, s'.ob o = some c → ObjAt g' w' o c := fun o c ho => (hrel.ob o c ho).2.2.2
    refine ⟨hrel.df, v, h1, v, fun i => g'.β (out.getD i 0), fun i => g'.κ (out.getD i 0), M, rfl, hrel.fr, by omega, fun o ho => by dsimp only; rw [hgof o ho]; exact hβ0 o ho, fun o h3 h4 => hnew o h3 (by omega), fun b hb => ⟨hb.1, hb.2.1⟩, ⟨fun o ho => ?_, fun o o' ho ho' he => hinjO o o' (by omega) (by omega) he, fun o c hc => ?_⟩, Rep.hand (g := g') (g' := G) hI hom hobA hfz fuel _ _ _ h2 hren⟩
    · obtain ⟨T, sz, es, es', k1, _⟩ := hobs o _ (hget o (by omega))
      obtain ⟨_, _, k3, ⟨arr, k4, _⟩, _⟩ := hrel.ob _ _ k1
      refine ⟨lt_of_heap k4, fun k hj => ?_⟩
      rcases hj with hj | ⟨_, hj⟩
      · by_cases hoc : o < cs.length
        · rw [hgof o hoc, (hβ0 o hoc).1] at hj
          exact (hO.lt o hoc).2 k hj
        · have := hnew o (by omega) (by omega)
          have := hJ _ _ hj
          omega
      · exact hj.2.2 o (by omega) rfl
    · have ho : o < cs'.length := (List.getElem?_eq_some_iff.1 hc).1
      obtain ⟨T, sz, es, es', k1, k2, k3⟩ := hobs o _ (hget o (by omega))
      rw [k3] at hc
      cases hc
      obtain ⟨_, _, _, ⟨arr, m1, m2⟩, m3, m4⟩ := hrel.ob _ _ k1
      have hl := (mapM_get k2).1
      exact ⟨⟨arr, m1, m2⟩, by rw [hl]; exact m3, RepEs.conv (g := g') (g' := G) (Rep.hand (g := g') (g' := G) hI hom hobA hfz fuel) m4 k2⟩
  rcases hx with rfl | rfl <;> exact hend
end
def PostIO (P : Program) (rs : List ResultVar) (m : Nat) (r : PV) (cs' : List CellIO) : X → AS → Prop := fun x s' => (x = .normal ∨ x = .ret) ∧ ∃ news : List Nat, (∀ o ∈ news, m ≤ o) ∧ news.Nodup ∧
  ((resPs P s' rs).bind fun qs => handF (List.range m ++ news) s'.ob fuel (onePV qs)) = some r ∧ (List.range m ++ news).mapM (handC (List.range m ++ news) s'.ob fuel) = some cs'
theorem sound_pqIO {P : Program} {Γ : Ctx} (hm : P.follows .mixedOrders = true) {f : Nat} {fn : Func} {c : Code} {Φ : FunIO} (hΓ : SoundΓ P Γ) (hf : P.funcs[f]? = some fn) (hb : fn.body = some c) (N : Nat) (hN : fn.ntmps = N) (rs : List ResultVar) (hrs : fn.results.toList = rs) (hc : codeOk Γ true N c = true)
    (h : ∀ ps cs r cs', Φ ps cs = some (r, cs') → ps.length ≤ N ∧ pq P Γ N c (PostIO P rs cs.length r cs') (initIO ps cs).tm (fun o => cs[o]?) cs.length) : SoundIO P f Φ := by
  subst hN hrs
  refine soundIO_of_ev hΓ hf hb (fun ps cs r hr => (h ps cs r.1 r.2 hr).1) fun ps cs r cs' hr => ?_
  obtain ⟨x, s', h1, h2, news, h3, h4, h5, h6⟩ := pw_ok (mixed := true) (fun _ => hm) c _ _ hc (h ps cs r cs' hr).2
  rw [Option.bind_eq_some_iff] at h5
  obtain ⟨qs, h8, h9⟩ := h5
  refine ⟨x, s', qs, List.range cs.length ++ news, h1, h2, h8, h9, by simp, fun o ho => ?_, ?_, h6⟩
  · rw [List.getElem?_append_left (by simpa using ho), List.getElem?_range ho]
  · rw [List.nodup_append]
    exact ⟨List.nodup_range, h4, fun a ha b hb e => by
      have := h3 b hb
      have := List.mem_range.1 ha
      omega⟩
end Go.Proofs.YtpggpdbipajchaaGreatDoor
namespace Go.Proofs.YtpggpdbipajchaaGreatDoor
open Go.RowKit
set_option linter.all false
section
variable {P : Program} {Γ : Ctx} {Φ : FunIO} {ob : Objs} {nx : Nat}
def ioGo (ob : Objs) (nx : Nat) (ps : List PV) : Option FunIO → Option (PV × Objs × Nat)
  | some Φ => ioEv Φ ob nx ps
  | none => none
theorem ee_call {s : AS} {ρ : Operand → PV} {f : Nat} {xs : Array Operand} {ts : Array TypeId} : evEff P Γ s ρ (.call { callee := .value (.func f), args := xs, argTypes := ts }) = ioGo s.ob s.nx (xs.toList.map ρ) (Γ.io f) := by
  simp only [evEff, calleeIO, ioGo]
  cases Γ.io f <;> rfl
theorem ioGo_some {ps : List PV} : ioGo ob nx ps (some Φ) = ioEv Φ ob nx ps := rfl
def outF (os : List Nat) (nx : Nat) : Nat → Option Nat := fun i => some (outn os nx i)
def ioR (os : List Nat) (ob : Objs) (nx : Nat) : Option (PV × List CellIO) → Option (PV × Objs × Nat)
  | some (r, cs') => match renF (outF os nx) fuel r, cs'.mapM (renC (outF os nx) fuel) with
    | some r', some cs2 => some (r', putObs ob (((List.range cs2.length).map (outn os nx)).zip cs2), nx + (cs'.length - os.length))
    | _, _ => none
  | none => none
theorem ioEv_eq (ps : List PV) (os : List Nat) (h : dedup (ps.flatMap refsOf) = os) : ioEv Φ ob nx ps = match os.mapM ob, ps.mapM (renF (inn os) fuel) with
    | some cs, some qs => match cs.mapM (renC (inn os) fuel) with
      | some cs1 => ioR os ob nx (Φ qs cs1)
      | none => none
    | _, _ => none := by
  subst h
  unfold ioEv
  dsimp only
  generalize dedup (ps.flatMap refsOf) = os
  cases os.mapM ob with
  | none => rfl
  | some cs =>
    cases ps.mapM (renF (inn os) fuel) with
    | none => rfl
    | some qs =>
      dsimp only
      cases cs.mapM (renC (inn os) fuel) with
      | none => rfl
      | some cs1 =>
        dsimp only
        unfold ioR
        cases Φ qs cs1 with
        | none => rfl
        | some r => rfl
def ioOne (Φ : FunIO) (ob : Objs) (nx o : Nat) (qs : List PV) : Option CellIO → Option (PV × Objs × Nat)
  | some c => (c.2.2.mapM (renF (inn [o]) fuel)).bind fun es => ioR [o] ob nx (Φ qs [(c.1, c.2.1, es)])
  | none => none
theorem one_mapM {α β : Type} {F : α → Option β} {x : α} : [x].mapM F = (F x).map fun y => [y] := by
  rw [mapM_cons', mapM_nil']
  cases F x <;> rfl
theorem ioOne_of {ps qs : List PV} {o : Nat} (h1 : dedup (ps.flatMap refsOf) = [o]) (h2 : ps.mapM (renF (inn [o]) fuel) = some qs) : ioEv Φ ob nx ps = ioOne Φ ob nx o qs (ob o) := by
  rw [ioEv_eq ps [o] h1, h2, one_mapM]
  unfold ioOne
  cases hb : ob o with
  | none => rfl
  | some c =>
    simp only [Option.map_some, one_mapM, renC]
    cases c.2.2.mapM (renF (inn [o]) fuel) <;> rfl
theorem inn_self (o : Nat) : inn [o] o = some 0 := by simp [inn]
theorem inn_ne {o a : Nat} (h : ¬ o = a) : inn [a] o = none := by simp [inn, h]
theorem renS_fuel (nm : Nat → Option Nat) (p : PV) : renF nm fuel p = renF nm 8 p := rfl
theorem renS_val (nm : Nat → Option Nat) (f : Nat) (v : Value) : renF nm (f + 1) (.val v) = some (.val v) := rfl
theorem renS_agg (nm : Nat → Option Nat) (f : Nat) (cs : List PV) : renF nm (f + 1) (.agg cs) = (cs.mapM (renF nm f)).map .agg := by simp only [renF]
theorem renS_tup (nm : Nat → Option Nat) (f : Nat) (cs : List PV) : renF nm (f + 1) (.tup cs) = (cs.mapM (renF nm f)).map .tup := by simp only [renF]
theorem renS_own (nm : Nat → Option Nat) (f o sz i c : Nat) : renF nm (f + 1) (.own o sz i c) = (nm o).map fun o' => .own o' sz i c := rfl
theorem renS_row (nm : Nat → Option Nat) (f o sz i m : Nat) : renF nm (f + 1) (.row o sz i m) = (nm o).map fun o' => .row o' sz i m := rfl
theorem ren_flat {nm : Nat → Option Nat} : ∀ {f : Nat} {p : PV}, flatP f p = true → renF nm f p = some p
  | 0, _, h => by simp [flatP] at h
  | f + 1, p, h => by
    cases p with
    | val v => rfl
    | dead => rfl
    | agg cs =>
      have h2 : ∀ c ∈ cs, flatP f c = true := by simpa [flatP] using h
      simp only [renF]
      rw [mapM_self fun c hc => ren_flat (h2 c hc)]
      rfl
    | _ => simp [flatP] at h
theorem flatP_mono : ∀ {f g : Nat} {p : PV}, f ≤ g → flatP f p = true → flatP g p = true
  | 0, _, p, _, h => by simp [flatP] at h
  | f + 1, 0, p, hg, h => by omega
  | f + 1, g + 1, p, hg, h => by
    cases p with
    | val v => rfl
    | dead => rfl
    | agg cs =>
      have h2 : ∀ c ∈ cs, flatP f c = true := by simpa [flatP] using h
      simp only [flatP, List.all_eq_true]
      exact fun c hc => flatP_mono (by omega) (h2 c hc)
    | _ => simp [flatP] at h
theorem renS_flat {α : Type} {nm : Nat → Option Nat} {f sz : Nat} {k : Bool} {g : α → PV} {l : List α} (h : ∀ x, flatP 2 (g x) = true) : renF nm (f + 3) (.lst k sz (l.map g)) = some (.lst k sz (l.map g)) := by
  show ((l.map g).mapM (renF nm (f + 2))).map (PV.lst k sz) = _
  rw [mapM_self fun e he => by obtain ⟨x, _, rfl⟩ := List.mem_map.1 he; exact ren_flat (flatP_mono (by omega) (h x))]
  rfl
theorem renM_flat {α : Type} {nm : Nat → Option Nat} {f : Nat} {g : α → PV} {l : List α} (h : ∀ x, flatP 2 (g x) = true) : (l.map g).mapM (renF nm (f + 2)) = some (l.map g) :=
  mapM_self fun e he => by obtain ⟨x, _, rfl⟩ := List.mem_map.1 he; exact ren_flat (flatP_mono (by omega) (h x))
section
variable {α : Type} {nm : Nat → Option Nat} {f sz : Nat} {k : Bool} {l : List α} {g g1 g2 g3 g4 : α → Value}
theorem renS_vals : renF nm (f + 3) (.lst k sz (l.map fun x => PV.val (g x))) = some (.lst k sz (l.map fun x => PV.val (g x))) := renS_flat fun _ => rfl
theorem renS_a2 : renF nm (f + 3) (.lst k sz (l.map fun x => PV.agg [.val (g1 x), .val (g2 x)])) = some (.lst k sz (l.map fun x => PV.agg [.val (g1 x), .val (g2 x)])) := renS_flat fun _ => rfl
theorem renS_a3 : renF nm (f + 3) (.lst k sz (l.map fun x => PV.agg [.val (g1 x), .val (g2 x), .val (g3 x)])) = some (.lst k sz (l.map fun x => PV.agg [.val (g1 x), .val (g2 x), .val (g3 x)])) := renS_flat fun _ => rfl
theorem renS_a4 : renF nm (f + 3) (.lst k sz (l.map fun x => PV.agg [.val (g1 x), .val (g2 x), .val (g3 x), .val (g4 x)])) = some (.lst k sz (l.map fun x => PV.agg [.val (g1 x), .val (g2 x), .val (g3 x), .val (g4 x)])) := renS_flat fun _ => rfl
theorem renM_vals : (l.map fun x => PV.val (g x)).mapM (renF nm 8) = some (l.map fun x => PV.val (g x)) := renM_flat fun _ => rfl
theorem renM_a2 : (l.map fun x => PV.agg [.val (g1 x), .val (g2 x)]).mapM (renF nm 8) = some (l.map fun x => PV.agg [.val (g1 x), .val (g2 x)]) := renM_flat fun _ => rfl
theorem renM_a3 : (l.map fun x => PV.agg [.val (g1 x), .val (g2 x), .val (g3 x)]).mapM (renF nm 8) = some (l.map fun x => PV.agg [.val (g1 x), .val (g2 x), .val (g3 x)]) := renM_flat fun _ => rfl
theorem renM_a4 : (l.map fun x => PV.agg [.val (g1 x), .val (g2 x), .val (g3 x), .val (g4 x)]).mapM (renF nm 8) = some (l.map fun x => PV.agg [.val (g1 x), .val (g2 x), .val (g3 x), .val (g4 x)]) := renM_flat fun _ => rfl
end
theorem io_o1 {o sz i c : Nat} : ioEv Φ ob nx [.own o sz i c] = ioOne Φ ob nx o [.own 0 sz i c] (ob o) := ioOne_of (by simp [refsOf, dedup]) (by simp only [mapM_cons', mapM_nil', renS_fuel, renS_own, inn_self]; rfl)
theorem io_o2 {o sz i c : Nat} {v : Value} : ioEv Φ ob nx [.own o sz i c, .val v] = ioOne Φ ob nx o [.own 0 sz i c, .val v] (ob o) := ioOne_of (by simp [refsOf, dedup]) (by simp only [mapM_cons', mapM_nil', renS_fuel, renS_own, renS_val, inn_self]; rfl)
theorem io_o3 {o sz i c : Nat} {u v : Value} : ioEv Φ ob nx [.own o sz i c, .val u, .val v] = ioOne Φ ob nx o [.own 0 sz i c, .val u, .val v] (ob o) := ioOne_of (by simp [refsOf, dedup]) (by simp only [mapM_cons', mapM_nil', renS_fuel, renS_own, renS_val, inn_self]; rfl)
theorem io_r1 {o sz i c : Nat} : ioEv Φ ob nx [.row o sz i c] = ioOne Φ ob nx o [.row 0 sz i c] (ob o) := ioOne_of (by simp [refsOf, dedup]) (by simp only [mapM_cons', mapM_nil', renS_fuel, renS_row, inn_self]; rfl)
theorem io_r2 {o sz i c : Nat} {v : Value} : ioEv Φ ob nx [.row o sz i c, .val v] = ioOne Φ ob nx o [.row 0 sz i c, .val v] (ob o) := ioOne_of (by simp [refsOf, dedup]) (by simp only [mapM_cons', mapM_nil', renS_fuel, renS_row, renS_val, inn_self]; rfl)
theorem ioNo_of {ps qs : List PV} (h1 : ps.flatMap refsOf = []) (h2 : ps.mapM (renF (inn []) fuel) = some qs) : ioEv Φ ob nx ps = ioR [] ob nx (Φ qs []) := by
  rw [ioEv_eq ps [] (by rw [h1]; rfl), h2, mapM_nil']
  rfl
theorem io_l1 {k : Bool} {sz : Nat} {α : Type} {g : α → Value} {l : List α} : ioEv Φ ob nx [.lst k sz (l.map fun x => PV.val (g x))] = ioR [] ob nx (Φ [.lst k sz (l.map fun x => PV.val (g x))] []) := ioNo_of rfl (by simp only [mapM_cons', mapM_nil', renS_fuel, renS_vals]; rfl)
theorem io_v1 {u : Value} : ioEv Φ ob nx [.val u] = ioR [] ob nx (Φ [.val u] []) := ioNo_of rfl rfl
theorem io_v2 {u v : Value} : ioEv Φ ob nx [.val u, .val v] = ioR [] ob nx (Φ [.val u, .val v] []) := ioNo_of rfl rfl
theorem ioOne_some {o T sz : Nat} {es qs : List PV} : ioOne Φ ob nx o qs (some (T, sz, es)) = (es.mapM (renF (inn [o]) fuel)).bind fun es => ioR [o] ob nx (Φ qs [(T, sz, es)]) := rfl
theorem ioR_one {o T sz : Nat} {es : List PV} {r : PV} : ioR [o] ob nx (some (r, [(T, sz, es)])) = (renF (outF [o] nx) fuel r).bind fun r' => (es.mapM (renF (outF [o] nx) fuel)).map fun es' => (r', upd ob o (some (T, sz, es')), nx) := by
  unfold ioR
  simp only [one_mapM, renC]
  cases renF (outF [o] nx) fuel r with
  | none => rfl
  | some r' =>
    cases es.mapM (renF (outF [o] nx) fuel) with
    | none => rfl
    | some es' => rfl
theorem ioR_new {T sz : Nat} {es : List PV} {r : PV} : ioR [] ob nx (some (r, [(T, sz, es)])) = (renF (outF [] nx) fuel r).bind fun r' => (es.mapM (renF (outF [] nx) fuel)).map fun es' => (r', upd ob nx (some (T, sz, es')), nx + 1) := by
  unfold ioR
  simp only [one_mapM, renC]
  cases renF (outF [] nx) fuel r with
  | none => rfl
  | some r' =>
    cases es.mapM (renF (outF [] nx) fuel) with
    | none => rfl
    | some es' => rfl
theorem ioR_none {r : PV} : ioR [] ob nx (some (r, [])) = (renF (outF [] nx) fuel r).map fun r' => (r', ob, nx) := by
  unfold ioR
  simp only [mapM_nil']
  cases renF (outF [] nx) fuel r with
  | none => rfl
  | some r' => rfl
theorem outF_0 {o nx : Nat} : outF [o] nx 0 = some o := rfl
theorem outF_n {nx : Nat} : outF [] nx 0 = some nx := by simp [outF, outn]
end
section
variable {out : List Nat} {ob : Objs} {f : Nat}
theorem handS_fuel (p : PV) : handF out ob fuel p = handF out ob 8 p := rfl
theorem handS_val (v : Value) : handF out ob (f + 1) (.val v) = some (.val v) := rfl
theorem handS_agg (cs : List PV) : handF out ob (f + 1) (.agg cs) = (cs.mapM (handF out ob f)).map .agg := by simp only [handF]
theorem handS_tup (cs : List PV) : handF out ob (f + 1) (.tup cs) = (cs.mapM (handF out ob f)).map .tup := by simp only [handF]
def hRow (out : List Nat) (ob : Objs) (f sz i m : Nat) : Option Nat → Option CellIO → Option PV
  | some o', _ => some (.row o' sz i m)
  | none, some (_, sz', es) => if sz = sz' ∧ i + m ≤ es.length then (((es.drop i).take m).mapM (handF out ob f)).map (.lst true sz) else none
  | none, none => none
theorem handS_row (o sz i m : Nat) : handF out ob (f + 1) (.row o sz i m) = hRow out ob f sz i m (inn out o) (ob o) := by
  simp only [handF]
  unfold hRow
  cases inn out o with
  | some o' => rfl
  | none => cases ob o <;> rfl
def hOwn (out : List Nat) (ob : Objs) (f sz i c : Nat) : Option Nat → Option CellIO → Option PV
  | some o', _ => some (.own o' sz i c)
  | none, some (_, sz', es) => if sz = sz' then (es[i]?).bind fun e => (handF out ob f e).map (.ptr true · c) else none
  | none, none => none
theorem handS_own (o sz i c : Nat) : handF out ob (f + 1) (.own o sz i c) = hOwn out ob f sz i c (inn out o) (ob o) := by
  simp only [handF]
  unfold hOwn
  cases inn out o with
  | some o' => rfl
  | none => cases ob o <;> rfl
theorem hOwn_some {sz i c o' : Nat} {x : Option CellIO} : hOwn out ob f sz i c (some o') x = some (.own o' sz i c) := rfl
theorem hRow_some {sz i m o' : Nat} {x : Option CellIO} : hRow out ob f sz i m (some o') x = some (.row o' sz i m) := rfl
theorem hand_flat : ∀ {f : Nat} {p : PV}, flatP f p = true → handF out ob f p = some p
  | 0, _, h => by simp [flatP] at h
  | f + 1, p, h => by
    cases p with
    | val v => rfl
    | dead => rfl
    | agg cs =>
      have h2 : ∀ c ∈ cs, flatP f c = true := by simpa [flatP] using h
      simp only [handF]
      rw [mapM_self fun c hc => hand_flat (h2 c hc)]
      rfl
    | _ => simp [flatP] at h
theorem handM_flat {α : Type} {g : α → PV} {l : List α} (h : ∀ x, flatP 2 (g x) = true) : (l.map g).mapM (handF out ob (f + 2)) = some (l.map g) :=
  mapM_self fun e he => by obtain ⟨x, _, rfl⟩ := List.mem_map.1 he; exact hand_flat (flatP_mono (by omega) (h x))
theorem handS_flat {α : Type} {k : Bool} {sz : Nat} {g : α → PV} {l : List α} (h : ∀ x, flatP 2 (g x) = true) : handF out ob (f + 3) (.lst k sz (l.map g)) = some (.lst k sz (l.map g)) := by
  show ((l.map g).mapM (handF out ob (f + 2))).map (PV.lst k sz) = _
  rw [handM_flat h]
  rfl
theorem hRow_flat {α : Type} {sz m T : Nat} {g : α → PV} {l : List α} (h : ∀ x, flatP 2 (g x) = true) (hm : m = l.length) : hRow out ob (f + 2) sz 0 m none (some (T, sz, l.map g)) = some (.lst true sz (l.map g)) := by
  subst hm
  have e : ((l.map g).drop 0).take l.length = l.map g := by
    rw [List.drop_zero, List.take_of_length_le (by simp)]
  simp only [hRow, e, handM_flat h, Nat.zero_add, List.length_map, Nat.le_refl, and_self, if_true, Option.map_some]
section
variable {α : Type} {sz m T : Nat} {k : Bool} {l : List α} {g g1 g2 g3 g4 : α → Value}
theorem handS_vals : handF out ob (f + 3) (.lst k sz (l.map fun x => PV.val (g x))) = some (.lst k sz (l.map fun x => PV.val (g x))) := handS_flat fun _ => rfl
theorem handS_a2 : handF out ob (f + 3) (.lst k sz (l.map fun x => PV.agg [.val (g1 x), .val (g2 x)])) = some (.lst k sz (l.map fun x => PV.agg [.val (g1 x), .val (g2 x)])) := handS_flat fun _ => rfl
theorem handS_a3 : handF out ob (f + 3) (.lst k sz (l.map fun x => PV.agg [.val (g1 x), .val (g2 x), .val (g3 x)])) = some (.lst k sz (l.map fun x => PV.agg [.val (g1 x), .val (g2 x), .val (g3 x)])) := handS_flat fun _ => rfl
theorem handS_a4 : handF out ob (f + 3) (.lst k sz (l.map fun x => PV.agg [.val (g1 x), .val (g2 x), .val (g3 x), .val (g4 x)])) = some (.lst k sz (l.map fun x => PV.agg [.val (g1 x), .val (g2 x), .val (g3 x), .val (g4 x)])) := handS_flat fun _ => rfl
theorem handM_vals : (l.map fun x => PV.val (g x)).mapM (handF out ob 8) = some (l.map fun x => PV.val (g x)) := handM_flat fun _ => rfl
theorem handM_a2 : (l.map fun x => PV.agg [.val (g1 x), .val (g2 x)]).mapM (handF out ob 8) = some (l.map fun x => PV.agg [.val (g1 x), .val (g2 x)]) := handM_flat fun _ => rfl
theorem handM_a3 : (l.map fun x => PV.agg [.val (g1 x), .val (g2 x), .val (g3 x)]).mapM (handF out ob 8) = some (l.map fun x => PV.agg [.val (g1 x), .val (g2 x), .val (g3 x)]) := handM_flat fun _ => rfl
theorem handM_a4 : (l.map fun x => PV.agg [.val (g1 x), .val (g2 x), .val (g3 x), .val (g4 x)]).mapM (handF out ob 8) = some (l.map fun x => PV.agg [.val (g1 x), .val (g2 x), .val (g3 x), .val (g4 x)]) := handM_flat fun _ => rfl
theorem hRow_vals (hm : m = l.length) : hRow out ob (f + 2) sz 0 m none (some (T, sz, l.map fun x => PV.val (g x))) = some (.lst true sz (l.map fun x => PV.val (g x))) := hRow_flat (fun _ => rfl) hm
theorem hRow_a2 (hm : m = l.length) : hRow out ob (f + 2) sz 0 m none (some (T, sz, l.map fun x => PV.agg [.val (g1 x), .val (g2 x)])) = some (.lst true sz (l.map fun x => PV.agg [.val (g1 x), .val (g2 x)])) := hRow_flat (fun _ => rfl) hm
theorem hRow_a3 (hm : m = l.length) : hRow out ob (f + 2) sz 0 m none (some (T, sz, l.map fun x => PV.agg [.val (g1 x), .val (g2 x), .val (g3 x)])) = some (.lst true sz (l.map fun x => PV.agg [.val (g1 x), .val (g2 x), .val (g3 x)])) := hRow_flat (fun _ => rfl) hm
theorem hRow_a4 (hm : m = l.length) : hRow out ob (f + 2) sz 0 m none (some (T, sz, l.map fun x => PV.agg [.val (g1 x), .val (g2 x), .val (g3 x), .val (g4 x)])) = some (.lst true sz (l.map fun x => PV.agg [.val (g1 x), .val (g2 x), .val (g3 x), .val (g4 x)])) := hRow_flat (fun _ => rfl) hm
end
def hCell (out : List Nat) (ob : Objs) : Option CellIO → Option CellIO
  | some (T, sz, es) => (es.mapM (handF out ob fuel)).map fun es => (T, sz, es)
  | none => none
theorem handC_eq (o : Nat) : handC out ob fuel o = hCell out ob (ob o) := by
  unfold handC hCell
  cases ob o with
  | none => rfl
  | some c => rfl
theorem hCell_some {T sz : Nat} {es : List PV} : hCell out ob (some (T, sz, es)) = (es.mapM (handF out ob fuel)).map fun es => (T, sz, es) := rfl
end
section
variable {P : Program} {Γ : Ctx} {tm : Nat → PV} {ob : Objs} {nx : Nat} {rs : List ResultVar} {r : PV} {c' d' : CellIO} {x : X}
theorem i_end1 (hx : x = .normal ∨ x = .ret) (h1 : ((resPs P ⟨tm, ob, nx⟩ rs).bind fun qs => handF [0] ob fuel (onePV qs)) = some r) (h2 : handC [0] ob fuel 0 = some c') : PostIO P rs 1 r [c'] x ⟨tm, ob, nx⟩ :=
  ⟨hx, [], by simp, by simp, h1, by
    show [0].mapM (handC [0] ob fuel) = some [c']
    rw [one_mapM, h2]; rfl⟩
theorem i_endN1 (o : Nat) (hx : x = .normal ∨ x = .ret) (h1 : ((resPs P ⟨tm, ob, nx⟩ rs).bind fun qs => handF [o] ob fuel (onePV qs)) = some r) (h2 : handC [o] ob fuel o = some c') : PostIO P rs 0 r [c'] x ⟨tm, ob, nx⟩ :=
  ⟨hx, [o], by simp, by simp, h1, by
    show [o].mapM (handC [o] ob fuel) = some [c']
    rw [one_mapM, h2]; rfl⟩
theorem i_endN0 (hx : x = .normal ∨ x = .ret) (h1 : ((resPs P ⟨tm, ob, nx⟩ rs).bind fun qs => handF [] ob fuel (onePV qs)) = some r) : PostIO P rs 0 r [] x ⟨tm, ob, nx⟩ :=
  ⟨hx, [], by simp, by simp, h1, rfl⟩
theorem ls_one (c : CellIO) : (fun o => [c][o]?) = lo [(0, c)] := by
  funext o
  cases o with
  | zero => rfl
  | succ o => simp [lo, List.lookup]
theorem ls_nil : (fun o => ([] : List CellIO)[o]?) = noObs := by funext o; simp [noObs]
theorem sound_pq0 (hm : P.follows .mixedOrders = true) {f : Nat} {fn : Func} {c : Code} {Φ : FunIO} (hΓ : SoundΓ P Γ) (hf : P.funcs[f]? = some fn) (hb : fn.body = some c) (N : Nat) (hN : fn.ntmps = N) (rs : List ResultVar) (hrs : fn.results.toList = rs) (hc : codeOk Γ true N c = true)
    (h : ∀ ps cs r cs', Φ ps cs = some (r, cs') → cs = [] ∧ ps.length ≤ N ∧ pq P Γ N c (PostIO P rs 0 r cs') (initS ps).tm noObs 0) : SoundIO P f Φ := by
  refine sound_pqIO hm hΓ hf hb N hN rs hrs hc fun ps cs r cs' hr => ?_
  obtain ⟨rfl, h1, h2⟩ := h ps cs r cs' hr
  refine ⟨h1, ?_⟩
  rw [ls_nil]
  exact h2
end
def onlyG (b : Bool) (c : Option CellIO) : Option CellIO := if b = true then c else none
theorem onlyV_ap (V : List Nat) (ob : Objs) (o : Nat) : onlyV V ob o = onlyG (V.contains o) (ob o) := rfl
theorem onlyG_true (c : Option CellIO) : onlyG true c = c := rfl
attribute [push_cast]
  ee_call ioGo_some io_o1 io_o2 io_o3 io_r1 io_r2 io_l1 io_v1 io_v2 ioOne_some ioR_one ioR_new ioR_none outF_0 outF_n inn_self inn_ne renS_fuel renS_val renS_agg renS_tup renS_own renS_row renS_vals renS_a2 renS_a3 renS_a4 renM_vals renM_a2 renM_a3 renM_a4 handS_fuel handS_val handS_agg handS_tup handS_row handS_own hOwn_some hRow_some handS_vals handS_a2 handS_a3 handS_a4 handM_vals handM_a2 handM_a3 handM_a4 hRow_vals hRow_a2 hRow_a3 hRow_a4 handC_eq hCell_some onlyV_ap onlyG_true List.contains_cons List.contains_nil
theorem lo_nil (o : Nat) : lo [] o = none := rfl
theorem lo_cons (k : Nat) (v : CellIO) (l : List (Nat × CellIO)) (o : Nat) : lo ((k, v) :: l) o = if o = k then some v else lo l o := by
  simp only [lo, List.lookup_cons]
  by_cases h : o = k
  · simp [h]
  · have : (o == k) = false := by simpa using h
    simp [this, h]
attribute [push_cast high]
  lo_nil lo_cons
def plF (l : List (Nat × Nat)) : Nat → Option (Nat × Nat) := fun i => l[i]?
theorem bla_of {P : Program} {t : Nat} {z : List PV} {zv : Value} {pl : Array (Nat × Nat)} (hz : zeroOf P t = some zv) (hzv : zv.cells.toList.map PV.val = z) (hs : structPlaces P t = none) (hp : arrPlaces P t = some pl) (ps : List (Nat × PV)) : evBuild P t ps = (fillP (plF pl.toList) z ps).map .agg := by
  unfold evBuild
  rw [hz, hs]
  dsimp only
  rw [hp, hzv]
  dsimp only
  congr 2
  funext i
  unfold plF
  simp
theorem ixa_of {P : Program} {t n e s o sz j f : Nat} {i : Int} (hu : P.underlying t = some (.array n e)) (hs : tySize P e = some s) (h0 : 0 ≤ i) (h1 : i < (n : Int)) : evIndexAddr P t (.own o sz j f) i = some (.own o sz j (f + i.toNat * s)) := by
  unfold evIndexAddr
  rw [hu]
  dsimp only
  rw [hs]
  dsimp only
  rw [if_pos ⟨h0, h1⟩]
theorem ixap_of {P : Program} {t n e s f : Nat} {k : Bool} {x : PV} {i : Int} (hu : P.underlying t = some (.array n e)) (hs : tySize P e = some s) (h0 : 0 ≤ i) (h1 : i < (n : Int)) : evIndexAddr P t (.ptr k x f) i = some (.ptr k x (f + i.toNat * s)) := by
  unfold evIndexAddr
  rw [hu]
  dsimp only
  rw [hs]
  dsimp only
  rw [if_pos ⟨h0, h1⟩]
theorem bl_of {P : Program} {t : Nat} {z : List PV} {zv : Value} {pl : Array (Nat × Nat)} (hz : zeroOf P t = some zv) (hzv : zv.cells.toList.map PV.val = z) (hp : structPlaces P t = some pl) (ps : List (Nat × PV)) : evBuild P t ps = (fillP (plF pl.toList) z ps).map .agg := by
  unfold evBuild
  rw [hz, hp]
  dsimp only
  rw [hzv]
  congr 2
  funext i
  simp [plF]
def fpG (l : List (Nat × Nat)) (cells : List PV) (rest : List (Nat × PV)) : Option (Nat × Nat) → Option (List PV) → Option (List PV)
  | some (off, size), some cs => if cs.length = size ∧ off + cs.length ≤ cells.length then fillP (plF l) (setL cells off cs) rest else none
  | _, _ => none
theorem fp_nil (l : List (Nat × Nat)) (cells : List PV) : fillP (plF l) cells [] = some cells := rfl
theorem fp_cons (l : List (Nat × Nat)) (cells : List PV) (i : Nat) (v : PV) (rest : List (Nat × PV)) : fillP (plF l) cells ((i, v) :: rest) = fpG l cells rest l[i]? (cellsL v) := rfl
theorem fpG_ok {l : List (Nat × Nat)} {cells cs : List PV} {rest : List (Nat × PV)} {off size : Nat} (h1 : cs.length = size) (h2 : off + cs.length ≤ cells.length) : fpG l cells rest (some (off, size)) (some cs) = fillP (plF l) (setL cells off cs) rest := by
  simp [fpG, h1]
  omega
theorem partsOf_nil {ρ : Operand → PV} : partsOf ρ (List.toArray []) = [] := rfl
theorem partsOf_cons {ρ : Operand → PV} {i : Nat} {x : Operand} {l : List (Nat × Operand)} : partsOf ρ (List.toArray ((i, x) :: l)) = (i, ρ x) :: partsOf ρ l.toArray := rfl
def okC (sz : Nat) : Option (List PV) → Bool
  | some cs => cs.length == sz
  | none => false
def rowC (e sz : Nat) (es : List PV) : Bool → Option (Nat × Nat × List PV)
  | true => some (e, sz, es)
  | false => none
theorem rowC_true (e sz : Nat) (es : List PV) : rowC e sz es true = some (e, sz, es) := rfl
theorem rw_of {P : Program} {t n e sz : Nat} {z : Value} (he : tyElem P t = some e) (hs : tySize P e = some sz) (hz : zeroOf P e = some z) (ps : List (Nat × PV)) (h1 : n * sz ≤ 16777216) (h2 : n ≤ 9223372036854775807) (hm : ps.map (·.1) = List.range n) :
    rowEs P t n ps = rowC e sz (ps.map (·.2)) ((ps.map (·.2)).all (okP sz)) := by
  unfold rowEs
  rw [he]
  dsimp only
  rw [hs, hz]
  dsimp only
  cases ((ps.map (·.2)).all (okP sz)) <;> simp [rowC, h1, h2, hm]
theorem okP_eq (sz : Nat) (p : PV) : okP sz p = okC sz (cellsL p) := by unfold okP okC; cases cellsL p <;> rfl
theorem okC_some (sz : Nat) (cs : List PV) : okC sz (some cs) = (cs.length == sz) := rfl
theorem rowV_some (e sz : Nat) (es : List PV) : rowV (some (e, sz, es)) = some (.lst true sz es) := rfl
theorem take_map' {α β : Type} {f : α → β} {l : List α} {n : Nat} : (l.map f).take n = (l.take n).map f := List.map_take.symm
theorem drop_map' {α β : Type} {f : α → β} {l : List α} {n : Nat} : (l.map f).drop n = (l.drop n).map f := List.map_drop.symm
attribute [push_cast]
  take_map' drop_map' Int.add_sub_cancel List.length_append List.length_take List.length_drop List.length_reverse Nat.sub_zero fp_nil fp_cons fpG_ok partsOf_nil partsOf_cons rowC_true okP_eq okC_some rowV_some
end Go.Proofs.YtpggpdbipajchaaGreatDoor
