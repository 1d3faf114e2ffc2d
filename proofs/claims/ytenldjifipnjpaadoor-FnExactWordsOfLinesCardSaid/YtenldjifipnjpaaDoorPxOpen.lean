/- How what comes in at a law's call reads: one opener a type, put together. -/
import Derived.Test.YtenldjifipnjpaaDoorPxR
import Derived.Test.YtenldjifipnjpaaDoorRows
import Derived.ProofKit
import Derived.OpenShut
import Derived.ShutString
import Derived.ChangeOld
import Derived.Below
import Derived.Lib.SmallJoins
import Derived.Lib.LaidTab
namespace Go.Proofs.YtenldjifipnjpaaDoor
open Go.ChangeShapes Go.WideShapes Go.ChangeAt Go.RowKit
open Go.ChangeMaps (open_string shut_string)
set_option linter.all false

theorem own : ownKnob Tryd.prog.godebug = none := by kernel_rfl
theorem laidOut : laidOutB Tryd.prog = true := by kernel_rfl
theorem wf_bounds {x : Int} (h : (Lit.int .i64 x).wf = true) : -9223372036854775808 ≤ x ∧ x ≤ 9223372036854775807 := by
  simpa [Lit.wf, IntKind.min, IntKind.max, IntKind.signed, IntKind.bits] using h
theorem wf_u8 {x : Int} (h : (Lit.int .u8 x).wf = true) : 0 ≤ x ∧ x ≤ 255 := by
  simpa [Lit.wf, IntKind.min, IntKind.max, IntKind.signed, IntKind.bits] using h
theorem addr_add (b off i : Nat) : (⟨b, off, none⟩ : Addr).add i = ⟨b, off + i, none⟩ := by
  unfold Addr.add
  by_cases h : i = 0 <;> simp [h]
theorem cell_lt {w : World} {a : Addr} {v : Value} (h : w.cell? a = some v) : a.block < w.heap.size := by
  unfold World.cell? at h
  by_cases hb : a.block < w.heap.size
  · exact hb
  · rw [Array.getElem?_eq_none (by omega)] at h
    cases a.spot <;> simp at h

/-- What a row says of a table, said of its block. -/
theorem tab_of {P : Program} {W : World} {name : String} {k : IntKind} {zs : List Int} {g : Nat} (hg : P.globalNamed name = some g) (h : Lib.TabIs P W name k zs) : ∃ T k', W.heap[g]? = some (.cells ((zs.map fun z => Value.int k z).toArray) T k') := by
  unfold Lib.TabIs World.var? at h
  rw [hg, Option.bind_some] at h
  split at h
  · rename_i cs T k' hc
    cases h
    exact ⟨_, _, hc⟩
  · cases h
theorem laid_tail {P : Program} {x : String × DataW Unit} {r : List (String × DataW Unit)} {w : World} (h : laidMet P (x :: r) w) : laidMet P r w := by
  obtain ⟨ps, hv, hnd, hc⟩ := h
  obtain ⟨g, t, cs, fuel, p, q, h1, h2, h3, h4, h5, rfl⟩ := hv
  exact ⟨q, h5, (List.nodup_append.1 hnd).2.1, fun b off hm => hc b off (List.mem_append_right _ hm)⟩
/-- All old memory is an argument. -/
abbrev gW (W : World) : Gh := argG fun b => b < W.heap.size
section
variable {H : Type} {enc : TypeId × Value → H} {P : Program} {W : World} {base : Nat} {α β γ δ ε : Type}
def OpC (enc : TypeId × Value → H) (P : Program) (W : World) (base : Nat) (t : TypeId) (A : Dec α) (ok : α → Prop) : Prop :=
  ∀ fuel cs x, DataW.trod enc P W base (fun _ => true) true fuel t cs = some x → ∃ a v, ok a ∧ Rep (gW W) W (A.e a) v ∧ v.cells.toList = cs ∧ v.cells.all (·.oneCell') = true
theorem opI {t : TypeId} (ht : P.underlying t = some (.int .i64)) : OpC enc P W base t dI okI := fun fuel cs x h => by
  obtain ⟨n, rfl, _, hw⟩ := DataW.trod_int ht h
  exact ⟨n, .int .i64 n, wf_bounds hw, rfl, rfl, by simp [Value.cells, Value.oneCell']⟩
theorem opU {t : TypeId} (ht : P.underlying t = some (.int .u8)) : OpC enc P W base t dU okB8 := fun fuel cs x h => by
  obtain ⟨n, rfl, _, hw⟩ := DataW.trod_int ht h
  exact ⟨n, .int .u8 n, wf_u8 hw, rfl, rfl, by simp [Value.cells, Value.oneCell']⟩
theorem opS {t : TypeId} (ht : P.underlying t = some .string) : OpC enc P W base t dS okS := fun fuel cs x h => by
  obtain ⟨s, rfl, _, hs⟩ := DataW.trod_string ht h
  exact ⟨s, .string s, hs, rfl, rfl, by simp [Value.cells, Value.oneCell']⟩
theorem list_of {n : Nat} {p : Nat → α → Prop} (h : ∀ i, i < n → ∃ x, p i x) : ∃ l : List α, l.length = n ∧ ∀ i a, l[i]? = some a → p i a := by
  induction n with
  | zero => exact ⟨[], rfl, fun i a h => by simp at h⟩
  | succ n ih =>
    obtain ⟨l, hl, hp⟩ := ih fun i hi => h i (by omega)
    obtain ⟨x, hx⟩ := h n (by omega)
    refine ⟨l ++ [x], by simp [hl], fun i a hi => ?_⟩
    rw [List.getElem?_append] at hi
    split at hi
    · exact hp i a hi
    · rename_i hlt
      have : i - l.length = 0 := by
        by_cases h0 : i - l.length = 0
        · exact h0
        · rw [List.getElem?_eq_none (by simp; omega)] at hi
          cases hi
      rw [this] at hi
      simp at hi
      subst hi
      have : i = n := by omega
      subst this
      exact hx
theorem opL {t e : TypeId} {A : Dec α} {ok : α → Prop} (sz : Nat) (ht : P.underlying t = some (.slice e)) (hs : P.cellsOf e = sz) (h0 : 0 < sz) (hA : OpC enc P W base e A ok) : OpC enc P W base t (dL sz A) (okL ok) := fun fuel cs x h => by
  rcases Go.Deep.open_slice ht h with ⟨rfl, _⟩ | ⟨x, len, cap, m, n, D, Pl, rfl, hb, hl, hm, hmm, _, hx⟩
  · exact ⟨[], .slice none 0 0, ⟨by simp, by simp⟩, ⟨none, 0, rfl, by simp, by simp, .inl rfl⟩, rfl, by simp [Value.cells, Value.oneCell']⟩
  have hm2 : m = cap := by simpa using hmm
  have hcap : cap ≤ 9223372036854775807 := hm
  obtain ⟨l, hlen, hp⟩ := list_of (n := len) (p := fun i a => ok a ∧ ∃ v, Rep (gW W) W (A.e a) v ∧ v.cells.size = sz ∧ v.cells.all (·.oneCell') = true ∧ ∀ j, j < sz → W.cell? ((x.add (i * sz)).add j) = v.cells[j]?) (fun i hi => by
    obtain ⟨cs', h1, h2⟩ := hx i (by omega)
    obtain ⟨a, v, h3, h4, h5, h6⟩ := hA _ _ _ h2
    obtain ⟨_, h7, h8⟩ := World.cells?_some h1
    rw [hs] at h7 h8
    refine ⟨a, h3, v, h4, ?_, h6, fun j hj => ?_⟩
    · rw [← h7, ← h5]; simp
    · rw [h8 j hj, ← h5]; simp)
  refine ⟨l, .slice (some x) len cap, ⟨by omega, fun a ha => ?_⟩, ?_, rfl, by simp [Value.cells, Value.oneCell']⟩
  · obtain ⟨i, hi, rfl⟩ := List.getElem_of_mem ha
    exact (hp i _ (by simp [hi])).1
  · refine ⟨some x, cap, by simp [hlen], by simp [hlen]; omega, hcap, ?_⟩
    by_cases hn : l = []
    · exact .inl (by simp [hn])
    right
    have hl0 : 0 < l.length := List.length_pos_iff.2 hn
    obtain ⟨_, v, h4, h5, h6, h7⟩ := hp 0 l[0] (by simp [hl0])
    have h8 := h7 0 h0
    have h9 : v.cells[0]? = some v.cells[0] := by simp
    rw [h9] at h8
    have hspot := World.cell?_spot h8
    have hlt := cell_lt h8
    obtain ⟨b, off, spot⟩ := x
    simp only [Nat.zero_mul, Addr.add, if_true] at hspot hlt
    subst hspot
    refine ⟨b, off, rfl, ⟨rfl, hlt⟩, RepEs.of fun i p hi => ?_⟩
    rw [List.getElem?_map, Option.map_eq_some_iff] at hi
    obtain ⟨a, ha, rfl⟩ := hi
    obtain ⟨_, v, h4, h5, h6, h7⟩ := hp i a ha
    refine ⟨v, h4, ⟨h6, fun j hj => ?_⟩, h5⟩
    have := h7 j (by omega)
    rwa [addr_add, addr_add] at this
/-- One field: its cell. -/
theorem opF {t : TypeId} {A : Dec α} {ok : α → Prop} {n : Nat} {cs : List Value} {y : DataW H × List MemPlace} (hA : OpC enc P W base t A ok) (h1 : ∀ a, oneP (A.e a) = true)
    (h : DataW.trod enc P W base (fun _ => true) true n t cs = some y) : ∃ a v, ok a ∧ Rep (gW W) W (A.e a) v ∧ v.oneCell' = true ∧ cs = [v] := by
  obtain ⟨a, v, h3, h4, h5, h6⟩ := hA _ _ _ h
  have := oneP_rep h4 (h1 a)
  exact ⟨a, v, h3, h4, this, by rw [← h5, oneCell_cells this]⟩
theorem opA2 {t : TypeId} {f0 f1 : Field} {A : Dec α} {B : Dec β} {ok0 : α → Prop} {ok1 : β → Prop} (hs : P.underlying t = some (.struct #[f0, f1])) (hone : Go.Deep.oneCellFields P #[f0, f1] = true) (hC : P.cellsOf t = 2)
    (h0 : OpC enc P W base f0.type A ok0) (o0 : ∀ a, oneP (A.e a) = true) (h1 : OpC enc P W base f1.type B ok1) (o1 : ∀ a, oneP (B.e a) = true) :
    OpC enc P W base t (dA2 A B) (fun p => ok0 p.1 ∧ ok1 p.2) := fun fuel cs x h => by
  obtain ⟨xs, n, _, _, hl, hlen, hf⟩ := DataW.trod_struct hs h
  rw [hC] at hl
  match cs, hl with
  | [c0, c1], _ =>
    obtain ⟨y0, hy0⟩ : ∃ y, xs[0]? = some y := ⟨_, List.getElem?_eq_getElem (by rw [hlen]; show 0 < 2; omega)⟩
    obtain ⟨q0, k0⟩ := Go.Deep.hone_of hone 0 f0 rfl
    have t0 := hf 0 f0 rfl
    rw [q0, k0, hy0] at t0
    obtain ⟨a0, v0, e0, r0, u0, z0⟩ := opF h0 o0 t0
    have z0' : c0 = v0 := by simpa using z0
    subst z0'
    obtain ⟨y1, hy1⟩ : ∃ y, xs[1]? = some y := ⟨_, List.getElem?_eq_getElem (by rw [hlen]; show 1 < 2; omega)⟩
    obtain ⟨q1, k1⟩ := Go.Deep.hone_of hone 1 f1 rfl
    have t1 := hf 1 f1 rfl
    rw [q1, k1, hy1] at t1
    obtain ⟨a1, v1, e1, r1, u1, z1⟩ := opF h1 o1 t1
    have z1' : c1 = v1 := by simpa using z1
    subst z1'
    exact ⟨(a0, a1), .agg #[c0, c1], ⟨e0, e1⟩, ⟨_, rfl, ⟨c0, [c1], rfl, r0, ⟨c1, [], rfl, r1, rfl⟩⟩⟩, rfl, by simp [Value.cells, u0, u1]⟩
theorem opA3 {t : TypeId} {f0 f1 f2 : Field} {A : Dec α} {B : Dec β} {C : Dec γ} {ok0 : α → Prop} {ok1 : β → Prop} {ok2 : γ → Prop} (hs : P.underlying t = some (.struct #[f0, f1, f2])) (hone : Go.Deep.oneCellFields P #[f0, f1, f2] = true) (hC : P.cellsOf t = 3)
    (h0 : OpC enc P W base f0.type A ok0) (o0 : ∀ a, oneP (A.e a) = true) (h1 : OpC enc P W base f1.type B ok1) (o1 : ∀ a, oneP (B.e a) = true) (h2 : OpC enc P W base f2.type C ok2) (o2 : ∀ a, oneP (C.e a) = true) :
    OpC enc P W base t (dA3 A B C) (fun p => ok0 p.1 ∧ ok1 p.2.1 ∧ ok2 p.2.2) := fun fuel cs x h => by
  obtain ⟨xs, n, _, _, hl, hlen, hf⟩ := DataW.trod_struct hs h
  rw [hC] at hl
  match cs, hl with
  | [c0, c1, c2], _ =>
    obtain ⟨y0, hy0⟩ : ∃ y, xs[0]? = some y := ⟨_, List.getElem?_eq_getElem (by rw [hlen]; show 0 < 3; omega)⟩
    obtain ⟨q0, k0⟩ := Go.Deep.hone_of hone 0 f0 rfl
    have t0 := hf 0 f0 rfl
    rw [q0, k0, hy0] at t0
    obtain ⟨a0, v0, e0, r0, u0, z0⟩ := opF h0 o0 t0
    have z0' : c0 = v0 := by simpa using z0
    subst z0'
    obtain ⟨y1, hy1⟩ : ∃ y, xs[1]? = some y := ⟨_, List.getElem?_eq_getElem (by rw [hlen]; show 1 < 3; omega)⟩
    obtain ⟨q1, k1⟩ := Go.Deep.hone_of hone 1 f1 rfl
    have t1 := hf 1 f1 rfl
    rw [q1, k1, hy1] at t1
    obtain ⟨a1, v1, e1, r1, u1, z1⟩ := opF h1 o1 t1
    have z1' : c1 = v1 := by simpa using z1
    subst z1'
    obtain ⟨y2, hy2⟩ : ∃ y, xs[2]? = some y := ⟨_, List.getElem?_eq_getElem (by rw [hlen]; show 2 < 3; omega)⟩
    obtain ⟨q2, k2⟩ := Go.Deep.hone_of hone 2 f2 rfl
    have t2 := hf 2 f2 rfl
    rw [q2, k2, hy2] at t2
    obtain ⟨a2, v2, e2, r2, u2, z2⟩ := opF h2 o2 t2
    have z2' : c2 = v2 := by simpa using z2
    subst z2'
    exact ⟨(a0, a1, a2), .agg #[c0, c1, c2], ⟨e0, e1, e2⟩, ⟨_, rfl, ⟨c0, [c1, c2], rfl, r0, ⟨c1, [c2], rfl, r1, ⟨c2, [], rfl, r2, rfl⟩⟩⟩⟩, rfl, by simp [Value.cells, u0, u1, u2]⟩
theorem opA4 {t : TypeId} {f0 f1 f2 f3 : Field} {A : Dec α} {B : Dec β} {C : Dec γ} {D : Dec δ} {ok0 : α → Prop} {ok1 : β → Prop} {ok2 : γ → Prop} {ok3 : δ → Prop} (hs : P.underlying t = some (.struct #[f0, f1, f2, f3])) (hone : Go.Deep.oneCellFields P #[f0, f1, f2, f3] = true) (hC : P.cellsOf t = 4)
    (h0 : OpC enc P W base f0.type A ok0) (o0 : ∀ a, oneP (A.e a) = true) (h1 : OpC enc P W base f1.type B ok1) (o1 : ∀ a, oneP (B.e a) = true) (h2 : OpC enc P W base f2.type C ok2) (o2 : ∀ a, oneP (C.e a) = true) (h3 : OpC enc P W base f3.type D ok3) (o3 : ∀ a, oneP (D.e a) = true) :
    OpC enc P W base t (dA4 A B C D) (fun p => ok0 p.1 ∧ ok1 p.2.1 ∧ ok2 p.2.2.1 ∧ ok3 p.2.2.2) := fun fuel cs x h => by
  obtain ⟨xs, n, _, _, hl, hlen, hf⟩ := DataW.trod_struct hs h
  rw [hC] at hl
  match cs, hl with
  | [c0, c1, c2, c3], _ =>
    obtain ⟨y0, hy0⟩ : ∃ y, xs[0]? = some y := ⟨_, List.getElem?_eq_getElem (by rw [hlen]; show 0 < 4; omega)⟩
    obtain ⟨q0, k0⟩ := Go.Deep.hone_of hone 0 f0 rfl
    have t0 := hf 0 f0 rfl
    rw [q0, k0, hy0] at t0
    obtain ⟨a0, v0, e0, r0, u0, z0⟩ := opF h0 o0 t0
    have z0' : c0 = v0 := by simpa using z0
    subst z0'
    obtain ⟨y1, hy1⟩ : ∃ y, xs[1]? = some y := ⟨_, List.getElem?_eq_getElem (by rw [hlen]; show 1 < 4; omega)⟩
    obtain ⟨q1, k1⟩ := Go.Deep.hone_of hone 1 f1 rfl
    have t1 := hf 1 f1 rfl
    rw [q1, k1, hy1] at t1
    obtain ⟨a1, v1, e1, r1, u1, z1⟩ := opF h1 o1 t1
    have z1' : c1 = v1 := by simpa using z1
    subst z1'
    obtain ⟨y2, hy2⟩ : ∃ y, xs[2]? = some y := ⟨_, List.getElem?_eq_getElem (by rw [hlen]; show 2 < 4; omega)⟩
    obtain ⟨q2, k2⟩ := Go.Deep.hone_of hone 2 f2 rfl
    have t2 := hf 2 f2 rfl
    rw [q2, k2, hy2] at t2
    obtain ⟨a2, v2, e2, r2, u2, z2⟩ := opF h2 o2 t2
    have z2' : c2 = v2 := by simpa using z2
    subst z2'
    obtain ⟨y3, hy3⟩ : ∃ y, xs[3]? = some y := ⟨_, List.getElem?_eq_getElem (by rw [hlen]; show 3 < 4; omega)⟩
    obtain ⟨q3, k3⟩ := Go.Deep.hone_of hone 3 f3 rfl
    have t3 := hf 3 f3 rfl
    rw [q3, k3, hy3] at t3
    obtain ⟨a3, v3, e3, r3, u3, z3⟩ := opF h3 o3 t3
    have z3' : c3 = v3 := by simpa using z3
    subst z3'
    exact ⟨(a0, a1, a2, a3), .agg #[c0, c1, c2, c3], ⟨e0, e1, e2, e3⟩, ⟨_, rfl, ⟨c0, [c1, c2, c3], rfl, r0, ⟨c1, [c2, c3], rfl, r1, ⟨c2, [c3], rfl, r2, ⟨c3, [], rfl, r3, rfl⟩⟩⟩⟩⟩, rfl, by simp [Value.cells, u0, u1, u2, u3]⟩
theorem opA5 {t : TypeId} {f0 f1 f2 f3 f4 : Field} {A : Dec α} {B : Dec β} {C : Dec γ} {D : Dec δ} {E : Dec ε} {ok0 : α → Prop} {ok1 : β → Prop} {ok2 : γ → Prop} {ok3 : δ → Prop} {ok4 : ε → Prop} (hs : P.underlying t = some (.struct #[f0, f1, f2, f3, f4])) (hone : Go.Deep.oneCellFields P #[f0, f1, f2, f3, f4] = true) (hC : P.cellsOf t = 5)
    (h0 : OpC enc P W base f0.type A ok0) (o0 : ∀ a, oneP (A.e a) = true) (h1 : OpC enc P W base f1.type B ok1) (o1 : ∀ a, oneP (B.e a) = true) (h2 : OpC enc P W base f2.type C ok2) (o2 : ∀ a, oneP (C.e a) = true) (h3 : OpC enc P W base f3.type D ok3) (o3 : ∀ a, oneP (D.e a) = true) (h4 : OpC enc P W base f4.type E ok4) (o4 : ∀ a, oneP (E.e a) = true) :
    OpC enc P W base t (dA5 A B C D E) (fun p => ok0 p.1 ∧ ok1 p.2.1 ∧ ok2 p.2.2.1 ∧ ok3 p.2.2.2.1 ∧ ok4 p.2.2.2.2) := fun fuel cs x h => by
  obtain ⟨xs, n, _, _, hl, hlen, hf⟩ := DataW.trod_struct hs h
  rw [hC] at hl
  match cs, hl with
  | [c0, c1, c2, c3, c4], _ =>
    obtain ⟨y0, hy0⟩ : ∃ y, xs[0]? = some y := ⟨_, List.getElem?_eq_getElem (by rw [hlen]; show 0 < 5; omega)⟩
    obtain ⟨q0, k0⟩ := Go.Deep.hone_of hone 0 f0 rfl
    have t0 := hf 0 f0 rfl
    rw [q0, k0, hy0] at t0
    obtain ⟨a0, v0, e0, r0, u0, z0⟩ := opF h0 o0 t0
    have z0' : c0 = v0 := by simpa using z0
    subst z0'
    obtain ⟨y1, hy1⟩ : ∃ y, xs[1]? = some y := ⟨_, List.getElem?_eq_getElem (by rw [hlen]; show 1 < 5; omega)⟩
    obtain ⟨q1, k1⟩ := Go.Deep.hone_of hone 1 f1 rfl
    have t1 := hf 1 f1 rfl
    rw [q1, k1, hy1] at t1
    obtain ⟨a1, v1, e1, r1, u1, z1⟩ := opF h1 o1 t1
    have z1' : c1 = v1 := by simpa using z1
    subst z1'
    obtain ⟨y2, hy2⟩ : ∃ y, xs[2]? = some y := ⟨_, List.getElem?_eq_getElem (by rw [hlen]; show 2 < 5; omega)⟩
    obtain ⟨q2, k2⟩ := Go.Deep.hone_of hone 2 f2 rfl
    have t2 := hf 2 f2 rfl
    rw [q2, k2, hy2] at t2
    obtain ⟨a2, v2, e2, r2, u2, z2⟩ := opF h2 o2 t2
    have z2' : c2 = v2 := by simpa using z2
    subst z2'
    obtain ⟨y3, hy3⟩ : ∃ y, xs[3]? = some y := ⟨_, List.getElem?_eq_getElem (by rw [hlen]; show 3 < 5; omega)⟩
    obtain ⟨q3, k3⟩ := Go.Deep.hone_of hone 3 f3 rfl
    have t3 := hf 3 f3 rfl
    rw [q3, k3, hy3] at t3
    obtain ⟨a3, v3, e3, r3, u3, z3⟩ := opF h3 o3 t3
    have z3' : c3 = v3 := by simpa using z3
    subst z3'
    obtain ⟨y4, hy4⟩ : ∃ y, xs[4]? = some y := ⟨_, List.getElem?_eq_getElem (by rw [hlen]; show 4 < 5; omega)⟩
    obtain ⟨q4, k4⟩ := Go.Deep.hone_of hone 4 f4 rfl
    have t4 := hf 4 f4 rfl
    rw [q4, k4, hy4] at t4
    obtain ⟨a4, v4, e4, r4, u4, z4⟩ := opF h4 o4 t4
    have z4' : c4 = v4 := by simpa using z4
    subst z4'
    exact ⟨(a0, a1, a2, a3, a4), .agg #[c0, c1, c2, c3, c4], ⟨e0, e1, e2, e3, e4⟩, ⟨_, rfl, ⟨c0, [c1, c2, c3, c4], rfl, r0, ⟨c1, [c2, c3, c4], rfl, r1, ⟨c2, [c3, c4], rfl, r2, ⟨c3, [c4], rfl, r3, ⟨c4, [], rfl, r4, rfl⟩⟩⟩⟩⟩⟩, rfl, by simp [Value.cells, u0, u1, u2, u3, u4]⟩
theorem op1 {t : TypeId} {A : Dec α} {ok : α → Prop} {v : Value} {d : DataW H} {p : List MemPlace} (hA : OpC enc P W base t A ok) (h1 : ∀ a, oneP (A.e a) = true) (hv : v.cells = #[v])
    (h : DataW.Trod enc P W base (fun _ => true) true t v d p) : ∃ a, ok a ∧ Rep (gW W) W (A.e a) v := by
  obtain ⟨fuel, hf⟩ := h
  obtain ⟨a, u, h3, h4, h5, h6⟩ := opF hA h1 hf
  rw [hv] at h6
  have : v = u := by simpa using h6
  subst this
  exact ⟨a, h3, h4⟩
theorem opT {t : TypeId} {A : Dec α} {ok : α → Prop} {cs : Array Value} {d : DataW H} {p : List MemPlace} (hA : OpC enc P W base t A ok) (h1 : ∀ a, ∃ ps, A.e a = .agg ps)
    (h : DataW.Trod enc P W base (fun _ => true) true t (.agg cs) d p) : ∃ a, ok a ∧ Rep (gW W) W (A.e a) (.agg cs) := by
  obtain ⟨fuel, hf⟩ := h
  obtain ⟨a, u, h3, h4, h5, h6⟩ := hA _ _ _ hf
  obtain ⟨ps, hps⟩ := h1 a
  have h7 := h4
  rw [hps] at h7
  obtain ⟨us, rfl, _⟩ := h7
  have : us = cs := by
    have h5' : us.toList = cs.toList := h5
    cases us; cases cs; simp_all
  subst this
  exact ⟨a, h3, h4⟩
theorem walk_of {f : Nat} {φ : Fun} {ps : List PV} {args : Array Value} (h : Sound P f φ) (hT : TabF W fun _ => False) (ha : φ ps = some (bv true)) (hr : RepL (gW W) W ps args.toList) :
    Calls P f args W fun e w' => e = .returned (.bool true) ∧ Below W.heap.size W w' := by
  refine (h W (fun b => b < W.heap.size) ps args _ ha (fun b hb => hb) hT hr).mono ?_
  rintro e w' ⟨v, rfl, hb, hv⟩
  have := hv { I := fun _ _ => True, β := fun _ => 0, κ := fun _ => 0, nx := 0 } fun b _ _ => trivial
  have hv2 : v = .bool true := this
  subst hv2
  exact ⟨rfl, hb⟩
end
end Go.Proofs.YtenldjifipnjpaaDoor
