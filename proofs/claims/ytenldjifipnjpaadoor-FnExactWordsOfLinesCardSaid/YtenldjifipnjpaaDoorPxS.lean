/- Strings and rows of structs: the equations of their operations. -/
import Derived.Test.YtenldjifipnjpaaDoorPxO
import Derived.Laws.Strings
namespace Go.Proofs.YtenldjifipnjpaaDoor
open Go.RowKit
set_option linter.all false
section
variable {P : Program} {t : Nat} {x y : Operand}
/-- Byte i of a string. -/
def at8 (s : ByteArray) (i : Nat) : Int := ((s[i]?).getD 0).toNat
theorem at8_rng (s : ByteArray) (i : Nat) : 0 ≤ at8 s i ∧ at8 s i ≤ 255 := by
  unfold at8
  have := ((s[i]?).getD 0).toNat_lt
  omega
theorem baq (a b : ByteArray) : (a == b) = decide (a = b) := by
  obtain ⟨x⟩ := a
  obtain ⟨y⟩ := b
  have h : ((⟨x⟩ : ByteArray) == ⟨y⟩) = (x == y) := rfl
  rw [h, Bool.eq_iff_iff, decide_eq_true_eq, ByteArray.mk.injEq]
  exact beq_iff_eq
theorem bytes_teq (a b : ByteArray) : (a.toList == b.toList) = decide (a = b) := by
  rw [Bool.eq_iff_iff, decide_eq_true_eq, beq_iff_eq]
  constructor
  · intro h
    rw [Go.ByteArray.toList_eq, Go.ByteArray.toList_eq] at h
    obtain ⟨x⟩ := a
    obtain ⟨y⟩ := b
    simpa using h
  · rintro rfl
    rfl
theorem pr_strEq {a b : ByteArray} : pureRun P (do eqGuard .eql t x y (.string a) (.string b); binOp .eql t (.string a) (.string b)) = some (.bool (a.toList == b.toList)) := by
  simp [eqGuard, binOp, Op.stringOp, bind, Sem.bind, pure, pureRun]
theorem pr_strNe {a b : ByteArray} : pureRun P (do eqGuard .neq t x y (.string a) (.string b); binOp .neq t (.string a) (.string b)) = some (.bool (!(a.toList == b.toList))) := by
  simp [eqGuard, binOp, Op.stringOp, bind, Sem.bind, pure, pureRun]
theorem bp_eqlS {a b : ByteArray} : binP P .eql t x y (some (.string a)) (some (.string b)) = some (.val (.bool (decide (a = b)))) := by
  simp only [binP, pr_strEq, bytes_teq, Option.map_some]
theorem bp_neqS {a b : ByteArray} : binP P .neq t x y (some (.string a)) (some (.string b)) = some (.val (.bool (!decide (a = b)))) := by
  simp only [binP, pr_strNe, bytes_teq, Option.map_some]
theorem ix_str {s : ByteArray} {i : Int} (h : P.underlying t = some .string) (h0 : 0 ≤ i) (h1 : i < s.size) : idxP P t (some (.string s)) (some (.int .i64 i)) = some (.val (.int .u8 (at8 s i.toNat))) := by
  have hlt : i.toNat < s.size := by omega
  have hg : s[i.toNat]? = some s[i.toNat] := getElem?_pos s i.toNat hlt
  have : pureRun P (Instr.index t (.string s) (.int .i64 i)) = some (.int .u8 (at8 s i.toNat)) := by
    simp [Instr.index, asIntOf, underlying, Go.program, bind, Sem.bind, pure, pureRun, h, h0, hg, at8]
  simp only [idxP, this, Option.map_some]
end

/-- Values without memory behind them. -/
def flatP : Nat → PV → Bool
  | 0, _ => false
  | _ + 1, .val _ => true
  | _ + 1, .dead => true
  | n + 1, .agg cs => cs.all (flatP n)
  | _, _ => false
theorem reify_flat {fr : Bool} {n : Nat} {ob : Objs} : ∀ {f : Nat} {p : PV}, flatP f p = true → reify fr n ob f p = some p
  | 0, _, h => by simp [flatP] at h
  | f + 1, p, h => by
    cases p with
    | val v => rfl
    | dead => rfl
    | agg cs =>
      have h2 : ∀ c ∈ cs, flatP f c = true := by simpa [flatP] using h
      simp only [reify]
      rw [mapM_self fun c hc => reify_flat (h2 c hc)]
      rfl
    | _ => simp [flatP] at h
section
variable {α : Type} {n sz f : Nat} {ob : Objs} {k fr : Bool} {g : α → PV} {l : List α}
theorem flat_map {f : Nat} (h : ∀ x, flatP 2 (g x) = true) (hf : 2 ≤ f) : (l.map g).mapM (reify fr n ob f) = some (l.map g) := mapM_self fun e he => by
  obtain ⟨x, _, rfl⟩ := List.mem_map.1 he
  obtain ⟨m, rfl⟩ : ∃ m, f = m + 2 := ⟨f - 2, by omega⟩
  have h2 := h x
  revert h2
  cases g x with
  | val v => intro _; rfl
  | dead => intro _; rfl
  | agg cs =>
    intro h2
    have h3 : ∀ c ∈ cs, flatP 1 c = true := by simpa [flatP] using h2
    simp only [reify]
    rw [mapM_self fun c hc => ?_]
    · rfl
    · have := h3 c hc
      cases c with
      | agg cs' =>
        cases cs' with
        | nil => rfl
        | cons a l => simp [flatP] at this
      | val v => rfl
      | dead => rfl
      | _ => simp [flatP] at this
  | _ => intro h2; simp [flatP] at h2
theorem reifyS_flat (h : ∀ x, flatP 2 (g x) = true) : reify false n ob (f + 3) (.lst k sz (l.map g)) = some (.lst false sz (l.map g)) := by
  show (if false = true ∧ k = false ∧ (l.map g) ≠ [] then none else ((l.map g).mapM (reify false n ob (f + 2))).map (PV.lst false sz)) = _
  rw [flat_map h (by omega)]
  simp
theorem reifyT_flat (h : ∀ x, flatP 2 (g x) = true) : reify true n ob (f + 3) (.lst true sz (l.map g)) = some (.lst true sz (l.map g)) := by
  show (if true = true ∧ true = false ∧ (l.map g) ≠ [] then none else ((l.map g).mapM (reify true n ob (f + 2))).map (PV.lst true sz)) = _
  rw [flat_map h (by omega)]
  simp
theorem rowRe_flat {m T : Nat} (h : ∀ x, flatP 2 (g x) = true) (hm : m = l.length) : rowRe fr (f + 2) ob sz 0 m (some (T, sz, l.map g)) = some (.lst fr sz (l.map g)) := by
  subst hm
  have e : ((l.map g).drop 0).take l.length = l.map g := by
    rw [List.drop_zero, List.take_of_length_le (by simp)]
  simp only [rowRe, e, flat_map (n := 0) (fr := fr) (ob := ob) h (show 2 ≤ f + 2 by omega), Nat.zero_add, List.length_map, Nat.le_refl, and_self, if_true, Option.map_some]
end
section
variable {α : Type} {n sz f : Nat} {ob : Objs} {k fr : Bool} {l : List α} {g1 g2 g3 g4 : α → Value}
theorem reifyS_a2 : reify false n ob (f + 3) (.lst k sz (l.map fun x => PV.agg [.val (g1 x), .val (g2 x)])) = some (.lst false sz (l.map fun x => PV.agg [.val (g1 x), .val (g2 x)])) := reifyS_flat fun _ => rfl
theorem reifyT_a2 : reify true n ob (f + 3) (.lst true sz (l.map fun x => PV.agg [.val (g1 x), .val (g2 x)])) = some (.lst true sz (l.map fun x => PV.agg [.val (g1 x), .val (g2 x)])) := reifyT_flat fun _ => rfl
theorem rowRe_a2 {m T : Nat} (hm : m = l.length) : rowRe fr (f + 2) ob sz 0 m (some (T, sz, l.map fun x => PV.agg [.val (g1 x), .val (g2 x)])) = some (.lst fr sz (l.map fun x => PV.agg [.val (g1 x), .val (g2 x)])) := rowRe_flat (fun _ => rfl) hm
theorem reifyS_a3 : reify false n ob (f + 3) (.lst k sz (l.map fun x => PV.agg [.val (g1 x), .val (g2 x), .val (g3 x)])) = some (.lst false sz (l.map fun x => PV.agg [.val (g1 x), .val (g2 x), .val (g3 x)])) := reifyS_flat fun _ => rfl
theorem reifyT_a3 : reify true n ob (f + 3) (.lst true sz (l.map fun x => PV.agg [.val (g1 x), .val (g2 x), .val (g3 x)])) = some (.lst true sz (l.map fun x => PV.agg [.val (g1 x), .val (g2 x), .val (g3 x)])) := reifyT_flat fun _ => rfl
theorem rowRe_a3 {m T : Nat} (hm : m = l.length) : rowRe fr (f + 2) ob sz 0 m (some (T, sz, l.map fun x => PV.agg [.val (g1 x), .val (g2 x), .val (g3 x)])) = some (.lst fr sz (l.map fun x => PV.agg [.val (g1 x), .val (g2 x), .val (g3 x)])) := rowRe_flat (fun _ => rfl) hm
theorem reifyS_a4 : reify false n ob (f + 3) (.lst k sz (l.map fun x => PV.agg [.val (g1 x), .val (g2 x), .val (g3 x), .val (g4 x)])) = some (.lst false sz (l.map fun x => PV.agg [.val (g1 x), .val (g2 x), .val (g3 x), .val (g4 x)])) := reifyS_flat fun _ => rfl
theorem reifyT_a4 : reify true n ob (f + 3) (.lst true sz (l.map fun x => PV.agg [.val (g1 x), .val (g2 x), .val (g3 x), .val (g4 x)])) = some (.lst true sz (l.map fun x => PV.agg [.val (g1 x), .val (g2 x), .val (g3 x), .val (g4 x)])) := reifyT_flat fun _ => rfl
theorem rowRe_a4 {m T : Nat} (hm : m = l.length) : rowRe fr (f + 2) ob sz 0 m (some (T, sz, l.map fun x => PV.agg [.val (g1 x), .val (g2 x), .val (g3 x), .val (g4 x)])) = some (.lst fr sz (l.map fun x => PV.agg [.val (g1 x), .val (g2 x), .val (g3 x), .val (g4 x)])) := rowRe_flat (fun _ => rfl) hm
end
theorem setL_full {α : Type} {l new : List α} (h : l.length ≤ new.length) : setL l 0 new = new := by simp [setL, h]
/-! Elements of the types that stand in rows. -/
abbrev W2 := ByteArray × Int
abbrev I3 := Int × Int × Int
abbrev I4 := Int × Int × Int × Int
def w0 : W2 := (ByteArray.empty, 0)
def i30 : I3 := (0, 0, 0)
def i40 : I4 := (0, 0, 0, 0)
section
variable {β : Type} {i : Nat}
theorem get_w {g : W2 → PV} {l : List W2} (h : i < l.length) : ((l[i]?).map g).getD .dead = g ((l[i]?).getD w0) := by simp [h]
theorem get_i3 {g : I3 → PV} {l : List I3} (h : i < l.length) : ((l[i]?).map g).getD .dead = g ((l[i]?).getD i30) := by simp [h]
theorem get_i4 {g : I4 → PV} {l : List I4} (h : i < l.length) : ((l[i]?).map g).getD .dead = g ((l[i]?).getD i40) := by simp [h]
theorem omg_w {g : W2 → β} {l : List W2} (h : i < l.length) : Option.map g l[i]? = some (g ((l[i]?).getD w0)) := by simp [h]
theorem omg_i3 {g : I3 → β} {l : List I3} (h : i < l.length) : Option.map g l[i]? = some (g ((l[i]?).getD i30)) := by simp [h]
theorem omg_i4 {g : I4 → β} {l : List I4} (h : i < l.length) : Option.map g l[i]? = some (g ((l[i]?).getD i40)) := by simp [h]
theorem set_w {l : List W2} {s : ByteArray} {n : Int} : (l.map fun x => PV.agg [.val (.string x.1), .val (.int .i64 x.2)]).set i (.agg [.val (.string s), .val (.int .i64 n)]) = (l.set i (s, n)).map fun x => PV.agg [.val (.string x.1), .val (.int .i64 x.2)] := by rw [List.map_set]
theorem set_i3 {l : List I3} {a b c : Int} : (l.map fun x => PV.agg [.val (.int .i64 x.1), .val (.int .i64 x.2.1), .val (.int .i64 x.2.2)]).set i (.agg [.val (.int .i64 a), .val (.int .i64 b), .val (.int .i64 c)]) = (l.set i (a, b, c)).map fun x => PV.agg [.val (.int .i64 x.1), .val (.int .i64 x.2.1), .val (.int .i64 x.2.2)] := by rw [List.map_set]
theorem set_i4 {l : List I4} {a b c d : Int} : (l.map fun x => PV.agg [.val (.int .i64 x.1), .val (.int .i64 x.2.1), .val (.int .i64 x.2.2.1), .val (.int .i64 x.2.2.2)]).set i (.agg [.val (.int .i64 a), .val (.int .i64 b), .val (.int .i64 c), .val (.int .i64 d)]) = (l.set i (a, b, c, d)).map fun x => PV.agg [.val (.int .i64 x.1), .val (.int .i64 x.2.1), .val (.int .i64 x.2.2.1), .val (.int .i64 x.2.2.2)] := by rw [List.map_set]
end
abbrev dW2 : Dec W2 := dA2 dS dI
abbrev dI3 : Dec I3 := dA3 dI dI dI
abbrev dI4 : Dec I4 := dA4 dI dI dI dI
attribute [push_cast]
  bp_eqlS bp_neqS reifyS_a2 reifyT_a2 rowRe_a2 reifyS_a3 reifyT_a3 rowRe_a3 reifyS_a4 reifyT_a4 rowRe_a4 get_w get_i3 get_i4 omg_w omg_i3 omg_i4 set_w set_i3 set_i4
attribute [push_cast high]
  setL_full
end Go.Proofs.YtenldjifipnjpaaDoor
