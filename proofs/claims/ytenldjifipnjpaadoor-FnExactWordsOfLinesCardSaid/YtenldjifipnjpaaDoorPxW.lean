/- Structs compared. -/
import Derived.Test.YtenldjifipnjpaaDoorPxR
import Derived.Laws.StructEq
namespace Go.Proofs.YtenldjifipnjpaaDoor
open Go.RowKit
set_option linter.all false
theorem pureRun_bnd {α β : Type} {P : Program} (m : Sem α) (f : α → Sem β) : pureRun P (m >>= f) = (pureRun P m).bind fun x => pureRun P (f x) := by
  show pureRun P (m.bind f) = _
  induction m with
  | pure a => rfl
  | program k ih => simp only [Sem.bind, pureRun]; exact ih P
  | _ => rfl
def basicEq (P : Program) (t : Nat) (u v : Value) : Option Bool :=
  match P.underlying t, u, v with
  | some (.int _), .int k a, .int k' b => if k = k' then some (a == b) else none
  | some .bool, .bool a, .bool b => some (a == b)
  | some .string, .string a, .string b => some (a.toList == b.toList)
  | _, _, _ => none
/-- The fields of a struct without structs inside, compared one behind the other. -/
def eqFl (P : Program) (xs ys : List Value) : List Field → Option Bool
  | [] => some true
  | f :: fs => match f.name == "_", tyAgg P f.type, xs[f.offset]?, ys[f.offset]? with
    | false, some false, some u, some v => match basicEq P f.type u v, eqFl P xs ys fs with
      | some b, some c => some (b && c)
      | _, _ => none
    | _, _, _, _ => none
theorem pr_under {P : Program} {t : Nat} {d : TypeDesc} (h : P.underlying t = some d) : pureRun P (underlying t) = some d := by
  simp [underlying, Go.program, bind, Sem.bind, pure, pureRun, h]
theorem pr_basic {P : Program} {d t : Nat} {u v : Value} {b : Bool} (h : basicEq P t u v = some b) : pureRun P (Op.equalIn (d + 1) t u v) = some b := by
  unfold basicEq at h
  split at h
  · rename_i ik k a k' b' hu
    split at h
    · rename_i hk
      subst hk
      cases h
      simp [Op.equalIn, pureRun_bnd, pr_under hu, pureRun, pure]
    · cases h
  · rename_i a b' hu
    cases h
    simp [Op.equalIn, pureRun_bnd, pr_under hu, pureRun, pure]
  · rename_i a b' hu
    cases h
    simp [Op.equalIn, pureRun_bnd, pr_under hu, pureRun, pure, Go.beq_toListBytes]
  · cases h
theorem pr_part {P : Program} {t f : Nat} {xs : List Value} {v : Value} (ht : tyAgg P t = some false) (h : xs[f]? = some v) : pureRun P (part t xs.toArray f) = some v := by
  unfold tyAgg at ht
  cases hu : P.underlying t with
  | none => simp [hu] at ht
  | some d =>
    simp only [hu, Option.map_some, Option.some.injEq] at ht
    have : pureRun P (isAgg t) = some false := by
      unfold isAgg
      rw [pureRun_bnd, pr_under hu]
      cases d <;> simp_all [pureRun, pure]
    unfold part
    rw [pureRun_bnd, this]
    simp [h, pureRun, pure]
theorem pr_fields {P : Program} {d : Nat} {xs ys : List Value} : ∀ {fs : List Field} {b : Bool}, eqFl P xs ys fs = some b → pureRun P (Op.eqFields (d + 1) xs.toArray ys.toArray fs) = some b
  | [], b, h => by
    simp only [eqFl, Option.some.injEq] at h
    subst h
    rfl
  | f :: fs, b, h => by
    simp only [eqFl] at h
    split at h
    · rename_i u v hn ht hx hy
      split at h
      · rename_i b1 b2 h1 h2
        cases h
        have hne : f.name ≠ "_" := by simpa using hn
        simp only [Op.eqFields]
        rw [if_pos hne, pureRun_bnd, pr_part ht hx, Option.bind_some, pureRun_bnd, pr_part ht hy, Option.bind_some, pureRun_bnd, pr_basic h1, Option.bind_some]
        cases b1
        · rfl
        · simpa using pr_fields h2
      · cases h
    · cases h
theorem pr_struct {P : Program} {d t : Nat} {xs ys : Array Value} (ht : P.underlying t = some (.struct (P.fieldsOf t))) (hp : P.stoodInHeld t = false) :
    pureRun P (Op.equalIn (d + 1) t (.agg xs) (.agg ys)) = pureRun P (Op.eqFields d xs ys (P.fieldsOf t).toList) := by
  have hprog : pureRun P Go.program = some P := rfl
  simp only [Op.equalIn, pureRun_bnd, pr_under ht, Option.bind_some, hprog, hp, Bool.false_eq_true, if_false]
  rw [← Array.forIn_toList]
  generalize (P.fieldsOf t).toList = fs
  clear ht
  induction fs with
  | nil => simp [Op.eqFields, pureRun, pure]
  | cons f fs ih =>
    simp only [List.forIn_cons, Op.eqFields]
    split
    · simp only [pureRun_bnd]
      cases pureRun P (part f.type xs f.offset) with
      | none => rfl
      | some a =>
        simp only [Option.bind_some]
        cases pureRun P (part f.type ys f.offset) with
        | none => rfl
        | some b =>
          simp only [Option.bind_some]
          cases pureRun P (Op.equalIn d f.type a b) with
          | none => rfl
          | some r =>
            cases r
            · simp [pureRun, pure]
            · simp only [Option.bind_some, Bool.not_true, Bool.false_eq_true, if_false, pureRun_bnd]
              simpa [pureRun, pure, pureRun_bnd] using ih
    · simp only [pureRun_bnd]
      simpa [pureRun, pure, pureRun_bnd] using ih
theorem bp_eqlA {P : Program} {t : Nat} {x y : Operand} {xs ys : List Value} {b : Bool} (ht : P.underlying t = some (.struct (P.fieldsOf t))) (hp : P.stoodInHeld t = false) (hg : P.eqGuardType P.depth t = false) (h : eqFl P xs ys (P.fieldsOf t).toList = some b) :
    binP P .eql t x y (some (.agg xs.toArray)) (some (.agg ys.toArray)) = some (.val (.bool b)) := by
  have hprog : pureRun P Go.program = some P := rfl
  have h1 : pureRun P (eqGuard .eql t x y (.agg xs.toArray) (.agg ys.toArray)) = some () := by
    simp [eqGuard, pureRun_bnd, hprog, hg, pureRun, pure]
  have h2 : pureRun P (binOp .eql t (.agg xs.toArray) (.agg ys.toArray)) = some (.bool b) := by
    show pureRun P (Op.equal t (.agg xs.toArray) (.agg ys.toArray) >>= fun r => pure (Value.bool r)) = _
    have h3 : pureRun P (Op.equal t (.agg xs.toArray) (.agg ys.toArray)) = some b := by
      show pureRun P (Op.equalIn (9998 + 1 + 1) t (.agg xs.toArray) (.agg ys.toArray)) = _
      rw [pr_struct ht hp]
      exact pr_fields h
    rw [pureRun_bind h3]
    rfl
  simp only [binP]
  rw [pureRun_bind h1, h2]
  rfl
theorem bp_neqA {P : Program} {t : Nat} {x y : Operand} {xs ys : List Value} {b : Bool} (ht : P.underlying t = some (.struct (P.fieldsOf t))) (hp : P.stoodInHeld t = false) (hg : P.eqGuardType P.depth t = false) (h : eqFl P xs ys (P.fieldsOf t).toList = some b) :
    binP P .neq t x y (some (.agg xs.toArray)) (some (.agg ys.toArray)) = some (.val (.bool (!b))) := by
  have hprog : pureRun P Go.program = some P := rfl
  have h1 : pureRun P (eqGuard .neq t x y (.agg xs.toArray) (.agg ys.toArray)) = some () := by
    simp [eqGuard, pureRun_bnd, hprog, hg, pureRun, pure]
  have h2 : pureRun P (binOp .neq t (.agg xs.toArray) (.agg ys.toArray)) = some (.bool (!b)) := by
    show pureRun P (Op.equal t (.agg xs.toArray) (.agg ys.toArray) >>= fun r => pure (Value.bool (!r))) = _
    have h3 : pureRun P (Op.equal t (.agg xs.toArray) (.agg ys.toArray)) = some b := by
      show pureRun P (Op.equalIn (9998 + 1 + 1) t (.agg xs.toArray) (.agg ys.toArray)) = _
      rw [pr_struct ht hp]
      exact pr_fields h
    rw [pureRun_bind h3]
    rfl
  simp only [binP]
  rw [pureRun_bind h1, h2]
  rfl
theorem toVal_agg (cs : List PV) : toVal (.agg cs) = (toVals cs).map fun vs => .agg vs.toArray := rfl
theorem onePV_three (p q r : PV) : onePV [p, q, r] = .tup [p, q, r] := rfl
theorem onePV_four (p q r s : PV) : onePV [p, q, r, s] = .tup [p, q, r, s] := rfl
theorem onePV_five (p q r s t : PV) : onePV [p, q, r, s, t] = .tup [p, q, r, s, t] := rfl
theorem rowRe_lit {fr : Bool} {f sz m T : Nat} {ob : Objs} {es : List PV} (hm : m = es.length) : rowRe fr f ob sz 0 m (some (T, sz, es)) = (es.mapM (reify fr 0 ob f)).map (.lst fr sz) := by
  subst hm
  simp [rowRe]
attribute [push_cast low] rowRe_lit
attribute [push_cast] onePV_three onePV_four onePV_five toVal_agg beq_self_eq_true
end Go.Proofs.YtenldjifipnjpaaDoor
