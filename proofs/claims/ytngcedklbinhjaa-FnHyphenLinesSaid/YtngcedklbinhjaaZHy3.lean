/- What the proof rests on, part 3: contracts of functions. No condition beyond what each states. -/
import Derived.Test.YtngcedklbinhjaaZHy2
namespace Go.Proofs.Ytngcedklbinhjaa
open Go.RowKit
set_option linter.all false
theorem pureRun_bnd {α β : Type} {P : Program} (m : Sem α) (f : α → Sem β) : pureRun P (m >>= f) = (pureRun P m).bind fun x => pureRun P (f x) := by
  show pureRun P (m.bind f) = _
  induction m with
  | pure a => rfl
  | program k ih => simp only [Sem.bind, pureRun]; exact ih P
  | _ => rfl
def basicEq (P : Program) (t : Nat) (u v : Value) : Option Bool :=
  match P.underlying t, u, v with
  | some (.int _), .int k a, .int k' b => if k = k' then some (a == b) else none
  | some .bool, .bool a, .bool b => some (a == b)
  | some .string, .string a, .string b => some (a.toList == b.toList)
  | _, _, _ => none
def eqFl (P : Program) (xs ys : List Value) : List Field → Option Bool
  | [] => some true
  | f :: fs => match f.name == "_", tyAgg P f.type, xs[f.offset]?, ys[f.offset]? with
    | false, some false, some u, some v => match basicEq P f.type u v, eqFl P xs ys fs with
      | some b, some c => some (b && c)
      | _, _ => none
    | _, _, _, _ => none
theorem pr_under {P : Program} {t : Nat} {d : TypeDesc} (h : P.underlying t = some d) : pureRun P (underlying t) = some d := by
  simp [underlying, Go.program, bind, Sem.bind, pure, pureRun, h]
theorem pr_basic {P : Program} {d t : Nat} {u v : Value} {b : Bool} (h : basicEq P t u v = some b) : pureRun P (Op.equalIn (d + 1) t u v) = some b := by
  unfold basicEq at h
  split at h
  · rename_i ik k a k' b' hu
    split at h
    · rename_i hk
      subst hk
      cases h
      simp [Op.equalIn, pureRun_bnd, pr_under hu, pureRun, pure]
    · cases h
  · rename_i a b' hu
    cases h
    simp [Op.equalIn, pureRun_bnd, pr_under hu, pureRun, pure]
  · rename_i a b' hu
    cases h
    simp [Op.equalIn, pureRun_bnd, pr_under hu, pureRun, pure, Go.beq_toListBytes]
  · cases h
theorem pr_part {P : Program} {t f : Nat} {xs : List Value} {v : Value} (ht : tyAgg P t = some false) (h : xs[f]? = some v) : pureRun P (part t xs.toArray f) = some v := by
  unfold tyAgg at ht
  cases hu : P.underlying t with
  | none => simp [hu] at ht
  | some d =>
    simp only [hu, Option.map_some, Option.some.injEq] at ht
    have : pureRun P (isAgg t) = some false := by
      unfold isAgg
      rw [pureRun_bnd, pr_under hu]
      cases d <;> simp_all [pureRun, pure]
    unfold part
    rw [pureRun_bnd, this]
    simp [h, pureRun, pure]
theorem pr_fields {P : Program} {d : Nat} {xs ys : List Value} : ∀ {fs : List Field} {b : Bool}, eqFl P xs ys fs = some b → pureRun P (Op.eqFields (d + 1) xs.toArray ys.toArray fs) = some b
  | [], b, h => by
    simp only [eqFl, Option.some.injEq] at h
    subst h
    rfl
  | f :: fs, b, h => by
    simp only [eqFl] at h
    split at h
    · rename_i u v hn ht hx hy
      split at h
      · rename_i b1 b2 h1 h2
        cases h
        have hne : f.name ≠ "_" := by simpa using hn
        simp only [Op.eqFields]
        rw [if_pos hne, pureRun_bnd, pr_part ht hx, Option.bind_some, pureRun_bnd, pr_part ht hy, Option.bind_some, pureRun_bnd, pr_basic h1, Option.bind_some]
        cases b1
        · rfl
        · simpa using pr_fields h2
      · cases h
    · cases h
theorem pr_struct {P : Program} {d t : Nat} {xs ys : Array Value} (ht : P.underlying t = some (.struct (P.fieldsOf t))) (hp : P.stoodInHeld t = false) :
    pureRun P (Op.equalIn (d + 1) t (.agg xs) (.agg ys)) = pureRun P (Op.eqFields d xs ys (P.fieldsOf t).toList) := by
  have hprog : pureRun P Go.program = some P := rfl
  simp only [Op.equalIn, pureRun_bnd, pr_under ht, Option.bind_some, hprog, hp, Bool.false_eq_true, if_false]
  rw [← Array.forIn_toList]
  generalize (P.fieldsOf t).toList = fs
  clear ht
  induction fs with
  | nil => simp [Op.eqFields, pureRun, pure]
  | cons f fs ih =>
    simp only [List.forIn_cons, Op.eqFields]
    split
    · simp only [pureRun_bnd]
      cases pureRun P (part f.type xs f.offset) with
      | none => rfl
      | some a =>
        simp only [Option.bind_some]
        cases pureRun P (part f.type ys f.offset) with
        | none => rfl
        | some b =>
          simp only [Option.bind_some]
          cases pureRun P (Op.equalIn d f.type a b) with
          | none => rfl
          | some r =>
            cases r
            · simp [pureRun, pure]
            · simp only [Option.bind_some, Bool.not_true, Bool.false_eq_true, if_false, pureRun_bnd]
              simpa [pureRun, pure, pureRun_bnd] using ih
    · simp only [pureRun_bnd]
      simpa [pureRun, pure, pureRun_bnd] using ih
theorem bp_eqlA {P : Program} {t : Nat} {x y : Operand} {xs ys : List Value} {b : Bool} (ht : P.underlying t = some (.struct (P.fieldsOf t))) (hp : P.stoodInHeld t = false) (hg : P.eqGuardType P.depth t = false) (h : eqFl P xs ys (P.fieldsOf t).toList = some b) :
    binP P .eql t x y (some (.agg xs.toArray)) (some (.agg ys.toArray)) = some (.val (.bool b)) := by
  have hprog : pureRun P Go.program = some P := rfl
  have h1 : pureRun P (eqGuard .eql t x y (.agg xs.toArray) (.agg ys.toArray)) = some () := by
    simp [eqGuard, pureRun_bnd, hprog, hg, pureRun, pure]
  have h2 : pureRun P (binOp .eql t (.agg xs.toArray) (.agg ys.toArray)) = some (.bool b) := by
    show pureRun P (Op.equal t (.agg xs.toArray) (.agg ys.toArray) >>= fun r => pure (Value.bool r)) = _
    have h3 : pureRun P (Op.equal t (.agg xs.toArray) (.agg ys.toArray)) = some b := by
      show pureRun P (Op.equalIn (9998 + 1 + 1) t (.agg xs.toArray) (.agg ys.toArray)) = _
      rw [pr_struct ht hp]
      exact pr_fields h
    rw [pureRun_bind h3]
    rfl
  simp only [binP]
  rw [pureRun_bind h1, h2]
  rfl
theorem bp_neqA {P : Program} {t : Nat} {x y : Operand} {xs ys : List Value} {b : Bool} (ht : P.underlying t = some (.struct (P.fieldsOf t))) (hp : P.stoodInHeld t = false) (hg : P.eqGuardType P.depth t = false) (h : eqFl P xs ys (P.fieldsOf t).toList = some b) :
    binP P .neq t x y (some (.agg xs.toArray)) (some (.agg ys.toArray)) = some (.val (.bool (!b))) := by
  have hprog : pureRun P Go.program = some P := rfl
  have h1 : pureRun P (eqGuard .neq t x y (.agg xs.toArray) (.agg ys.toArray)) = some () := by
    simp [eqGuard, pureRun_bnd, hprog, hg, pureRun, pure]
  have h2 : pureRun P (binOp .neq t (.agg xs.toArray) (.agg ys.toArray)) = some (.bool (!b)) := by
    show pureRun P (Op.equal t (.agg xs.toArray) (.agg ys.toArray) >>= fun r => pure (Value.bool (!r))) = _
    have h3 : pureRun P (Op.equal t (.agg xs.toArray) (.agg ys.toArray)) = some b := by
      show pureRun P (Op.equalIn (9998 + 1 + 1) t (.agg xs.toArray) (.agg ys.toArray)) = _
      rw [pr_struct ht hp]
      exact pr_fields h
    rw [pureRun_bind h3]
    rfl
  simp only [binP]
  rw [pureRun_bind h1, h2]
  rfl
theorem toVal_agg (cs : List PV) : toVal (.agg cs) = (toVals cs).map fun vs => .agg vs.toArray := rfl
theorem onePV_three (p q r : PV) : onePV [p, q, r] = .tup [p, q, r] := rfl
theorem onePV_four (p q r s : PV) : onePV [p, q, r, s] = .tup [p, q, r, s] := rfl
theorem onePV_five (p q r s t : PV) : onePV [p, q, r, s, t] = .tup [p, q, r, s, t] := rfl
theorem rowRe_lit {fr : Bool} {f sz m T : Nat} {ob : Objs} {es : List PV} (hm : m = es.length) : rowRe fr f ob sz 0 m (some (T, sz, es)) = (es.mapM (reify fr 0 ob f)).map (.lst fr sz) := by
  subst hm
  simp [rowRe]
attribute [push_cast low]
  rowRe_lit
attribute [push_cast]
  onePV_three onePV_four onePV_five toVal_agg beq_self_eq_true
end Go.Proofs.Ytngcedklbinhjaa
namespace Go.Proofs.Ytngcedklbinhjaa
open Go.RowKit
set_option linter.all false
theorem sz_2 : tySize Try.prog 2 = some 1 := by kernel_rfl
theorem ag_2 : tyAgg Try.prog 2 = some false := by kernel_rfl
theorem by_2 : tyBytes Try.prog 2 = some 8 := by kernel_rfl
theorem ze_2 : zeroOf Try.prog 2 = some (.int .i64 0) := by kernel_rfl
theorem un_2 : Try.prog.underlying 2 = some (.int .i64) := by kernel_rfl
theorem oz_2 : ofVal (.int .i64 0) = .val (.int .i64 0) := rfl
theorem ea_2 {Γ : Ctx} (s : AS) (ρ : Operand → PV) : evEff Try.prog Γ s ρ (.alloc 2) = some (.own s.nx 1 0 0, upd s.ob s.nx (some (2, 1, [.val (.int .i64 0)])), s.nx + 1) := ea_of ze_2 (by kernel_rfl) rfl rfl s ρ
theorem bs_2 : isByteSlice Try.prog 2 = false := by kernel_rfl
theorem is_2 : isStr Try.prog 2 = false := by kernel_rfl
theorem sz_3 : tySize Try.prog 3 = some 1 := by kernel_rfl
theorem ag_3 : tyAgg Try.prog 3 = some false := by kernel_rfl
theorem by_3 : tyBytes Try.prog 3 = some 8 := by kernel_rfl
theorem ze_3 : zeroOf Try.prog 3 = some (.int .i64 0) := by kernel_rfl
theorem un_3 : Try.prog.underlying 3 = some (.int .i64) := by kernel_rfl
theorem oz_3 : ofVal (.int .i64 0) = .val (.int .i64 0) := rfl
theorem ea_3 {Γ : Ctx} (s : AS) (ρ : Operand → PV) : evEff Try.prog Γ s ρ (.alloc 3) = some (.own s.nx 1 0 0, upd s.ob s.nx (some (3, 1, [.val (.int .i64 0)])), s.nx + 1) := ea_of ze_3 (by kernel_rfl) rfl rfl s ρ
theorem bs_3 : isByteSlice Try.prog 3 = false := by kernel_rfl
theorem is_3 : isStr Try.prog 3 = false := by kernel_rfl
theorem sz_4 : tySize Try.prog 4 = some 1 := by kernel_rfl
theorem ag_4 : tyAgg Try.prog 4 = some false := by kernel_rfl
theorem by_4 : tyBytes Try.prog 4 = some 1 := by kernel_rfl
theorem ze_4 : zeroOf Try.prog 4 = some (.bool false) := by kernel_rfl
theorem un_4 : Try.prog.underlying 4 = some .bool := by kernel_rfl
theorem bqe_4 {x y : Operand} {a b : Bool} : binP Try.prog .eql 4 x y (some (.bool a)) (some (.bool b)) = some (.val (.bool (a == b))) := bp_eqlB un_4
theorem bqn_4 {x y : Operand} {a b : Bool} : binP Try.prog .neq 4 x y (some (.bool a)) (some (.bool b)) = some (.val (.bool (!(a == b)))) := bp_neqB un_4
theorem oz_4 : ofVal (.bool false) = .val (.bool false) := rfl
theorem ea_4 {Γ : Ctx} (s : AS) (ρ : Operand → PV) : evEff Try.prog Γ s ρ (.alloc 4) = some (.own s.nx 1 0 0, upd s.ob s.nx (some (4, 1, [.val (.bool false)])), s.nx + 1) := ea_of ze_4 (by kernel_rfl) rfl rfl s ρ
theorem bs_4 : isByteSlice Try.prog 4 = false := by kernel_rfl
theorem is_4 : isStr Try.prog 4 = false := by kernel_rfl
theorem sz_5 : tySize Try.prog 5 = some 1 := by kernel_rfl
theorem ag_5 : tyAgg Try.prog 5 = some false := by kernel_rfl
theorem by_5 : tyBytes Try.prog 5 = some 1 := by kernel_rfl
theorem ze_5 : zeroOf Try.prog 5 = some (.int .u8 0) := by kernel_rfl
theorem un_5 : Try.prog.underlying 5 = some (.int .u8) := by kernel_rfl
theorem oz_5 : ofVal (.int .u8 0) = .val (.int .u8 0) := rfl
theorem ea_5 {Γ : Ctx} (s : AS) (ρ : Operand → PV) : evEff Try.prog Γ s ρ (.alloc 5) = some (.own s.nx 1 0 0, upd s.ob s.nx (some (5, 1, [.val (.int .u8 0)])), s.nx + 1) := ea_of ze_5 (by kernel_rfl) rfl rfl s ρ
theorem bs_5 : isByteSlice Try.prog 5 = false := by kernel_rfl
theorem is_5 : isStr Try.prog 5 = false := by kernel_rfl
theorem sz_7 : tySize Try.prog 7 = some 4 := by kernel_rfl
theorem ag_7 : tyAgg Try.prog 7 = some true := by kernel_rfl
theorem by_7 : tyBytes Try.prog 7 = some 24 := by kernel_rfl
theorem ze_7 : zeroOf Try.prog 7 = some (.agg #[.int .i64 0, .int .i64 0, .bool false, .int .u8 0]) := by kernel_rfl
theorem fo_7_0 : fieldOff Try.prog 7 0 = some 0 := by kernel_rfl
theorem fo_7_1 : fieldOff Try.prog 7 1 = some 1 := by kernel_rfl
theorem fo_7_2 : fieldOff Try.prog 7 2 = some 2 := by kernel_rfl
theorem fo_7_3 : fieldOff Try.prog 7 3 = some 3 := by kernel_rfl
theorem pl_7 : structPlaces Try.prog 7 = some #[(0, 1), (1, 1), (2, 1), (3, 1)] := by kernel_rfl
theorem bl_7 (ps : List (Nat × PV)) : evBuild Try.prog 7 ps = (fillP (plF [(0, 1), (1, 1), (2, 1), (3, 1)]) [.val (.int .i64 0), .val (.int .i64 0), .val (.bool false), .val (.int .u8 0)] ps).map .agg := bl_of ze_7 rfl pl_7 ps
theorem oz_7 : ofVal (.agg #[.int .i64 0, .int .i64 0, .bool false, .int .u8 0]) = .agg [.val (.int .i64 0), .val (.int .i64 0), .val (.bool false), .val (.int .u8 0)] := rfl
theorem ea_7 {Γ : Ctx} (s : AS) (ρ : Operand → PV) : evEff Try.prog Γ s ρ (.alloc 7) = some (.own s.nx 4 0 0, upd s.ob s.nx (some (7, 4, [.agg [.val (.int .i64 0), .val (.int .i64 0), .val (.bool false), .val (.int .u8 0)]])), s.nx + 1) := ea_of ze_7 (by kernel_rfl) rfl rfl s ρ
theorem bz_7 {Γ : Ctx} {ob : Objs} {ρ : Operand → PV} {ty : Nat} : evVal Try.prog Γ ob ρ ty (.build 7 #[]) = some (.agg [.val (.int .i64 0), .val (.int .i64 0), .val (.bool false), .val (.int .u8 0)]) := (show evBuild Try.prog 7 [] = some (.agg [.val (.int .i64 0), .val (.int .i64 0), .val (.bool false), .val (.int .u8 0)]) from by kernel_rfl)
theorem bs_7 : isByteSlice Try.prog 7 = false := by kernel_rfl
theorem is_7 : isStr Try.prog 7 = false := by kernel_rfl
theorem sz_9 : tySize Try.prog 9 = some 1 := by kernel_rfl
theorem ag_9 : tyAgg Try.prog 9 = some false := by kernel_rfl
theorem by_9 : tyBytes Try.prog 9 = some 16 := by kernel_rfl
theorem ze_9 : zeroOf Try.prog 9 = some (.string ByteArray.empty) := by kernel_rfl
theorem un_9 : Try.prog.underlying 9 = some .string := by kernel_rfl
theorem lps_9 {ty : Nat} {s : ByteArray} : lenP Try.prog 9 ty (.val (.string s)) = some (.val (.int .i64 s.size)) := lp_str un_9
theorem ixs_9 {s : ByteArray} {i : Int} (h0 : 0 ≤ i) (h1 : i < s.size) : idxP Try.prog 9 (some (.string s)) (some (.int .i64 i)) = some (.val (.int .u8 (at8 s i.toNat))) := ix_str un_9 h0 h1
theorem oz_9 : ofVal (.string ByteArray.empty) = .val (.string ByteArray.empty) := rfl
theorem ea_9 {Γ : Ctx} (s : AS) (ρ : Operand → PV) : evEff Try.prog Γ s ρ (.alloc 9) = some (.own s.nx 1 0 0, upd s.ob s.nx (some (9, 1, [.val (.string ByteArray.empty)])), s.nx + 1) := ea_of ze_9 (by kernel_rfl) rfl rfl s ρ
theorem bs_9 : isByteSlice Try.prog 9 = false := by kernel_rfl
theorem is_9 : isStr Try.prog 9 = true := by kernel_rfl
theorem sz_12 : tySize Try.prog 12 = some 1 := by kernel_rfl
theorem ag_12 : tyAgg Try.prog 12 = some false := by kernel_rfl
theorem by_12 : tyBytes Try.prog 12 = some 8 := by kernel_rfl
theorem ze_12 : zeroOf Try.prog 12 = some (.int .u64 0) := by kernel_rfl
theorem un_12 : Try.prog.underlying 12 = some (.int .u64) := by kernel_rfl
theorem oz_12 : ofVal (.int .u64 0) = .val (.int .u64 0) := rfl
theorem ea_12 {Γ : Ctx} (s : AS) (ρ : Operand → PV) : evEff Try.prog Γ s ρ (.alloc 12) = some (.own s.nx 1 0 0, upd s.ob s.nx (some (12, 1, [.val (.int .u64 0)])), s.nx + 1) := ea_of ze_12 (by kernel_rfl) rfl rfl s ρ
theorem bs_12 : isByteSlice Try.prog 12 = false := by kernel_rfl
theorem is_12 : isStr Try.prog 12 = false := by kernel_rfl
theorem sz_13 : tySize Try.prog 13 = some 2 := by kernel_rfl
theorem ag_13 : tyAgg Try.prog 13 = some true := by kernel_rfl
theorem by_13 : tyBytes Try.prog 13 = some 24 := by kernel_rfl
theorem ze_13 : zeroOf Try.prog 13 = some (.agg #[.string ByteArray.empty, .int .u64 0]) := by kernel_rfl
theorem fo_13_0 : fieldOff Try.prog 13 0 = some 0 := by kernel_rfl
theorem fo_13_1 : fieldOff Try.prog 13 1 = some 1 := by kernel_rfl
theorem pl_13 : structPlaces Try.prog 13 = some #[(0, 1), (1, 1)] := by kernel_rfl
theorem bl_13 (ps : List (Nat × PV)) : evBuild Try.prog 13 ps = (fillP (plF [(0, 1), (1, 1)]) [.val (.string ByteArray.empty), .val (.int .u64 0)] ps).map .agg := bl_of ze_13 rfl pl_13 ps
theorem oz_13 : ofVal (.agg #[.string ByteArray.empty, .int .u64 0]) = .agg [.val (.string ByteArray.empty), .val (.int .u64 0)] := rfl
theorem ea_13 {Γ : Ctx} (s : AS) (ρ : Operand → PV) : evEff Try.prog Γ s ρ (.alloc 13) = some (.own s.nx 2 0 0, upd s.ob s.nx (some (13, 2, [.agg [.val (.string ByteArray.empty), .val (.int .u64 0)]])), s.nx + 1) := ea_of ze_13 (by kernel_rfl) rfl rfl s ρ
theorem bz_13 {Γ : Ctx} {ob : Objs} {ρ : Operand → PV} {ty : Nat} : evVal Try.prog Γ ob ρ ty (.build 13 #[]) = some (.agg [.val (.string ByteArray.empty), .val (.int .u64 0)]) := (show evBuild Try.prog 13 [] = some (.agg [.val (.string ByteArray.empty), .val (.int .u64 0)]) from by kernel_rfl)
theorem bs_13 : isByteSlice Try.prog 13 = false := by kernel_rfl
theorem is_13 : isStr Try.prog 13 = false := by kernel_rfl
theorem sz_21 : tySize Try.prog 21 = some 1 := by kernel_rfl
theorem ag_21 : tyAgg Try.prog 21 = some false := by kernel_rfl
theorem by_21 : tyBytes Try.prog 21 = some 4 := by kernel_rfl
theorem ze_21 : zeroOf Try.prog 21 = some (.int .i32 0) := by kernel_rfl
theorem un_21 : Try.prog.underlying 21 = some (.int .i32) := by kernel_rfl
theorem oz_21 : ofVal (.int .i32 0) = .val (.int .i32 0) := rfl
theorem ea_21 {Γ : Ctx} (s : AS) (ρ : Operand → PV) : evEff Try.prog Γ s ρ (.alloc 21) = some (.own s.nx 1 0 0, upd s.ob s.nx (some (21, 1, [.val (.int .i32 0)])), s.nx + 1) := ea_of ze_21 (by kernel_rfl) rfl rfl s ρ
theorem bs_21 : isByteSlice Try.prog 21 = false := by kernel_rfl
theorem is_21 : isStr Try.prog 21 = false := by kernel_rfl
theorem sz_37 : tySize Try.prog 37 = some 5 := by kernel_rfl
theorem ag_37 : tyAgg Try.prog 37 = some true := by kernel_rfl
theorem by_37 : tyBytes Try.prog 37 = some 72 := by kernel_rfl
theorem ze_37 : zeroOf Try.prog 37 = some (.agg #[.slice none 0 0, .slice none 0 0, .int .i64 0, .int .i64 0, .int .i64 0]) := by kernel_rfl
theorem fo_37_0 : fieldOff Try.prog 37 0 = some 0 := by kernel_rfl
theorem fo_37_1 : fieldOff Try.prog 37 1 = some 1 := by kernel_rfl
theorem fo_37_2 : fieldOff Try.prog 37 2 = some 2 := by kernel_rfl
theorem fo_37_3 : fieldOff Try.prog 37 3 = some 3 := by kernel_rfl
theorem fo_37_4 : fieldOff Try.prog 37 4 = some 4 := by kernel_rfl
theorem pl_37 : structPlaces Try.prog 37 = some #[(0, 1), (1, 1), (2, 1), (3, 1), (4, 1)] := by kernel_rfl
theorem bl_37 (ps : List (Nat × PV)) : evBuild Try.prog 37 ps = (fillP (plF [(0, 1), (1, 1), (2, 1), (3, 1), (4, 1)]) [.val (.slice none 0 0), .val (.slice none 0 0), .val (.int .i64 0), .val (.int .i64 0), .val (.int .i64 0)] ps).map .agg := bl_of ze_37 rfl pl_37 ps
theorem oz_37 : ofVal (.agg #[.slice none 0 0, .slice none 0 0, .int .i64 0, .int .i64 0, .int .i64 0]) = .agg [.val (.slice none 0 0), .val (.slice none 0 0), .val (.int .i64 0), .val (.int .i64 0), .val (.int .i64 0)] := rfl
theorem ea_37 {Γ : Ctx} (s : AS) (ρ : Operand → PV) : evEff Try.prog Γ s ρ (.alloc 37) = some (.own s.nx 5 0 0, upd s.ob s.nx (some (37, 5, [.agg [.val (.slice none 0 0), .val (.slice none 0 0), .val (.int .i64 0), .val (.int .i64 0), .val (.int .i64 0)]])), s.nx + 1) := ea_of ze_37 (by kernel_rfl) rfl rfl s ρ
theorem bz_37 {Γ : Ctx} {ob : Objs} {ρ : Operand → PV} {ty : Nat} : evVal Try.prog Γ ob ρ ty (.build 37 #[]) = some (.agg [.val (.slice none 0 0), .val (.slice none 0 0), .val (.int .i64 0), .val (.int .i64 0), .val (.int .i64 0)]) := (show evBuild Try.prog 37 [] = some (.agg [.val (.slice none 0 0), .val (.slice none 0 0), .val (.int .i64 0), .val (.int .i64 0), .val (.int .i64 0)]) from by kernel_rfl)
theorem bs_37 : isByteSlice Try.prog 37 = false := by kernel_rfl
theorem is_37 : isStr Try.prog 37 = false := by kernel_rfl
theorem sz_38 : tySize Try.prog 38 = some 5 := by kernel_rfl
theorem ag_38 : tyAgg Try.prog 38 = some true := by kernel_rfl
theorem by_38 : tyBytes Try.prog 38 = some 72 := by kernel_rfl
theorem ze_38 : zeroOf Try.prog 38 = some (.agg #[.slice none 0 0, .slice none 0 0, .int .i64 0, .int .i64 0, .int .i64 0]) := by kernel_rfl
theorem fo_38_0 : fieldOff Try.prog 38 0 = some 0 := by kernel_rfl
theorem fo_38_1 : fieldOff Try.prog 38 1 = some 1 := by kernel_rfl
theorem fo_38_2 : fieldOff Try.prog 38 2 = some 2 := by kernel_rfl
theorem fo_38_3 : fieldOff Try.prog 38 3 = some 3 := by kernel_rfl
theorem fo_38_4 : fieldOff Try.prog 38 4 = some 4 := by kernel_rfl
theorem pl_38 : structPlaces Try.prog 38 = some #[(0, 1), (1, 1), (2, 1), (3, 1), (4, 1)] := by kernel_rfl
theorem bl_38 (ps : List (Nat × PV)) : evBuild Try.prog 38 ps = (fillP (plF [(0, 1), (1, 1), (2, 1), (3, 1), (4, 1)]) [.val (.slice none 0 0), .val (.slice none 0 0), .val (.int .i64 0), .val (.int .i64 0), .val (.int .i64 0)] ps).map .agg := bl_of ze_38 rfl pl_38 ps
theorem oz_38 : ofVal (.agg #[.slice none 0 0, .slice none 0 0, .int .i64 0, .int .i64 0, .int .i64 0]) = .agg [.val (.slice none 0 0), .val (.slice none 0 0), .val (.int .i64 0), .val (.int .i64 0), .val (.int .i64 0)] := rfl
theorem ea_38 {Γ : Ctx} (s : AS) (ρ : Operand → PV) : evEff Try.prog Γ s ρ (.alloc 38) = some (.own s.nx 5 0 0, upd s.ob s.nx (some (38, 5, [.agg [.val (.slice none 0 0), .val (.slice none 0 0), .val (.int .i64 0), .val (.int .i64 0), .val (.int .i64 0)]])), s.nx + 1) := ea_of ze_38 (by kernel_rfl) rfl rfl s ρ
theorem bz_38 {Γ : Ctx} {ob : Objs} {ρ : Operand → PV} {ty : Nat} : evVal Try.prog Γ ob ρ ty (.build 38 #[]) = some (.agg [.val (.slice none 0 0), .val (.slice none 0 0), .val (.int .i64 0), .val (.int .i64 0), .val (.int .i64 0)]) := (show evBuild Try.prog 38 [] = some (.agg [.val (.slice none 0 0), .val (.slice none 0 0), .val (.int .i64 0), .val (.int .i64 0), .val (.int .i64 0)]) from by kernel_rfl)
theorem bs_38 : isByteSlice Try.prog 38 = false := by kernel_rfl
theorem is_38 : isStr Try.prog 38 = false := by kernel_rfl
theorem sz_44 : tySize Try.prog 44 = some 5 := by kernel_rfl
theorem ag_44 : tyAgg Try.prog 44 = some true := by kernel_rfl
theorem by_44 : tyBytes Try.prog 44 = some 72 := by kernel_rfl
theorem ze_44 : zeroOf Try.prog 44 = some (.agg #[.slice none 0 0, .slice none 0 0, .int .i64 0, .int .i64 0, .int .i64 0]) := by kernel_rfl
theorem fo_44_0 : fieldOff Try.prog 44 0 = some 0 := by kernel_rfl
theorem fo_44_1 : fieldOff Try.prog 44 1 = some 1 := by kernel_rfl
theorem fo_44_2 : fieldOff Try.prog 44 2 = some 2 := by kernel_rfl
theorem fo_44_3 : fieldOff Try.prog 44 3 = some 3 := by kernel_rfl
theorem fo_44_4 : fieldOff Try.prog 44 4 = some 4 := by kernel_rfl
theorem pl_44 : structPlaces Try.prog 44 = some #[(0, 1), (1, 1), (2, 1), (3, 1), (4, 1)] := by kernel_rfl
theorem bl_44 (ps : List (Nat × PV)) : evBuild Try.prog 44 ps = (fillP (plF [(0, 1), (1, 1), (2, 1), (3, 1), (4, 1)]) [.val (.slice none 0 0), .val (.slice none 0 0), .val (.int .i64 0), .val (.int .i64 0), .val (.int .i64 0)] ps).map .agg := bl_of ze_44 rfl pl_44 ps
theorem oz_44 : ofVal (.agg #[.slice none 0 0, .slice none 0 0, .int .i64 0, .int .i64 0, .int .i64 0]) = .agg [.val (.slice none 0 0), .val (.slice none 0 0), .val (.int .i64 0), .val (.int .i64 0), .val (.int .i64 0)] := rfl
theorem ea_44 {Γ : Ctx} (s : AS) (ρ : Operand → PV) : evEff Try.prog Γ s ρ (.alloc 44) = some (.own s.nx 5 0 0, upd s.ob s.nx (some (44, 5, [.agg [.val (.slice none 0 0), .val (.slice none 0 0), .val (.int .i64 0), .val (.int .i64 0), .val (.int .i64 0)]])), s.nx + 1) := ea_of ze_44 (by kernel_rfl) rfl rfl s ρ
theorem bz_44 {Γ : Ctx} {ob : Objs} {ρ : Operand → PV} {ty : Nat} : evVal Try.prog Γ ob ρ ty (.build 44 #[]) = some (.agg [.val (.slice none 0 0), .val (.slice none 0 0), .val (.int .i64 0), .val (.int .i64 0), .val (.int .i64 0)]) := (show evBuild Try.prog 44 [] = some (.agg [.val (.slice none 0 0), .val (.slice none 0 0), .val (.int .i64 0), .val (.int .i64 0), .val (.int .i64 0)]) from by kernel_rfl)
theorem bs_44 : isByteSlice Try.prog 44 = false := by kernel_rfl
theorem is_44 : isStr Try.prog 44 = false := by kernel_rfl
theorem sz_56 : tySize Try.prog 56 = some 4 := by kernel_rfl
theorem ag_56 : tyAgg Try.prog 56 = some true := by kernel_rfl
theorem by_56 : tyBytes Try.prog 56 = some 32 := by kernel_rfl
theorem ze_56 : zeroOf Try.prog 56 = some (.agg #[.int .i64 0, .int .i64 0, .int .i64 0, .int .i64 0]) := by kernel_rfl
theorem fo_56_0 : fieldOff Try.prog 56 0 = some 0 := by kernel_rfl
theorem fo_56_1 : fieldOff Try.prog 56 1 = some 1 := by kernel_rfl
theorem fo_56_2 : fieldOff Try.prog 56 2 = some 2 := by kernel_rfl
theorem fo_56_3 : fieldOff Try.prog 56 3 = some 3 := by kernel_rfl
theorem pl_56 : structPlaces Try.prog 56 = some #[(0, 1), (1, 1), (2, 1), (3, 1)] := by kernel_rfl
theorem bl_56 (ps : List (Nat × PV)) : evBuild Try.prog 56 ps = (fillP (plF [(0, 1), (1, 1), (2, 1), (3, 1)]) [.val (.int .i64 0), .val (.int .i64 0), .val (.int .i64 0), .val (.int .i64 0)] ps).map .agg := bl_of ze_56 rfl pl_56 ps
theorem oz_56 : ofVal (.agg #[.int .i64 0, .int .i64 0, .int .i64 0, .int .i64 0]) = .agg [.val (.int .i64 0), .val (.int .i64 0), .val (.int .i64 0), .val (.int .i64 0)] := rfl
theorem ea_56 {Γ : Ctx} (s : AS) (ρ : Operand → PV) : evEff Try.prog Γ s ρ (.alloc 56) = some (.own s.nx 4 0 0, upd s.ob s.nx (some (56, 4, [.agg [.val (.int .i64 0), .val (.int .i64 0), .val (.int .i64 0), .val (.int .i64 0)]])), s.nx + 1) := ea_of ze_56 (by kernel_rfl) rfl rfl s ρ
theorem bz_56 {Γ : Ctx} {ob : Objs} {ρ : Operand → PV} {ty : Nat} : evVal Try.prog Γ ob ρ ty (.build 56 #[]) = some (.agg [.val (.int .i64 0), .val (.int .i64 0), .val (.int .i64 0), .val (.int .i64 0)]) := (show evBuild Try.prog 56 [] = some (.agg [.val (.int .i64 0), .val (.int .i64 0), .val (.int .i64 0), .val (.int .i64 0)]) from by kernel_rfl)
theorem bs_56 : isByteSlice Try.prog 56 = false := by kernel_rfl
theorem is_56 : isStr Try.prog 56 = false := by kernel_rfl
theorem sz_57 : tySize Try.prog 57 = some 4 := by kernel_rfl
theorem ag_57 : tyAgg Try.prog 57 = some true := by kernel_rfl
theorem by_57 : tyBytes Try.prog 57 = some 32 := by kernel_rfl
theorem ze_57 : zeroOf Try.prog 57 = some (.agg #[.int .i64 0, .int .i64 0, .int .i64 0, .int .i64 0]) := by kernel_rfl
theorem fo_57_0 : fieldOff Try.prog 57 0 = some 0 := by kernel_rfl
theorem fo_57_1 : fieldOff Try.prog 57 1 = some 1 := by kernel_rfl
theorem fo_57_2 : fieldOff Try.prog 57 2 = some 2 := by kernel_rfl
theorem fo_57_3 : fieldOff Try.prog 57 3 = some 3 := by kernel_rfl
theorem pl_57 : structPlaces Try.prog 57 = some #[(0, 1), (1, 1), (2, 1), (3, 1)] := by kernel_rfl
theorem bl_57 (ps : List (Nat × PV)) : evBuild Try.prog 57 ps = (fillP (plF [(0, 1), (1, 1), (2, 1), (3, 1)]) [.val (.int .i64 0), .val (.int .i64 0), .val (.int .i64 0), .val (.int .i64 0)] ps).map .agg := bl_of ze_57 rfl pl_57 ps
theorem oz_57 : ofVal (.agg #[.int .i64 0, .int .i64 0, .int .i64 0, .int .i64 0]) = .agg [.val (.int .i64 0), .val (.int .i64 0), .val (.int .i64 0), .val (.int .i64 0)] := rfl
theorem ea_57 {Γ : Ctx} (s : AS) (ρ : Operand → PV) : evEff Try.prog Γ s ρ (.alloc 57) = some (.own s.nx 4 0 0, upd s.ob s.nx (some (57, 4, [.agg [.val (.int .i64 0), .val (.int .i64 0), .val (.int .i64 0), .val (.int .i64 0)]])), s.nx + 1) := ea_of ze_57 (by kernel_rfl) rfl rfl s ρ
theorem bz_57 {Γ : Ctx} {ob : Objs} {ρ : Operand → PV} {ty : Nat} : evVal Try.prog Γ ob ρ ty (.build 57 #[]) = some (.agg [.val (.int .i64 0), .val (.int .i64 0), .val (.int .i64 0), .val (.int .i64 0)]) := (show evBuild Try.prog 57 [] = some (.agg [.val (.int .i64 0), .val (.int .i64 0), .val (.int .i64 0), .val (.int .i64 0)]) from by kernel_rfl)
theorem fd_57 : Try.prog.underlying 57 = some (.struct (Go.Program.fieldsOf Try.prog 57)) := by kernel_rfl
theorem ef_57 {a0 b0 : Int} {a1 b1 : Int} {a2 b2 : Int} {a3 b3 : Int} : eqFl Try.prog [.int .i64 a0, .int .i64 a1, .int .i64 a2, .int .i64 a3] [.int .i64 b0, .int .i64 b1, .int .i64 b2, .int .i64 b3] (Go.Program.fieldsOf Try.prog 57).toList = some ((a0 == b0) && ((a1 == b1) && ((a2 == b2) && ((a3 == b3) && true)))) := by kernel_rfl
theorem sqeql_57 {x y : Operand} {a0 b0 : Int} {a1 b1 : Int} {a2 b2 : Int} {a3 b3 : Int} : binP Try.prog .eql 57 x y (some (.agg #[.int .i64 a0, .int .i64 a1, .int .i64 a2, .int .i64 a3])) (some (.agg #[.int .i64 b0, .int .i64 b1, .int .i64 b2, .int .i64 b3])) = some (.val (.bool ((a0 == b0) && ((a1 == b1) && ((a2 == b2) && ((a3 == b3) && true)))))) := bp_eqlA fd_57 (by kernel_rfl) (by kernel_rfl) ef_57
theorem sqneq_57 {x y : Operand} {a0 b0 : Int} {a1 b1 : Int} {a2 b2 : Int} {a3 b3 : Int} : binP Try.prog .neq 57 x y (some (.agg #[.int .i64 a0, .int .i64 a1, .int .i64 a2, .int .i64 a3])) (some (.agg #[.int .i64 b0, .int .i64 b1, .int .i64 b2, .int .i64 b3])) = some (.val (.bool (!((a0 == b0) && ((a1 == b1) && ((a2 == b2) && ((a3 == b3) && true))))))) := bp_neqA fd_57 (by kernel_rfl) (by kernel_rfl) ef_57
theorem bs_57 : isByteSlice Try.prog 57 = false := by kernel_rfl
theorem is_57 : isStr Try.prog 57 = false := by kernel_rfl
theorem sz_64 : tySize Try.prog 64 = some 7 := by kernel_rfl
theorem ag_64 : tyAgg Try.prog 64 = some true := by kernel_rfl
theorem by_64 : tyBytes Try.prog 64 = some 56 := by kernel_rfl
theorem ze_64 : zeroOf Try.prog 64 = some (.agg #[.int .i64 0, .int .i64 0, .int .i64 0, .int .i64 0, .int .i64 0, .int .i64 0, .bool false]) := by kernel_rfl
theorem fo_64_0 : fieldOff Try.prog 64 0 = some 0 := by kernel_rfl
theorem fo_64_1 : fieldOff Try.prog 64 1 = some 1 := by kernel_rfl
theorem fo_64_2 : fieldOff Try.prog 64 2 = some 5 := by kernel_rfl
theorem fo_64_3 : fieldOff Try.prog 64 3 = some 6 := by kernel_rfl
theorem pl_64 : structPlaces Try.prog 64 = some #[(0, 1), (1, 4), (5, 1), (6, 1)] := by kernel_rfl
theorem bl_64 (ps : List (Nat × PV)) : evBuild Try.prog 64 ps = (fillP (plF [(0, 1), (1, 4), (5, 1), (6, 1)]) [.val (.int .i64 0), .val (.int .i64 0), .val (.int .i64 0), .val (.int .i64 0), .val (.int .i64 0), .val (.int .i64 0), .val (.bool false)] ps).map .agg := bl_of ze_64 rfl pl_64 ps
theorem oz_64 : ofVal (.agg #[.int .i64 0, .int .i64 0, .int .i64 0, .int .i64 0, .int .i64 0, .int .i64 0, .bool false]) = .agg [.val (.int .i64 0), .val (.int .i64 0), .val (.int .i64 0), .val (.int .i64 0), .val (.int .i64 0), .val (.int .i64 0), .val (.bool false)] := rfl
theorem ea_64 {Γ : Ctx} (s : AS) (ρ : Operand → PV) : evEff Try.prog Γ s ρ (.alloc 64) = some (.own s.nx 7 0 0, upd s.ob s.nx (some (64, 7, [.agg [.val (.int .i64 0), .val (.int .i64 0), .val (.int .i64 0), .val (.int .i64 0), .val (.int .i64 0), .val (.int .i64 0), .val (.bool false)]])), s.nx + 1) := ea_of ze_64 (by kernel_rfl) rfl rfl s ρ
theorem bz_64 {Γ : Ctx} {ob : Objs} {ρ : Operand → PV} {ty : Nat} : evVal Try.prog Γ ob ρ ty (.build 64 #[]) = some (.agg [.val (.int .i64 0), .val (.int .i64 0), .val (.int .i64 0), .val (.int .i64 0), .val (.int .i64 0), .val (.int .i64 0), .val (.bool false)]) := (show evBuild Try.prog 64 [] = some (.agg [.val (.int .i64 0), .val (.int .i64 0), .val (.int .i64 0), .val (.int .i64 0), .val (.int .i64 0), .val (.int .i64 0), .val (.bool false)]) from by kernel_rfl)
theorem bs_64 : isByteSlice Try.prog 64 = false := by kernel_rfl
theorem is_64 : isStr Try.prog 64 = false := by kernel_rfl
theorem sz_65 : tySize Try.prog 65 = some 7 := by kernel_rfl
theorem ag_65 : tyAgg Try.prog 65 = some true := by kernel_rfl
theorem by_65 : tyBytes Try.prog 65 = some 56 := by kernel_rfl
theorem ze_65 : zeroOf Try.prog 65 = some (.agg #[.int .i64 0, .int .i64 0, .int .i64 0, .int .i64 0, .int .i64 0, .int .i64 0, .bool false]) := by kernel_rfl
theorem fo_65_0 : fieldOff Try.prog 65 0 = some 0 := by kernel_rfl
theorem fo_65_1 : fieldOff Try.prog 65 1 = some 1 := by kernel_rfl
theorem fo_65_2 : fieldOff Try.prog 65 2 = some 5 := by kernel_rfl
theorem fo_65_3 : fieldOff Try.prog 65 3 = some 6 := by kernel_rfl
theorem pl_65 : structPlaces Try.prog 65 = some #[(0, 1), (1, 4), (5, 1), (6, 1)] := by kernel_rfl
theorem bl_65 (ps : List (Nat × PV)) : evBuild Try.prog 65 ps = (fillP (plF [(0, 1), (1, 4), (5, 1), (6, 1)]) [.val (.int .i64 0), .val (.int .i64 0), .val (.int .i64 0), .val (.int .i64 0), .val (.int .i64 0), .val (.int .i64 0), .val (.bool false)] ps).map .agg := bl_of ze_65 rfl pl_65 ps
theorem oz_65 : ofVal (.agg #[.int .i64 0, .int .i64 0, .int .i64 0, .int .i64 0, .int .i64 0, .int .i64 0, .bool false]) = .agg [.val (.int .i64 0), .val (.int .i64 0), .val (.int .i64 0), .val (.int .i64 0), .val (.int .i64 0), .val (.int .i64 0), .val (.bool false)] := rfl
theorem ea_65 {Γ : Ctx} (s : AS) (ρ : Operand → PV) : evEff Try.prog Γ s ρ (.alloc 65) = some (.own s.nx 7 0 0, upd s.ob s.nx (some (65, 7, [.agg [.val (.int .i64 0), .val (.int .i64 0), .val (.int .i64 0), .val (.int .i64 0), .val (.int .i64 0), .val (.int .i64 0), .val (.bool false)]])), s.nx + 1) := ea_of ze_65 (by kernel_rfl) rfl rfl s ρ
theorem bz_65 {Γ : Ctx} {ob : Objs} {ρ : Operand → PV} {ty : Nat} : evVal Try.prog Γ ob ρ ty (.build 65 #[]) = some (.agg [.val (.int .i64 0), .val (.int .i64 0), .val (.int .i64 0), .val (.int .i64 0), .val (.int .i64 0), .val (.int .i64 0), .val (.bool false)]) := (show evBuild Try.prog 65 [] = some (.agg [.val (.int .i64 0), .val (.int .i64 0), .val (.int .i64 0), .val (.int .i64 0), .val (.int .i64 0), .val (.int .i64 0), .val (.bool false)]) from by kernel_rfl)
theorem bs_65 : isByteSlice Try.prog 65 = false := by kernel_rfl
theorem is_65 : isStr Try.prog 65 = false := by kernel_rfl
theorem sz_80 : tySize Try.prog 80 = some 2 := by kernel_rfl
theorem ag_80 : tyAgg Try.prog 80 = some true := by kernel_rfl
theorem by_80 : tyBytes Try.prog 80 = some 32 := by kernel_rfl
theorem ze_80 : zeroOf Try.prog 80 = some (.agg #[.slice none 0 0, .int .i64 0]) := by kernel_rfl
theorem fo_80_0 : fieldOff Try.prog 80 0 = some 0 := by kernel_rfl
theorem fo_80_1 : fieldOff Try.prog 80 1 = some 1 := by kernel_rfl
theorem pl_80 : structPlaces Try.prog 80 = some #[(0, 1), (1, 1)] := by kernel_rfl
theorem bl_80 (ps : List (Nat × PV)) : evBuild Try.prog 80 ps = (fillP (plF [(0, 1), (1, 1)]) [.val (.slice none 0 0), .val (.int .i64 0)] ps).map .agg := bl_of ze_80 rfl pl_80 ps
theorem oz_80 : ofVal (.agg #[.slice none 0 0, .int .i64 0]) = .agg [.val (.slice none 0 0), .val (.int .i64 0)] := rfl
theorem ea_80 {Γ : Ctx} (s : AS) (ρ : Operand → PV) : evEff Try.prog Γ s ρ (.alloc 80) = some (.own s.nx 2 0 0, upd s.ob s.nx (some (80, 2, [.agg [.val (.slice none 0 0), .val (.int .i64 0)]])), s.nx + 1) := ea_of ze_80 (by kernel_rfl) rfl rfl s ρ
theorem bz_80 {Γ : Ctx} {ob : Objs} {ρ : Operand → PV} {ty : Nat} : evVal Try.prog Γ ob ρ ty (.build 80 #[]) = some (.agg [.val (.slice none 0 0), .val (.int .i64 0)]) := (show evBuild Try.prog 80 [] = some (.agg [.val (.slice none 0 0), .val (.int .i64 0)]) from by kernel_rfl)
theorem bs_80 : isByteSlice Try.prog 80 = false := by kernel_rfl
theorem is_80 : isStr Try.prog 80 = false := by kernel_rfl
theorem sz_81 : tySize Try.prog 81 = some 2 := by kernel_rfl
theorem ag_81 : tyAgg Try.prog 81 = some true := by kernel_rfl
theorem by_81 : tyBytes Try.prog 81 = some 32 := by kernel_rfl
theorem ze_81 : zeroOf Try.prog 81 = some (.agg #[.slice none 0 0, .int .i64 0]) := by kernel_rfl
theorem fo_81_0 : fieldOff Try.prog 81 0 = some 0 := by kernel_rfl
theorem fo_81_1 : fieldOff Try.prog 81 1 = some 1 := by kernel_rfl
theorem pl_81 : structPlaces Try.prog 81 = some #[(0, 1), (1, 1)] := by kernel_rfl
theorem bl_81 (ps : List (Nat × PV)) : evBuild Try.prog 81 ps = (fillP (plF [(0, 1), (1, 1)]) [.val (.slice none 0 0), .val (.int .i64 0)] ps).map .agg := bl_of ze_81 rfl pl_81 ps
theorem oz_81 : ofVal (.agg #[.slice none 0 0, .int .i64 0]) = .agg [.val (.slice none 0 0), .val (.int .i64 0)] := rfl
theorem ea_81 {Γ : Ctx} (s : AS) (ρ : Operand → PV) : evEff Try.prog Γ s ρ (.alloc 81) = some (.own s.nx 2 0 0, upd s.ob s.nx (some (81, 2, [.agg [.val (.slice none 0 0), .val (.int .i64 0)]])), s.nx + 1) := ea_of ze_81 (by kernel_rfl) rfl rfl s ρ
theorem bz_81 {Γ : Ctx} {ob : Objs} {ρ : Operand → PV} {ty : Nat} : evVal Try.prog Γ ob ρ ty (.build 81 #[]) = some (.agg [.val (.slice none 0 0), .val (.int .i64 0)]) := (show evBuild Try.prog 81 [] = some (.agg [.val (.slice none 0 0), .val (.int .i64 0)]) from by kernel_rfl)
theorem bs_81 : isByteSlice Try.prog 81 = false := by kernel_rfl
theorem is_81 : isStr Try.prog 81 = false := by kernel_rfl
theorem sz_88 : tySize Try.prog 88 = some 4 := by kernel_rfl
theorem ag_88 : tyAgg Try.prog 88 = some true := by kernel_rfl
theorem by_88 : tyBytes Try.prog 88 = some 4 := by kernel_rfl
theorem ze_88 : zeroOf Try.prog 88 = some (.agg #[.bool false, .bool false, .bool false, .bool false]) := by kernel_rfl
theorem un_88 : Try.prog.underlying 88 = some (.array 4 4) := by kernel_rfl
theorem ixa_88 {o sz j f : Nat} {i : Int} (h0 : 0 ≤ i) (h1 : i < 4) : evIndexAddr Try.prog 88 (.own o sz j f) i = some (.own o sz j (f + i.toNat)) := by rw [ixa_of un_88 sz_4 h0 h1, Nat.mul_one]
theorem ixp_88 {k : Bool} {x : PV} {f : Nat} {i : Int} (h0 : 0 ≤ i) (h1 : i < 4) : evIndexAddr Try.prog 88 (.ptr k x f) i = some (.ptr k x (f + i.toNat)) := by rw [ixap_of un_88 sz_4 h0 h1, Nat.mul_one]
theorem bl_88 (ps : List (Nat × PV)) : evBuild Try.prog 88 ps = (fillP (plF [(0, 1), (1, 1), (2, 1), (3, 1)]) [.val (.bool false), .val (.bool false), .val (.bool false), .val (.bool false)] ps).map .agg := bla_of ze_88 rfl (by kernel_rfl) (pl := #[(0, 1), (1, 1), (2, 1), (3, 1)]) (by kernel_rfl) ps
theorem oz_88 : ofVal (.agg #[.bool false, .bool false, .bool false, .bool false]) = .agg [.val (.bool false), .val (.bool false), .val (.bool false), .val (.bool false)] := rfl
theorem ea_88 {Γ : Ctx} (s : AS) (ρ : Operand → PV) : evEff Try.prog Γ s ρ (.alloc 88) = some (.own s.nx 4 0 0, upd s.ob s.nx (some (88, 4, [.agg [.val (.bool false), .val (.bool false), .val (.bool false), .val (.bool false)]])), s.nx + 1) := ea_of ze_88 (by kernel_rfl) rfl rfl s ρ
theorem bs_88 : isByteSlice Try.prog 88 = false := by kernel_rfl
theorem is_88 : isStr Try.prog 88 = false := by kernel_rfl
theorem sz_95 : tySize Try.prog 95 = some 4 := by kernel_rfl
theorem ag_95 : tyAgg Try.prog 95 = some true := by kernel_rfl
theorem by_95 : tyBytes Try.prog 95 = some 32 := by kernel_rfl
theorem ze_95 : zeroOf Try.prog 95 = some (.agg #[.int .i64 0, .int .i64 0, .int .i64 0, .int .i64 0]) := by kernel_rfl
theorem un_95 : Try.prog.underlying 95 = some (.array 4 3) := by kernel_rfl
theorem ixa_95 {o sz j f : Nat} {i : Int} (h0 : 0 ≤ i) (h1 : i < 4) : evIndexAddr Try.prog 95 (.own o sz j f) i = some (.own o sz j (f + i.toNat)) := by rw [ixa_of un_95 sz_3 h0 h1, Nat.mul_one]
theorem ixp_95 {k : Bool} {x : PV} {f : Nat} {i : Int} (h0 : 0 ≤ i) (h1 : i < 4) : evIndexAddr Try.prog 95 (.ptr k x f) i = some (.ptr k x (f + i.toNat)) := by rw [ixap_of un_95 sz_3 h0 h1, Nat.mul_one]
theorem bl_95 (ps : List (Nat × PV)) : evBuild Try.prog 95 ps = (fillP (plF [(0, 1), (1, 1), (2, 1), (3, 1)]) [.val (.int .i64 0), .val (.int .i64 0), .val (.int .i64 0), .val (.int .i64 0)] ps).map .agg := bla_of ze_95 rfl (by kernel_rfl) (pl := #[(0, 1), (1, 1), (2, 1), (3, 1)]) (by kernel_rfl) ps
theorem oz_95 : ofVal (.agg #[.int .i64 0, .int .i64 0, .int .i64 0, .int .i64 0]) = .agg [.val (.int .i64 0), .val (.int .i64 0), .val (.int .i64 0), .val (.int .i64 0)] := rfl
theorem ea_95 {Γ : Ctx} (s : AS) (ρ : Operand → PV) : evEff Try.prog Γ s ρ (.alloc 95) = some (.own s.nx 4 0 0, upd s.ob s.nx (some (95, 4, [.agg [.val (.int .i64 0), .val (.int .i64 0), .val (.int .i64 0), .val (.int .i64 0)]])), s.nx + 1) := ea_of ze_95 (by kernel_rfl) rfl rfl s ρ
theorem bs_95 : isByteSlice Try.prog 95 = false := by kernel_rfl
theorem is_95 : isStr Try.prog 95 = false := by kernel_rfl
theorem sz_104 : tySize Try.prog 104 = some 3 := by kernel_rfl
theorem ag_104 : tyAgg Try.prog 104 = some true := by kernel_rfl
theorem by_104 : tyBytes Try.prog 104 = some 24 := by kernel_rfl
theorem ze_104 : zeroOf Try.prog 104 = some (.agg #[.int .i64 0, .bool false, .int .i64 0]) := by kernel_rfl
theorem fo_104_0 : fieldOff Try.prog 104 0 = some 0 := by kernel_rfl
theorem fo_104_1 : fieldOff Try.prog 104 1 = some 1 := by kernel_rfl
theorem fo_104_2 : fieldOff Try.prog 104 2 = some 2 := by kernel_rfl
theorem pl_104 : structPlaces Try.prog 104 = some #[(0, 1), (1, 1), (2, 1)] := by kernel_rfl
theorem bl_104 (ps : List (Nat × PV)) : evBuild Try.prog 104 ps = (fillP (plF [(0, 1), (1, 1), (2, 1)]) [.val (.int .i64 0), .val (.bool false), .val (.int .i64 0)] ps).map .agg := bl_of ze_104 rfl pl_104 ps
theorem oz_104 : ofVal (.agg #[.int .i64 0, .bool false, .int .i64 0]) = .agg [.val (.int .i64 0), .val (.bool false), .val (.int .i64 0)] := rfl
theorem ea_104 {Γ : Ctx} (s : AS) (ρ : Operand → PV) : evEff Try.prog Γ s ρ (.alloc 104) = some (.own s.nx 3 0 0, upd s.ob s.nx (some (104, 3, [.agg [.val (.int .i64 0), .val (.bool false), .val (.int .i64 0)]])), s.nx + 1) := ea_of ze_104 (by kernel_rfl) rfl rfl s ρ
theorem bz_104 {Γ : Ctx} {ob : Objs} {ρ : Operand → PV} {ty : Nat} : evVal Try.prog Γ ob ρ ty (.build 104 #[]) = some (.agg [.val (.int .i64 0), .val (.bool false), .val (.int .i64 0)]) := (show evBuild Try.prog 104 [] = some (.agg [.val (.int .i64 0), .val (.bool false), .val (.int .i64 0)]) from by kernel_rfl)
theorem fd_104 : Try.prog.underlying 104 = some (.struct (Go.Program.fieldsOf Try.prog 104)) := by kernel_rfl
theorem ef_104 {a0 b0 : Int} {a1 b1 : Bool} {a2 b2 : Int} : eqFl Try.prog [.int .i64 a0, .bool a1, .int .i64 a2] [.int .i64 b0, .bool b1, .int .i64 b2] (Go.Program.fieldsOf Try.prog 104).toList = some ((a0 == b0) && ((a1 == b1) && ((a2 == b2) && true))) := by kernel_rfl
theorem sqeql_104 {x y : Operand} {a0 b0 : Int} {a1 b1 : Bool} {a2 b2 : Int} : binP Try.prog .eql 104 x y (some (.agg #[.int .i64 a0, .bool a1, .int .i64 a2])) (some (.agg #[.int .i64 b0, .bool b1, .int .i64 b2])) = some (.val (.bool ((a0 == b0) && ((a1 == b1) && ((a2 == b2) && true))))) := bp_eqlA fd_104 (by kernel_rfl) (by kernel_rfl) ef_104
theorem sqneq_104 {x y : Operand} {a0 b0 : Int} {a1 b1 : Bool} {a2 b2 : Int} : binP Try.prog .neq 104 x y (some (.agg #[.int .i64 a0, .bool a1, .int .i64 a2])) (some (.agg #[.int .i64 b0, .bool b1, .int .i64 b2])) = some (.val (.bool (!((a0 == b0) && ((a1 == b1) && ((a2 == b2) && true)))))) := bp_neqA fd_104 (by kernel_rfl) (by kernel_rfl) ef_104
theorem bs_104 : isByteSlice Try.prog 104 = false := by kernel_rfl
theorem is_104 : isStr Try.prog 104 = false := by kernel_rfl
theorem sz_105 : tySize Try.prog 105 = some 3 := by kernel_rfl
theorem ag_105 : tyAgg Try.prog 105 = some true := by kernel_rfl
theorem by_105 : tyBytes Try.prog 105 = some 24 := by kernel_rfl
theorem ze_105 : zeroOf Try.prog 105 = some (.agg #[.int .i64 0, .bool false, .int .i64 0]) := by kernel_rfl
theorem fo_105_0 : fieldOff Try.prog 105 0 = some 0 := by kernel_rfl
theorem fo_105_1 : fieldOff Try.prog 105 1 = some 1 := by kernel_rfl
theorem fo_105_2 : fieldOff Try.prog 105 2 = some 2 := by kernel_rfl
theorem pl_105 : structPlaces Try.prog 105 = some #[(0, 1), (1, 1), (2, 1)] := by kernel_rfl
theorem bl_105 (ps : List (Nat × PV)) : evBuild Try.prog 105 ps = (fillP (plF [(0, 1), (1, 1), (2, 1)]) [.val (.int .i64 0), .val (.bool false), .val (.int .i64 0)] ps).map .agg := bl_of ze_105 rfl pl_105 ps
theorem oz_105 : ofVal (.agg #[.int .i64 0, .bool false, .int .i64 0]) = .agg [.val (.int .i64 0), .val (.bool false), .val (.int .i64 0)] := rfl
theorem ea_105 {Γ : Ctx} (s : AS) (ρ : Operand → PV) : evEff Try.prog Γ s ρ (.alloc 105) = some (.own s.nx 3 0 0, upd s.ob s.nx (some (105, 3, [.agg [.val (.int .i64 0), .val (.bool false), .val (.int .i64 0)]])), s.nx + 1) := ea_of ze_105 (by kernel_rfl) rfl rfl s ρ
theorem bz_105 {Γ : Ctx} {ob : Objs} {ρ : Operand → PV} {ty : Nat} : evVal Try.prog Γ ob ρ ty (.build 105 #[]) = some (.agg [.val (.int .i64 0), .val (.bool false), .val (.int .i64 0)]) := (show evBuild Try.prog 105 [] = some (.agg [.val (.int .i64 0), .val (.bool false), .val (.int .i64 0)]) from by kernel_rfl)
theorem fd_105 : Try.prog.underlying 105 = some (.struct (Go.Program.fieldsOf Try.prog 105)) := by kernel_rfl
theorem ef_105 {a0 b0 : Int} {a1 b1 : Bool} {a2 b2 : Int} : eqFl Try.prog [.int .i64 a0, .bool a1, .int .i64 a2] [.int .i64 b0, .bool b1, .int .i64 b2] (Go.Program.fieldsOf Try.prog 105).toList = some ((a0 == b0) && ((a1 == b1) && ((a2 == b2) && true))) := by kernel_rfl
theorem sqeql_105 {x y : Operand} {a0 b0 : Int} {a1 b1 : Bool} {a2 b2 : Int} : binP Try.prog .eql 105 x y (some (.agg #[.int .i64 a0, .bool a1, .int .i64 a2])) (some (.agg #[.int .i64 b0, .bool b1, .int .i64 b2])) = some (.val (.bool ((a0 == b0) && ((a1 == b1) && ((a2 == b2) && true))))) := bp_eqlA fd_105 (by kernel_rfl) (by kernel_rfl) ef_105
theorem sqneq_105 {x y : Operand} {a0 b0 : Int} {a1 b1 : Bool} {a2 b2 : Int} : binP Try.prog .neq 105 x y (some (.agg #[.int .i64 a0, .bool a1, .int .i64 a2])) (some (.agg #[.int .i64 b0, .bool b1, .int .i64 b2])) = some (.val (.bool (!((a0 == b0) && ((a1 == b1) && ((a2 == b2) && true)))))) := bp_neqA fd_105 (by kernel_rfl) (by kernel_rfl) ef_105
theorem bs_105 : isByteSlice Try.prog 105 = false := by kernel_rfl
theorem is_105 : isStr Try.prog 105 = false := by kernel_rfl
theorem sz_106 : tySize Try.prog 106 = some 4 := by kernel_rfl
theorem ag_106 : tyAgg Try.prog 106 = some true := by kernel_rfl
theorem by_106 : tyBytes Try.prog 106 = some 32 := by kernel_rfl
theorem ze_106 : zeroOf Try.prog 106 = some (.agg #[.int .i64 0, .int .i64 0, .bool false, .int .i64 0]) := by kernel_rfl
theorem fo_106_0 : fieldOff Try.prog 106 0 = some 0 := by kernel_rfl
theorem fo_106_1 : fieldOff Try.prog 106 1 = some 1 := by kernel_rfl
theorem pl_106 : structPlaces Try.prog 106 = some #[(0, 1), (1, 3)] := by kernel_rfl
theorem bl_106 (ps : List (Nat × PV)) : evBuild Try.prog 106 ps = (fillP (plF [(0, 1), (1, 3)]) [.val (.int .i64 0), .val (.int .i64 0), .val (.bool false), .val (.int .i64 0)] ps).map .agg := bl_of ze_106 rfl pl_106 ps
theorem oz_106 : ofVal (.agg #[.int .i64 0, .int .i64 0, .bool false, .int .i64 0]) = .agg [.val (.int .i64 0), .val (.int .i64 0), .val (.bool false), .val (.int .i64 0)] := rfl
theorem ea_106 {Γ : Ctx} (s : AS) (ρ : Operand → PV) : evEff Try.prog Γ s ρ (.alloc 106) = some (.own s.nx 4 0 0, upd s.ob s.nx (some (106, 4, [.agg [.val (.int .i64 0), .val (.int .i64 0), .val (.bool false), .val (.int .i64 0)]])), s.nx + 1) := ea_of ze_106 (by kernel_rfl) rfl rfl s ρ
theorem bz_106 {Γ : Ctx} {ob : Objs} {ρ : Operand → PV} {ty : Nat} : evVal Try.prog Γ ob ρ ty (.build 106 #[]) = some (.agg [.val (.int .i64 0), .val (.int .i64 0), .val (.bool false), .val (.int .i64 0)]) := (show evBuild Try.prog 106 [] = some (.agg [.val (.int .i64 0), .val (.int .i64 0), .val (.bool false), .val (.int .i64 0)]) from by kernel_rfl)
theorem bs_106 : isByteSlice Try.prog 106 = false := by kernel_rfl
theorem is_106 : isStr Try.prog 106 = false := by kernel_rfl
theorem sz_107 : tySize Try.prog 107 = some 4 := by kernel_rfl
theorem ag_107 : tyAgg Try.prog 107 = some true := by kernel_rfl
theorem by_107 : tyBytes Try.prog 107 = some 32 := by kernel_rfl
theorem ze_107 : zeroOf Try.prog 107 = some (.agg #[.int .i64 0, .int .i64 0, .bool false, .int .i64 0]) := by kernel_rfl
theorem fo_107_0 : fieldOff Try.prog 107 0 = some 0 := by kernel_rfl
theorem fo_107_1 : fieldOff Try.prog 107 1 = some 1 := by kernel_rfl
theorem pl_107 : structPlaces Try.prog 107 = some #[(0, 1), (1, 3)] := by kernel_rfl
theorem bl_107 (ps : List (Nat × PV)) : evBuild Try.prog 107 ps = (fillP (plF [(0, 1), (1, 3)]) [.val (.int .i64 0), .val (.int .i64 0), .val (.bool false), .val (.int .i64 0)] ps).map .agg := bl_of ze_107 rfl pl_107 ps
theorem oz_107 : ofVal (.agg #[.int .i64 0, .int .i64 0, .bool false, .int .i64 0]) = .agg [.val (.int .i64 0), .val (.int .i64 0), .val (.bool false), .val (.int .i64 0)] := rfl
theorem ea_107 {Γ : Ctx} (s : AS) (ρ : Operand → PV) : evEff Try.prog Γ s ρ (.alloc 107) = some (.own s.nx 4 0 0, upd s.ob s.nx (some (107, 4, [.agg [.val (.int .i64 0), .val (.int .i64 0), .val (.bool false), .val (.int .i64 0)]])), s.nx + 1) := ea_of ze_107 (by kernel_rfl) rfl rfl s ρ
theorem bz_107 {Γ : Ctx} {ob : Objs} {ρ : Operand → PV} {ty : Nat} : evVal Try.prog Γ ob ρ ty (.build 107 #[]) = some (.agg [.val (.int .i64 0), .val (.int .i64 0), .val (.bool false), .val (.int .i64 0)]) := (show evBuild Try.prog 107 [] = some (.agg [.val (.int .i64 0), .val (.int .i64 0), .val (.bool false), .val (.int .i64 0)]) from by kernel_rfl)
theorem bs_107 : isByteSlice Try.prog 107 = false := by kernel_rfl
theorem is_107 : isStr Try.prog 107 = false := by kernel_rfl
theorem sz_139 : tySize Try.prog 139 = some 1 := by kernel_rfl
theorem ag_139 : tyAgg Try.prog 139 = some false := by kernel_rfl
theorem by_139 : tyBytes Try.prog 139 = some 4 := by kernel_rfl
theorem ze_139 : zeroOf Try.prog 139 = some (.int .u32 0) := by kernel_rfl
theorem un_139 : Try.prog.underlying 139 = some (.int .u32) := by kernel_rfl
theorem oz_139 : ofVal (.int .u32 0) = .val (.int .u32 0) := rfl
theorem ea_139 {Γ : Ctx} (s : AS) (ρ : Operand → PV) : evEff Try.prog Γ s ρ (.alloc 139) = some (.own s.nx 1 0 0, upd s.ob s.nx (some (139, 1, [.val (.int .u32 0)])), s.nx + 1) := ea_of ze_139 (by kernel_rfl) rfl rfl s ρ
theorem bs_139 : isByteSlice Try.prog 139 = false := by kernel_rfl
theorem is_139 : isStr Try.prog 139 = false := by kernel_rfl
theorem sz_22 : tySize Try.prog 22 = some 1 := by kernel_rfl
theorem ag_22 : tyAgg Try.prog 22 = some false := by kernel_rfl
theorem by_22 : tyBytes Try.prog 22 = some 24 := by kernel_rfl
theorem ze_22 : zeroOf Try.prog 22 = some (.slice none 0 0) := by kernel_rfl
theorem un_22 : Try.prog.underlying 22 = some (.slice 5) := by kernel_rfl
theorem el_22 : tyElem Try.prog 22 = some 5 := by kernel_rfl
theorem ix_22 {k : Bool} {es : List PV} {i : Int} (h0 : 0 ≤ i) (h1 : i < (es.length : Int)) : evIndexAddr Try.prog 22 (.lst k 1 es) i = some (.ptr k ((es[i.toNat]?).getD .dead) 0) := ix_lst un_22 sz_5 h0 h1
theorem ixr_22 {o j n : Nat} {i : Int} (h0 : 0 ≤ i) (h1 : i < (n : Int)) : evIndexAddr Try.prog 22 (.row o 1 j n) i = some (.own o 1 (j + i.toNat) 0) := ix_row un_22 sz_5 h0 h1
theorem sl_22 {k : Bool} {es : List PV} {lo hi : Option Int} (h0 : 0 ≤ lo.getD 0) (h1 : lo.getD 0 ≤ hi.getD es.length) (h2 : hi.getD es.length ≤ es.length) : evSlice Try.prog 22 (.lst k 1 es) lo hi = some (.lst k 1 ((es.drop (lo.getD 0).toNat).take ((hi.getD es.length).toNat - (lo.getD 0).toNat))) := sl_lst un_22 sz_5 h0 h1 h2
theorem slr_22 {o i n : Nat} {lo hi : Option Int} (h0 : 0 ≤ lo.getD 0) (h1 : lo.getD 0 < hi.getD n) (h2 : hi.getD n ≤ n) : evSlice Try.prog 22 (.row o 1 i n) lo hi = some (.row o 1 (i + (lo.getD 0).toNat) ((hi.getD n).toNat - (lo.getD 0).toNat)) := sl_rowlt un_22 sz_5 h0 h1 h2
theorem sle_22 {o i n : Nat} {lo hi : Option Int} (h0 : 0 ≤ lo.getD 0) (h1 : lo.getD 0 = hi.getD n) (h2 : hi.getD n ≤ n) : evSlice Try.prog 22 (.row o 1 i n) lo hi = some (.lst true 1 []) := sl_roweq un_22 sz_5 h0 h1 h2
theorem lpl_22 {ty sz : Nat} {k : Bool} {es : List PV} : lenP Try.prog 22 ty (.lst k sz es) = some (.val (.int .i64 es.length)) := lp_lst el_22
theorem lpr_22 {ty o sz i n : Nat} : lenP Try.prog 22 ty (.row o sz i n) = some (.val (.int .i64 n)) := lp_row el_22
theorem lpn_22 {ty : Nat} : lenP Try.prog 22 ty (.val (.slice none 0 0)) = some (.val (.int .i64 0)) := lp_nil un_22
theorem oz_22 : ofVal (.slice none 0 0) = .val (.slice none 0 0) := rfl
theorem ea_22 {Γ : Ctx} (s : AS) (ρ : Operand → PV) : evEff Try.prog Γ s ρ (.alloc 22) = some (.own s.nx 1 0 0, upd s.ob s.nx (some (22, 1, [.val (.slice none 0 0)])), s.nx + 1) := ea_of ze_22 (by kernel_rfl) rfl rfl s ρ
theorem em_22 {Γ : Ctx} (s : AS) (ρ : Operand → PV) (l c : Operand) : evEff Try.prog Γ s ρ (.makeSlice 22 l c) = mkEv 5 1 1 (.int .u8 0) s (ρ l) (ρ c) := em_of el_22 ze_5 sz_5 by_5 (by kernel_rfl) rfl s ρ l c
theorem eap_22 {Γ : Ctx} (s : AS) (ρ : Operand → PV) (x y : Operand) : evEff Try.prog Γ s ρ (.call { callee := .builtin .append, args := #[x, y], argTypes := #[22, 22] }) = apEv 5 1 1 s.nx s.ob (ρ x) (obOf s.ob (ρ x)) (sliceEs s.ob 1 (ρ y)) := eap_of el_22 ze_5 sz_5 by_5 (by decide) rfl s ρ x y
theorem ecp_22 {Γ : Ctx} (s : AS) (ρ : Operand → PV) (x y : Operand) (t' : Nat) : evEff Try.prog Γ s ρ (.call { callee := .builtin .copy, args := #[x, y], argTypes := #[22, t'] }) = cpX 1 s.nx s.ob (ρ x) (obOf s.ob (ρ x)) (srcEs s.ob 1 (ρ y)) := ecp_of el_22 sz_5 s ρ x y t'
theorem bs_22 : isByteSlice Try.prog 22 = true := by kernel_rfl
theorem is_22 : isStr Try.prog 22 = false := by kernel_rfl
theorem sz_23 : tySize Try.prog 23 = some 1 := by kernel_rfl
theorem ag_23 : tyAgg Try.prog 23 = some false := by kernel_rfl
theorem by_23 : tyBytes Try.prog 23 = some 24 := by kernel_rfl
theorem ze_23 : zeroOf Try.prog 23 = some (.slice none 0 0) := by kernel_rfl
theorem un_23 : Try.prog.underlying 23 = some (.slice 9) := by kernel_rfl
theorem el_23 : tyElem Try.prog 23 = some 9 := by kernel_rfl
theorem ix_23 {k : Bool} {es : List PV} {i : Int} (h0 : 0 ≤ i) (h1 : i < (es.length : Int)) : evIndexAddr Try.prog 23 (.lst k 1 es) i = some (.ptr k ((es[i.toNat]?).getD .dead) 0) := ix_lst un_23 sz_9 h0 h1
theorem ixr_23 {o j n : Nat} {i : Int} (h0 : 0 ≤ i) (h1 : i < (n : Int)) : evIndexAddr Try.prog 23 (.row o 1 j n) i = some (.own o 1 (j + i.toNat) 0) := ix_row un_23 sz_9 h0 h1
theorem sl_23 {k : Bool} {es : List PV} {lo hi : Option Int} (h0 : 0 ≤ lo.getD 0) (h1 : lo.getD 0 ≤ hi.getD es.length) (h2 : hi.getD es.length ≤ es.length) : evSlice Try.prog 23 (.lst k 1 es) lo hi = some (.lst k 1 ((es.drop (lo.getD 0).toNat).take ((hi.getD es.length).toNat - (lo.getD 0).toNat))) := sl_lst un_23 sz_9 h0 h1 h2
theorem slr_23 {o i n : Nat} {lo hi : Option Int} (h0 : 0 ≤ lo.getD 0) (h1 : lo.getD 0 < hi.getD n) (h2 : hi.getD n ≤ n) : evSlice Try.prog 23 (.row o 1 i n) lo hi = some (.row o 1 (i + (lo.getD 0).toNat) ((hi.getD n).toNat - (lo.getD 0).toNat)) := sl_rowlt un_23 sz_9 h0 h1 h2
theorem sle_23 {o i n : Nat} {lo hi : Option Int} (h0 : 0 ≤ lo.getD 0) (h1 : lo.getD 0 = hi.getD n) (h2 : hi.getD n ≤ n) : evSlice Try.prog 23 (.row o 1 i n) lo hi = some (.lst true 1 []) := sl_roweq un_23 sz_9 h0 h1 h2
theorem lpl_23 {ty sz : Nat} {k : Bool} {es : List PV} : lenP Try.prog 23 ty (.lst k sz es) = some (.val (.int .i64 es.length)) := lp_lst el_23
theorem lpr_23 {ty o sz i n : Nat} : lenP Try.prog 23 ty (.row o sz i n) = some (.val (.int .i64 n)) := lp_row el_23
theorem lpn_23 {ty : Nat} : lenP Try.prog 23 ty (.val (.slice none 0 0)) = some (.val (.int .i64 0)) := lp_nil un_23
theorem oz_23 : ofVal (.slice none 0 0) = .val (.slice none 0 0) := rfl
theorem ea_23 {Γ : Ctx} (s : AS) (ρ : Operand → PV) : evEff Try.prog Γ s ρ (.alloc 23) = some (.own s.nx 1 0 0, upd s.ob s.nx (some (23, 1, [.val (.slice none 0 0)])), s.nx + 1) := ea_of ze_23 (by kernel_rfl) rfl rfl s ρ
theorem em_23 {Γ : Ctx} (s : AS) (ρ : Operand → PV) (l c : Operand) : evEff Try.prog Γ s ρ (.makeSlice 23 l c) = mkEv 9 1 16 (.string ByteArray.empty) s (ρ l) (ρ c) := em_of el_23 ze_9 sz_9 by_9 (by kernel_rfl) rfl s ρ l c
theorem eap_23 {Γ : Ctx} (s : AS) (ρ : Operand → PV) (x y : Operand) : evEff Try.prog Γ s ρ (.call { callee := .builtin .append, args := #[x, y], argTypes := #[23, 23] }) = apEv 9 1 16 s.nx s.ob (ρ x) (obOf s.ob (ρ x)) (sliceEs s.ob 1 (ρ y)) := eap_of el_23 ze_9 sz_9 by_9 (by decide) rfl s ρ x y
theorem ecp_23 {Γ : Ctx} (s : AS) (ρ : Operand → PV) (x y : Operand) (t' : Nat) : evEff Try.prog Γ s ρ (.call { callee := .builtin .copy, args := #[x, y], argTypes := #[23, t'] }) = cpX 1 s.nx s.ob (ρ x) (obOf s.ob (ρ x)) (srcEs s.ob 1 (ρ y)) := ecp_of el_23 sz_9 s ρ x y t'
theorem bs_23 : isByteSlice Try.prog 23 = false := by kernel_rfl
theorem is_23 : isStr Try.prog 23 = false := by kernel_rfl
theorem sz_40 : tySize Try.prog 40 = some 1 := by kernel_rfl
theorem ag_40 : tyAgg Try.prog 40 = some false := by kernel_rfl
theorem by_40 : tyBytes Try.prog 40 = some 24 := by kernel_rfl
theorem ze_40 : zeroOf Try.prog 40 = some (.slice none 0 0) := by kernel_rfl
theorem un_40 : Try.prog.underlying 40 = some (.slice 3) := by kernel_rfl
theorem el_40 : tyElem Try.prog 40 = some 3 := by kernel_rfl
theorem ix_40 {k : Bool} {es : List PV} {i : Int} (h0 : 0 ≤ i) (h1 : i < (es.length : Int)) : evIndexAddr Try.prog 40 (.lst k 1 es) i = some (.ptr k ((es[i.toNat]?).getD .dead) 0) := ix_lst un_40 sz_3 h0 h1
theorem ixr_40 {o j n : Nat} {i : Int} (h0 : 0 ≤ i) (h1 : i < (n : Int)) : evIndexAddr Try.prog 40 (.row o 1 j n) i = some (.own o 1 (j + i.toNat) 0) := ix_row un_40 sz_3 h0 h1
theorem sl_40 {k : Bool} {es : List PV} {lo hi : Option Int} (h0 : 0 ≤ lo.getD 0) (h1 : lo.getD 0 ≤ hi.getD es.length) (h2 : hi.getD es.length ≤ es.length) : evSlice Try.prog 40 (.lst k 1 es) lo hi = some (.lst k 1 ((es.drop (lo.getD 0).toNat).take ((hi.getD es.length).toNat - (lo.getD 0).toNat))) := sl_lst un_40 sz_3 h0 h1 h2
theorem slr_40 {o i n : Nat} {lo hi : Option Int} (h0 : 0 ≤ lo.getD 0) (h1 : lo.getD 0 < hi.getD n) (h2 : hi.getD n ≤ n) : evSlice Try.prog 40 (.row o 1 i n) lo hi = some (.row o 1 (i + (lo.getD 0).toNat) ((hi.getD n).toNat - (lo.getD 0).toNat)) := sl_rowlt un_40 sz_3 h0 h1 h2
theorem sle_40 {o i n : Nat} {lo hi : Option Int} (h0 : 0 ≤ lo.getD 0) (h1 : lo.getD 0 = hi.getD n) (h2 : hi.getD n ≤ n) : evSlice Try.prog 40 (.row o 1 i n) lo hi = some (.lst true 1 []) := sl_roweq un_40 sz_3 h0 h1 h2
theorem lpl_40 {ty sz : Nat} {k : Bool} {es : List PV} : lenP Try.prog 40 ty (.lst k sz es) = some (.val (.int .i64 es.length)) := lp_lst el_40
theorem lpr_40 {ty o sz i n : Nat} : lenP Try.prog 40 ty (.row o sz i n) = some (.val (.int .i64 n)) := lp_row el_40
theorem lpn_40 {ty : Nat} : lenP Try.prog 40 ty (.val (.slice none 0 0)) = some (.val (.int .i64 0)) := lp_nil un_40
theorem oz_40 : ofVal (.slice none 0 0) = .val (.slice none 0 0) := rfl
theorem ea_40 {Γ : Ctx} (s : AS) (ρ : Operand → PV) : evEff Try.prog Γ s ρ (.alloc 40) = some (.own s.nx 1 0 0, upd s.ob s.nx (some (40, 1, [.val (.slice none 0 0)])), s.nx + 1) := ea_of ze_40 (by kernel_rfl) rfl rfl s ρ
theorem em_40 {Γ : Ctx} (s : AS) (ρ : Operand → PV) (l c : Operand) : evEff Try.prog Γ s ρ (.makeSlice 40 l c) = mkEv 3 1 8 (.int .i64 0) s (ρ l) (ρ c) := em_of el_40 ze_3 sz_3 by_3 (by kernel_rfl) rfl s ρ l c
theorem eap_40 {Γ : Ctx} (s : AS) (ρ : Operand → PV) (x y : Operand) : evEff Try.prog Γ s ρ (.call { callee := .builtin .append, args := #[x, y], argTypes := #[40, 40] }) = apEv 3 1 8 s.nx s.ob (ρ x) (obOf s.ob (ρ x)) (sliceEs s.ob 1 (ρ y)) := eap_of el_40 ze_3 sz_3 by_3 (by decide) rfl s ρ x y
theorem ecp_40 {Γ : Ctx} (s : AS) (ρ : Operand → PV) (x y : Operand) (t' : Nat) : evEff Try.prog Γ s ρ (.call { callee := .builtin .copy, args := #[x, y], argTypes := #[40, t'] }) = cpX 1 s.nx s.ob (ρ x) (obOf s.ob (ρ x)) (srcEs s.ob 1 (ρ y)) := ecp_of el_40 sz_3 s ρ x y t'
theorem bs_40 : isByteSlice Try.prog 40 = false := by kernel_rfl
theorem is_40 : isStr Try.prog 40 = false := by kernel_rfl
theorem sz_58 : tySize Try.prog 58 = some 1 := by kernel_rfl
theorem ag_58 : tyAgg Try.prog 58 = some false := by kernel_rfl
theorem by_58 : tyBytes Try.prog 58 = some 24 := by kernel_rfl
theorem ze_58 : zeroOf Try.prog 58 = some (.slice none 0 0) := by kernel_rfl
theorem un_58 : Try.prog.underlying 58 = some (.slice 65) := by kernel_rfl
theorem el_58 : tyElem Try.prog 58 = some 65 := by kernel_rfl
theorem ix_58 {k : Bool} {es : List PV} {i : Int} (h0 : 0 ≤ i) (h1 : i < (es.length : Int)) : evIndexAddr Try.prog 58 (.lst k 7 es) i = some (.ptr k ((es[i.toNat]?).getD .dead) 0) := ix_lst un_58 sz_65 h0 h1
theorem ixr_58 {o j n : Nat} {i : Int} (h0 : 0 ≤ i) (h1 : i < (n : Int)) : evIndexAddr Try.prog 58 (.row o 7 j n) i = some (.own o 7 (j + i.toNat) 0) := ix_row un_58 sz_65 h0 h1
theorem sl_58 {k : Bool} {es : List PV} {lo hi : Option Int} (h0 : 0 ≤ lo.getD 0) (h1 : lo.getD 0 ≤ hi.getD es.length) (h2 : hi.getD es.length ≤ es.length) : evSlice Try.prog 58 (.lst k 7 es) lo hi = some (.lst k 7 ((es.drop (lo.getD 0).toNat).take ((hi.getD es.length).toNat - (lo.getD 0).toNat))) := sl_lst un_58 sz_65 h0 h1 h2
theorem slr_58 {o i n : Nat} {lo hi : Option Int} (h0 : 0 ≤ lo.getD 0) (h1 : lo.getD 0 < hi.getD n) (h2 : hi.getD n ≤ n) : evSlice Try.prog 58 (.row o 7 i n) lo hi = some (.row o 7 (i + (lo.getD 0).toNat) ((hi.getD n).toNat - (lo.getD 0).toNat)) := sl_rowlt un_58 sz_65 h0 h1 h2
theorem sle_58 {o i n : Nat} {lo hi : Option Int} (h0 : 0 ≤ lo.getD 0) (h1 : lo.getD 0 = hi.getD n) (h2 : hi.getD n ≤ n) : evSlice Try.prog 58 (.row o 7 i n) lo hi = some (.lst true 7 []) := sl_roweq un_58 sz_65 h0 h1 h2
theorem lpl_58 {ty sz : Nat} {k : Bool} {es : List PV} : lenP Try.prog 58 ty (.lst k sz es) = some (.val (.int .i64 es.length)) := lp_lst el_58
theorem lpr_58 {ty o sz i n : Nat} : lenP Try.prog 58 ty (.row o sz i n) = some (.val (.int .i64 n)) := lp_row el_58
theorem lpn_58 {ty : Nat} : lenP Try.prog 58 ty (.val (.slice none 0 0)) = some (.val (.int .i64 0)) := lp_nil un_58
theorem oz_58 : ofVal (.slice none 0 0) = .val (.slice none 0 0) := rfl
theorem ea_58 {Γ : Ctx} (s : AS) (ρ : Operand → PV) : evEff Try.prog Γ s ρ (.alloc 58) = some (.own s.nx 1 0 0, upd s.ob s.nx (some (58, 1, [.val (.slice none 0 0)])), s.nx + 1) := ea_of ze_58 (by kernel_rfl) rfl rfl s ρ
theorem em_58 {Γ : Ctx} (s : AS) (ρ : Operand → PV) (l c : Operand) : evEff Try.prog Γ s ρ (.makeSlice 58 l c) = mkEv 65 7 56 (.agg #[.int .i64 0, .int .i64 0, .int .i64 0, .int .i64 0, .int .i64 0, .int .i64 0, .bool false]) s (ρ l) (ρ c) := em_of el_58 ze_65 sz_65 by_65 (by kernel_rfl) rfl s ρ l c
theorem eap_58 {Γ : Ctx} (s : AS) (ρ : Operand → PV) (x y : Operand) : evEff Try.prog Γ s ρ (.call { callee := .builtin .append, args := #[x, y], argTypes := #[58, 58] }) = apEv 65 7 56 s.nx s.ob (ρ x) (obOf s.ob (ρ x)) (sliceEs s.ob 7 (ρ y)) := eap_of el_58 ze_65 sz_65 by_65 (by decide) rfl s ρ x y
theorem ecp_58 {Γ : Ctx} (s : AS) (ρ : Operand → PV) (x y : Operand) (t' : Nat) : evEff Try.prog Γ s ρ (.call { callee := .builtin .copy, args := #[x, y], argTypes := #[58, t'] }) = cpX 7 s.nx s.ob (ρ x) (obOf s.ob (ρ x)) (srcEs s.ob 7 (ρ y)) := ecp_of el_58 sz_65 s ρ x y t'
theorem bs_58 : isByteSlice Try.prog 58 = false := by kernel_rfl
theorem is_58 : isStr Try.prog 58 = false := by kernel_rfl
theorem sz_86 : tySize Try.prog 86 = some 1 := by kernel_rfl
theorem ag_86 : tyAgg Try.prog 86 = some false := by kernel_rfl
theorem by_86 : tyBytes Try.prog 86 = some 24 := by kernel_rfl
theorem ze_86 : zeroOf Try.prog 86 = some (.slice none 0 0) := by kernel_rfl
theorem un_86 : Try.prog.underlying 86 = some (.slice 95) := by kernel_rfl
theorem el_86 : tyElem Try.prog 86 = some 95 := by kernel_rfl
theorem ix_86 {k : Bool} {es : List PV} {i : Int} (h0 : 0 ≤ i) (h1 : i < (es.length : Int)) : evIndexAddr Try.prog 86 (.lst k 4 es) i = some (.ptr k ((es[i.toNat]?).getD .dead) 0) := ix_lst un_86 sz_95 h0 h1
theorem ixr_86 {o j n : Nat} {i : Int} (h0 : 0 ≤ i) (h1 : i < (n : Int)) : evIndexAddr Try.prog 86 (.row o 4 j n) i = some (.own o 4 (j + i.toNat) 0) := ix_row un_86 sz_95 h0 h1
theorem sl_86 {k : Bool} {es : List PV} {lo hi : Option Int} (h0 : 0 ≤ lo.getD 0) (h1 : lo.getD 0 ≤ hi.getD es.length) (h2 : hi.getD es.length ≤ es.length) : evSlice Try.prog 86 (.lst k 4 es) lo hi = some (.lst k 4 ((es.drop (lo.getD 0).toNat).take ((hi.getD es.length).toNat - (lo.getD 0).toNat))) := sl_lst un_86 sz_95 h0 h1 h2
theorem slr_86 {o i n : Nat} {lo hi : Option Int} (h0 : 0 ≤ lo.getD 0) (h1 : lo.getD 0 < hi.getD n) (h2 : hi.getD n ≤ n) : evSlice Try.prog 86 (.row o 4 i n) lo hi = some (.row o 4 (i + (lo.getD 0).toNat) ((hi.getD n).toNat - (lo.getD 0).toNat)) := sl_rowlt un_86 sz_95 h0 h1 h2
theorem sle_86 {o i n : Nat} {lo hi : Option Int} (h0 : 0 ≤ lo.getD 0) (h1 : lo.getD 0 = hi.getD n) (h2 : hi.getD n ≤ n) : evSlice Try.prog 86 (.row o 4 i n) lo hi = some (.lst true 4 []) := sl_roweq un_86 sz_95 h0 h1 h2
theorem lpl_86 {ty sz : Nat} {k : Bool} {es : List PV} : lenP Try.prog 86 ty (.lst k sz es) = some (.val (.int .i64 es.length)) := lp_lst el_86
theorem lpr_86 {ty o sz i n : Nat} : lenP Try.prog 86 ty (.row o sz i n) = some (.val (.int .i64 n)) := lp_row el_86
theorem lpn_86 {ty : Nat} : lenP Try.prog 86 ty (.val (.slice none 0 0)) = some (.val (.int .i64 0)) := lp_nil un_86
theorem oz_86 : ofVal (.slice none 0 0) = .val (.slice none 0 0) := rfl
theorem ea_86 {Γ : Ctx} (s : AS) (ρ : Operand → PV) : evEff Try.prog Γ s ρ (.alloc 86) = some (.own s.nx 1 0 0, upd s.ob s.nx (some (86, 1, [.val (.slice none 0 0)])), s.nx + 1) := ea_of ze_86 (by kernel_rfl) rfl rfl s ρ
theorem em_86 {Γ : Ctx} (s : AS) (ρ : Operand → PV) (l c : Operand) : evEff Try.prog Γ s ρ (.makeSlice 86 l c) = mkEv 95 4 32 (.agg #[.int .i64 0, .int .i64 0, .int .i64 0, .int .i64 0]) s (ρ l) (ρ c) := em_of el_86 ze_95 sz_95 by_95 (by kernel_rfl) rfl s ρ l c
theorem eap_86 {Γ : Ctx} (s : AS) (ρ : Operand → PV) (x y : Operand) : evEff Try.prog Γ s ρ (.call { callee := .builtin .append, args := #[x, y], argTypes := #[86, 86] }) = apEv 95 4 32 s.nx s.ob (ρ x) (obOf s.ob (ρ x)) (sliceEs s.ob 4 (ρ y)) := eap_of el_86 ze_95 sz_95 by_95 (by decide) rfl s ρ x y
theorem ecp_86 {Γ : Ctx} (s : AS) (ρ : Operand → PV) (x y : Operand) (t' : Nat) : evEff Try.prog Γ s ρ (.call { callee := .builtin .copy, args := #[x, y], argTypes := #[86, t'] }) = cpX 4 s.nx s.ob (ρ x) (obOf s.ob (ρ x)) (srcEs s.ob 4 (ρ y)) := ecp_of el_86 sz_95 s ρ x y t'
theorem bs_86 : isByteSlice Try.prog 86 = false := by kernel_rfl
theorem is_86 : isStr Try.prog 86 = false := by kernel_rfl
theorem sz_87 : tySize Try.prog 87 = some 1 := by kernel_rfl
theorem ag_87 : tyAgg Try.prog 87 = some false := by kernel_rfl
theorem by_87 : tyBytes Try.prog 87 = some 24 := by kernel_rfl
theorem ze_87 : zeroOf Try.prog 87 = some (.slice none 0 0) := by kernel_rfl
theorem un_87 : Try.prog.underlying 87 = some (.slice 88) := by kernel_rfl
theorem el_87 : tyElem Try.prog 87 = some 88 := by kernel_rfl
theorem ix_87 {k : Bool} {es : List PV} {i : Int} (h0 : 0 ≤ i) (h1 : i < (es.length : Int)) : evIndexAddr Try.prog 87 (.lst k 4 es) i = some (.ptr k ((es[i.toNat]?).getD .dead) 0) := ix_lst un_87 sz_88 h0 h1
theorem ixr_87 {o j n : Nat} {i : Int} (h0 : 0 ≤ i) (h1 : i < (n : Int)) : evIndexAddr Try.prog 87 (.row o 4 j n) i = some (.own o 4 (j + i.toNat) 0) := ix_row un_87 sz_88 h0 h1
theorem sl_87 {k : Bool} {es : List PV} {lo hi : Option Int} (h0 : 0 ≤ lo.getD 0) (h1 : lo.getD 0 ≤ hi.getD es.length) (h2 : hi.getD es.length ≤ es.length) : evSlice Try.prog 87 (.lst k 4 es) lo hi = some (.lst k 4 ((es.drop (lo.getD 0).toNat).take ((hi.getD es.length).toNat - (lo.getD 0).toNat))) := sl_lst un_87 sz_88 h0 h1 h2
theorem slr_87 {o i n : Nat} {lo hi : Option Int} (h0 : 0 ≤ lo.getD 0) (h1 : lo.getD 0 < hi.getD n) (h2 : hi.getD n ≤ n) : evSlice Try.prog 87 (.row o 4 i n) lo hi = some (.row o 4 (i + (lo.getD 0).toNat) ((hi.getD n).toNat - (lo.getD 0).toNat)) := sl_rowlt un_87 sz_88 h0 h1 h2
theorem sle_87 {o i n : Nat} {lo hi : Option Int} (h0 : 0 ≤ lo.getD 0) (h1 : lo.getD 0 = hi.getD n) (h2 : hi.getD n ≤ n) : evSlice Try.prog 87 (.row o 4 i n) lo hi = some (.lst true 4 []) := sl_roweq un_87 sz_88 h0 h1 h2
theorem lpl_87 {ty sz : Nat} {k : Bool} {es : List PV} : lenP Try.prog 87 ty (.lst k sz es) = some (.val (.int .i64 es.length)) := lp_lst el_87
theorem lpr_87 {ty o sz i n : Nat} : lenP Try.prog 87 ty (.row o sz i n) = some (.val (.int .i64 n)) := lp_row el_87
theorem lpn_87 {ty : Nat} : lenP Try.prog 87 ty (.val (.slice none 0 0)) = some (.val (.int .i64 0)) := lp_nil un_87
theorem oz_87 : ofVal (.slice none 0 0) = .val (.slice none 0 0) := rfl
theorem ea_87 {Γ : Ctx} (s : AS) (ρ : Operand → PV) : evEff Try.prog Γ s ρ (.alloc 87) = some (.own s.nx 1 0 0, upd s.ob s.nx (some (87, 1, [.val (.slice none 0 0)])), s.nx + 1) := ea_of ze_87 (by kernel_rfl) rfl rfl s ρ
theorem em_87 {Γ : Ctx} (s : AS) (ρ : Operand → PV) (l c : Operand) : evEff Try.prog Γ s ρ (.makeSlice 87 l c) = mkEv 88 4 4 (.agg #[.bool false, .bool false, .bool false, .bool false]) s (ρ l) (ρ c) := em_of el_87 ze_88 sz_88 by_88 (by kernel_rfl) rfl s ρ l c
theorem eap_87 {Γ : Ctx} (s : AS) (ρ : Operand → PV) (x y : Operand) : evEff Try.prog Γ s ρ (.call { callee := .builtin .append, args := #[x, y], argTypes := #[87, 87] }) = apEv 88 4 4 s.nx s.ob (ρ x) (obOf s.ob (ρ x)) (sliceEs s.ob 4 (ρ y)) := eap_of el_87 ze_88 sz_88 by_88 (by decide) rfl s ρ x y
theorem ecp_87 {Γ : Ctx} (s : AS) (ρ : Operand → PV) (x y : Operand) (t' : Nat) : evEff Try.prog Γ s ρ (.call { callee := .builtin .copy, args := #[x, y], argTypes := #[87, t'] }) = cpX 4 s.nx s.ob (ρ x) (obOf s.ob (ρ x)) (srcEs s.ob 4 (ρ y)) := ecp_of el_87 sz_88 s ρ x y t'
theorem bs_87 : isByteSlice Try.prog 87 = false := by kernel_rfl
theorem is_87 : isStr Try.prog 87 = false := by kernel_rfl
theorem sz_130 : tySize Try.prog 130 = some 1 := by kernel_rfl
theorem ag_130 : tyAgg Try.prog 130 = some false := by kernel_rfl
theorem by_130 : tyBytes Try.prog 130 = some 24 := by kernel_rfl
theorem ze_130 : zeroOf Try.prog 130 = some (.slice none 0 0) := by kernel_rfl
theorem un_130 : Try.prog.underlying 130 = some (.slice 57) := by kernel_rfl
theorem el_130 : tyElem Try.prog 130 = some 57 := by kernel_rfl
theorem ix_130 {k : Bool} {es : List PV} {i : Int} (h0 : 0 ≤ i) (h1 : i < (es.length : Int)) : evIndexAddr Try.prog 130 (.lst k 4 es) i = some (.ptr k ((es[i.toNat]?).getD .dead) 0) := ix_lst un_130 sz_57 h0 h1
theorem ixr_130 {o j n : Nat} {i : Int} (h0 : 0 ≤ i) (h1 : i < (n : Int)) : evIndexAddr Try.prog 130 (.row o 4 j n) i = some (.own o 4 (j + i.toNat) 0) := ix_row un_130 sz_57 h0 h1
theorem sl_130 {k : Bool} {es : List PV} {lo hi : Option Int} (h0 : 0 ≤ lo.getD 0) (h1 : lo.getD 0 ≤ hi.getD es.length) (h2 : hi.getD es.length ≤ es.length) : evSlice Try.prog 130 (.lst k 4 es) lo hi = some (.lst k 4 ((es.drop (lo.getD 0).toNat).take ((hi.getD es.length).toNat - (lo.getD 0).toNat))) := sl_lst un_130 sz_57 h0 h1 h2
theorem slr_130 {o i n : Nat} {lo hi : Option Int} (h0 : 0 ≤ lo.getD 0) (h1 : lo.getD 0 < hi.getD n) (h2 : hi.getD n ≤ n) : evSlice Try.prog 130 (.row o 4 i n) lo hi = some (.row o 4 (i + (lo.getD 0).toNat) ((hi.getD n).toNat - (lo.getD 0).toNat)) := sl_rowlt un_130 sz_57 h0 h1 h2
theorem sle_130 {o i n : Nat} {lo hi : Option Int} (h0 : 0 ≤ lo.getD 0) (h1 : lo.getD 0 = hi.getD n) (h2 : hi.getD n ≤ n) : evSlice Try.prog 130 (.row o 4 i n) lo hi = some (.lst true 4 []) := sl_roweq un_130 sz_57 h0 h1 h2
theorem lpl_130 {ty sz : Nat} {k : Bool} {es : List PV} : lenP Try.prog 130 ty (.lst k sz es) = some (.val (.int .i64 es.length)) := lp_lst el_130
theorem lpr_130 {ty o sz i n : Nat} : lenP Try.prog 130 ty (.row o sz i n) = some (.val (.int .i64 n)) := lp_row el_130
theorem lpn_130 {ty : Nat} : lenP Try.prog 130 ty (.val (.slice none 0 0)) = some (.val (.int .i64 0)) := lp_nil un_130
theorem oz_130 : ofVal (.slice none 0 0) = .val (.slice none 0 0) := rfl
theorem ea_130 {Γ : Ctx} (s : AS) (ρ : Operand → PV) : evEff Try.prog Γ s ρ (.alloc 130) = some (.own s.nx 1 0 0, upd s.ob s.nx (some (130, 1, [.val (.slice none 0 0)])), s.nx + 1) := ea_of ze_130 (by kernel_rfl) rfl rfl s ρ
theorem em_130 {Γ : Ctx} (s : AS) (ρ : Operand → PV) (l c : Operand) : evEff Try.prog Γ s ρ (.makeSlice 130 l c) = mkEv 57 4 32 (.agg #[.int .i64 0, .int .i64 0, .int .i64 0, .int .i64 0]) s (ρ l) (ρ c) := em_of el_130 ze_57 sz_57 by_57 (by kernel_rfl) rfl s ρ l c
theorem eap_130 {Γ : Ctx} (s : AS) (ρ : Operand → PV) (x y : Operand) : evEff Try.prog Γ s ρ (.call { callee := .builtin .append, args := #[x, y], argTypes := #[130, 130] }) = apEv 57 4 32 s.nx s.ob (ρ x) (obOf s.ob (ρ x)) (sliceEs s.ob 4 (ρ y)) := eap_of el_130 ze_57 sz_57 by_57 (by decide) rfl s ρ x y
theorem ecp_130 {Γ : Ctx} (s : AS) (ρ : Operand → PV) (x y : Operand) (t' : Nat) : evEff Try.prog Γ s ρ (.call { callee := .builtin .copy, args := #[x, y], argTypes := #[130, t'] }) = cpX 4 s.nx s.ob (ρ x) (obOf s.ob (ρ x)) (srcEs s.ob 4 (ρ y)) := ecp_of el_130 sz_57 s ρ x y t'
theorem bs_130 : isByteSlice Try.prog 130 = false := by kernel_rfl
theorem is_130 : isStr Try.prog 130 = false := by kernel_rfl
theorem sz_36 : tySize Try.prog 36 = some 1 := by kernel_rfl
theorem ag_36 : tyAgg Try.prog 36 = some false := by kernel_rfl
theorem by_36 : tyBytes Try.prog 36 = some 24 := by kernel_rfl
theorem ze_36 : zeroOf Try.prog 36 = some (.slice none 0 0) := by kernel_rfl
theorem un_36 : Try.prog.underlying 36 = some (.slice 23) := by kernel_rfl
theorem el_36 : tyElem Try.prog 36 = some 23 := by kernel_rfl
theorem ix_36 {k : Bool} {es : List PV} {i : Int} (h0 : 0 ≤ i) (h1 : i < (es.length : Int)) : evIndexAddr Try.prog 36 (.lst k 1 es) i = some (.ptr k ((es[i.toNat]?).getD .dead) 0) := ix_lst un_36 sz_23 h0 h1
theorem ixr_36 {o j n : Nat} {i : Int} (h0 : 0 ≤ i) (h1 : i < (n : Int)) : evIndexAddr Try.prog 36 (.row o 1 j n) i = some (.own o 1 (j + i.toNat) 0) := ix_row un_36 sz_23 h0 h1
theorem sl_36 {k : Bool} {es : List PV} {lo hi : Option Int} (h0 : 0 ≤ lo.getD 0) (h1 : lo.getD 0 ≤ hi.getD es.length) (h2 : hi.getD es.length ≤ es.length) : evSlice Try.prog 36 (.lst k 1 es) lo hi = some (.lst k 1 ((es.drop (lo.getD 0).toNat).take ((hi.getD es.length).toNat - (lo.getD 0).toNat))) := sl_lst un_36 sz_23 h0 h1 h2
theorem slr_36 {o i n : Nat} {lo hi : Option Int} (h0 : 0 ≤ lo.getD 0) (h1 : lo.getD 0 < hi.getD n) (h2 : hi.getD n ≤ n) : evSlice Try.prog 36 (.row o 1 i n) lo hi = some (.row o 1 (i + (lo.getD 0).toNat) ((hi.getD n).toNat - (lo.getD 0).toNat)) := sl_rowlt un_36 sz_23 h0 h1 h2
theorem sle_36 {o i n : Nat} {lo hi : Option Int} (h0 : 0 ≤ lo.getD 0) (h1 : lo.getD 0 = hi.getD n) (h2 : hi.getD n ≤ n) : evSlice Try.prog 36 (.row o 1 i n) lo hi = some (.lst true 1 []) := sl_roweq un_36 sz_23 h0 h1 h2
theorem lpl_36 {ty sz : Nat} {k : Bool} {es : List PV} : lenP Try.prog 36 ty (.lst k sz es) = some (.val (.int .i64 es.length)) := lp_lst el_36
theorem lpr_36 {ty o sz i n : Nat} : lenP Try.prog 36 ty (.row o sz i n) = some (.val (.int .i64 n)) := lp_row el_36
theorem lpn_36 {ty : Nat} : lenP Try.prog 36 ty (.val (.slice none 0 0)) = some (.val (.int .i64 0)) := lp_nil un_36
theorem oz_36 : ofVal (.slice none 0 0) = .val (.slice none 0 0) := rfl
theorem ea_36 {Γ : Ctx} (s : AS) (ρ : Operand → PV) : evEff Try.prog Γ s ρ (.alloc 36) = some (.own s.nx 1 0 0, upd s.ob s.nx (some (36, 1, [.val (.slice none 0 0)])), s.nx + 1) := ea_of ze_36 (by kernel_rfl) rfl rfl s ρ
theorem em_36 {Γ : Ctx} (s : AS) (ρ : Operand → PV) (l c : Operand) : evEff Try.prog Γ s ρ (.makeSlice 36 l c) = mkEv 23 1 24 (.slice none 0 0) s (ρ l) (ρ c) := em_of el_36 ze_23 sz_23 by_23 (by kernel_rfl) rfl s ρ l c
theorem eap_36 {Γ : Ctx} (s : AS) (ρ : Operand → PV) (x y : Operand) : evEff Try.prog Γ s ρ (.call { callee := .builtin .append, args := #[x, y], argTypes := #[36, 36] }) = apEv 23 1 24 s.nx s.ob (ρ x) (obOf s.ob (ρ x)) (sliceEs s.ob 1 (ρ y)) := eap_of el_36 ze_23 sz_23 by_23 (by decide) rfl s ρ x y
theorem ecp_36 {Γ : Ctx} (s : AS) (ρ : Operand → PV) (x y : Operand) (t' : Nat) : evEff Try.prog Γ s ρ (.call { callee := .builtin .copy, args := #[x, y], argTypes := #[36, t'] }) = cpX 1 s.nx s.ob (ρ x) (obOf s.ob (ρ x)) (srcEs s.ob 1 (ρ y)) := ecp_of el_36 sz_23 s ρ x y t'
theorem bs_36 : isByteSlice Try.prog 36 = false := by kernel_rfl
theorem is_36 : isStr Try.prog 36 = false := by kernel_rfl
theorem cvi_2_2 {k : IntKind} {n : Int} {es : Option (List PV)} : convP Try.prog 2 2 false es (some (.int k n)) = some (.val (.int .i64 (IntKind.i64.wrap n))) := cv_int un_2 un_2
theorem cvi_2_3 {k : IntKind} {n : Int} {es : Option (List PV)} : convP Try.prog 2 3 false es (some (.int k n)) = some (.val (.int .i64 (IntKind.i64.wrap n))) := cv_int un_2 un_3
theorem cvi_2_5 {k : IntKind} {n : Int} {es : Option (List PV)} : convP Try.prog 2 5 false es (some (.int k n)) = some (.val (.int .u8 (IntKind.u8.wrap n))) := cv_int un_2 un_5
theorem cvi_2_12 {k : IntKind} {n : Int} {es : Option (List PV)} : convP Try.prog 2 12 false es (some (.int k n)) = some (.val (.int .u64 (IntKind.u64.wrap n))) := cv_int un_2 un_12
theorem cvi_2_21 {k : IntKind} {n : Int} {es : Option (List PV)} : convP Try.prog 2 21 false es (some (.int k n)) = some (.val (.int .i32 (IntKind.i32.wrap n))) := cv_int un_2 un_21
theorem cvi_2_139 {k : IntKind} {n : Int} {es : Option (List PV)} : convP Try.prog 2 139 false es (some (.int k n)) = some (.val (.int .u32 (IntKind.u32.wrap n))) := cv_int un_2 un_139
theorem cvi_3_2 {k : IntKind} {n : Int} {es : Option (List PV)} : convP Try.prog 3 2 false es (some (.int k n)) = some (.val (.int .i64 (IntKind.i64.wrap n))) := cv_int un_3 un_2
theorem cvi_3_3 {k : IntKind} {n : Int} {es : Option (List PV)} : convP Try.prog 3 3 false es (some (.int k n)) = some (.val (.int .i64 (IntKind.i64.wrap n))) := cv_int un_3 un_3
theorem cvi_3_5 {k : IntKind} {n : Int} {es : Option (List PV)} : convP Try.prog 3 5 false es (some (.int k n)) = some (.val (.int .u8 (IntKind.u8.wrap n))) := cv_int un_3 un_5
theorem cvi_3_12 {k : IntKind} {n : Int} {es : Option (List PV)} : convP Try.prog 3 12 false es (some (.int k n)) = some (.val (.int .u64 (IntKind.u64.wrap n))) := cv_int un_3 un_12
theorem cvi_3_21 {k : IntKind} {n : Int} {es : Option (List PV)} : convP Try.prog 3 21 false es (some (.int k n)) = some (.val (.int .i32 (IntKind.i32.wrap n))) := cv_int un_3 un_21
theorem cvi_3_139 {k : IntKind} {n : Int} {es : Option (List PV)} : convP Try.prog 3 139 false es (some (.int k n)) = some (.val (.int .u32 (IntKind.u32.wrap n))) := cv_int un_3 un_139
theorem cvi_5_2 {k : IntKind} {n : Int} {es : Option (List PV)} : convP Try.prog 5 2 false es (some (.int k n)) = some (.val (.int .i64 (IntKind.i64.wrap n))) := cv_int un_5 un_2
theorem cvi_5_3 {k : IntKind} {n : Int} {es : Option (List PV)} : convP Try.prog 5 3 false es (some (.int k n)) = some (.val (.int .i64 (IntKind.i64.wrap n))) := cv_int un_5 un_3
theorem cvi_5_5 {k : IntKind} {n : Int} {es : Option (List PV)} : convP Try.prog 5 5 false es (some (.int k n)) = some (.val (.int .u8 (IntKind.u8.wrap n))) := cv_int un_5 un_5
theorem cvi_5_12 {k : IntKind} {n : Int} {es : Option (List PV)} : convP Try.prog 5 12 false es (some (.int k n)) = some (.val (.int .u64 (IntKind.u64.wrap n))) := cv_int un_5 un_12
theorem cvi_5_21 {k : IntKind} {n : Int} {es : Option (List PV)} : convP Try.prog 5 21 false es (some (.int k n)) = some (.val (.int .i32 (IntKind.i32.wrap n))) := cv_int un_5 un_21
theorem cvi_5_139 {k : IntKind} {n : Int} {es : Option (List PV)} : convP Try.prog 5 139 false es (some (.int k n)) = some (.val (.int .u32 (IntKind.u32.wrap n))) := cv_int un_5 un_139
theorem cvi_12_2 {k : IntKind} {n : Int} {es : Option (List PV)} : convP Try.prog 12 2 false es (some (.int k n)) = some (.val (.int .i64 (IntKind.i64.wrap n))) := cv_int un_12 un_2
theorem cvi_12_3 {k : IntKind} {n : Int} {es : Option (List PV)} : convP Try.prog 12 3 false es (some (.int k n)) = some (.val (.int .i64 (IntKind.i64.wrap n))) := cv_int un_12 un_3
theorem cvi_12_5 {k : IntKind} {n : Int} {es : Option (List PV)} : convP Try.prog 12 5 false es (some (.int k n)) = some (.val (.int .u8 (IntKind.u8.wrap n))) := cv_int un_12 un_5
theorem cvi_12_12 {k : IntKind} {n : Int} {es : Option (List PV)} : convP Try.prog 12 12 false es (some (.int k n)) = some (.val (.int .u64 (IntKind.u64.wrap n))) := cv_int un_12 un_12
theorem cvi_12_21 {k : IntKind} {n : Int} {es : Option (List PV)} : convP Try.prog 12 21 false es (some (.int k n)) = some (.val (.int .i32 (IntKind.i32.wrap n))) := cv_int un_12 un_21
theorem cvi_12_139 {k : IntKind} {n : Int} {es : Option (List PV)} : convP Try.prog 12 139 false es (some (.int k n)) = some (.val (.int .u32 (IntKind.u32.wrap n))) := cv_int un_12 un_139
theorem cvi_21_2 {k : IntKind} {n : Int} {es : Option (List PV)} : convP Try.prog 21 2 false es (some (.int k n)) = some (.val (.int .i64 (IntKind.i64.wrap n))) := cv_int un_21 un_2
theorem cvi_21_3 {k : IntKind} {n : Int} {es : Option (List PV)} : convP Try.prog 21 3 false es (some (.int k n)) = some (.val (.int .i64 (IntKind.i64.wrap n))) := cv_int un_21 un_3
theorem cvi_21_5 {k : IntKind} {n : Int} {es : Option (List PV)} : convP Try.prog 21 5 false es (some (.int k n)) = some (.val (.int .u8 (IntKind.u8.wrap n))) := cv_int un_21 un_5
theorem cvi_21_12 {k : IntKind} {n : Int} {es : Option (List PV)} : convP Try.prog 21 12 false es (some (.int k n)) = some (.val (.int .u64 (IntKind.u64.wrap n))) := cv_int un_21 un_12
theorem cvi_21_21 {k : IntKind} {n : Int} {es : Option (List PV)} : convP Try.prog 21 21 false es (some (.int k n)) = some (.val (.int .i32 (IntKind.i32.wrap n))) := cv_int un_21 un_21
theorem cvi_21_139 {k : IntKind} {n : Int} {es : Option (List PV)} : convP Try.prog 21 139 false es (some (.int k n)) = some (.val (.int .u32 (IntKind.u32.wrap n))) := cv_int un_21 un_139
theorem cvi_139_2 {k : IntKind} {n : Int} {es : Option (List PV)} : convP Try.prog 139 2 false es (some (.int k n)) = some (.val (.int .i64 (IntKind.i64.wrap n))) := cv_int un_139 un_2
theorem cvi_139_3 {k : IntKind} {n : Int} {es : Option (List PV)} : convP Try.prog 139 3 false es (some (.int k n)) = some (.val (.int .i64 (IntKind.i64.wrap n))) := cv_int un_139 un_3
theorem cvi_139_5 {k : IntKind} {n : Int} {es : Option (List PV)} : convP Try.prog 139 5 false es (some (.int k n)) = some (.val (.int .u8 (IntKind.u8.wrap n))) := cv_int un_139 un_5
theorem cvi_139_12 {k : IntKind} {n : Int} {es : Option (List PV)} : convP Try.prog 139 12 false es (some (.int k n)) = some (.val (.int .u64 (IntKind.u64.wrap n))) := cv_int un_139 un_12
theorem cvi_139_21 {k : IntKind} {n : Int} {es : Option (List PV)} : convP Try.prog 139 21 false es (some (.int k n)) = some (.val (.int .i32 (IntKind.i32.wrap n))) := cv_int un_139 un_21
theorem cvi_139_139 {k : IntKind} {n : Int} {es : Option (List PV)} : convP Try.prog 139 139 false es (some (.int k n)) = some (.val (.int .u32 (IntKind.u32.wrap n))) := cv_int un_139 un_139
theorem rw_22_1 {a0 : PV} : rowEs Try.prog 22 1 [(0, a0)] = rowC 5 1 [a0] (okP 1 a0 && (true)) := rw_of el_22 sz_5 ze_5 _ (by decide) (by decide) rfl
theorem rw_23_0 : rowEs Try.prog 23 0 [] = rowC 9 1 [] (true) := rw_of el_23 sz_9 ze_9 _ (by decide) (by decide) rfl
theorem rw_23_1 {a0 : PV} : rowEs Try.prog 23 1 [(0, a0)] = rowC 9 1 [a0] (okP 1 a0 && (true)) := rw_of el_23 sz_9 ze_9 _ (by decide) (by decide) rfl
theorem rw_23_3 {a0 a1 a2 : PV} : rowEs Try.prog 23 3 [(0, a0), (1, a1), (2, a2)] = rowC 9 1 [a0, a1, a2] (okP 1 a0 && (okP 1 a1 && (okP 1 a2 && (true)))) := rw_of el_23 sz_9 ze_9 _ (by decide) (by decide) rfl
theorem rw_23_5 {a0 a1 a2 a3 a4 : PV} : rowEs Try.prog 23 5 [(0, a0), (1, a1), (2, a2), (3, a3), (4, a4)] = rowC 9 1 [a0, a1, a2, a3, a4] (okP 1 a0 && (okP 1 a1 && (okP 1 a2 && (okP 1 a3 && (okP 1 a4 && (true)))))) := rw_of el_23 sz_9 ze_9 _ (by decide) (by decide) rfl
theorem rw_23_6 {a0 a1 a2 a3 a4 a5 : PV} : rowEs Try.prog 23 6 [(0, a0), (1, a1), (2, a2), (3, a3), (4, a4), (5, a5)] = rowC 9 1 [a0, a1, a2, a3, a4, a5] (okP 1 a0 && (okP 1 a1 && (okP 1 a2 && (okP 1 a3 && (okP 1 a4 && (okP 1 a5 && (true))))))) := rw_of el_23 sz_9 ze_9 _ (by decide) (by decide) rfl
theorem rw_23_8 {a0 a1 a2 a3 a4 a5 a6 a7 : PV} : rowEs Try.prog 23 8 [(0, a0), (1, a1), (2, a2), (3, a3), (4, a4), (5, a5), (6, a6), (7, a7)] = rowC 9 1 [a0, a1, a2, a3, a4, a5, a6, a7] (okP 1 a0 && (okP 1 a1 && (okP 1 a2 && (okP 1 a3 && (okP 1 a4 && (okP 1 a5 && (okP 1 a6 && (okP 1 a7 && (true))))))))) := rw_of el_23 sz_9 ze_9 _ (by decide) (by decide) rfl
theorem rw_23_12 {a0 a1 a2 a3 a4 a5 a6 a7 a8 a9 a10 a11 : PV} : rowEs Try.prog 23 12 [(0, a0), (1, a1), (2, a2), (3, a3), (4, a4), (5, a5), (6, a6), (7, a7), (8, a8), (9, a9), (10, a10), (11, a11)] = rowC 9 1 [a0, a1, a2, a3, a4, a5, a6, a7, a8, a9, a10, a11] (okP 1 a0 && (okP 1 a1 && (okP 1 a2 && (okP 1 a3 && (okP 1 a4 && (okP 1 a5 && (okP 1 a6 && (okP 1 a7 && (okP 1 a8 && (okP 1 a9 && (okP 1 a10 && (okP 1 a11 && (true))))))))))))) := rw_of el_23 sz_9 ze_9 _ (by decide) (by decide) rfl
theorem rw_23_15 {a0 a1 a2 a3 a4 a5 a6 a7 a8 a9 a10 a11 a12 a13 a14 : PV} : rowEs Try.prog 23 15 [(0, a0), (1, a1), (2, a2), (3, a3), (4, a4), (5, a5), (6, a6), (7, a7), (8, a8), (9, a9), (10, a10), (11, a11), (12, a12), (13, a13), (14, a14)] = rowC 9 1 [a0, a1, a2, a3, a4, a5, a6, a7, a8, a9, a10, a11, a12, a13, a14] (okP 1 a0 && (okP 1 a1 && (okP 1 a2 && (okP 1 a3 && (okP 1 a4 && (okP 1 a5 && (okP 1 a6 && (okP 1 a7 && (okP 1 a8 && (okP 1 a9 && (okP 1 a10 && (okP 1 a11 && (okP 1 a12 && (okP 1 a13 && (okP 1 a14 && (true)))))))))))))))) := rw_of el_23 sz_9 ze_9 _ (by decide) (by decide) rfl
theorem rw_36_1 {a0 : PV} : rowEs Try.prog 36 1 [(0, a0)] = rowC 23 1 [a0] (okP 1 a0 && (true)) := rw_of el_36 sz_23 ze_23 _ (by decide) (by decide) rfl
theorem rw_40_0 : rowEs Try.prog 40 0 [] = rowC 3 1 [] (true) := rw_of el_40 sz_3 ze_3 _ (by decide) (by decide) rfl
theorem rw_40_1 {a0 : PV} : rowEs Try.prog 40 1 [(0, a0)] = rowC 3 1 [a0] (okP 1 a0 && (true)) := rw_of el_40 sz_3 ze_3 _ (by decide) (by decide) rfl
theorem rw_40_2 {a0 a1 : PV} : rowEs Try.prog 40 2 [(0, a0), (1, a1)] = rowC 3 1 [a0, a1] (okP 1 a0 && (okP 1 a1 && (true))) := rw_of el_40 sz_3 ze_3 _ (by decide) (by decide) rfl
theorem rw_40_3 {a0 a1 a2 : PV} : rowEs Try.prog 40 3 [(0, a0), (1, a1), (2, a2)] = rowC 3 1 [a0, a1, a2] (okP 1 a0 && (okP 1 a1 && (okP 1 a2 && (true)))) := rw_of el_40 sz_3 ze_3 _ (by decide) (by decide) rfl
theorem rw_40_6 {a0 a1 a2 a3 a4 a5 : PV} : rowEs Try.prog 40 6 [(0, a0), (1, a1), (2, a2), (3, a3), (4, a4), (5, a5)] = rowC 3 1 [a0, a1, a2, a3, a4, a5] (okP 1 a0 && (okP 1 a1 && (okP 1 a2 && (okP 1 a3 && (okP 1 a4 && (okP 1 a5 && (true))))))) := rw_of el_40 sz_3 ze_3 _ (by decide) (by decide) rfl
theorem rw_40_7 {a0 a1 a2 a3 a4 a5 a6 : PV} : rowEs Try.prog 40 7 [(0, a0), (1, a1), (2, a2), (3, a3), (4, a4), (5, a5), (6, a6)] = rowC 3 1 [a0, a1, a2, a3, a4, a5, a6] (okP 1 a0 && (okP 1 a1 && (okP 1 a2 && (okP 1 a3 && (okP 1 a4 && (okP 1 a5 && (okP 1 a6 && (true)))))))) := rw_of el_40 sz_3 ze_3 _ (by decide) (by decide) rfl
theorem rw_40_9 {a0 a1 a2 a3 a4 a5 a6 a7 a8 : PV} : rowEs Try.prog 40 9 [(0, a0), (1, a1), (2, a2), (3, a3), (4, a4), (5, a5), (6, a6), (7, a7), (8, a8)] = rowC 3 1 [a0, a1, a2, a3, a4, a5, a6, a7, a8] (okP 1 a0 && (okP 1 a1 && (okP 1 a2 && (okP 1 a3 && (okP 1 a4 && (okP 1 a5 && (okP 1 a6 && (okP 1 a7 && (okP 1 a8 && (true)))))))))) := rw_of el_40 sz_3 ze_3 _ (by decide) (by decide) rfl
theorem rw_40_10 {a0 a1 a2 a3 a4 a5 a6 a7 a8 a9 : PV} : rowEs Try.prog 40 10 [(0, a0), (1, a1), (2, a2), (3, a3), (4, a4), (5, a5), (6, a6), (7, a7), (8, a8), (9, a9)] = rowC 3 1 [a0, a1, a2, a3, a4, a5, a6, a7, a8, a9] (okP 1 a0 && (okP 1 a1 && (okP 1 a2 && (okP 1 a3 && (okP 1 a4 && (okP 1 a5 && (okP 1 a6 && (okP 1 a7 && (okP 1 a8 && (okP 1 a9 && (true))))))))))) := rw_of el_40 sz_3 ze_3 _ (by decide) (by decide) rfl
theorem rw_58_0 : rowEs Try.prog 58 0 [] = rowC 65 7 [] (true) := rw_of el_58 sz_65 ze_65 _ (by decide) (by decide) rfl
theorem rw_58_1 {a0 : PV} : rowEs Try.prog 58 1 [(0, a0)] = rowC 65 7 [a0] (okP 7 a0 && (true)) := rw_of el_58 sz_65 ze_65 _ (by decide) (by decide) rfl
theorem rw_58_3 {a0 a1 a2 : PV} : rowEs Try.prog 58 3 [(0, a0), (1, a1), (2, a2)] = rowC 65 7 [a0, a1, a2] (okP 7 a0 && (okP 7 a1 && (okP 7 a2 && (true)))) := rw_of el_58 sz_65 ze_65 _ (by decide) (by decide) rfl
theorem rw_130_1 {a0 : PV} : rowEs Try.prog 130 1 [(0, a0)] = rowC 57 4 [a0] (okP 4 a0 && (true)) := rw_of el_130 sz_57 ze_57 _ (by decide) (by decide) rfl
theorem mixed : Try.prog.follows .mixedOrders = true := by kernel_rfl
attribute [push_cast high]
  bz_7 bz_13 bz_37 bz_38 bz_44 bz_56 bz_57 bz_64 bz_65 bz_80 bz_81 bz_104 bz_105 bz_106 bz_107
attribute [push_cast]
  sz_2 ag_2 by_2 ze_2 un_2 oz_2 ea_2 bs_2 is_2 sz_3 ag_3 by_3 ze_3 un_3 oz_3 ea_3 bs_3 is_3 sz_4 ag_4 by_4 ze_4 un_4 bqe_4 bqn_4 oz_4 ea_4 bs_4 is_4 sz_5 ag_5 by_5 ze_5 un_5 oz_5 ea_5 bs_5 is_5 sz_7 ag_7 by_7 ze_7 fo_7_0 fo_7_1 fo_7_2 fo_7_3 pl_7 bl_7 oz_7 ea_7 bs_7 is_7 sz_9 ag_9 by_9 ze_9 un_9 lps_9 ixs_9 oz_9 ea_9 bs_9 is_9 sz_12 ag_12 by_12 ze_12 un_12 oz_12 ea_12 bs_12 is_12 sz_13 ag_13 by_13 ze_13 fo_13_0 fo_13_1 pl_13 bl_13 oz_13 ea_13 bs_13 is_13 sz_21 ag_21 by_21 ze_21 un_21 oz_21 ea_21 bs_21 is_21 sz_37 ag_37 by_37 ze_37 fo_37_0 fo_37_1 fo_37_2 fo_37_3 fo_37_4 pl_37 bl_37 oz_37 ea_37 bs_37 is_37 sz_38 ag_38 by_38 ze_38 fo_38_0 fo_38_1 fo_38_2 fo_38_3 fo_38_4 pl_38 bl_38 oz_38 ea_38 bs_38 is_38 sz_44 ag_44 by_44 ze_44 fo_44_0 fo_44_1 fo_44_2 fo_44_3 fo_44_4 pl_44 bl_44 oz_44 ea_44 bs_44 is_44 sz_56 ag_56 by_56 ze_56 fo_56_0 fo_56_1 fo_56_2 fo_56_3 pl_56 bl_56 oz_56 ea_56 bs_56 is_56 sz_57 ag_57 by_57 ze_57 fo_57_0 fo_57_1 fo_57_2 fo_57_3 pl_57 bl_57 oz_57 ea_57 sqeql_57 sqneq_57 bs_57 is_57 sz_64 ag_64 by_64 ze_64 fo_64_0 fo_64_1 fo_64_2 fo_64_3 pl_64 bl_64 oz_64 ea_64 bs_64 is_64 sz_65 ag_65 by_65 ze_65 fo_65_0 fo_65_1 fo_65_2 fo_65_3 pl_65 bl_65 oz_65 ea_65 bs_65 is_65 sz_80 ag_80 by_80 ze_80 fo_80_0 fo_80_1 pl_80 bl_80 oz_80 ea_80 bs_80 is_80 sz_81 ag_81 by_81 ze_81 fo_81_0 fo_81_1 pl_81 bl_81 oz_81 ea_81 bs_81 is_81 sz_88 ag_88 by_88 ze_88 un_88 ixa_88 ixp_88 bl_88 oz_88 ea_88 bs_88 is_88 sz_95 ag_95 by_95 ze_95 un_95 ixa_95 ixp_95 bl_95 oz_95 ea_95 bs_95 is_95 sz_104 ag_104 by_104 ze_104 fo_104_0 fo_104_1 fo_104_2 pl_104 bl_104 oz_104 ea_104 sqeql_104 sqneq_104 bs_104 is_104 sz_105 ag_105 by_105 ze_105 fo_105_0 fo_105_1 fo_105_2 pl_105 bl_105 oz_105 ea_105 sqeql_105 sqneq_105 bs_105 is_105 sz_106 ag_106 by_106 ze_106 fo_106_0 fo_106_1 pl_106 bl_106 oz_106 ea_106 bs_106 is_106 sz_107 ag_107 by_107 ze_107 fo_107_0 fo_107_1 pl_107 bl_107 oz_107 ea_107 bs_107 is_107 sz_139 ag_139 by_139 ze_139 un_139 oz_139 ea_139 bs_139 is_139 sz_22 ag_22 by_22 ze_22 un_22 el_22 ix_22 ixr_22 sl_22 slr_22 sle_22 lpl_22 lpr_22 lpn_22 oz_22 ea_22 em_22 eap_22 ecp_22 bs_22 is_22 sz_23 ag_23 by_23 ze_23 un_23 el_23 ix_23 ixr_23 sl_23 slr_23 sle_23 lpl_23 lpr_23 lpn_23 oz_23 ea_23 em_23 eap_23 ecp_23 bs_23 is_23 sz_40 ag_40 by_40 ze_40 un_40 el_40 ix_40 ixr_40 sl_40 slr_40 sle_40 lpl_40 lpr_40 lpn_40 oz_40 ea_40 em_40 eap_40 ecp_40 bs_40 is_40 sz_58 ag_58 by_58 ze_58 un_58 el_58 ix_58 ixr_58 sl_58 slr_58 sle_58 lpl_58 lpr_58 lpn_58 oz_58 ea_58 em_58 eap_58 ecp_58 bs_58 is_58 sz_86 ag_86 by_86 ze_86 un_86 el_86 ix_86 ixr_86 sl_86 slr_86 sle_86 lpl_86 lpr_86 lpn_86 oz_86 ea_86 em_86 eap_86 ecp_86 bs_86 is_86 sz_87 ag_87 by_87 ze_87 un_87 el_87 ix_87 ixr_87 sl_87 slr_87 sle_87 lpl_87 lpr_87 lpn_87 oz_87 ea_87 em_87 eap_87 ecp_87 bs_87 is_87 sz_130 ag_130 by_130 ze_130 un_130 el_130 ix_130 ixr_130 sl_130 slr_130 sle_130 lpl_130 lpr_130 lpn_130 oz_130 ea_130 em_130 eap_130 ecp_130 bs_130 is_130 sz_36 ag_36 by_36 ze_36 un_36 el_36 ix_36 ixr_36 sl_36 slr_36 sle_36 lpl_36 lpr_36 lpn_36 oz_36 ea_36 em_36 eap_36 ecp_36 bs_36 is_36 cvi_2_2 cvi_2_3 cvi_2_5 cvi_2_12 cvi_2_21 cvi_2_139 cvi_3_2 cvi_3_3 cvi_3_5 cvi_3_12 cvi_3_21 cvi_3_139 cvi_5_2 cvi_5_3 cvi_5_5 cvi_5_12 cvi_5_21 cvi_5_139 cvi_12_2 cvi_12_3 cvi_12_5 cvi_12_12 cvi_12_21 cvi_12_139 cvi_21_2 cvi_21_3 cvi_21_5 cvi_21_12 cvi_21_21 cvi_21_139 cvi_139_2 cvi_139_3 cvi_139_5 cvi_139_12 cvi_139_21 cvi_139_139 rw_22_1 rw_23_0 rw_23_1 rw_23_3 rw_23_5 rw_23_6 rw_23_8 rw_23_12 rw_23_15 rw_36_1 rw_40_0 rw_40_1 rw_40_2 rw_40_3 rw_40_6 rw_40_7 rw_40_9 rw_40_10 rw_58_0 rw_58_1 rw_58_3 rw_130_1
end Go.Proofs.Ytngcedklbinhjaa
namespace Go.Proofs.Ytngcedklbinhjaa
open Go.RowKit
set_option linter.all false
def PV.le (p q : PV) : Prop := ∀ (g : Gh) (w : World) (v : Value), Rep g w p v → Rep g w q v
theorem PV.le_refl (p : PV) : p.le p := fun _ _ _ h => h
theorem PV.le.trans {p q r : PV} (h : p.le q) (h2 : q.le r) : p.le r := fun g w v hv => h2 g w v (h g w v hv)
theorem nil_le (k : Bool) (sz : Nat) : (PV.val (.slice none 0 0)).le (.lst k sz []) := fun g w v h => by
  simp only [Rep] at h ⊢
  subst h
  exact ⟨none, 0, rfl, Nat.le_refl _, by omega, .inl trivial⟩
def leL : List PV → List PV → Prop
  | [], [] => True
  | p :: ps, q :: qs => p.le q ∧ leL ps qs
  | _, _ => False
theorem leL_rep {g : Gh} {w : World} : ∀ {ps qs : List PV} {vs : List Value}, leL ps qs → RepL g w ps vs → RepL g w qs vs
  | [], [], vs, _, h => h
  | p :: ps, q :: qs, vs, hl, h => by
    simp only [RepL] at h ⊢
    obtain ⟨v, vs', rfl, h1, h2⟩ := h
    exact ⟨v, vs', rfl, hl.1 _ _ _ h1, leL_rep hl.2 h2⟩
  | [], _ :: _, vs, hl, _ => hl.elim
  | _ :: _, [], vs, hl, _ => hl.elim
theorem Sound.weak {P : Program} {f : Nat} {φ φ' : Fun} (h : Sound P f φ) (hw : ∀ ps r, φ' ps = some r → ∃ ps' r', leL ps ps' ∧ φ ps' = some r' ∧ r'.le r) : Sound P f φ' := by
  intro w J ps args r hr hJ hT hargs
  obtain ⟨ps', r', h1, h2, h3⟩ := hw ps r hr
  refine (h w J ps' args r' h2 hJ hT (leL_rep h1 hargs)).mono ?_
  rintro e w' ⟨v, rfl, hb, hrep⟩
  exact ⟨v, rfl, hb, fun g' hg => h3 _ _ _ (hrep g' hg)⟩
def nrm (sz : Nat) : PV → PV
  | .val (.slice none 0 0) => .lst false sz []
  | p => p
theorem le_nrm (sz : Nat) (p : PV) : p.le (nrm sz p) := by
  unfold nrm
  split
  · exact nil_le _ _
  · exact p.le_refl
theorem leL_nrm (sz : Nat) : ∀ ps : List PV, leL ps (ps.map (nrm sz))
  | [] => trivial
  | p :: ps => ⟨le_nrm sz p, leL_nrm sz ps⟩
def nilF (sz : Nat) (φ : Fun) : Fun := fun ps => φ (ps.map (nrm sz))
theorem Sound.nil {P : Program} {f : Nat} {φ : Fun} (h : Sound P f φ) (sz : Nat) : Sound P f (nilF sz φ) :=
  h.weak fun ps r hr => ⟨_, r, leL_nrm sz ps, hr, PV.le_refl _⟩
section
variable {P : Program} {Γ : Ctx}
end
theorem reify_nil0 {n f sz : Nat} {ob : Objs} {k : Bool} : reify false n ob (f + 1) (.lst k sz []) = some (.lst false sz []) := by simp [reify]
theorem reify_nil1 {n f sz : Nat} {ob : Objs} {k : Bool} : reify true n ob (f + 1) (.lst k sz []) = some (.lst true sz []) := by simp [reify]
attribute [push_cast]
  reify_nil0 reify_nil1
theorem bp_addS {P : Program} {t : Nat} {x y : Operand} {a b : ByteArray} (h : a.size + b.size ≤ 9223372036854775807) : binP P .add t x y (some (.string a)) (some (.string b)) = some (.val (.string (a ++ b))) := by
  have h2 : ¬ (((a.size + b.size : Nat) : Int) > IntKind.i64.max) := by
    have : IntKind.i64.max = 9223372036854775807 := by decide
    rw [this]
    omega
  have : pureRun P (do eqGuard .add t x y (.string a) (.string b); binOp .add t (.string a) (.string b)) = some (.string (a ++ b)) := by
    show pureRun P (Op.stringOp .add a b) = _
    unfold Op.stringOp
    dsimp only
    rw [if_neg h2]
    rfl
  simp only [binP, this, Option.map_some]
theorem size_push (ns : List Int) (r : ByteArray) : (ns.foldl (fun r n => r.push (UInt8.ofNat n.toNat)) r).size = r.size + ns.length := by
  induction ns generalizing r with
  | nil => simp
  | cons n ns ih => rw [List.foldl_cons, ih, List.length_cons, ByteArray.size_push]; omega
theorem size_bytesOf (ns : List Int) : (bytesOf ns).size = ns.length := by
  unfold bytesOf
  rw [size_push]
  simp
attribute [push_cast]
  bp_addS size_bytesOf ByteArray.size_append byteNs
end Go.Proofs.Ytngcedklbinhjaa
namespace Go.Proofs.Ytngcedklbinhjaa
open Go.RowKit
set_option linter.all false
theorem pr_bind {α β : Type} {P : Program} {m : Sem α} {f : α → Sem β} {a : α} (h : pureRun P m = some a) : pureRun P (m >>= f) = pureRun P (f a) := by
  induction m with
  | pure x => simp only [pureRun, Option.some.injEq] at h; subst h; rfl
  | program k ih => exact ih P h
  | _ => simp [pureRun] at h
theorem pr_bound {P : Program} {v : Int} {m : Nat} {k : BoundsCode} (h : 0 ≤ v) (h2 : v ≤ m) : pureRun P (Instr.sliceBound (.int .i64 v) m k) = some v.toNat := by
  have e : Instr.sliceBound (.int .i64 v) m k = (if 0 ≤ v ∧ v ≤ m then pure v.toNat else boundsPanic .i64 v m k) := rfl
  rw [e, if_pos ⟨h, h2⟩]
  rfl
theorem pr_und {P : Program} {t : Nat} {d : TypeDesc} (hu : P.underlying t = some d) : pureRun P (underlying t) = some d := by
  unfold underlying
  rw [pr_bind (a := P) rfl]
  simp only [hu]
  rfl
theorem sps {P : Program} {t : Nat} {s : ByteArray} {lo hi : Option Int} (hu : P.underlying t = some .string) (h0 : 0 ≤ lo.getD 0) (h1 : lo.getD 0 ≤ hi.getD s.size) (h2 : hi.getD s.size ≤ s.size) :
    slcP P t (.val (.string s)) (some lo) (some hi) = some (.val (.string (s.extract (lo.getD 0).toNat (hi.getD s.size).toNat))) := by
  have hb : pureRun P (Instr.sliceBounds false s.size s.size (lo.map (Value.int .i64)) (hi.map (Value.int .i64)) none) = some ((lo.getD 0).toNat, (hi.getD s.size).toNat, s.size) := by
    unfold Instr.sliceBounds
    rw [pr_bind (a := s.size) rfl]
    cases hi with
    | none =>
      simp only [Option.map_none, Option.getD_none] at h1 ⊢
      rw [pr_bind (a := s.size) rfl]
      cases lo with
      | none => simp only [Option.map_none, Option.getD_none, Int.toNat_natCast]; rw [pr_bind (a := 0) rfl]; rfl
      | some l => simp only [Option.map_some, Option.getD_some, Int.toNat_natCast] at h0 h1 ⊢; rw [pr_bind (pr_bound h0 h1)]; rfl
    | some h =>
      simp only [Option.map_some, Option.getD_some] at h1 h2 ⊢
      have h3 : 0 ≤ h := by omega
      rw [pr_bind (pr_bound h3 h2)]
      cases lo with
      | none => simp only [Option.map_none, Option.getD_none]; rw [pr_bind (a := 0) rfl]; rfl
      | some l => simp only [Option.map_some, Option.getD_some] at h0 h1 ⊢; rw [pr_bind (pr_bound h0 (by omega))]; rfl
  have hs : pureRun P (Instr.sliceAt t (.string s) (lo.map (Value.int .i64)) (hi.map (Value.int .i64)) none) = some (.string (s.extract (lo.getD 0).toNat (hi.getD s.size).toNat)) := by
    unfold Instr.sliceAt
    rw [pr_bind (pr_und hu)]
    dsimp only
    unfold Instr.slice
    rw [pr_bind (pr_und hu)]
    dsimp only
    simp only [Option.isSome_none, Bool.false_eq_true, if_false]
    rw [pr_bind hb]
    rfl
  show (pureRun P _).map _ = _
  rw [hs]
  rfl
theorem sps_str {s : ByteArray} {lo hi : Option Int} (h0 : 0 ≤ lo.getD 0) (h1 : lo.getD 0 ≤ hi.getD s.size) (h2 : hi.getD s.size ≤ s.size) :
    slcP Try.prog 9 (.val (.string s)) (some lo) (some hi) = some (.val (.string (s.extract (lo.getD 0).toNat (hi.getD s.size).toNat))) := sps Try.underlying9 h0 h1 h2
attribute [push_cast]
  sps_str
end Go.Proofs.Ytngcedklbinhjaa
namespace Go.Proofs.Ytngcedklbinhjaa
open Go.RowKit
set_option linter.all false
section
variable {P : Program} {Γ : Ctx}
theorem relIO_of_pqN (hm : P.follows .mixedOrders = true) {f : Nat} {fn : Func} {c : Code} (hΓ : SoundΓ P Γ) (hf : P.funcs[f]? = some fn) (hb : fn.body = some c) (N : Nat) (hN : fn.ntmps = N) (rs : List ResultVar) (hrs : fn.results.toList = rs) (hc : codeOk Γ true N c = true)
    (D : List PV → CellIO → Prop) (R : List PV → CellIO → PV → List CellIO → Prop) (hlen : ∀ ps o, D ps o → ps.length ≤ N)
    (h : ∀ ps o, D ps o → pq P Γ N c (fun x s' => ∃ r os', R ps o r os' ∧ PostIO P rs 1 r os' x s') (initS ps).tm (lo [(0, o)]) 1) : ∃ Φ : FunIO, SoundIO P f Φ ∧ ∀ ps o, D ps o → ∃ r os', Φ ps [o] = some (r, os') ∧ R ps o r os' := by
  classical
  subst hN hrs
  let Z : List PV → List CellIO → PV × List CellIO → Prop := fun ps cs r => ∃ o, cs = [o] ∧ D ps o ∧ R ps o r.1 r.2 ∧ ∃ x s', Ev P Γ fn.ntmps c (initIO ps cs) x s' ∧ PostIO P fn.results.toList 1 r.1 r.2 x s'
  let Φ : FunIO := fun ps cs => if h : ∃ r, Z ps cs r then some (Classical.choose h) else none
  have hΦ : ∀ ps cs r, Φ ps cs = some r → Z ps cs r := fun ps cs r hr => by
    simp only [Φ] at hr
    split at hr
    · rename_i hz
      cases hr
      exact Classical.choose_spec hz
    · cases hr
  refine ⟨Φ, soundIO_of_ev hΓ hf hb (fun ps cs r hr => ?_) fun ps cs r cs' hr => ?_, fun ps o hd => ?_⟩
  · obtain ⟨o, _, h1, _⟩ := hΦ ps cs r hr
    exact hlen ps o h1
  · obtain ⟨o, rfl, _, _, x, s', h1, h2, news, h3, h4, h5, h6⟩ := hΦ ps cs (r, cs') hr
    rw [Option.bind_eq_some_iff] at h5
    obtain ⟨qs, h8, h9⟩ := h5
    refine ⟨x, s', qs, List.range 1 ++ news, h1, h2, h8, h9, by simp, fun i hi => ?_, ?_, h6⟩
    · have : i = 0 := by simpa using hi
      subst this
      rfl
    · rw [List.nodup_append]
      exact ⟨List.nodup_range, h4, fun a ha b hb e => by
        have := h3 b hb
        have := List.mem_range.1 ha
        omega⟩
  · have h' : pw P Γ fn.ntmps c (fun x s' => ∃ r os', R ps o r os' ∧ PostIO P fn.results.toList 1 r os' x s') (initIO ps [o]) := by
      have := h ps o hd
      rw [← ls_one] at this
      exact this
    obtain ⟨x, s', h1, r, os', h2, h3⟩ := pw_ok (mixed := true) (fun _ => hm) c _ _ hc h'
    have hz : ∃ r, Z ps [o] r := ⟨(r, os'), o, rfl, hd, h2, x, s', h1, h3⟩
    have he : Φ ps [o] = some (Classical.choose hz) := by simp only [Φ]; rw [dif_pos hz]
    obtain ⟨o1, e1, _, e3, _⟩ := hΦ ps [o] _ he
    cases e1
    exact ⟨(Classical.choose hz).1, (Classical.choose hz).2, he, e3⟩
end
def Drw2N (T : Nat) (Φ : FunIO) (B c : Int) {α : Type} (E : Nat → α → PV) (O : α → CellIO) (D : Int → Prop) (R : Int → α → Prop) : Prop :=
  ∀ code p n, okRd code p → p ≤ B → D n → ∃ a p', Φ [.own 0 2 0 0, .val (.int .i64 n)] [rdC T code p] = some (E 1 a, [rdC T code p', O a]) ∧ R n a ∧ okRd code p' ∧ p ≤ p' ∧ p' ≤ p + c
theorem drw2N_of {P : Program} {Γ : Ctx} (hm : P.follows .mixedOrders = true) {f : Nat} {fn : Func} {C : Code} (hΓ : SoundΓ P Γ) (hf : P.funcs[f]? = some fn) (hb : fn.body = some C) (N : Nat) (hN : fn.ntmps = N) (rs : List ResultVar) (hrs : fn.results.toList = rs) (hc : codeOk Γ true N C = true) (hN1 : 2 ≤ N)
    (T : Nat) (B c : Int) {α : Type} (E : Nat → α → PV) (O : α → CellIO) (D : Int → Prop) (R : Int → α → Prop)
    (h : ∀ code p n, okRd code p → p ≤ B → D n → pq P Γ N C (fun x s' => ∃ a p', R n a ∧ okRd code p' ∧ p ≤ p' ∧ p' ≤ p + c ∧ PostIO P rs 1 (E 1 a) [rdC T code p', O a] x s') (initS [.own 0 2 0 0, .val (.int .i64 n)]).tm (lo [(0, rdC T code p)]) 1) :
    ∃ Φ : FunIO, SoundIO P f Φ ∧ Drw2N T Φ B c E O D R := by
  obtain ⟨Φ, h1, h2⟩ := relIO_of_pqN hm hΓ hf hb N hN rs hrs hc
    (fun ps o => ∃ code p n, ps = [.own 0 2 0 0, .val (.int .i64 n)] ∧ o = rdC T code p ∧ okRd code p ∧ p ≤ B ∧ D n)
    (fun ps o r os' => ∃ code p n a p', ps = [.own 0 2 0 0, .val (.int .i64 n)] ∧ o = rdC T code p ∧ r = E 1 a ∧ os' = [rdC T code p', O a] ∧ R n a ∧ okRd code p' ∧ p ≤ p' ∧ p' ≤ p + c)
    (fun ps o ⟨code, p, n, e, _⟩ => by rw [e]; exact hN1) (fun ps o ⟨code, p, n, e1, e2, h3, h4, h5⟩ => by
      subst e1 e2
      refine pw_mono (fun x s' hx => ?_) _ _ (h code p n h3 h4 h5)
      obtain ⟨a, p', k1, k2, k3, k4, k5⟩ := hx
      exact ⟨E 1 a, [rdC T code p', O a], ⟨code, p, n, a, p', rfl, rfl, rfl, rfl, k1, k2, k3, k4⟩, k5⟩)
  refine ⟨Φ, h1, fun code p n h3 h4 h5 => ?_⟩
  obtain ⟨r, os', e, code', p1, n1, a, p', e0, e1, rfl, rfl, k1, k2, k3, k4⟩ := h2 _ _ ⟨code, p, n, rfl, rfl, h3, h4, h5⟩
  obtain ⟨rfl, rfl⟩ := rdC_inj e1
  have : n = n1 := by simpa using e0
  subst this
  exact ⟨a, p', e, k1, k2, k3, k4⟩
theorem inn_0o {o : Nat} : inn [0, o] 0 = some 0 := by simp [inn]
theorem inn_1o {o : Nat} (h : 0 < o) : inn [0, o] o = some 1 := by
  have h0 : ¬ (0 : Nat) = o := by omega
  have h1 : (0 == o) = false := by simpa using h0
  simp [inn, List.idxOf_cons, h1]
theorem inn_no {o x : Nat} (h : 0 < x) (h2 : x ≠ o) : inn [0, o] x = none := by
  have h0 : ¬ x = 0 := by omega
  simp [inn, h0, h2]
theorem outF_1n {o nx : Nat} : outF [o] nx 1 = some nx := by simp [outF, outn]
theorem handM_fuel {out : List Nat} {ob : Objs} {l : List PV} : l.mapM (handF out ob fuel) = l.mapM (handF out ob 8) := rfl
attribute [push_cast]
  handM_fuel inn_0o inn_1o inn_no outF_1n
section
variable {P : Program} {Γ : Ctx} {imm : Md} {N : Nat} {gs : List (Option Nat)} {l : List Oper} {Q : AS → Prop} {tm : Nat → PV} {ob : Objs} {nx T : Nat} {Φ : FunIO} {B c : Int} {α : Type} {E : Nat → α → PV} {O : α → CellIO}
theorem rd_evN {o : Nat} {code : List Int} {p p' : Int} {a : α} {qs : List PV} (hE : renF (outF [o] nx) fuel (E 1 a) = some (E nx a)) (hO : (O a).2.2.mapM (renF (outF [o] nx) fuel) = some (O a).2.2)
    (ho : ob o = some (rdC T code p)) (h : Φ qs [rdC T code p] = some (E 1 a, [rdC T code p', O a])) : ioOne Φ ob nx o qs (ob o) = some (E nx a, upd (upd ob o (some (rdC T code p'))) nx (some (O a)), nx + 1) := by
  have h1 : ∀ (nm : Nat → Option Nat) (q : Int), [PV.agg [.lst false 1 (code.map fun n => PV.val (.int .u8 n)), .val (.int .i64 q)]].mapM (renF nm fuel) = some [PV.agg [.lst false 1 (code.map fun n => PV.val (.int .u8 n)), .val (.int .i64 q)]] := fun nm q => by
    simp only [one_mapM, renS_fuel, renS_agg, mapM_cons', mapM_nil', renS_vals, renS_val, Option.bind_some, Option.map_some]
  rw [ho, ioOne_some, h1, Option.bind_some, h]
  unfold ioR
  simp only [hE, mapM_cons', mapM_nil', renC, h1, hO, Option.map_some, Option.bind_some]
  have e : O a = ((O a).1, (O a).2.1, (O a).2.2) := rfl
  simp only [List.length_cons, List.length_nil, Nat.zero_add, Nat.reduceAdd, Nat.reduceSub, Option.some.injEq, Prod.mk.injEq, true_and, and_true]
  show putObs ob [(outn [o] nx 0, _), (outn [o] nx 1, _)] = _
  simp only [putObs, outn, List.length_cons, List.length_nil, Nat.zero_add, Nat.lt_one_iff, if_true, Nat.one_ne_zero, if_false, Nat.sub_self, Nat.add_zero, List.getD_cons_zero]
theorem i_drw2N {D : Int → Prop} {R : Int → α → Prop} (hd : Drw2N T Φ B c E O D R) (hE : ∀ o nx a, renF (outF [o] nx) fuel (E 1 a) = some (E nx a)) (hO : ∀ nm a, (O a).2.2.mapM (renF nm fuel) = some (O a).2.2) {d f ty o : Nat} {x y : Operand} {ts : Array TypeId} {pos : String} {af : Array Edge} {code : List Int} {p n : Int} (hio : Γ.io f = some Φ) (hx : look tm x = .own o 2 0 0) (hy : look tm y = .val (.int .i64 n)) (ho : ob o = some (rdC T code p)) (hok : okRd code p) (hB : p ≤ B) (hD : D n)
    (he : effOk Γ imm nx (look tm) (.call { callee := .value (.func f), args := #[x, y], argTypes := ts }) = true)
    (hk : ∀ a p', R n a → okRd code p' → p ≤ p' → p' ≤ p + c → wq P Γ imm gs l Q (upd tm d (E nx a)) (upd (upd ob o (some (rdC T code p'))) nx (some (O a))) (nx + 1)) :
    wq P Γ imm gs ({ dst := some d, op := .call { callee := .value (.func f), args := #[x, y], argTypes := ts }, type := ty, pos := pos, after := af, guard := none } :: l) Q tm ob nx := by
  obtain ⟨a, p', h1, h2, h3, h4, h5⟩ := hd code p n hok hB hD
  refine i_E (by simp [isEff, calleeIO, hio]) he ?_ (hk a p' h2 h3 h4 h5)
  rw [ee_call, hio, ioGo_some]
  show ioEv Φ ob nx [look tm x, look tm y] = _
  rw [hx, hy, io_o2]
  exact rd_evN (hE o nx a) (hO _ a) ho h1
theorem i_end1N {rs : List ResultVar} {r : PV} {c1 c2 : CellIO} {x : X} (o : Nat) (h0 : 0 < o) (hx : x = .normal ∨ x = .ret) (h1 : ((resPs P ⟨tm, ob, nx⟩ rs).bind fun qs => handF [0, o] ob fuel (onePV qs)) = some r) (h2 : handC [0, o] ob fuel 0 = some c1) (h3 : handC [0, o] ob fuel o = some c2) : PostIO P rs 1 r [c1, c2] x ⟨tm, ob, nx⟩ :=
  ⟨hx, [o], fun b hb => by simp only [List.mem_singleton] at hb; omega, by simp, h1, by
    show [0, o].mapM (handC [0, o] ob fuel) = some [c1, c2]
    rw [mapM_cons', h2, Option.bind_some, mapM_cons', h3, Option.bind_some, mapM_nil']; rfl⟩
theorem i_fin1N {rs : List ResultVar} {R : α → Prop} {code : List Int} {p : Int} {a : α} {p' : Int} {x : X} (o : Nat) (h0 : 0 < o) (hx : x = .normal ∨ x = .ret)
    (h5 : handC [0, o] ob fuel o = some (O a)) (h4 : handC [0, o] ob fuel 0 = some (rdC T code p')) (h3 : ((resPs P ⟨tm, ob, nx⟩ rs).bind fun qs => handF [0, o] ob fuel (onePV qs)) = some (E 1 a)) (hR : R a) (ho : okRd code p') (h1 : p ≤ p') (h2 : p' ≤ p + c) :
    ∃ a p', R a ∧ okRd code p' ∧ p ≤ p' ∧ p' ≤ p + c ∧ PostIO P rs 1 (E 1 a) [rdC T code p', O a] x ⟨tm, ob, nx⟩ := ⟨a, p', hR, ho, h1, h2, i_end1N o h0 hx h3 h4 h5⟩
end
end Go.Proofs.Ytngcedklbinhjaa
namespace Go.Proofs.Ytngcedklbinhjaa
open Go.RowKit
set_option linter.all false
abbrev FunN := List PV → Option (PV × List CellIO)
def SoundN (P : Program) (f : Nat) (Ψ : FunN) : Prop := SoundIO P f fun ps cs => if cs = [] then Ψ ps else none
def renT (nm : Nat → Nat) : Nat → PV → Option PV
  | 0, _ => none
  | n + 1, p => match p with
    | .val v => some (.val v)
    | .dead => some .dead
    | .lst k sz es => if k = false ∧ es ≠ [] then none else (es.mapM (renT nm n)).map (.lst k sz)
    | .ptr k e o => if k = false then none else (renT nm n e).map (.ptr k · o)
    | .own o sz i f => some (.own (nm o) sz i f)
    | .row o sz i m => some (.row (nm o) sz i m)
    | .agg cs => (cs.mapM (renT nm n)).map .agg
    | .tup cs => (cs.mapM (renT nm n)).map .tup
theorem Rep.renT {nm : Nat → Nat} {g g' : Gh} {w : World} (hI : ∀ b, g.I true b → g'.I true b) (ho : ∀ o, g.D o → g'.β (nm o) = g.β o ∧ g'.κ (nm o) = g.κ o ∧ g'.D (nm o)) :
    ∀ (f : Nat) (p q : PV) (v : Value), Rep g w p v → Proofs.Ytngcedklbinhjaa.renT nm f p = some q → Rep g' w q v
  | 0, p, q, v, h, hr => by simp [Proofs.Ytngcedklbinhjaa.renT] at hr
  | f + 1, p, q, v, h, hr => by
    cases p with
    | val u => simp only [Proofs.Ytngcedklbinhjaa.renT, Option.some.injEq] at hr; subst hr; simpa [Rep] using h
    | dead => simp only [Proofs.Ytngcedklbinhjaa.renT, Option.some.injEq] at hr; subst hr; simp [Rep]
    | lst k sz es =>
      simp only [Proofs.Ytngcedklbinhjaa.renT] at hr
      split at hr
      · cases hr
      · rename_i hk
        simp only [Option.map_eq_some_iff] at hr
        obtain ⟨es', h1, rfl⟩ := hr
        have hl := (mapM_get h1).1
        simp only [Rep] at h ⊢
        obtain ⟨a, cap, rfl, h2, h3, h4⟩ := h
        refine ⟨a, cap, by rw [hl], by omega, h3, ?_⟩
        rcases h4 with rfl | ⟨b, off, rfl, h5, h6⟩
        · left; exact List.eq_nil_of_length_eq_zero (by simpa using hl)
        · by_cases hnil : es = []
          · left; subst hnil; exact List.eq_nil_of_length_eq_zero (by simpa using hl)
          · right
            cases k with
            | false => simp [hnil] at hk
            | true => exact ⟨b, off, rfl, hI _ h5, RepEs.conv (g := g) (g' := g') (Rep.renT hI ho f) h6 h1⟩
    | ptr k e o =>
      simp only [Proofs.Ytngcedklbinhjaa.renT] at hr
      split at hr
      · cases hr
      · rename_i hk
        simp only [Option.map_eq_some_iff] at hr
        obtain ⟨e', h1, rfl⟩ := hr
        simp only [Rep] at h ⊢
        obtain ⟨b, off, rfl, h2, u, h3, h4⟩ := h
        cases k with
        | false => simp at hk
        | true => exact ⟨b, off, rfl, hI _ h2, u, Rep.renT hI ho f e e' u h3 h1, h4⟩
    | own o sz i f' =>
      simp only [Proofs.Ytngcedklbinhjaa.renT, Option.some.injEq] at hr
      subst hr
      simp only [Rep] at h ⊢
      obtain ⟨e1, _, e3⟩ := ho o h.2
      exact ⟨by rw [e1]; exact h.1, e3⟩
    | row o sz i m =>
      simp only [Proofs.Ytngcedklbinhjaa.renT, Option.some.injEq] at hr
      subst hr
      simp only [Rep] at h ⊢
      obtain ⟨c, h1, h2, h3, h4, h5⟩ := h
      obtain ⟨e1, e2, e3⟩ := ho o h5
      exact ⟨c, by rw [e1]; exact h1, h2, h3, by rw [e2]; exact h4, e3⟩
    | agg cs =>
      simp only [Proofs.Ytngcedklbinhjaa.renT, Option.map_eq_some_iff] at hr
      obtain ⟨cs', h1, rfl⟩ := hr
      simp only [Rep] at h ⊢
      obtain ⟨vs, rfl, h2⟩ := h
      exact ⟨vs, rfl, RepL.conv (g := g) (g' := g') (Rep.renT hI ho f) h2 h1⟩
    | tup cs =>
      simp only [Proofs.Ytngcedklbinhjaa.renT, Option.map_eq_some_iff] at hr
      obtain ⟨cs', h1, rfl⟩ := hr
      simp only [Rep] at h ⊢
      obtain ⟨vs, rfl, h2⟩ := h
      exact ⟨vs, rfl, RepL.conv (g := g) (g' := g') (Rep.renT hI ho f) h2 h1⟩
def renCT (nm : Nat → Nat) (f : Nat) (c : CellIO) : Option CellIO := (c.2.2.mapM (renT nm f)).map fun es => (c.1, c.2.1, es)
def liftN (Ψ : FunN) : FunIO := fun ps cs => (ps.mapM (reify false 0 (fun o => cs[o]?) fuel)).bind fun qs => (Ψ qs).bind fun rc => (renT (cs.length + ·) fuel rc.1).bind fun r => (rc.2.mapM (renCT (cs.length + ·) fuel)).map fun cs' => (r, cs ++ cs')
theorem SoundN.lift {P : Program} {f : Nat} {Ψ : FunN} (h : SoundN P f Ψ) : SoundIO P f (liftN Ψ) := by
  intro w J β κ ps cs args r cs2 hr hJ hO hT hargs
  unfold liftN at hr
  simp only [Option.bind_eq_some_iff, Option.map_eq_some_iff] at hr
  obtain ⟨qs, h1, ⟨r0, cs0⟩, h2, r1, h3, cs1, h4, h5⟩ := hr
  simp only [Prod.mk.injEq] at h5
  obtain ⟨rfl, rfl⟩ := h5
  dsimp only at h3 h4
  let n := cs.length
  let J' : Bool → Nat → Prop := fun k b => k = false ∧ ((∃ k', J k' b) ∨ ∃ o, o < n ∧ b = β o)
  have hJ' : ∀ k b, J' k b → b < w.heap.size := fun k b hb => by
    rcases hb.2 with ⟨k', hk⟩ | ⟨o, ho, rfl⟩
    · exact hJ k' b hk
    · exact (hO.lt o ho).1
  have hargs' : RepL (ghIO J' (fun _ => 0) (fun _ => 0) 0) w qs args.toList := by
    refine RepL.conv (g := ghIO J β κ n) (g' := ghIO J' (fun _ => 0) (fun _ => 0) 0) (Rep.seen (fr := false) (n := 0) (s := initIO ps cs) (g := ghIO J β κ n) (g' := ghIO J' (fun _ => 0) (fun _ => 0) 0) (fun o c ho => hO.at_ o c ho) ⟨fun _ => ⟨fun k b hb => ⟨rfl, .inl ⟨k, hb⟩⟩, fun o ho => ?_⟩, fun e => by cases e⟩ fuel) hargs h1
    obtain ⟨c, hc⟩ := Option.isSome_iff_exists.1 ho
    exact ⟨rfl, .inr ⟨o, (List.getElem?_eq_some_iff.1 hc).1, rfl⟩⟩
  have hO' : ObjsIO J' w (fun _ => 0) (fun _ => 0) [] := ⟨fun o ho => by simp at ho, fun o o' ho => by simp at ho, fun o c ho => by simp at ho⟩
  refine (h w J' (fun _ => 0) (fun _ => 0) qs [] args r0 cs0 (by simpa using h2) hJ' hO' (hT.io fun t _ ⟨o, ho, _⟩ => by simp at ho) hargs').mono ?_
  rintro e w' ⟨v, β', κ', M, rfl, hfr, _, _, hnew, hM, hO2, hrep⟩
  have hfr' : ∀ b, b < w.heap.size → w'.heap[b]? = w.heap[b]? := fun b hb => hfr.block b hb (fun ⟨o, ho, _⟩ => by simp at ho)
  have hl1 := (mapM_get h4).1
  let β2 : Nat → Nat := fun o => if o < n then β o else β' (o - n)
  let κ2 : Nat → Nat := fun o => if o < n then κ o else κ' (o - n)
  have hTI : ∀ b, (ghIO (addN J' M) β' κ' cs0.length).I true b → (ghIO (addN J M) β2 κ2 (cs ++ cs1).length).I true b := fun b hb => by
    rcases hb with ⟨h6, _⟩ | ⟨_, h6⟩
    · cases h6
    · exact .inr ⟨rfl, h6⟩
  have hTo : ∀ o, (ghIO (addN J' M) β' κ' cs0.length).D o → (ghIO (addN J M) β2 κ2 (cs ++ cs1).length).β (n + o) = (ghIO (addN J' M) β' κ' cs0.length).β o ∧ (ghIO (addN J M) β2 κ2 (cs ++ cs1).length).κ (n + o) = (ghIO (addN J' M) β' κ' cs0.length).κ o ∧ (ghIO (addN J M) β2 κ2 (cs ++ cs1).length).D (n + o) := fun o ho => by
    have h6 : o < cs0.length := ho.1
    refine ⟨?_, ?_, ⟨?_, fun q => q⟩⟩
    · simp only [ghIO, β2]; rw [if_neg (by omega)]; congr 1; omega
    · simp only [ghIO, κ2]; rw [if_neg (by omega)]; congr 1; omega
    · simp only [ghIO, List.length_append]; omega
  have hblk : ∀ i, i < cs0.length → w.heap.size ≤ β' i ∧ β' i < w'.heap.size ∧ ∀ k, ¬ addN J' M k (β' i) := fun i hi => ⟨hnew i (Nat.zero_le _) hi, (hO2.lt i hi).1, (hO2.lt i hi).2⟩
  refine ⟨v, β2, κ2, M, rfl, ⟨hfr.os, hfr.tape, hfr.output, hfr.size, fun b hb _ => hfr' b hb⟩, by simp, fun o ho => ⟨by simp only [β2]; rw [if_pos ho], by simp only [κ2]; rw [if_pos ho]⟩, fun o h6 h7 => ?_, hM, ⟨fun o ho => ?_, fun o o' ho ho' he => ?_, fun o c hc => ?_⟩, Rep.renT (g := ghIO (addN J' M) β' κ' cs0.length) hTI hTo fuel _ _ _ hrep h3⟩
  · simp only [β2]
    rw [if_neg (by omega)]
    rw [List.length_append] at h7
    exact (hblk (o - n) (by omega)).1
  · rw [List.length_append] at ho
    simp only [β2]
    split
    · rename_i hlt
      refine ⟨Nat.lt_of_lt_of_le (hO.lt o hlt).1 hfr.size, fun k hb => ?_⟩
      rcases hb with hb | ⟨_, hb⟩
      · exact (hO.lt o hlt).2 k hb
      · have := (hM _ hb).1
        have := (hO.lt o hlt).1
        omega
    · rename_i hlt
      obtain ⟨k1, k2, k3⟩ := hblk (o - n) (by omega)
      refine ⟨k2, fun k hb => ?_⟩
      rcases hb with hb | ⟨hk, hb⟩
      · have := hJ k _ hb
        omega
      · exact k3 true (.inr ⟨rfl, hb⟩)
  · rw [List.length_append] at ho ho'
    simp only [β2] at he
    split at he
    · rename_i hlt
      split at he
      · rename_i hlt'
        exact hO.inj o o' hlt hlt' he
      · rename_i hlt'
        have := (hblk (o' - n) (by omega)).1
        have := (hO.lt o hlt).1
        omega
    · rename_i hlt
      split at he
      · rename_i hlt'
        have := (hblk (o - n) (by omega)).1
        have := (hO.lt o' hlt').1
        omega
      · rename_i hlt'
        have := hO2.inj (o - n) (o' - n) (by omega) (by omega) he
        omega
  · by_cases hlt : o < n
    · have hc0 : cs[o]? = some c := by rwa [List.getElem?_append_left hlt] at hc
      have h6 := hO.at_ o c hc0
      refine h6.mono (g := ghIO J β κ n) (g' := ghIO (addN J M) β2 κ2 (cs ++ cs1).length) ⟨fun k b hb => .inl hb, fun o1 ho1 => ⟨?_, fun q => q⟩, fun o1 ho1 => ?_, fun o1 ho1 => ?_⟩ ⟨hlt, fun q => q⟩ (fun k b hb => hfr' b (hJ k b hb)) (hfr' _ (hO.lt o hlt).1)
      · have h7 : o1 < n := ho1.1
        simp only [ghIO, List.length_append]; omega
      · have h7 : o1 < n := ho1.1
        simp only [ghIO, β2]; rw [if_pos h7]
      · have h7 : o1 < n := ho1.1
        simp only [ghIO, κ2]; rw [if_pos h7]
    · have hc1 : cs1[o - n]? = some c := by rwa [List.getElem?_append_right (by omega)] at hc
      obtain ⟨c0, hc0, hrc⟩ := mapM_at h4 hc1
      obtain ⟨⟨arr, m1, m2⟩, m3, m4⟩ := hO2.at_ (o - n) c0 hc0
      unfold renCT at hrc
      rw [Option.map_eq_some_iff] at hrc
      obtain ⟨es, h6, rfl⟩ := hrc
      have hl := (mapM_get h6).1
      have e1 : β2 o = β' (o - n) := by simp only [β2]; rw [if_neg hlt]
      have e2 : κ2 o = κ' (o - n) := by simp only [κ2]; rw [if_neg hlt]
      refine ⟨⟨arr, by simp only [ghIO, e1]; exact m1, by simp only [ghIO, e2]; exact m2⟩, by simp only [ghIO, e2, hl]; exact m3, ?_⟩
      simp only [ghIO, e1]
      exact RepEs.conv (g := ghIO (addN J' M) β' κ' cs0.length) (g' := ghIO (addN J M) β2 κ2 (cs ++ cs1).length) (Rep.renT (g := ghIO (addN J' M) β' κ' cs0.length) hTI hTo fuel) m4 h6
def pureN (Ψ : FunN) : Fun := fun ps => (Ψ ps).bind fun rc => reify true 0 (fun o => rc.2[o]?) fuel rc.1
theorem SoundN.pure {P : Program} {f : Nat} {Ψ : FunN} (h : SoundN P f Ψ) : Sound P f (pureN Ψ) := by
  intro w J ps args r hr hJ hT hargs
  unfold pureN at hr
  simp only [Option.bind_eq_some_iff] at hr
  obtain ⟨⟨r0, cs0⟩, h2, h3⟩ := hr
  dsimp only at h3
  let J' : Bool → Nat → Prop := fun k b => k = false ∧ J b
  have hO' : ObjsIO J' w (fun _ => 0) (fun _ => 0) [] := ⟨fun o ho => by simp at ho, fun o o' ho => by simp at ho, fun o c ho => by simp at ho⟩
  refine (h w J' (fun _ => 0) (fun _ => 0) ps [] args r0 cs0 (by simpa using h2) (fun k b hb => hJ b hb.2) hO' (hT.io fun t _ ⟨o, ho, _⟩ => by simp at ho) hargs).mono ?_
  rintro e w' ⟨v, β', κ', M, rfl, hfr, _, _, hnew, hM, hO2, hrep⟩
  refine ⟨v, rfl, ⟨hfr.os, hfr.tape, hfr.output, hfr.size, fun b hb => hfr.block b hb (fun ⟨o, ho, _⟩ => by simp at ho)⟩, fun g' hg => ?_⟩
  refine Rep.seen (fr := true) (n := 0) (s := initIO ps cs0) (g := ghIO (addN J' M) β' κ' cs0.length) (g' := g') (fun o c ho => hO2.at_ o c ho) ⟨fun e => (by cases e), fun _ => ⟨fun b hb => ?_, fun o ho _ => ?_⟩⟩ fuel _ _ _ hrep h3
  · rcases hb with ⟨h6, _⟩ | ⟨_, h6⟩
    · cases h6
    · exact hg b (hM b h6).1 (hM b h6).2
  · obtain ⟨c, hc⟩ := Option.isSome_iff_exists.1 ho
    have hlt := (List.getElem?_eq_some_iff.1 hc).1
    exact hg _ (hnew o (Nat.zero_le _) hlt) (hO2.lt o hlt).1
theorem SoundN.io {P : Program} {f : Nat} {Ψ : FunN} (h : SoundN P f Ψ) : SoundIO P f fun ps cs => if cs = [] then Ψ ps else none := h
section
variable {P : Program} {Γ : Ctx}
theorem sound_pqN (hm : P.follows .mixedOrders = true) {f : Nat} {fn : Func} {c : Code} {Ψ : FunN} (hΓ : SoundΓ P Γ) (hf : P.funcs[f]? = some fn) (hb : fn.body = some c) (N : Nat) (hN : fn.ntmps = N) (rs : List ResultVar) (hrs : fn.results.toList = rs) (hc : codeOk Γ true N c = true)
    (h : ∀ ps r cs', Ψ ps = some (r, cs') → ps.length ≤ N ∧ pq P Γ N c (PostIO P rs 0 r cs') (initS ps).tm noObs 0) : SoundN P f Ψ := by
  refine sound_pq0 hm hΓ hf hb N hN rs hrs hc fun ps cs r cs' hr => ?_
  split at hr
  · rename_i hcs
    exact ⟨hcs, h ps r cs' hr⟩
  · cases hr
end
section
variable {α β γ δ ρ : Type} {A : Dec α} {B : Dec β} {C : Dec γ} {D : Dec δ} {ps : List PV} {r : ρ}
def G4 (A : Dec α) (B : Dec β) (C : Dec γ) (D : Dec δ) (F : α → β → γ → δ → Option ρ) (ps : List PV) : Option ρ := match ps with | [p, q, r, s] => (A.d p).bind fun a => (B.d q).bind fun b => (C.d r).bind fun c => (D.d s).bind fun d => F a b c d | _ => none
theorem G4_some {F : α → β → γ → δ → Option ρ} (h : G4 A B C D F ps = some r) : ∃ a b c d, ps = [A.e a, B.e b, C.e c, D.e d] ∧ F a b c d = some r := by
  unfold G4 at h
  split at h
  · simp only [Option.bind_eq_some_iff] at h
    obtain ⟨a, h1, b, h2, c, h3, d, h4, h5⟩ := h
    exact ⟨a, b, c, d, by rw [A.h _ _ h1, B.h _ _ h2, C.h _ _ h3, D.h _ _ h4], h5⟩
  · cases h
theorem G4_ap {F : α → β → γ → δ → Option ρ} (a : α) (b : β) (c : γ) (d : δ) : G4 A B C D F [A.e a, B.e b, C.e c, D.e d] = F a b c d := by simp [G4, A.h', B.h', C.h', D.h']
end
section
variable {Ψ : FunN} {α : Type} {g : α → Value} {l : List α} {T sz : Nat}
theorem liftN_of {ps qs : List PV} {cs cs0 cs1 : List CellIO} {r r1 : PV} (h1 : ps.mapM (reify false 0 (fun o => cs[o]?) fuel) = some qs) (h2 : Ψ qs = some (r, cs0)) (h3 : renT (cs.length + ·) fuel r = some r1) (h4 : cs0.mapM (renCT (cs.length + ·) fuel) = some cs1) : liftN Ψ ps cs = some (r1, cs ++ cs1) := by
  unfold liftN
  rw [h1, Option.bind_some, h2, Option.bind_some]
  dsimp only
  rw [h3, Option.bind_some, h4]
  rfl
theorem renT_flat {nm : Nat → Nat} : ∀ {f : Nat} {p : PV}, flatP f p = true → renT nm f p = some p
  | 0, _, h => by simp [flatP] at h
  | f + 1, p, h => by
    cases p with
    | val v => rfl
    | dead => rfl
    | agg cs =>
      have h2 : ∀ c ∈ cs, flatP f c = true := by simpa [flatP] using h
      simp only [Proofs.Ytngcedklbinhjaa.renT]
      rw [mapM_self fun c hc => renT_flat (h2 c hc)]
      rfl
    | _ => simp [flatP] at h
theorem renTM_flat {β : Type} {nm : Nat → Nat} {f : Nat} {g : β → PV} {l : List β} (h : ∀ x, flatP 2 (g x) = true) : (l.map g).mapM (renT nm (f + 2)) = some (l.map g) :=
  mapM_self fun e he => by obtain ⟨x, _, rfl⟩ := List.mem_map.1 he; exact renT_flat (flatP_mono (by omega) (h x))
theorem renCT_vals {nm : Nat → Nat} : renCT nm fuel (T, sz, l.map fun x => PV.val (g x)) = some (T, sz, l.map fun x => PV.val (g x)) := by
  unfold renCT
  show ((l.map fun x => PV.val (g x)).mapM (renT nm (6 + 2))).map _ = _
  rw [renTM_flat fun _ => rfl]
  rfl
theorem ioR_two {ob : Objs} {nx o T T2 sz sz2 : Nat} {es es2 : List PV} {r : PV} : ioR [o] ob nx (some (r, [(T, sz, es), (T2, sz2, es2)])) = (renF (outF [o] nx) fuel r).bind fun r' => (es.mapM (renF (outF [o] nx) fuel)).bind fun es' => (es2.mapM (renF (outF [o] nx) fuel)).map fun es2' => (r', upd (upd ob o (some (T, sz, es'))) nx (some (T2, sz2, es2')), nx + 1) := by
  unfold ioR
  simp only [mapM_cons', mapM_nil', renC]
  cases renF (outF [o] nx) fuel r with
  | none => rfl
  | some r' =>
    cases es.mapM (renF (outF [o] nx) fuel) with
    | none => rfl
    | some es' =>
      cases es2.mapM (renF (outF [o] nx) fuel) with
      | none => rfl
      | some es2' => 
        simp only [Option.map_some, Option.bind_some, List.length_cons, List.length_nil, Nat.zero_add, Nat.reduceAdd, Nat.reduceSub, Option.some.injEq, Prod.mk.injEq, true_and, and_true]
        show putObs ob [(outn [o] nx 0, _), (outn [o] nx 1, _)] = _
        simp only [putObs, outn, List.length_cons, List.length_nil, Nat.zero_add, Nat.lt_one_iff, if_true, Nat.one_ne_zero, if_false, Nat.sub_self, Nat.add_zero, List.getD_cons_zero]
end
theorem renM_fuel {nm : Nat → Option Nat} {l : List PV} : l.mapM (renF nm fuel) = l.mapM (renF nm 8) := rfl
attribute [push_cast]
  ioR_two renM_fuel
section
variable {P : Program} {Γ : Ctx}
end
section
variable {P : Program} {tm : Nat → PV} {ob : Objs} {nx : Nat} {rs : List ResultVar} {r : PV} {c' : CellIO} {x : X} {R : PV → List CellIO → Prop}
end
end Go.Proofs.Ytngcedklbinhjaa
namespace Go.Proofs.Ytngcedklbinhjaa
open Go.RowKit
set_option linter.unusedVariables false
def inB (n a b : Int) : Bool := decide (a ≤ n) && decide (n ≤ b)
theorem inB_iff {n a b : Int} : inB n a b = true ↔ a ≤ n ∧ n ≤ b := by simp [inB]
def OwnC (w : World) (b : Nat) (cs : Array Value) (T : Nat) : Prop := w.heap[b]? = some (.cells cs T (0, 0))
theorem OwnC.facts {w : World} {b : Nat} {cs : Array Value} {T : Nat} (h : OwnC w b cs T) : (∀ j, w.cell? ⟨b, j, none⟩ = cs[j]?) ∧ (∀ j, w.frozen? ⟨b, j, none⟩ = false) ∧ b < w.heap.size := by
  unfold OwnC at h
  exact ⟨fun j => by simp [World.cell?, h], fun j => by simp [World.frozen?, h], (Array.getElem?_eq_some_iff.1 h).1⟩
theorem OwnC.lt {w : World} {b : Nat} {cs : Array Value} {T : Nat} (h : OwnC w b cs T) : b < w.heap.size := h.facts.2.2
theorem OwnC.new (w : World) (cs : Array Value) (T : Nat) : OwnC (w.alloc (.cells cs T)) w.heap.size cs T := heap_alloc_new w _
theorem OwnC.below {w w' : World} {b : Nat} {cs : Array Value} {T : Nat} (h : OwnC w b cs T) (hb : Below w.heap.size w w') : OwnC w' b cs T := by
  unfold OwnC; rw [hb.block b h.lt]; exact h
theorem OwnC.alloc {w : World} {b : Nat} {cs : Array Value} {T : Nat} (h : OwnC w b cs T) (o : Obj) : OwnC (w.alloc o) b cs T :=
  h.below ((Below.refl _ _).alloc (Nat.le_refl _) o)
theorem OwnC.drew {w : World} {b : Nat} {cs : Array Value} {T : Nat} (h : OwnC w b cs T) : OwnC w.drew b cs T := h
theorem OwnC.other {w : World} {b : Nat} {cs : Array Value} {T : Nat} (h : OwnC w b cs T) {a : Addr} (ha : b ≠ a.block) (u : Value) : OwnC (w.setCell a u) b cs T := by
  unfold OwnC; rw [Below.heap_setCell _ _ _ _ ha]; exact h
theorem OwnC.set {w : World} {b : Nat} {cs : Array Value} {T : Nat} (h : OwnC w b cs T) (j : Nat) (u : Value) : OwnC (w.setCell ⟨b, j, none⟩ u) b (cs.setIfInBounds j u) T := by
  unfold OwnC at *; simp [World.setCell, Array.getElem?_modify, h]
def Sl (w : World) (k : Nat) (v : Value) (n : Nat) (cs : List Value) : Prop :=
  ∃ a cap b off, v = .slice a n cap ∧ cs.length = n * k ∧ n ≤ cap ∧ cap ≤ maxLen ∧ (0 < n → a = some ⟨b, off, none⟩) ∧ ∀ i, i < n * k → w.cell? ⟨b, off + i, none⟩ = cs[i]?
theorem Sl.below {w w' : World} {k : Nat} {v : Value} {n : Nat} {cs : List Value} (h : Sl w k v n cs) (hb : Below w.heap.size w w') : Sl w' k v n cs := by
  obtain ⟨a, cap, b, off, h1, h2, h3, h4, h5, h6⟩ := h
  refine ⟨a, cap, b, off, h1, h2, h3, h4, h5, fun i hi => ?_⟩
  have hc := h6 i hi
  have hs : cs[i]? = some (cs[i]'(by omega)) := List.getElem?_eq_getElem _
  rw [hs] at hc ⊢
  rw [hb.cell (p := ⟨b, off + i, none⟩) (World.block_lt_of_cell? w _ hc)]
  exact hc
end Go.Proofs.Ytngcedklbinhjaa
namespace Go.Proofs.Ytngcedklbinhjaa
open Go.RowKit
set_option linter.unusedVariables false
structure IntsAt (w : World) (a : Option Addr) (n cap : Nat) (zs : List Int) : Prop where
  len : zs.length = n
  le_cap : n ≤ cap
  cap_max : cap ≤ 9223372036854775807
  rng : ∀ i : Nat, -9223372036854775808 ≤ zs[i]?.getD 0 ∧ zs[i]?.getD 0 ≤ 9223372036854775807
  at_ : 0 < n → ∃ b off, a = some ⟨b, off, none⟩ ∧ ∀ i : Nat, i < n → w.cell? ⟨b, off + i, none⟩ = some (.int .i64 (zs[i]?.getD 0))
theorem IntsAt.below {w w' : World} {a : Option Addr} {n cap : Nat} {zs : List Int} (h : IntsAt w a n cap zs) (hb : Below w.heap.size w w') : IntsAt w' a n cap zs :=
  ⟨h.len, h.le_cap, h.cap_max, h.rng, fun h0 => by
    obtain ⟨b, off, rfl, hc⟩ := h.at_ h0
    exact ⟨b, off, rfl, fun i hi => (hb.cell (World.block_lt_of_cell? w _ (hc i hi))).trans (hc i hi)⟩⟩
structure StrsAt (w : World) (a : Option Addr) (n cap : Nat) (ss : List ByteArray) : Prop where
  len : ss.length = n
  le_cap : n ≤ cap
  cap_max : cap ≤ 9223372036854775807
  rng : ∀ i : Nat, (ss[i]?.getD ByteArray.empty).size ≤ 9223372036854775807
  at_ : 0 < n → ∃ b off, a = some ⟨b, off, none⟩ ∧ ∀ i : Nat, i < n → w.cell? ⟨b, off + i, none⟩ = some (.string (ss[i]?.getD ByteArray.empty))
theorem StrsAt.below {w w' : World} {a : Option Addr} {n cap : Nat} {ss : List ByteArray} (h : StrsAt w a n cap ss) (hb : Below w.heap.size w w') : StrsAt w' a n cap ss :=
  ⟨h.len, h.le_cap, h.cap_max, h.rng, fun h0 => by
    obtain ⟨b, off, rfl, hc⟩ := h.at_ h0
    exact ⟨b, off, rfl, fun i hi => (hb.cell (World.block_lt_of_cell? w _ (hc i hi))).trans (hc i hi)⟩⟩
end Go.Proofs.Ytngcedklbinhjaa
namespace Go.Proofs.Ytngcedklbinhjaa
open Go.RowKit
set_option linter.all false
noncomputable def GE : Ctx := ⟨fun f => none, fun f => none⟩
theorem GE_ok : SoundΓ Try.prog GE := ⟨(fun f φ h => by
  unfold GE at h
  dsimp only at h
  cases h), (fun f φ h => by
  unfold GE at h
  dsimp only at h
  cases h)⟩
def φIn : Fun := F3 dI dI dI fun n a b => some (bv (inB n a b))
theorem φIn_ap (n a b : Int) : φIn [.val (.int .i64 n), .val (.int .i64 a), .val (.int .i64 b)] = some (.val (.bool (inB n a b))) := rfl
theorem l1In_ok : Sound Try.prog 62 φIn := by
  refine sound_pq mixed GE_ok Try.func62 rfl 15 rfl [.tmp 6] rfl (by kernel_rfl) fun ps r hr => ?_
  obtain ⟨n, a, b, rfl, hr⟩ := F3_some hr
  cases hr
  refine ⟨by simp, ?_⟩
  simp only [dIs, dUs, dSs, dI_e, dU_e, dB_e, dS_e, dFn_e, dL_e, dA2_e, dA3_e, dA4_e, dA5_e]
  repeat' (first | (with_reducible first | apply i_seq | apply i_block | apply i_skip | apply i_exit | apply i_ret | apply i_kS | apply i_kSx | apply i_kSr | apply i_kL | apply i_kLx | apply i_kLr | apply i_kB | apply i_kBr | apply i_kBs | apply i_nil) | ((with_reducible apply i_region); (focus (simp only [List.map_cons, List.map_nil] <;> exact rfl))) | ((with_reducible apply i_draw); (focus (simp only [List.map_cons, List.map_nil] <;> exact rfl)); (focus (decide +kernel))) | ((with_reducible apply i_kBo); (focus rfl)) | ((first | ((with_reducible apply i_V); (focus rfl); (focus rfl); (focus rfl)) | ((with_reducible apply i_E); (focus rfl); (focus (first | rfl | (simp only [push_cast, ↓reduceIte, effOk, touch, refsOf, List.flatMap_cons, List.flatMap_nil])))) | ((with_reducible apply i_S); (focus rfl); (focus (first | rfl | (simp only [push_cast, ↓reduceIte, effOk, touch, refsOf, List.flatMap_cons, List.flatMap_nil])))) | ((with_reducible apply i_Vq); (focus rfl); (focus rfl)) | ((with_reducible apply i_Vp); (focus rfl); (focus rfl); (focus rfl)) | (with_reducible first | apply i_Gb | apply i_cond)); (focus (simp (disch := (first | omega | (simp only [push_cast]; done) | (simp only [push_cast]; omega) | ((try simp only [push_cast]); (with_reducible first | apply sel_lt | apply sel_ge); (focus decide); (focus (simp only [push_cast]; omega))))) only [push_cast, ↓reduceIte, Nat.reduceEqDiff, Nat.reduceBEq, Nat.reduceAdd, Nat.reduceSub, Int.reduceToNat, *] <;> with_reducible exact rfl)); all_goals try (intro hX; first | (cases hX; done) | ((with_reducible first | have hX0 : true = true := hX | have hX0 : false = false := hX); clear hX0 hX) | ((try simp only [decide_eq_true_eq, decide_eq_false_iff_not, Bool.not_eq_true', Bool.not_eq_false'] at hX); (try have hXb := inB_iff.1 hX)))))
  all_goals ((first | apply i_end | apply i_endN); simp (disch := (first | omega | (simp only [push_cast]; done) | (simp only [push_cast]; omega) | ((try simp only [push_cast]); (with_reducible first | apply sel_lt | apply sel_ge); (focus decide); (focus (simp only [push_cast]; omega))))) only [push_cast, ↓reduceIte, Nat.reduceEqDiff, Nat.reduceBEq, Nat.reduceAdd, Nat.reduceSub, Int.reduceToNat, *])
  all_goals (first | (simp_all [inB]; done) | (simp_all [inB]; omega))
theorem in_ok : Sound Try.prog 57 φIn := by
  refine sound_pq mixed GE_ok Try.func57 rfl 15 rfl [.tmp 6] rfl (by kernel_rfl) fun ps r hr => ?_
  obtain ⟨n, a, b, rfl, hr⟩ := F3_some hr
  cases hr
  refine ⟨by simp, ?_⟩
  simp only [dIs, dUs, dSs, dI_e, dU_e, dB_e, dS_e, dFn_e, dL_e, dA2_e, dA3_e, dA4_e, dA5_e]
  repeat' (first | (with_reducible first | apply i_seq | apply i_block | apply i_skip | apply i_exit | apply i_ret | apply i_kS | apply i_kSx | apply i_kSr | apply i_kL | apply i_kLx | apply i_kLr | apply i_kB | apply i_kBr | apply i_kBs | apply i_nil) | ((with_reducible apply i_region); (focus (simp only [List.map_cons, List.map_nil] <;> exact rfl))) | ((with_reducible apply i_draw); (focus (simp only [List.map_cons, List.map_nil] <;> exact rfl)); (focus (decide +kernel))) | ((with_reducible apply i_kBo); (focus rfl)) | ((first | ((with_reducible apply i_V); (focus rfl); (focus rfl); (focus rfl)) | ((with_reducible apply i_E); (focus rfl); (focus (first | rfl | (simp only [push_cast, ↓reduceIte, effOk, touch, refsOf, List.flatMap_cons, List.flatMap_nil])))) | ((with_reducible apply i_S); (focus rfl); (focus (first | rfl | (simp only [push_cast, ↓reduceIte, effOk, touch, refsOf, List.flatMap_cons, List.flatMap_nil])))) | ((with_reducible apply i_Vq); (focus rfl); (focus rfl)) | ((with_reducible apply i_Vp); (focus rfl); (focus rfl); (focus rfl)) | (with_reducible first | apply i_Gb | apply i_cond)); (focus (simp (disch := (first | omega | (simp only [push_cast]; done) | (simp only [push_cast]; omega) | ((try simp only [push_cast]); (with_reducible first | apply sel_lt | apply sel_ge); (focus decide); (focus (simp only [push_cast]; omega))))) only [push_cast, ↓reduceIte, Nat.reduceEqDiff, Nat.reduceBEq, Nat.reduceAdd, Nat.reduceSub, Int.reduceToNat, *] <;> with_reducible exact rfl)); all_goals try (intro hX; first | (cases hX; done) | ((with_reducible first | have hX0 : true = true := hX | have hX0 : false = false := hX); clear hX0 hX) | ((try simp only [decide_eq_true_eq, decide_eq_false_iff_not, Bool.not_eq_true', Bool.not_eq_false'] at hX); (try have hXb := inB_iff.1 hX)))))
  all_goals ((first | apply i_end | apply i_endN); simp (disch := (first | omega | (simp only [push_cast]; done) | (simp only [push_cast]; omega) | ((try simp only [push_cast]); (with_reducible first | apply sel_lt | apply sel_ge); (focus decide); (focus (simp only [push_cast]; omega))))) only [push_cast, ↓reduceIte, Nat.reduceEqDiff, Nat.reduceBEq, Nat.reduceAdd, Nat.reduceSub, Int.reduceToNat, *])
  all_goals (first | (simp_all [inB]; done) | (simp_all [inB]; omega))
end Go.Proofs.Ytngcedklbinhjaa
namespace Go.Proofs.Ytngcedklbinhjaa
open Go.RowKit
set_option linter.all false
def wordB (s : ByteArray) : Bool := (List.range s.size).all (fun k => inB (at8 s k) 97 122) && inB s.size 1 20
theorem wordB_no {s : ByteArray} {k : Nat} (h : k < s.size) (hb : ¬ (97 ≤ at8 s k ∧ at8 s k ≤ 122)) : wordB s = false := by
  unfold wordB
  have : (List.range s.size).all (fun k => inB (at8 s k) 97 122) = false := by
    rw [List.all_eq_false]
    exact ⟨k, List.mem_range.2 h, by rw [inB_iff]; exact hb⟩
  rw [this]
  rfl
theorem wordB_yes {s : ByteArray} (h : ∀ j, j < s.size → 97 ≤ at8 s j ∧ at8 s j ≤ 122) : wordB s = inB s.size 1 20 := by
  unfold wordB
  have : (List.range s.size).all (fun k => inB (at8 s k) 97 122) = true := by
    rw [List.all_eq_true]
    intro k hk
    exact inB_iff.2 (h k (List.mem_range.1 hk))
  rw [this]
  rfl
def φWord : Fun := F1 dS fun s => if s.size ≤ 1099511627776 then some (bv (wordB s)) else none
theorem φWord_ap {s : ByteArray} (h : s.size ≤ 1099511627776) : φWord [.val (.string s)] = some (.val (.bool (wordB s))) :=
  (F1_ap (A := dS) s).trans (if_pos h)
noncomputable def GWs : Ctx := ⟨fun f => if f = 62 then some φIn else none, fun f => none⟩
theorem GWs_ok : SoundΓ Try.prog GWs := ⟨(fun f φ h => by
  unfold GWs at h
  dsimp only at h
  split at h
  · rename_i hf; cases h; subst hf; exact ⟨⟨_, Try.func62, rfl, rfl⟩, l1In_ok⟩
  cases h), (fun f φ h => by
  unfold GWs at h
  dsimp only at h
  cases h)⟩
theorem GWs_62 (ob : Objs) (ps : List PV) : evCall GWs ob 62 ps = (ps.mapM (reify false 0 ob fuel)).bind φIn := by
  have h : GWs.fn 62 = some φIn := by simp [GWs]
  unfold evCall
  rw [h]
  cases ps.mapM (reify false 0 ob fuel) <;> rfl
set_option maxHeartbeats 4000000 in
theorem specWordValid_ok : Sound Try.prog 69 φWord := by
  refine sound_pq mixed GWs_ok Try.func69 rfl 23 rfl [.tmp 2] rfl (by kernel_rfl) fun ps r hr => ?_
  obtain ⟨s, rfl, hq⟩ := F1_some hr
  clear hr
  split at hq
  case isFalse => cases hq
  case isTrue hlen =>
  cases hq
  refine ⟨by simp, ?_⟩
  simp only [dIs, dUs, dSs, dI_e, dU_e, dB_e, dS_e, dFn_e, dL_e, dA2_e, dA3_e, dA4_e, dA5_e]
  have gws_c62 := GWs_62; have ap2 := φIn_ap
  repeat' (first | (with_reducible first | apply i_seq | apply i_block | apply i_skip | apply i_exit | apply i_ret | apply i_kS | apply i_kSx | apply i_kSr | apply i_kL | apply i_kLx | apply i_kLr | apply i_kB | apply i_kBr | apply i_kBs | apply i_nil) | ((with_reducible apply i_region); (focus (simp only [List.map_cons, List.map_nil] <;> exact rfl))) | ((with_reducible apply i_draw); (focus (simp only [List.map_cons, List.map_nil] <;> exact rfl)); (focus (decide +kernel))) | ((with_reducible apply i_kBo); (focus rfl)) | ((first | ((with_reducible apply i_V); (focus rfl); (focus rfl); (focus rfl)) | ((with_reducible apply i_E); (focus rfl); (focus (first | rfl | (simp only [push_cast, ↓reduceIte, effOk, touch, refsOf, List.flatMap_cons, List.flatMap_nil])))) | ((with_reducible apply i_S); (focus rfl); (focus (first | rfl | (simp only [push_cast, ↓reduceIte, effOk, touch, refsOf, List.flatMap_cons, List.flatMap_nil])))) | ((with_reducible apply i_Vq); (focus rfl); (focus rfl)) | ((with_reducible apply i_Vp); (focus rfl); (focus rfl); (focus rfl)) | (with_reducible first | apply i_Gb | apply i_cond)); (focus (simp (disch := (first | omega | (simp only [push_cast]; done) | (simp only [push_cast]; omega) | ((try simp only [push_cast]); (with_reducible first | apply sel_lt | apply sel_ge); (focus decide); (focus (simp only [push_cast]; omega))))) only [push_cast, ↓reduceIte, Nat.reduceEqDiff, Nat.reduceBEq, Nat.reduceAdd, Nat.reduceSub, Int.reduceToNat, *] <;> with_reducible exact rfl)); all_goals try (intro hX; first | (cases hX; done) | ((with_reducible first | have hX0 : true = true := hX | have hX0 : false = false := hX); clear hX0 hX) | ((try simp only [decide_eq_true_eq, decide_eq_false_iff_not, Bool.not_eq_true', Bool.not_eq_false'] at hX); (try have hXb := inB_iff.1 hX)))))
  refine i_loop (α := Nat) mixed (fun k => [(0, sv s), (3, iv k)]) (fun _ => []) (fun _ => 0)
    (fun k => k ≤ s.size ∧ ∀ j, j < k → 97 ≤ at8 s j ∧ at8 s j ≤ 122) (fun k => s.size - k) (by kernel_rfl) 0 ⟨Nat.zero_le _, fun j hj => by omega⟩ ?_ trivial rfl ?_
  · simp only [push_cast, ↓reduceIte, Nat.reduceEqDiff, Nat.reduceBEq, Nat.reduceAdd, Nat.reduceSub, Int.reduceToNat]
  · intro k ⟨hk, hok⟩
    have hrk := at8_rng s k
    repeat' (first | (with_reducible first | apply i_seq | apply i_block | apply i_skip | apply i_exit | apply i_ret | apply i_kS | apply i_kSx | apply i_kSr | apply i_kL | apply i_kLx | apply i_kLr | apply i_kB | apply i_kBr | apply i_kBs | apply i_nil) | ((with_reducible apply i_region); (focus (simp only [List.map_cons, List.map_nil] <;> exact rfl))) | ((with_reducible apply i_draw); (focus (simp only [List.map_cons, List.map_nil] <;> exact rfl)); (focus (decide +kernel))) | ((with_reducible apply i_kBo); (focus rfl)) | ((first | ((with_reducible apply i_V); (focus rfl); (focus rfl); (focus rfl)) | ((with_reducible apply i_E); (focus rfl); (focus (first | rfl | (simp only [push_cast, ↓reduceIte, effOk, touch, refsOf, List.flatMap_cons, List.flatMap_nil])))) | ((with_reducible apply i_S); (focus rfl); (focus (first | rfl | (simp only [push_cast, ↓reduceIte, effOk, touch, refsOf, List.flatMap_cons, List.flatMap_nil])))) | ((with_reducible apply i_Vq); (focus rfl); (focus rfl)) | ((with_reducible apply i_Vp); (focus rfl); (focus rfl); (focus rfl)) | (with_reducible first | apply i_Gb | apply i_cond)); (focus (simp (disch := (first | omega | (simp only [push_cast]; done) | (simp only [push_cast]; omega) | ((try simp only [push_cast]); (with_reducible first | apply sel_lt | apply sel_ge); (focus decide); (focus (simp only [push_cast]; omega))))) only [push_cast, ↓reduceIte, Nat.reduceEqDiff, Nat.reduceBEq, Nat.reduceAdd, Nat.reduceSub, Int.reduceToNat, *] <;> with_reducible exact rfl)); all_goals try (intro hX; first | (cases hX; done) | ((with_reducible first | have hX0 : true = true := hX | have hX0 : false = false := hX); clear hX0 hX) | ((try simp only [decide_eq_true_eq, decide_eq_false_iff_not, Bool.not_eq_true', Bool.not_eq_false'] at hX); (try have hXb := inB_iff.1 hX)))))
    all_goals try ((first | apply i_end | apply i_endN); simp (disch := (first | omega | (simp only [push_cast]; done) | (simp only [push_cast]; omega) | ((try simp only [push_cast]); (with_reducible first | apply sel_lt | apply sel_ge); (focus decide); (focus (simp only [push_cast]; omega))))) only [push_cast, ↓reduceIte, Nat.reduceEqDiff, Nat.reduceBEq, Nat.reduceAdd, Nat.reduceSub, Int.reduceToNat, *])
    all_goals try (rw [wordB_no (s := s) (k := k) (by omega) (by omega)]; done)
    all_goals try (rw [wordB_yes fun j hj => hok j (by omega)]; done)
    all_goals
      refine ⟨k + 1, ⟨by omega, fun j hj => ?_⟩, by dsimp only; omega, by simp only [push_cast, ↓reduceIte, Nat.reduceEqDiff, Nat.reduceBEq, Nat.reduceAdd, Nat.reduceSub, Int.reduceToNat], trivial, rfl⟩
      by_cases h1 : j < k
      · exact hok j h1
      · have : j = k := by omega
        subst this
        simp_all
        try omega
end Go.Proofs.Ytngcedklbinhjaa
namespace Go.Proofs.Ytngcedklbinhjaa
open Go.RowKit
set_option linter.all false
abbrev LS := List ByteArray
section
variable {α β : Type} {n sz sz' f i : Nat} {ob : Objs} {k k' fr : Bool} {l : List LS}
theorem get_ss {g : LS → PV} (h : i < l.length) : ((l[i]?).map g).getD .dead = g ((l[i]?).getD []) := by simp [h]
theorem omg_ss {g : LS → β} (h : i < l.length) : Option.map g l[i]? = some (g ((l[i]?).getD [])) := by simp [h]
theorem mapM_maps {F : PV → Option PV} {g g' : α → PV} (h : ∀ x, F (g x) = some (g' x)) : ∀ {l : List α}, (l.map g).mapM F = some (l.map g')
  | [] => rfl
  | x :: l => by rw [List.map_cons, List.mapM_cons, h x, mapM_maps h]; rfl
theorem reify_strs {m : Nat} {p : LS} : reify false m ob (f + 2) (.lst k sz (p.map fun s => .val (.string s))) = some (.lst false sz (p.map fun s => .val (.string s))) := reifyS_vals
theorem reify_strsT {m : Nat} {p : LS} : reify fr m ob (f + 2) (.lst true sz (p.map fun s => .val (.string s))) = some (.lst fr sz (p.map fun s => .val (.string s))) := by
  cases fr
  · exact reifyS_vals
  · exact reifyT_vals
theorem reifyS_lsts : reify false n ob (f + 3) (.lst k sz (l.map fun p => .lst k' sz' (p.map fun s => .val (.string s)))) = some (.lst false sz (l.map fun p => .lst false sz' (p.map fun s => .val (.string s)))) := by
  show (if false = true ∧ k = false ∧ (l.map fun p => PV.lst k' sz' (p.map fun s => PV.val (.string s))) ≠ [] then none else ((l.map fun p => PV.lst k' sz' (p.map fun s => PV.val (.string s))).mapM (reify false n ob (f + 2))).map (PV.lst false sz)) = _
  rw [mapM_maps (g' := fun p => PV.lst false sz' (p.map fun s => PV.val (.string s))) fun p => reify_strs]
  simp
theorem reifyT_lsts : reify true n ob (f + 3) (.lst true sz (l.map fun p => .lst true sz' (p.map fun s => .val (.string s)))) = some (.lst true sz (l.map fun p => .lst true sz' (p.map fun s => .val (.string s)))) := by
  show (if true = true ∧ true = false ∧ (l.map fun p => PV.lst true sz' (p.map fun s => PV.val (.string s))) ≠ [] then none else ((l.map fun p => PV.lst true sz' (p.map fun s => PV.val (.string s))).mapM (reify true n ob (f + 2))).map (PV.lst true sz)) = _
  rw [mapM_maps (g' := fun p => PV.lst true sz' (p.map fun s => PV.val (.string s))) fun p => reify_strsT]
  simp
theorem rowRe_lsts {m T : Nat} (hm : m = l.length) : rowRe fr (f + 2) ob sz 0 m (some (T, sz, l.map fun p => .lst true sz' (p.map fun s => .val (.string s)))) = some (.lst fr sz (l.map fun p => .lst fr sz' (p.map fun s => .val (.string s)))) := by
  subst hm
  have e : ((l.map fun p => PV.lst true sz' (p.map fun s => PV.val (.string s))).drop 0).take l.length = l.map fun p => PV.lst true sz' (p.map fun s => PV.val (.string s)) := by
    rw [List.drop_zero, List.take_of_length_le (by simp)]
  have e2 := mapM_maps (l := l) (F := reify fr 0 ob (f + 2)) (g := fun p => PV.lst true sz' (p.map fun s => PV.val (.string s))) (g' := fun p => PV.lst fr sz' (p.map fun s => PV.val (.string s))) fun p => reify_strsT
  simp only [rowRe, e, e2, Nat.zero_add, List.length_map, Nat.le_refl, and_self, if_true, Option.map_some]
end
attribute [push_cast]
  get_ss omg_ss reifyS_lsts reifyT_lsts rowRe_lsts
abbrev okSs (l : LS) : Prop := l.length ≤ 1048576 ∧ ∀ i : Nat, (l[i]?.getD .empty).size ≤ 1048576
noncomputable instance (l : LS) : Decidable (okSs l) := Classical.propDecidable _
theorem all_noK {α : Type} {d : α} {p : α → Bool} {l : List α} {k : Nat} (h : k < l.length) (hb : p (l[k]?.getD d) = false) : l.all p = false := by
  rw [List.all_eq_false]
  exact ⟨l[k], List.getElem_mem h, by simp [h] at hb; simp [hb]⟩
theorem all_yesK {α : Type} {d : α} {p : α → Bool} {l : List α} (h : ∀ j, j < l.length → p (l[j]?.getD d) = true) : l.all p = true := by
  rw [List.all_eq_true]
  intro x hx
  obtain ⟨j, hj, rfl⟩ := List.getElem_of_mem hx
  simpa [hj] using h j hj
def smallC (c : Int) : Bool := inB c 97 122
def digC (c : Int) : Bool := inB c 48 57
def prevD (s : ByteArray) (k : Nat) : Bool := decide (0 < k) && digC (at8 s (k - 1))
def patAt (s : ByteArray) (k : Nat) : Bool := smallC (at8 s k) || (digC (at8 s k) && !prevD s k) || (decide (at8 s k = 46) && (decide (k = 0) || decide (k + 1 = s.size)))
def anyS (s : ByteArray) (k : Nat) : Bool := (List.range k).any fun j => smallC (at8 s j)
theorem anyS_succ (s : ByteArray) (k : Nat) : anyS s (k + 1) = (anyS s k || smallC (at8 s k)) := by
  simp [anyS, List.range_succ, List.any_append]
def patB (s : ByteArray) : Bool := (List.range s.size).all (patAt s) && (anyS s s.size && decide (s.size ≤ 12))
theorem patB_no {s : ByteArray} {k : Nat} (h : k < s.size) (hb : patAt s k = false) : patB s = false := by
  have : (List.range s.size).all (patAt s) = false := by
    rw [List.all_eq_false]
    exact ⟨k, List.mem_range.2 h, by simp [hb]⟩
  simp [patB, this]
theorem patB_yes {s : ByteArray} (h : ∀ j, j < s.size → patAt s j = true) : patB s = (anyS s s.size && decide (s.size ≤ 12)) := by
  have : (List.range s.size).all (patAt s) = true := by
    rw [List.all_eq_true]
    exact fun k hk => h k (List.mem_range.1 hk)
  simp [patB, this]
def φPat : Fun := F1 dS fun s => if s.size ≤ 1099511627776 then some (bv (patB s)) else none
theorem φPat_ap {s : ByteArray} (h : s.size ≤ 1099511627776) : φPat [.val (.string s)] = some (.val (.bool (patB s))) :=
  (F1_ap (A := dS) s).trans (if_pos h)
theorem patAt_iff {s : ByteArray} {k : Nat} : patAt s k = true ↔ (97 ≤ at8 s k ∧ at8 s k ≤ 122) ∨ (48 ≤ at8 s k ∧ at8 s k ≤ 57 ∧ prevD s k = false) ∨ (at8 s k = 46 ∧ (k = 0 ∨ k + 1 = s.size)) := by
  simp [patAt, smallC, digC, inB, or_assoc, and_assoc]
theorem small_no {c : Int} (h : c < 97 ∨ 122 < c) : smallC c = false := Bool.eq_false_iff.2 fun h2 => by have := inB_iff.1 h2; omega
theorem dig_no {c : Int} (h : c < 48 ∨ 57 < c) : digC c = false := Bool.eq_false_iff.2 fun h2 => by have := inB_iff.1 h2; omega
structure PatI (s : ByteArray) (k : Nat) (n : Int) : Prop where
  kk : k ≤ s.size
  n0 : 0 ≤ n
  n1 : n ≤ k
  all : ∀ j, j < k → patAt s j = true
  any : decide (0 < n) = anyS s k
theorem PatI.zero (s : ByteArray) : PatI s 0 0 := ⟨Nat.zero_le _, by omega, by omega, fun j hj => by omega, rfl⟩
theorem PatI.letter {s : ByteArray} {k : Nat} {n : Int} (h : PatI s k n) (hk : k < s.size) (hs : smallC (at8 s k) = true) : PatI s (k + 1) (n + 1) :=
  ⟨by omega, by have := h.n0; omega, by have := h.n1; omega, fun j hj => by
    by_cases h1 : j < k
    · exact h.all j h1
    · have : j = k := by omega
      subst this
      simp [patAt, hs], by
    rw [anyS_succ, hs, Bool.or_true]
    have := h.n0
    simp; omega⟩
theorem PatI.other {s : ByteArray} {k : Nat} {n : Int} (h : PatI s k n) (hk : k < s.size) (hp : patAt s k = true) (hs : smallC (at8 s k) = false) : PatI s (k + 1) n :=
  ⟨by omega, h.n0, by have := h.n1; omega, fun j hj => by
    by_cases h1 : j < k
    · exact h.all j h1
    · have : j = k := by omega
      subst this
      exact hp, by rw [anyS_succ, hs, Bool.or_false]; exact h.any⟩
theorem PatI.done {s : ByteArray} {k : Nat} {n : Int} (h : PatI s k n) (hk : ¬ k < s.size) : patB s = (decide (0 < n) && decide (s.size ≤ 12)) := by
  have hk2 := h.kk
  have : k = s.size := by omega
  subst this
  rw [patB_yes h.all, h.any]
theorem prevD_succ (s : ByteArray) (k : Nat) : prevD s (k + 1) = digC (at8 s k) := by simp [prevD]
set_option maxHeartbeats 8000000 in
theorem specPatternValid_ok : Sound Try.prog 81 φPat := by
  refine sound_pq mixed GE_ok Try.func81 rfl 57 rfl [.tmp 2] rfl (by kernel_rfl) fun ps r hr => ?_
  obtain ⟨s, rfl, hq⟩ := F1_some hr
  clear hr
  split at hq
  case isFalse => cases hq
  case isTrue hlen =>
  cases hq
  refine ⟨by simp, ?_⟩
  simp only [dIs, dUs, dSs, dI_e, dU_e, dB_e, dS_e, dFn_e, dL_e, dA2_e, dA3_e, dA4_e, dA5_e]
  repeat' (first | (with_reducible first | apply i_seq | apply i_block | apply i_skip | apply i_exit | apply i_ret | apply i_kS | apply i_kSx | apply i_kSr | apply i_kL | apply i_kLx | apply i_kLr | apply i_kB | apply i_kBr | apply i_kBs | apply i_nil) | ((with_reducible apply i_region); (focus (simp only [List.map_cons, List.map_nil] <;> exact rfl))) | ((with_reducible apply i_draw); (focus (simp only [List.map_cons, List.map_nil] <;> exact rfl)); (focus (decide +kernel))) | ((with_reducible apply i_kBo); (focus rfl)) | ((first | ((with_reducible apply i_V); (focus rfl); (focus rfl); (focus rfl)) | ((with_reducible apply i_E); (focus rfl); (focus (first | rfl | (simp only [push_cast, ↓reduceIte, effOk, touch, refsOf, List.flatMap_cons, List.flatMap_nil])))) | ((with_reducible apply i_S); (focus rfl); (focus (first | rfl | (simp only [push_cast, ↓reduceIte, effOk, touch, refsOf, List.flatMap_cons, List.flatMap_nil])))) | ((with_reducible apply i_Vq); (focus rfl); (focus rfl)) | ((with_reducible apply i_Vp); (focus rfl); (focus rfl); (focus rfl)) | (with_reducible first | apply i_Gb | apply i_cond)); (focus (simp (disch := (first | omega | (simp only [push_cast]; done) | (simp only [push_cast]; omega) | ((try simp only [push_cast]); (with_reducible first | apply sel_lt | apply sel_ge); (focus decide); (focus (simp only [push_cast]; omega))))) only [push_cast, ↓reduceIte, Nat.reduceEqDiff, Nat.reduceBEq, Nat.reduceAdd, Nat.reduceSub, Int.reduceToNat, *] <;> with_reducible exact rfl)); all_goals try (intro hX; first | (cases hX; done) | ((with_reducible first | have hX0 : true = true := hX | have hX0 : false = false := hX); clear hX0 hX) | ((try simp only [decide_eq_true_eq, decide_eq_false_iff_not, Bool.not_eq_true', Bool.not_eq_false'] at hX); (try have hXb := inB_iff.1 hX)))))
  refine i_loop (α := Nat × Int) mixed (fun k => [(0, sv s), (3, iv k.2), (4, bv (prevD s k.1)), (5, iv k.1)]) (fun _ => []) (fun _ => 0)
    (fun k => PatI s k.1 k.2) (fun k => s.size - k.1) (by kernel_rfl) (0, 0) (PatI.zero s) ?_ trivial rfl ?_
  · simp only [push_cast, ↓reduceIte, Nat.reduceEqDiff, Nat.reduceBEq, Nat.reduceAdd, Nat.reduceSub, Int.reduceToNat]
    rfl
  · rintro ⟨k, n⟩ hi
    dsimp only at hi
    have hk := hi.kk
    have hn0 := hi.n0
    have hn1 := hi.n1
    have hrk := at8_rng s k
    generalize hd : prevD s k = d
    repeat' (first | (with_reducible first | apply i_seq | apply i_block | apply i_skip | apply i_exit | apply i_ret | apply i_kS | apply i_kSx | apply i_kSr | apply i_kL | apply i_kLx | apply i_kLr | apply i_kB | apply i_kBr | apply i_kBs | apply i_nil) | ((with_reducible apply i_region); (focus (simp only [List.map_cons, List.map_nil] <;> exact rfl))) | ((with_reducible apply i_draw); (focus (simp only [List.map_cons, List.map_nil] <;> exact rfl)); (focus (decide +kernel))) | ((with_reducible apply i_kBo); (focus rfl)) | ((first | ((with_reducible apply i_V); (focus rfl); (focus rfl); (focus rfl)) | ((with_reducible apply i_E); (focus rfl); (focus (first | rfl | (simp only [push_cast, ↓reduceIte, effOk, touch, refsOf, List.flatMap_cons, List.flatMap_nil])))) | ((with_reducible apply i_S); (focus rfl); (focus (first | rfl | (simp only [push_cast, ↓reduceIte, effOk, touch, refsOf, List.flatMap_cons, List.flatMap_nil])))) | ((with_reducible apply i_Vq); (focus rfl); (focus rfl)) | ((with_reducible apply i_Vp); (focus rfl); (focus rfl); (focus rfl)) | (with_reducible first | apply i_Gb | apply i_cond)); (focus (simp (disch := (first | omega | (simp only [push_cast]; done) | (simp only [push_cast]; omega) | ((try simp only [push_cast]); (with_reducible first | apply sel_lt | apply sel_ge); (focus decide); (focus (simp only [push_cast]; omega))))) only [push_cast, ↓reduceIte, Nat.reduceEqDiff, Nat.reduceBEq, Nat.reduceAdd, Nat.reduceSub, Int.reduceToNat, *] <;> with_reducible exact rfl)); all_goals try (intro hX; first | (cases hX; done) | ((with_reducible first | have hX0 : true = true := hX | have hX0 : false = false := hX); clear hX0 hX) | ((try simp only [decide_eq_true_eq, decide_eq_false_iff_not, Bool.not_eq_true', Bool.not_eq_false'] at hX); (try have hXb := inB_iff.1 hX)))))
    all_goals try ((first | apply i_end | apply i_endN); simp (disch := (first | omega | (simp only [push_cast]; done) | (simp only [push_cast]; omega) | ((try simp only [push_cast]); (with_reducible first | apply sel_lt | apply sel_ge); (focus decide); (focus (simp only [push_cast]; omega))))) only [push_cast, ↓reduceIte, Nat.reduceEqDiff, Nat.reduceBEq, Nat.reduceAdd, Nat.reduceSub, Int.reduceToNat, *])
    all_goals try (exfalso; omega)
    all_goals (first
      | (rw [patB_no (k := k) (by omega) (Bool.eq_false_iff.2 fun h => by rcases patAt_iff.1 h with h | h | h <;> (first | omega | (simp_all; done) | (simp_all; omega)))]; done)
      | exact ⟨(k + 1, n + 1), hi.letter (by omega) (inB_iff.2 ⟨by omega, by omega⟩), by dsimp only; omega, by (have hdg := @dig_no (at8 s k) (by omega); simp only [push_cast, ↓reduceIte, Nat.reduceEqDiff, Nat.reduceBEq, Nat.reduceAdd, Nat.reduceSub, Int.reduceToNat, prevD_succ, hdg]), trivial, rfl⟩
      | exact ⟨(k + 1, n), hi.other (by omega) (patAt_iff.2 (.inr (.inr ⟨by omega, by omega⟩))) (small_no (by omega)), by dsimp only; omega, by (have hdg := @dig_no (at8 s k) (by omega); simp only [push_cast, ↓reduceIte, Nat.reduceEqDiff, Nat.reduceBEq, Nat.reduceAdd, Nat.reduceSub, Int.reduceToNat, prevD_succ, hdg]; try exact congrArg (fun z => PV.val (Value.int .i64 z)) (by omega)), trivial, rfl⟩
      | exact ⟨(k + 1, n), hi.other (by omega) (patAt_iff.2 (.inr (.inl ⟨by omega, by omega, by simp_all⟩))) (small_no (by omega)), by dsimp only; omega, by (have hdg : digC (at8 s k) = true := inB_iff.2 ⟨by omega, by omega⟩; simp only [push_cast, ↓reduceIte, Nat.reduceEqDiff, Nat.reduceBEq, Nat.reduceAdd, Nat.reduceSub, Int.reduceToNat, prevD_succ, hdg]), trivial, rfl⟩
      | (rw [hi.done (by omega)]; simp_all; done)
      | (rw [hi.done (by omega)]; simp_all; omega))
def allWords (l : LS) : Bool := decide (l.length ≤ 12) && l.all wordB
noncomputable def φWords : Fun := F1 dSs fun l => if okSs l then some (bv (allWords l)) else none
theorem φWords_ap {l : LS} (h : okSs l) : φWords [.lst false 1 (l.map fun s => .val (.string s))] = some (.val (.bool (allWords l))) :=
  (F1_ap (A := dSs) l).trans (if_pos h)
noncomputable def GSWords : Ctx := ⟨fun f => if f = 69 then some φWord else none, fun f => none⟩
theorem GSWords_ok : SoundΓ Try.prog GSWords := ⟨(fun f φ h => by
  unfold GSWords at h
  dsimp only at h
  split at h
  · rename_i hf; cases h; subst hf; exact ⟨⟨_, Try.func69, rfl, rfl⟩, specWordValid_ok⟩
  cases h), (fun f φ h => by
  unfold GSWords at h
  dsimp only at h
  cases h)⟩
theorem GSWords_69 (ob : Objs) (ps : List PV) : evCall GSWords ob 69 ps = (ps.mapM (reify false 0 ob fuel)).bind φWord := by
  have h : GSWords.fn 69 = some φWord := by simp [GSWords]
  unfold evCall
  rw [h]
  cases ps.mapM (reify false 0 ob fuel) <;> rfl
set_option maxHeartbeats 4000000 in
theorem specWordsValid_ok : Sound Try.prog 58 φWords := by
  refine sound_pq mixed GSWords_ok Try.func58 rfl 19 rfl [.tmp 2] rfl (by kernel_rfl) fun ps r hr => ?_
  obtain ⟨l, rfl, hq⟩ := F1_some hr
  clear hr
  split at hq
  case isFalse => cases hq
  case isTrue hok =>
  cases hq
  obtain ⟨hlen, hsz⟩ := hok
  refine ⟨by simp, ?_⟩
  simp only [dIs, dUs, dSs, dI_e, dU_e, dB_e, dS_e, dFn_e, dL_e, dA2_e, dA3_e, dA4_e, dA5_e]
  have gswords_c69 := GSWords_69
  repeat' (first | (with_reducible first | apply i_seq | apply i_block | apply i_skip | apply i_exit | apply i_ret | apply i_kS | apply i_kSx | apply i_kSr | apply i_kL | apply i_kLx | apply i_kLr | apply i_kB | apply i_kBr | apply i_kBs | apply i_nil) | ((with_reducible apply i_region); (focus (simp only [List.map_cons, List.map_nil] <;> exact rfl))) | ((with_reducible apply i_draw); (focus (simp only [List.map_cons, List.map_nil] <;> exact rfl)); (focus (decide +kernel))) | ((with_reducible apply i_kBo); (focus rfl)) | ((first | ((with_reducible apply i_V); (focus rfl); (focus rfl); (focus rfl)) | ((with_reducible apply i_E); (focus rfl); (focus (first | rfl | (simp only [push_cast, ↓reduceIte, effOk, touch, refsOf, List.flatMap_cons, List.flatMap_nil])))) | ((with_reducible apply i_S); (focus rfl); (focus (first | rfl | (simp only [push_cast, ↓reduceIte, effOk, touch, refsOf, List.flatMap_cons, List.flatMap_nil])))) | ((with_reducible apply i_Vq); (focus rfl); (focus rfl)) | ((with_reducible apply i_Vp); (focus rfl); (focus rfl); (focus rfl)) | (with_reducible first | apply i_Gb | apply i_cond)); (focus (simp (disch := (first | omega | (simp only [push_cast]; done) | (simp only [push_cast]; omega) | ((try simp only [push_cast]); (with_reducible first | apply sel_lt | apply sel_ge); (focus decide); (focus (simp only [push_cast]; omega))))) only [push_cast, ↓reduceIte, Nat.reduceEqDiff, Nat.reduceBEq, Nat.reduceAdd, Nat.reduceSub, Int.reduceToNat, *] <;> with_reducible exact rfl)); all_goals try (intro hX; first | (cases hX; done) | ((with_reducible first | have hX0 : true = true := hX | have hX0 : false = false := hX); clear hX0 hX) | ((try simp only [decide_eq_true_eq, decide_eq_false_iff_not, Bool.not_eq_true', Bool.not_eq_false'] at hX); (try have hXb := inB_iff.1 hX)))))
  refine i_loop (α := Nat) mixed (fun k => [(0, .lst false 1 (l.map fun s => .val (.string s))), (3, iv k)]) (fun _ => []) (fun _ => 0)
    (fun k => k ≤ l.length ∧ ∀ j, j < k → wordB (l[j]?.getD .empty) = true) (fun k => l.length - k) (by kernel_rfl) 0 ⟨Nat.zero_le _, fun j hj => by omega⟩ ?_ trivial rfl ?_
  · simp only [push_cast, ↓reduceIte, Nat.reduceEqDiff, Nat.reduceBEq, Nat.reduceAdd, Nat.reduceSub, Int.reduceToNat]
  · intro k ⟨hk, hok⟩
    have ap := @φWord_ap (l[k]?.getD .empty) (by have := hsz k; omega)
    clear hsz
    repeat' (first | (with_reducible first | apply i_seq | apply i_block | apply i_skip | apply i_exit | apply i_ret | apply i_kS | apply i_kSx | apply i_kSr | apply i_kL | apply i_kLx | apply i_kLr | apply i_kB | apply i_kBr | apply i_kBs | apply i_nil) | ((with_reducible apply i_region); (focus (simp only [List.map_cons, List.map_nil] <;> exact rfl))) | ((with_reducible apply i_draw); (focus (simp only [List.map_cons, List.map_nil] <;> exact rfl)); (focus (decide +kernel))) | ((with_reducible apply i_kBo); (focus rfl)) | ((first | ((with_reducible apply i_V); (focus rfl); (focus rfl); (focus rfl)) | ((with_reducible apply i_E); (focus rfl); (focus (first | rfl | (simp only [push_cast, ↓reduceIte, effOk, touch, refsOf, List.flatMap_cons, List.flatMap_nil])))) | ((with_reducible apply i_S); (focus rfl); (focus (first | rfl | (simp only [push_cast, ↓reduceIte, effOk, touch, refsOf, List.flatMap_cons, List.flatMap_nil])))) | ((with_reducible apply i_Vq); (focus rfl); (focus rfl)) | ((with_reducible apply i_Vp); (focus rfl); (focus rfl); (focus rfl)) | (with_reducible first | apply i_Gb | apply i_cond)); (focus (simp (disch := (first | omega | (simp only [push_cast]; done) | (simp only [push_cast]; omega) | ((try simp only [push_cast]); (with_reducible first | apply sel_lt | apply sel_ge); (focus decide); (focus (simp only [push_cast]; omega))))) only [push_cast, ↓reduceIte, Nat.reduceEqDiff, Nat.reduceBEq, Nat.reduceAdd, Nat.reduceSub, Int.reduceToNat, *] <;> with_reducible exact rfl)); all_goals try (intro hX; first | (cases hX; done) | ((with_reducible first | have hX0 : true = true := hX | have hX0 : false = false := hX); clear hX0 hX) | ((try simp only [decide_eq_true_eq, decide_eq_false_iff_not, Bool.not_eq_true', Bool.not_eq_false'] at hX); (try have hXb := inB_iff.1 hX)))))
    all_goals try ((first | apply i_end | apply i_endN); simp (disch := (first | omega | (simp only [push_cast]; done) | (simp only [push_cast]; omega) | ((try simp only [push_cast]); (with_reducible first | apply sel_lt | apply sel_ge); (focus decide); (focus (simp only [push_cast]; omega))))) only [push_cast, ↓reduceIte, Nat.reduceEqDiff, Nat.reduceBEq, Nat.reduceAdd, Nat.reduceSub, Int.reduceToNat, *])
    · rw [show allWords l = false from by (unfold allWords; rw [all_noK (d := .empty) (k := k) (by omega) (by simp_all), Bool.and_false])]
    · refine ⟨k + 1, ⟨by omega, fun j hj => ?_⟩, by dsimp only; omega, by simp only [push_cast, ↓reduceIte, Nat.reduceEqDiff, Nat.reduceBEq, Nat.reduceAdd, Nat.reduceSub, Int.reduceToNat], trivial, rfl⟩
      by_cases h1 : j < k
      · exact hok j h1
      · have : j = k := by omega
        subst this
        simp_all
    · rw [show allWords l = decide (l.length ≤ 12) from by (unfold allWords; rw [all_yesK (d := .empty) fun j hj => hok j (by omega), Bool.and_true])]
      simp
      omega
def allPats (l : LS) : Bool := decide (l.length ≤ 20) && l.all patB
noncomputable def φPats : Fun := F1 dSs fun l => if okSs l then some (bv (allPats l)) else none
theorem φPats_ap {l : LS} (h : okSs l) : φPats [.lst false 1 (l.map fun s => .val (.string s))] = some (.val (.bool (allPats l))) :=
  (F1_ap (A := dSs) l).trans (if_pos h)
noncomputable def GSPats : Ctx := ⟨fun f => if f = 81 then some φPat else none, fun f => none⟩
theorem GSPats_ok : SoundΓ Try.prog GSPats := ⟨(fun f φ h => by
  unfold GSPats at h
  dsimp only at h
  split at h
  · rename_i hf; cases h; subst hf; exact ⟨⟨_, Try.func81, rfl, rfl⟩, specPatternValid_ok⟩
  cases h), (fun f φ h => by
  unfold GSPats at h
  dsimp only at h
  cases h)⟩
theorem GSPats_81 (ob : Objs) (ps : List PV) : evCall GSPats ob 81 ps = (ps.mapM (reify false 0 ob fuel)).bind φPat := by
  have h : GSPats.fn 81 = some φPat := by simp [GSPats]
  unfold evCall
  rw [h]
  cases ps.mapM (reify false 0 ob fuel) <;> rfl
set_option maxHeartbeats 4000000 in
theorem specPatternsValid_ok : Sound Try.prog 59 φPats := by
  refine sound_pq mixed GSPats_ok Try.func59 rfl 19 rfl [.tmp 2] rfl (by kernel_rfl) fun ps r hr => ?_
  obtain ⟨l, rfl, hq⟩ := F1_some hr
  clear hr
  split at hq
  case isFalse => cases hq
  case isTrue hok =>
  cases hq
  obtain ⟨hlen, hsz⟩ := hok
  refine ⟨by simp, ?_⟩
  simp only [dIs, dUs, dSs, dI_e, dU_e, dB_e, dS_e, dFn_e, dL_e, dA2_e, dA3_e, dA4_e, dA5_e]
  have gspats_c81 := GSPats_81
  repeat' (first | (with_reducible first | apply i_seq | apply i_block | apply i_skip | apply i_exit | apply i_ret | apply i_kS | apply i_kSx | apply i_kSr | apply i_kL | apply i_kLx | apply i_kLr | apply i_kB | apply i_kBr | apply i_kBs | apply i_nil) | ((with_reducible apply i_region); (focus (simp only [List.map_cons, List.map_nil] <;> exact rfl))) | ((with_reducible apply i_draw); (focus (simp only [List.map_cons, List.map_nil] <;> exact rfl)); (focus (decide +kernel))) | ((with_reducible apply i_kBo); (focus rfl)) | ((first | ((with_reducible apply i_V); (focus rfl); (focus rfl); (focus rfl)) | ((with_reducible apply i_E); (focus rfl); (focus (first | rfl | (simp only [push_cast, ↓reduceIte, effOk, touch, refsOf, List.flatMap_cons, List.flatMap_nil])))) | ((with_reducible apply i_S); (focus rfl); (focus (first | rfl | (simp only [push_cast, ↓reduceIte, effOk, touch, refsOf, List.flatMap_cons, List.flatMap_nil])))) | ((with_reducible apply i_Vq); (focus rfl); (focus rfl)) | ((with_reducible apply i_Vp); (focus rfl); (focus rfl); (focus rfl)) | (with_reducible first | apply i_Gb | apply i_cond)); (focus (simp (disch := (first | omega | (simp only [push_cast]; done) | (simp only [push_cast]; omega) | ((try simp only [push_cast]); (with_reducible first | apply sel_lt | apply sel_ge); (focus decide); (focus (simp only [push_cast]; omega))))) only [push_cast, ↓reduceIte, Nat.reduceEqDiff, Nat.reduceBEq, Nat.reduceAdd, Nat.reduceSub, Int.reduceToNat, *] <;> with_reducible exact rfl)); all_goals try (intro hX; first | (cases hX; done) | ((with_reducible first | have hX0 : true = true := hX | have hX0 : false = false := hX); clear hX0 hX) | ((try simp only [decide_eq_true_eq, decide_eq_false_iff_not, Bool.not_eq_true', Bool.not_eq_false'] at hX); (try have hXb := inB_iff.1 hX)))))
  refine i_loop (α := Nat) mixed (fun k => [(0, .lst false 1 (l.map fun s => .val (.string s))), (3, iv k)]) (fun _ => []) (fun _ => 0)
    (fun k => k ≤ l.length ∧ ∀ j, j < k → patB (l[j]?.getD .empty) = true) (fun k => l.length - k) (by kernel_rfl) 0 ⟨Nat.zero_le _, fun j hj => by omega⟩ ?_ trivial rfl ?_
  · simp only [push_cast, ↓reduceIte, Nat.reduceEqDiff, Nat.reduceBEq, Nat.reduceAdd, Nat.reduceSub, Int.reduceToNat]
  · intro k ⟨hk, hok⟩
    have ap := @φPat_ap (l[k]?.getD .empty) (by have := hsz k; omega)
    clear hsz
    repeat' (first | (with_reducible first | apply i_seq | apply i_block | apply i_skip | apply i_exit | apply i_ret | apply i_kS | apply i_kSx | apply i_kSr | apply i_kL | apply i_kLx | apply i_kLr | apply i_kB | apply i_kBr | apply i_kBs | apply i_nil) | ((with_reducible apply i_region); (focus (simp only [List.map_cons, List.map_nil] <;> exact rfl))) | ((with_reducible apply i_draw); (focus (simp only [List.map_cons, List.map_nil] <;> exact rfl)); (focus (decide +kernel))) | ((with_reducible apply i_kBo); (focus rfl)) | ((first | ((with_reducible apply i_V); (focus rfl); (focus rfl); (focus rfl)) | ((with_reducible apply i_E); (focus rfl); (focus (first | rfl | (simp only [push_cast, ↓reduceIte, effOk, touch, refsOf, List.flatMap_cons, List.flatMap_nil])))) | ((with_reducible apply i_S); (focus rfl); (focus (first | rfl | (simp only [push_cast, ↓reduceIte, effOk, touch, refsOf, List.flatMap_cons, List.flatMap_nil])))) | ((with_reducible apply i_Vq); (focus rfl); (focus rfl)) | ((with_reducible apply i_Vp); (focus rfl); (focus rfl); (focus rfl)) | (with_reducible first | apply i_Gb | apply i_cond)); (focus (simp (disch := (first | omega | (simp only [push_cast]; done) | (simp only [push_cast]; omega) | ((try simp only [push_cast]); (with_reducible first | apply sel_lt | apply sel_ge); (focus decide); (focus (simp only [push_cast]; omega))))) only [push_cast, ↓reduceIte, Nat.reduceEqDiff, Nat.reduceBEq, Nat.reduceAdd, Nat.reduceSub, Int.reduceToNat, *] <;> with_reducible exact rfl)); all_goals try (intro hX; first | (cases hX; done) | ((with_reducible first | have hX0 : true = true := hX | have hX0 : false = false := hX); clear hX0 hX) | ((try simp only [decide_eq_true_eq, decide_eq_false_iff_not, Bool.not_eq_true', Bool.not_eq_false'] at hX); (try have hXb := inB_iff.1 hX)))))
    all_goals try ((first | apply i_end | apply i_endN); simp (disch := (first | omega | (simp only [push_cast]; done) | (simp only [push_cast]; omega) | ((try simp only [push_cast]); (with_reducible first | apply sel_lt | apply sel_ge); (focus decide); (focus (simp only [push_cast]; omega))))) only [push_cast, ↓reduceIte, Nat.reduceEqDiff, Nat.reduceBEq, Nat.reduceAdd, Nat.reduceSub, Int.reduceToNat, *])
    · rw [show allPats l = false from by (unfold allPats; rw [all_noK (d := .empty) (k := k) (by omega) (by simp_all), Bool.and_false])]
    · refine ⟨k + 1, ⟨by omega, fun j hj => ?_⟩, by dsimp only; omega, by simp only [push_cast, ↓reduceIte, Nat.reduceEqDiff, Nat.reduceBEq, Nat.reduceAdd, Nat.reduceSub, Int.reduceToNat], trivial, rfl⟩
      by_cases h1 : j < k
      · exact hok j h1
      · have : j = k := by omega
        subst this
        simp_all
    · rw [show allPats l = decide (l.length ≤ 20) from by (unfold allPats; rw [all_yesK (d := .empty) fun j hj => hok j (by omega), Bool.and_true])]
      simp
      omega
end Go.Proofs.Ytngcedklbinhjaa
namespace Go.Proofs.Ytngcedklbinhjaa
open Go.RowKit
set_option linter.all false
def letW (c : Int) : Int := if c < 97 ∨ 122 < c then 0 else if c = 105 ∨ c = 106 ∨ c = 108 then 3 else if c = 102 ∨ c = 114 ∨ c = 116 then 4 else if c = 109 ∨ c = 119 then 8 else 5
def nearI (a b : Int) : Int := if ((a = 118 ∨ a = 119 ∨ a = 121) ∧ (b = 97 ∨ b = 101 ∨ b = 111)) ∨ (a = 114 ∧ (b = 110 ∨ b = 109)) then 1 else 0
def joinQ (a b : Int) : Bool := decide (a = 102 ∧ (b = 105 ∨ b = 106 ∨ b = 108 ∨ b = 102))
theorem letW_rng (c : Int) : 0 ≤ letW c ∧ letW c ≤ 8 := by
  unfold letW
  repeat' split
  all_goals omega
theorem nearI_rng (a b : Int) : 0 ≤ nearI a b ∧ nearI a b ≤ 1 := by
  unfold nearI
  split <;> omega
def φLetW : Fun := F1 dU fun c => some (iv (letW c))
theorem φLetW_ap (c : Int) : φLetW [.val (.int .u8 c)] = some (.val (.int .i64 (letW c))) := rfl
def φNear : Fun := F2 dU dU fun a b => some (iv (nearI a b))
theorem φNear_ap (a b : Int) : φNear [.val (.int .u8 a), .val (.int .u8 b)] = some (.val (.int .i64 (nearI a b))) := rfl
def φJoinQ : Fun := F2 dU dU fun a b => some (bv (joinQ a b))
theorem φJoinQ_ap (a b : Int) : φJoinQ [.val (.int .u8 a), .val (.int .u8 b)] = some (.val (.bool (joinQ a b))) := rfl
theorem specLetW_ok : Sound Try.prog 101 φLetW := by
  refine sound_pq mixed GE_ok Try.func101 rfl 39 rfl [.tmp 2] rfl (by kernel_rfl) fun ps r hr => ?_
  obtain ⟨c, rfl, hr⟩ := F1_some hr
  cases hr
  refine ⟨by simp, ?_⟩
  simp only [dIs, dUs, dSs, dI_e, dU_e, dB_e, dS_e, dFn_e, dL_e, dA2_e, dA3_e, dA4_e, dA5_e]
  (repeat' (first | (with_reducible first | apply i_seq | apply i_block | apply i_skip | apply i_exit | apply i_ret | apply i_kS | apply i_kSx | apply i_kSr | apply i_kL | apply i_kLx | apply i_kLr | apply i_kB | apply i_kBr | apply i_kBs | apply i_nil) | ((with_reducible apply i_region); (focus (simp only [List.map_cons, List.map_nil] <;> exact rfl))) | ((with_reducible apply i_draw); (focus (simp only [List.map_cons, List.map_nil] <;> exact rfl)); (focus (decide +kernel))) | ((with_reducible apply i_kBo); (focus rfl)) | ((first | ((with_reducible apply i_V); (focus rfl); (focus rfl); (focus rfl)) | ((with_reducible apply i_E); (focus rfl); (focus (first | rfl | (simp only [push_cast, ↓reduceIte, effOk, touch, refsOf, List.flatMap_cons, List.flatMap_nil])))) | ((with_reducible apply i_S); (focus rfl); (focus (first | rfl | (simp only [push_cast, ↓reduceIte, effOk, touch, refsOf, List.flatMap_cons, List.flatMap_nil])))) | ((with_reducible apply i_Vq); (focus rfl); (focus rfl)) | ((with_reducible apply i_Vp); (focus rfl); (focus rfl); (focus rfl)) | (with_reducible first | apply i_Gb | apply i_cond)); (focus (simp (disch := (first | omega | (simp only [push_cast]; done) | (simp only [push_cast]; omega) | ((try simp only [push_cast]); (with_reducible first | apply sel_lt | apply sel_ge); (focus decide); (focus (simp only [push_cast]; omega))))) only [push_cast, ↓reduceIte, Nat.reduceEqDiff, Nat.reduceBEq, Nat.reduceAdd, Nat.reduceSub, Int.reduceToNat, *] <;> with_reducible exact rfl)); all_goals try (intro hX; first | (cases hX; done) | ((with_reducible first | have hX0 : true = true := hX | have hX0 : false = false := hX); clear hX0 hX) | ((try simp only [decide_eq_true_eq, decide_eq_false_iff_not, Bool.not_eq_true', Bool.not_eq_false'] at hX); (try have hXb := inB_iff.1 hX)))))); all_goals try (exfalso; omega)
  all_goals ((first | apply i_end | apply i_endN); simp (disch := (first | omega | (simp only [push_cast]; done) | (simp only [push_cast]; omega) | ((try simp only [push_cast]); (with_reducible first | apply sel_lt | apply sel_ge); (focus decide); (focus (simp only [push_cast]; omega))))) only [push_cast, ↓reduceIte, Nat.reduceEqDiff, Nat.reduceBEq, Nat.reduceAdd, Nat.reduceSub, Int.reduceToNat, *])
  all_goals ((refine congrArg (fun z => some (PV.val (Value.int IntKind.i64 z))) ?_); unfold letW; repeat' split)
  all_goals omega
theorem specNear_ok : Sound Try.prog 102 φNear := by
  refine sound_pq mixed GE_ok Try.func102 rfl 43 rfl [.tmp 4] rfl (by kernel_rfl) fun ps r hr => ?_
  obtain ⟨a, b, rfl, hr⟩ := F2_some hr
  cases hr
  refine ⟨by simp, ?_⟩
  simp only [dIs, dUs, dSs, dI_e, dU_e, dB_e, dS_e, dFn_e, dL_e, dA2_e, dA3_e, dA4_e, dA5_e]
  (repeat' (first | (with_reducible first | apply i_seq | apply i_block | apply i_skip | apply i_exit | apply i_ret | apply i_kS | apply i_kSx | apply i_kSr | apply i_kL | apply i_kLx | apply i_kLr | apply i_kB | apply i_kBr | apply i_kBs | apply i_nil) | ((with_reducible apply i_region); (focus (simp only [List.map_cons, List.map_nil] <;> exact rfl))) | ((with_reducible apply i_draw); (focus (simp only [List.map_cons, List.map_nil] <;> exact rfl)); (focus (decide +kernel))) | ((with_reducible apply i_kBo); (focus rfl)) | ((first | ((with_reducible apply i_V); (focus rfl); (focus rfl); (focus rfl)) | ((with_reducible apply i_E); (focus rfl); (focus (first | rfl | (simp only [push_cast, ↓reduceIte, effOk, touch, refsOf, List.flatMap_cons, List.flatMap_nil])))) | ((with_reducible apply i_S); (focus rfl); (focus (first | rfl | (simp only [push_cast, ↓reduceIte, effOk, touch, refsOf, List.flatMap_cons, List.flatMap_nil])))) | ((with_reducible apply i_Vq); (focus rfl); (focus rfl)) | ((with_reducible apply i_Vp); (focus rfl); (focus rfl); (focus rfl)) | (with_reducible first | apply i_Gb | apply i_cond)); (focus (simp (disch := (first | omega | (simp only [push_cast]; done) | (simp only [push_cast]; omega) | ((try simp only [push_cast]); (with_reducible first | apply sel_lt | apply sel_ge); (focus decide); (focus (simp only [push_cast]; omega))))) only [push_cast, ↓reduceIte, Nat.reduceEqDiff, Nat.reduceBEq, Nat.reduceAdd, Nat.reduceSub, Int.reduceToNat, *] <;> with_reducible exact rfl)); all_goals try (intro hX; first | (cases hX; done) | ((with_reducible first | have hX0 : true = true := hX | have hX0 : false = false := hX); clear hX0 hX) | ((try simp only [decide_eq_true_eq, decide_eq_false_iff_not, Bool.not_eq_true', Bool.not_eq_false'] at hX); (try have hXb := inB_iff.1 hX)))))); all_goals try (exfalso; omega)
  all_goals ((first | apply i_end | apply i_endN); simp (disch := (first | omega | (simp only [push_cast]; done) | (simp only [push_cast]; omega) | ((try simp only [push_cast]); (with_reducible first | apply sel_lt | apply sel_ge); (focus decide); (focus (simp only [push_cast]; omega))))) only [push_cast, ↓reduceIte, Nat.reduceEqDiff, Nat.reduceBEq, Nat.reduceAdd, Nat.reduceSub, Int.reduceToNat, *])
  all_goals ((refine congrArg (fun z => some (PV.val (Value.int IntKind.i64 z))) ?_); unfold nearI; repeat' split)
  all_goals omega
theorem specJoinQ_ok : Sound Try.prog 116 φJoinQ := by
  refine sound_pq mixed GE_ok Try.func116 rfl 23 rfl [.tmp 4] rfl (by kernel_rfl) fun ps r hr => ?_
  obtain ⟨a, b, rfl, hr⟩ := F2_some hr
  cases hr
  refine ⟨by simp, ?_⟩
  simp only [dIs, dUs, dSs, dI_e, dU_e, dB_e, dS_e, dFn_e, dL_e, dA2_e, dA3_e, dA4_e, dA5_e]
  (repeat' (first | (with_reducible first | apply i_seq | apply i_block | apply i_skip | apply i_exit | apply i_ret | apply i_kS | apply i_kSx | apply i_kSr | apply i_kL | apply i_kLx | apply i_kLr | apply i_kB | apply i_kBr | apply i_kBs | apply i_nil) | ((with_reducible apply i_region); (focus (simp only [List.map_cons, List.map_nil] <;> exact rfl))) | ((with_reducible apply i_draw); (focus (simp only [List.map_cons, List.map_nil] <;> exact rfl)); (focus (decide +kernel))) | ((with_reducible apply i_kBo); (focus rfl)) | ((first | ((with_reducible apply i_V); (focus rfl); (focus rfl); (focus rfl)) | ((with_reducible apply i_E); (focus rfl); (focus (first | rfl | (simp only [push_cast, ↓reduceIte, effOk, touch, refsOf, List.flatMap_cons, List.flatMap_nil])))) | ((with_reducible apply i_S); (focus rfl); (focus (first | rfl | (simp only [push_cast, ↓reduceIte, effOk, touch, refsOf, List.flatMap_cons, List.flatMap_nil])))) | ((with_reducible apply i_Vq); (focus rfl); (focus rfl)) | ((with_reducible apply i_Vp); (focus rfl); (focus rfl); (focus rfl)) | (with_reducible first | apply i_Gb | apply i_cond)); (focus (simp (disch := (first | omega | (simp only [push_cast]; done) | (simp only [push_cast]; omega) | ((try simp only [push_cast]); (with_reducible first | apply sel_lt | apply sel_ge); (focus decide); (focus (simp only [push_cast]; omega))))) only [push_cast, ↓reduceIte, Nat.reduceEqDiff, Nat.reduceBEq, Nat.reduceAdd, Nat.reduceSub, Int.reduceToNat, *] <;> with_reducible exact rfl)); all_goals try (intro hX; first | (cases hX; done) | ((with_reducible first | have hX0 : true = true := hX | have hX0 : false = false := hX); clear hX0 hX) | ((try simp only [decide_eq_true_eq, decide_eq_false_iff_not, Bool.not_eq_true', Bool.not_eq_false'] at hX); (try have hXb := inB_iff.1 hX)))))); all_goals try (exfalso; omega)
  all_goals ((first | apply i_end | apply i_endN); simp (disch := (first | omega | (simp only [push_cast]; done) | (simp only [push_cast]; omega) | ((try simp only [push_cast]); (with_reducible first | apply sel_lt | apply sel_ge); (focus decide); (focus (simp only [push_cast]; omega))))) only [push_cast, ↓reduceIte, Nat.reduceEqDiff, Nat.reduceBEq, Nat.reduceAdd, Nat.reduceSub, Int.reduceToNat, *])
  all_goals ((refine congrArg (fun z => some (PV.val (Value.bool z))) ?_); unfold joinQ; first | (simp; omega) | simp_all)
end Go.Proofs.Ytngcedklbinhjaa
namespace Go.Proofs.Ytngcedklbinhjaa
open Go.RowKit
set_option linter.all false
abbrev sgN (s : ByteArray) (i : Nat) : Nat := if i + 1 < s.size ∧ joinQ (at8 s i) (at8 s (i + 1)) = true then 2 else 1
def sgF (s : ByteArray) : Nat → Nat → LS
  | 0, _ => []
  | f + 1, i => if i < s.size then s.extract i (i + sgN s i) :: sgF s f (i + sgN s i) else []
def signs (s : ByteArray) : LS := sgF s s.size 0
theorem sgF_step {s : ByteArray} {f i : Nat} (h : i < s.size) : sgF s (f + 1) i = s.extract i (i + sgN s i) :: sgF s f (i + sgN s i) := by
  rw [sgF, if_pos h]
theorem sgF_end {s : ByteArray} {f i : Nat} (h : s.size ≤ i) : sgF s f i = [] := by
  cases f with
  | zero => rfl
  | succ f => rw [sgF, if_neg (by omega)]
theorem sgN_rng (s : ByteArray) (i : Nat) : 1 ≤ sgN s i ∧ sgN s i ≤ 2 ∧ (i < s.size → i + sgN s i ≤ s.size) := by
  unfold sgN
  split <;> omega
theorem at8_ext {s : ByteArray} {a b j : Nat} (h : j < b - a) (hb : b ≤ s.size) : at8 (s.extract a b) j = at8 s (a + j) := by
  unfold at8
  have h1 : j < (s.extract a b).size := by rw [ByteArray.size_extract]; omega
  rw [getElem?_pos (s.extract a b) j h1, getElem?_pos s (a + j) (by omega)]
  rw [ByteArray.getElem_extract]
def okSg (x : ByteArray) : Prop := 1 ≤ x.size ∧ x.size ≤ 2 ∧ ∀ j, j < x.size → 97 ≤ at8 x j ∧ at8 x j ≤ 122
theorem sgF_ok {s : ByteArray} (h : ∀ j, j < s.size → 97 ≤ at8 s j ∧ at8 s j ≤ 122) : ∀ (f i : Nat), (∀ x ∈ sgF s f i, okSg x) ∧ (sgF s f i).length ≤ s.size - i
  | 0, i => ⟨by simp [sgF], by simp [sgF]⟩
  | f + 1, i => by
    by_cases hi : i < s.size
    · obtain ⟨h1, h2, h3⟩ := sgN_rng s i
      obtain ⟨i1, i2⟩ := sgF_ok h f (i + sgN s i)
      rw [sgF_step hi]
      refine ⟨fun x hx => ?_, by rw [List.length_cons]; have := h3 hi; omega⟩
      rcases List.mem_cons.1 hx with rfl | hx
      · have hsz : (s.extract i (i + sgN s i)).size = sgN s i := by rw [ByteArray.size_extract]; have := h3 hi; omega
        refine ⟨by omega, by omega, fun j hj => ?_⟩
        have h4 := h3 hi
        rw [at8_ext (by omega) (by omega)]
        exact h _ (by omega)
      · exact i1 x hx
    · rw [sgF_end (by omega)]
      exact ⟨by simp, by simp⟩
theorem wordB_letters {s : ByteArray} (h : wordB s = true) : (∀ j, j < s.size → 97 ≤ at8 s j ∧ at8 s j ≤ 122) ∧ 1 ≤ s.size ∧ s.size ≤ 20 := by
  unfold wordB at h
  rw [Bool.and_eq_true, List.all_eq_true] at h
  refine ⟨fun j hj => inB_iff.1 (h.1 j (List.mem_range.2 hj)), ?_⟩
  have := inB_iff.1 h.2
  omega
theorem signs_ok {s : ByteArray} (h : wordB s = true) : (∀ x ∈ signs s, okSg x) ∧ 1 ≤ (signs s).length ∧ (signs s).length ≤ 20 := by
  obtain ⟨h1, h2, h3⟩ := wordB_letters h
  obtain ⟨i1, i2⟩ := sgF_ok h1 s.size 0
  refine ⟨i1, ?_, by unfold signs; omega⟩
  unfold signs
  obtain ⟨n, hn⟩ : ∃ n, s.size = n + 1 := ⟨s.size - 1, by omega⟩
  rw [hn, sgF_step (by omega), List.length_cons]
  omega
theorem signs_at {s : ByteArray} (h : wordB s = true) {k : Nat} (hk : k < (signs s).length) : okSg ((signs s)[k]?.getD .empty) := by
  rw [List.getElem?_eq_getElem hk, Option.getD_some]
  exact (signs_ok h).1 _ (List.getElem_mem hk)
def sgW (x : ByteArray) : Nat → Int
  | 0 => 0
  | j + 1 => sgW x j + letW (at8 x j)
def nearK (g : LS) (k : Nat) : Int := if k + 1 < g.length then nearI (at8 (g[k]?.getD .empty) ((g[k]?.getD .empty).size - 1)) (at8 (g[k + 1]?.getD .empty) 0) else 0
def wdK (g : LS) : Nat → Int
  | 0 => 0
  | k + 1 => wdK g k + sgW (g[k]?.getD .empty) (g[k]?.getD .empty).size - ((g[k]?.getD .empty).size - 1) - nearK g k
def wordW (s : ByteArray) : Int := if wordB s = true then wdK (signs s) (signs s).length else -1
theorem sgW_rng {x : ByteArray} (h : okSg x) : ∀ j, j ≤ x.size → 3 * (j : Int) ≤ sgW x j ∧ sgW x j ≤ 8 * j
  | 0, _ => ⟨by simp [sgW], by simp [sgW]⟩
  | j + 1, hj => by
    have ih := sgW_rng h j (by omega)
    have h1 := letW_rng (at8 x j)
    have h2 := h.2.2 j (by omega)
    have h3 : 3 ≤ letW (at8 x j) := by
      unfold letW
      rw [if_neg (by omega)]
      repeat' split
      all_goals omega
    unfold sgW
    push_cast
    omega
theorem sgW_full {x : ByteArray} (h : okSg x) : ∀ j, j ≤ x.size → 0 ≤ sgW x j ∧ sgW x j ≤ 16 := fun j hj => by
  have := sgW_rng h j hj
  have := h.2.1
  omega
theorem wdK_rng {g : LS} (h : ∀ k, k < g.length → okSg (g[k]?.getD .empty)) : ∀ k, k ≤ g.length → 0 ≤ wdK g k ∧ wdK g k ≤ 16 * k
  | 0, _ => ⟨by simp [wdK], by simp [wdK]⟩
  | k + 1, hk => by
    have ih := wdK_rng h k (by omega)
    have h1 := h k (by omega)
    have h2 := sgW_rng h1 _ (Nat.le_refl _)
    have h3 := h1.1
    have h4 := h1.2.1
    have h5 : 0 ≤ nearK g k ∧ nearK g k ≤ 1 := by
      unfold nearK
      split
      · exact nearI_rng _ _
      · omega
    unfold wdK
    generalize nearK g k = m at *
    generalize sgW (g[k]?.getD .empty) (g[k]?.getD .empty).size = z at *
    generalize (g[k]?.getD ByteArray.empty).size = y at *
    push_cast
    omega
theorem wordW_rng {s : ByteArray} (h : wordB s = true) : 0 ≤ wordW s ∧ wordW s ≤ 320 := by
  have h1 := wdK_rng (fun k hk => signs_at h hk) _ (Nat.le_refl _)
  have h2 := (signs_ok h).2.2
  unfold wordW
  rw [if_pos h]
  omega
end Go.Proofs.Ytngcedklbinhjaa
namespace Go.Proofs.Ytngcedklbinhjaa
open Go.RowKit
set_option linter.all false
def patK (p : ByteArray) : Nat → ByteArray × List Int × Int
  | 0 => (⟨#[]⟩, [], 0)
  | k + 1 => if digC (at8 p k) = true then ((patK p k).1, (patK p k).2.1, at8 p k - 48) else ((patK p k).1 ++ p.extract k (k + 1), (patK p k).2.1 ++ [(patK p k).2.2], 0)
def lettersP (p : ByteArray) : ByteArray := (patK p p.size).1
def levelsP (p : ByteArray) : List Int := (patK p p.size).2.1 ++ [(patK p p.size).2.2]
theorem patK_dig {p : ByteArray} {k : Nat} (h : digC (at8 p k) = true) : patK p (k + 1) = ((patK p k).1, (patK p k).2.1, at8 p k - 48) := by
  rw [patK, if_pos h]
theorem patK_let {p : ByteArray} {k : Nat} (h : digC (at8 p k) = false) : patK p (k + 1) = ((patK p k).1 ++ p.extract k (k + 1), (patK p k).2.1 ++ [(patK p k).2.2], 0) := by
  rw [patK, if_neg (by rw [h]; decide)]
theorem patK_rng (p : ByteArray) : ∀ k, k ≤ p.size → (patK p k).1.size = (patK p k).2.1.length ∧ (patK p k).1.size ≤ k ∧ (0 ≤ (patK p k).2.2 ∧ (patK p k).2.2 ≤ 9) ∧ ∀ x ∈ (patK p k).2.1, 0 ≤ x ∧ x ≤ 9
  | 0, _ => ⟨rfl, Nat.le_refl _, ⟨Int.le_refl _, by show (0 : Int) ≤ 9; omega⟩, by simp [patK]⟩
  | k + 1, hk => by
    obtain ⟨h1, h2, h3, h4⟩ := patK_rng p k (by omega)
    cases hd : digC (at8 p k) with
    | true =>
      rw [patK_dig hd]
      have := inB_iff.1 hd
      exact ⟨h1, by dsimp only; omega, by dsimp only; omega, h4⟩
    | false =>
      rw [patK_let hd]
      refine ⟨?_, ?_, ⟨Int.le_refl _, by show (0 : Int) ≤ 9; omega⟩, fun x hx => ?_⟩
      · dsimp only
        rw [ByteArray.size_append, ByteArray.size_extract, List.length_append, List.length_singleton]
        omega
      · dsimp only
        rw [ByteArray.size_append, ByteArray.size_extract]
        omega
      · rcases List.mem_append.1 hx with hx | hx
        · exact h4 x hx
        · rw [List.mem_singleton.1 hx]
          exact h3
theorem levelsP_rng (p : ByteArray) : (levelsP p).length = (lettersP p).size + 1 ∧ (lettersP p).size ≤ p.size ∧ ∀ k : Nat, 0 ≤ (levelsP p)[k]?.getD 0 ∧ (levelsP p)[k]?.getD 0 ≤ 9 := by
  obtain ⟨h1, h2, h3, h4⟩ := patK_rng p p.size (Nat.le_refl _)
  refine ⟨by unfold levelsP lettersP; rw [List.length_append, List.length_singleton]; omega, h2, fun k => ?_⟩
  by_cases hk : k < (levelsP p).length
  · rw [List.getElem?_eq_getElem hk, Option.getD_some]
    have hm : (levelsP p)[k] ∈ levelsP p := List.getElem_mem hk
    rcases List.mem_append.1 hm with hm | hm
    · exact h4 _ hm
    · rw [List.mem_singleton.1 hm]; exact h3
  · rw [List.getElem?_eq_none (by omega)]
    decide
def lvSet (sz a j : Nat) (lv o : List Int) : List Int := if 1 ≤ a + j ∧ a + j ≤ sz + 1 then o.set (a + j - 1) (if lv[j]?.getD 0 > o[a + j - 1]?.getD 0 then lv[j]?.getD 0 else o[a + j - 1]?.getD 0) else o
def lvJ (sz a : Nat) (lv o : List Int) : Nat → List Int
  | 0 => o
  | j + 1 => lvSet sz a j lv (lvJ sz a lv o j)
open Classical in
noncomputable def lvA (d : ByteArray) (sz : Nat) (lt : ByteArray) (lv o : List Int) : Nat → List Int
  | 0 => o
  | a + 1 => if d.extract a (a + lt.size) = lt then lvJ sz a lv (lvA d sz lt lv o a) lv.length else lvA d sz lt lv o a
def dotW (w : ByteArray) : ByteArray := (⟨#[46]⟩ ++ w) ++ ⟨#[46]⟩
theorem dotW_size (w : ByteArray) : (dotW w).size = w.size + 2 := by
  unfold dotW
  rw [ByteArray.size_append, ByteArray.size_append, show (⟨#[46]⟩ : ByteArray).size = 1 from rfl]
  omega
noncomputable def lvP (w : ByteArray) (pats : LS) : Nat → List Int
  | 0 => List.replicate (w.size + 1) 0
  | k + 1 => lvA (dotW w) w.size (lettersP (pats[k]?.getD .empty)) (levelsP (pats[k]?.getD .empty)) (lvP w pats k) (w.size + 3 - (lettersP (pats[k]?.getD .empty)).size)
noncomputable def levelsR (w : ByteArray) (pats : LS) : List Int := lvP w pats pats.length
def okLv (sz : Nat) (o : List Int) : Prop := o.length = sz + 1 ∧ ∀ k : Nat, 0 ≤ o[k]?.getD 0 ∧ o[k]?.getD 0 ≤ 9
theorem okLv.set {sz a j : Nat} {lv o : List Int} (h : okLv sz o) (hl : ∀ k : Nat, 0 ≤ lv[k]?.getD 0 ∧ lv[k]?.getD 0 ≤ 9) : okLv sz (lvSet sz a j lv o) := by
  unfold lvSet
  split
  · rename_i hc
    refine ⟨by rw [List.length_set]; exact h.1, fun k => ?_⟩
    have h1 := h.2 (a + j - 1)
    have h2 := hl j
    have h3 := h.2 k
    have h4 := h.1
    by_cases hk : a + j - 1 = k
    · subst hk
      rw [List.getElem?_set_self (by omega), Option.getD_some]
      split <;> omega
    · rw [List.getElem?_set_ne hk]
      exact h3
  · exact h
theorem okLv.lvJ {sz a : Nat} {lv o : List Int} (h : okLv sz o) (hl : ∀ k : Nat, 0 ≤ lv[k]?.getD 0 ∧ lv[k]?.getD 0 ≤ 9) : ∀ j, okLv sz (lvJ sz a lv o j)
  | 0 => h
  | j + 1 => (okLv.lvJ h hl j).set hl
theorem okLv.lvA {d lt : ByteArray} {sz : Nat} {lv o : List Int} (h : okLv sz o) (hl : ∀ k : Nat, 0 ≤ lv[k]?.getD 0 ∧ lv[k]?.getD 0 ≤ 9) : ∀ a, okLv sz (lvA d sz lt lv o a)
  | 0 => h
  | a + 1 => by
    unfold Go.Proofs.Ytngcedklbinhjaa.lvA
    split
    · exact (okLv.lvA h hl a).lvJ hl _
    · exact okLv.lvA h hl a
theorem lvP_ok (w : ByteArray) (pats : LS) : ∀ k, okLv w.size (lvP w pats k)
  | 0 => ⟨by simp [lvP], fun k => by
    unfold lvP
    rw [List.getElem?_replicate]
    split <;> decide⟩
  | k + 1 => (lvP_ok w pats k).lvA (levelsP_rng _).2.2 _
def plB (sz : Nat) (lv : List Int) (k : Nat) : Bool := decide (2 ≤ k ∧ k + 3 ≤ sz ∧ lv[k]?.getD 0 % 2 = 1)
def plK (sz : Nat) (lv : List Int) (k : Nat) : List Int := ((List.range k).filter (plB sz lv)).map fun k : Nat => (k : Int)
theorem plK_yes {sz : Nat} {lv : List Int} {k : Nat} (h : plB sz lv k = true) : plK sz lv (k + 1) = plK sz lv k ++ [(k : Int)] := by
  simp [plK, List.range_succ, List.filter_append, h]
theorem plK_no {sz : Nat} {lv : List Int} {k : Nat} (h : plB sz lv k = false) : plK sz lv (k + 1) = plK sz lv k := by
  simp [plK, List.range_succ, List.filter_append, h]
theorem plK_low {sz : Nat} {lv : List Int} : plK sz lv 2 = [] := by
  rw [plK_no (by simp [plB]), plK_no (by simp [plB])]
  rfl
theorem plK_high {sz : Nat} {lv : List Int} {k : Nat} (h : sz < k + 3) : ∀ n, plK sz lv (k + n) = plK sz lv k
  | 0 => rfl
  | n + 1 => by
    rw [← Nat.add_assoc, plK_no (by simp [plB]; omega), plK_high h n]
theorem plK_low2 {sz : Nat} {lv : List Int} {k : Nat} (h : sz < 5) : plK sz lv k = [] := by
  unfold plK
  rw [List.filter_eq_nil_iff.2 fun x _ => by simp [plB]; omega]
  rfl
noncomputable def placesR (w : ByteArray) (pats : LS) : List Int := plK w.size (levelsR w pats) (w.size + 1)
theorem plK_mem {sz : Nat} {lv : List Int} {k : Nat} : ∀ x ∈ plK sz lv k, 2 ≤ x ∧ x + 3 ≤ sz ∧ x < k := fun x hx => by
  obtain ⟨n, hn, rfl⟩ := List.mem_map.1 hx
  obtain ⟨h1, h2⟩ := List.mem_filter.1 hn
  have h3 := List.mem_range.1 h1
  have h4 := of_decide_eq_true h2
  omega
theorem plK_asc (sz : Nat) (lv : List Int) : ∀ k, (plK sz lv k).Pairwise (· < ·)
  | 0 => List.Pairwise.nil
  | k + 1 => by
    cases h : plB sz lv k with
    | true =>
      rw [plK_yes h, List.pairwise_append]
      refine ⟨plK_asc sz lv k, List.pairwise_singleton _ _, fun a ha b hb => ?_⟩
      rw [List.mem_singleton.1 hb]
      exact (plK_mem a ha).2.2
    | false =>
      rw [plK_no h]
      exact plK_asc sz lv k
theorem plK_len (sz : Nat) (lv : List Int) (k : Nat) : (plK sz lv k).length ≤ k := by
  unfold plK
  rw [List.length_map]
  exact Nat.le_trans (List.length_filter_le _ _) (by simp)
def frK (pl : List Int) (k : Nat) : Int := if k = 0 then 0 else pl[k - 1]?.getD 0
def ptF (w : ByteArray) (pl : List Int) : Nat → LS
  | 0 => []
  | k + 1 => ptF w pl k ++ [w.extract (frK pl k).toNat (pl[k]?.getD 0).toNat]
def ptR (w : ByteArray) (pl : List Int) : LS := ptF w pl pl.length ++ [w.extract (frK pl pl.length).toNat w.size]
noncomputable def partsR (w : ByteArray) (pats : LS) : LS := ptR w (placesR w pats)
theorem ptF_len (w : ByteArray) (pl : List Int) : ∀ k, (ptF w pl k).length = k
  | 0 => rfl
  | k + 1 => by rw [ptF, List.length_append, ptF_len w pl k]; rfl
def okPl (w : ByteArray) (pl : List Int) : Prop := pl.length ≤ 20 ∧ ∀ k, k < pl.length → frK pl k < pl[k]?.getD 0 ∧ pl[k]?.getD 0 < w.size
theorem frK_succ (pl : List Int) (k : Nat) : frK pl (k + 1) = pl[k]?.getD 0 := by
  unfold frK
  rw [if_neg (by omega)]
  rfl
theorem frK_rng {w : ByteArray} {pl : List Int} (h : okPl w pl) (hw : 1 ≤ w.size) : ∀ k, k ≤ pl.length → 0 ≤ frK pl k ∧ frK pl k < w.size
  | 0, _ => by simp [frK]; omega
  | k + 1, hk => by
    have h1 := frK_rng h hw k (by omega)
    have h2 := h.2 k (by omega)
    rw [frK_succ]
    omega
theorem places_ok {w : ByteArray} {pats : LS} (hw : wordB w = true) : okPl w (placesR w pats) := by
  obtain ⟨-, w1, w2⟩ := wordB_letters hw
  have ha := plK_asc w.size (levelsR w pats) (w.size + 1)
  have hm := @plK_mem w.size (levelsR w pats) (w.size + 1)
  refine ⟨?_, fun k hk => ?_⟩
  · unfold placesR plK
    rw [List.length_map]
    have : ((List.range (w.size + 1)).filter (plB w.size (levelsR w pats))).length ≤ ((List.range (w.size + 1)).filter (fun k => decide (k < w.size))).length := by
      rw [← List.countP_eq_length_filter, ← List.countP_eq_length_filter]
      refine List.countP_mono_left fun x _ hx => ?_
      have := of_decide_eq_true hx
      exact decide_eq_true (by omega)
    have h2 : ((List.range (w.size + 1)).filter (fun k => decide (k < w.size))).length ≤ w.size := by
      rw [List.range_succ, List.filter_append]
      have h3 := List.length_filter_le (fun k => decide (k < w.size)) (List.range w.size)
      rw [List.length_range] at h3
      simp
      omega
    omega
  · unfold placesR at hk ⊢
    generalize plK w.size (levelsR w pats) (w.size + 1) = pl at *
    rw [List.getElem?_eq_getElem hk, Option.getD_some]
    have h1 := hm _ (List.getElem_mem hk)
    refine ⟨?_, by omega⟩
    unfold frK
    split
    · omega
    · rename_i h0
      rw [List.getElem?_eq_getElem (show k - 1 < pl.length by omega), Option.getD_some]
      exact List.pairwise_iff_getElem.1 ha (k - 1) k (by omega) hk (by omega)
theorem wordB_ext {w : ByteArray} {a b : Nat} (hw : wordB w = true) (h1 : a < b) (h2 : b ≤ w.size) : wordB (w.extract a b) = true := by
  obtain ⟨l1, l2, l3⟩ := wordB_letters hw
  have hs : (w.extract a b).size = b - a := by rw [ByteArray.size_extract]; omega
  rw [wordB_yes fun j hj => ?_, hs]
  · exact inB_iff.2 ⟨by omega, by omega⟩
  · rw [at8_ext (by omega) h2]
    exact l1 _ (by omega)
theorem ptF_word {w : ByteArray} {pl : List Int} (hw : wordB w = true) (h : okPl w pl) : ∀ k, k ≤ pl.length → ∀ x ∈ ptF w pl k, wordB x = true
  | 0, _ => by simp [ptF]
  | k + 1, hk => fun x hx => by
    rw [ptF] at hx
    rcases List.mem_append.1 hx with hx | hx
    · exact ptF_word hw h k (by omega) x hx
    · rw [List.mem_singleton.1 hx]
      have h1 := h.2 k (by omega)
      have h2 := frK_rng h (wordB_letters hw).2.1 k (by omega)
      exact wordB_ext hw (by omega) (by omega)
theorem ptR_word {w : ByteArray} {pl : List Int} (hw : wordB w = true) (h : okPl w pl) : ∀ x ∈ ptR w pl, wordB x = true := fun x hx => by
  rcases List.mem_append.1 hx with hx | hx
  · exact ptF_word hw h _ (Nat.le_refl _) x hx
  · rw [List.mem_singleton.1 hx]
    have h2 := frK_rng h (wordB_letters hw).2.1 _ (Nat.le_refl _)
    exact wordB_ext hw (by omega) (Nat.le_refl _)
theorem ptR_len (w : ByteArray) (pl : List Int) : (ptR w pl).length = pl.length + 1 := by
  unfold ptR
  rw [List.length_append, ptF_len]
  rfl
end Go.Proofs.Ytngcedklbinhjaa
