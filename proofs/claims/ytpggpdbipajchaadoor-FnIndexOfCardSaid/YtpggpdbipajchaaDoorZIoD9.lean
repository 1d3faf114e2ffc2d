/- What the proof rests on, part 9: contracts of functions. No condition beyond what each states. -/
import Derived.Test.YtpggpdbipajchaaDoorZIoD8
namespace Go.Proofs.YtpggpdbipajchaaDoor
open Go.RowKit
set_option linter.all false
abbrev BL := Op.bytesLess
theorem bl_irr : ∀ x : List UInt8, BL x x = false
  | [] => rfl
  | a :: x => by
    unfold BL Op.bytesLess
    have := bl_irr x
    unfold BL at this
    rw [this]
    simp
theorem bl_nil (x : List UInt8) : BL x [] = false := by
  cases x <;> rfl
theorem bl_cons {a b : UInt8} {x y : List UInt8} : BL (a :: x) (b :: y) = true ↔ a.toNat < b.toNat ∨ (a.toNat = b.toNat ∧ BL x y = true) := by
  unfold BL
  conv => lhs; unfold Op.bytesLess
  rw [Bool.or_eq_true, Bool.and_eq_true, decide_eq_true_eq, beq_iff_eq, UInt8.lt_iff_toNat_lt, ← UInt8.toNat_inj]
theorem bl_trans : ∀ {x y z : List UInt8}, BL x y = true → BL y z = true → BL x z = true
  | _, [], _, h, _ => by rw [bl_nil] at h; cases h
  | _, _ :: _, [], _, h => by rw [bl_nil] at h; cases h
  | [], _ :: _, _ :: _, _, _ => rfl
  | a :: x, b :: y, c :: z, h1, h2 => by
    rw [bl_cons] at h1 h2 ⊢
    rcases h1 with h1 | ⟨h1, h3⟩ <;> rcases h2 with h2 | ⟨h2, h4⟩
    · left; omega
    · left; omega
    · left; omega
    · right; exact ⟨by omega, bl_trans h3 h4⟩
theorem bl_tri : ∀ x y : List UInt8, BL x y = true ∨ x = y ∨ BL y x = true
  | [], [] => .inr (.inl rfl)
  | [], _ :: _ => .inl rfl
  | _ :: _, [] => .inr (.inr rfl)
  | a :: x, b :: y => by
    rw [bl_cons, bl_cons]
    rcases Nat.lt_trichotomy a.toNat b.toNat with h | h | h
    · exact .inl (.inl h)
    · rcases bl_tri x y with h2 | h2 | h2
      · exact .inl (.inr ⟨h, h2⟩)
      · exact .inr (.inl (by rw [h2, UInt8.toNat_inj.1 h]))
      · exact .inr (.inr (.inr ⟨h.symm, h2⟩))
    · exact .inr (.inr (.inl h))
def ltB (a b : ByteArray) : Bool := BL a.data.toList b.data.toList
theorem ltB_irr (a : ByteArray) : ltB a a = false := bl_irr _
theorem ltB_trans {a b c : ByteArray} (h : ltB a b = true) (h2 : ltB b c = true) : ltB a c = true := bl_trans h h2
theorem ltB_tri (a b : ByteArray) : ltB a b = true ∨ a = b ∨ ltB b a = true := by
  rcases bl_tri a.data.toList b.data.toList with h | h | h
  · exact .inl h
  · refine .inr (.inl ?_)
    obtain ⟨⟨x⟩⟩ := a
    obtain ⟨⟨y⟩⟩ := b
    simpa using h
  · exact .inr (.inr h)
theorem ltB_asymm {a b : ByteArray} (h : ltB a b = true) : ltB b a = false := by
  cases h2 : ltB b a with
  | false => rfl
  | true => have := ltB_trans h h2; rw [ltB_irr] at this; cases this
theorem ltB_ne {a b : ByteArray} (h : ltB a b = true) : ¬ a = b := fun e => by rw [e, ltB_irr] at h; cases h
theorem asc_unique {α : Type} {R : α → α → Prop} (irr : ∀ a, ¬ R a a) (tr : ∀ a b c, R a b → R b c → R a c) : ∀ {l l' : List α}, l.Pairwise R → l'.Pairwise R → (∀ x, x ∈ l ↔ x ∈ l') → l = l'
  | [], [], _, _, _ => rfl
  | [], b :: l', _, _, h => by have := (h b).2 (by simp); simp at this
  | a :: l, [], _, _, h => by have := (h a).1 (by simp); simp at this
  | a :: l, b :: l', h1, h2, h => by
    obtain ⟨a1, a2⟩ := List.pairwise_cons.1 h1
    obtain ⟨b1, b2⟩ := List.pairwise_cons.1 h2
    have hab : a = b := by
      rcases List.mem_cons.1 ((h a).1 (by simp)) with e | e
      · exact e
      · rcases List.mem_cons.1 ((h b).2 (by simp)) with e2 | e2
        · exact e2.symm
        · exact absurd (tr _ _ _ (a1 b e2) (b1 a e)) (irr a)
    subst hab
    refine congrArg (a :: ·) (asc_unique irr tr a2 b2 fun x => ⟨fun hx => ?_, fun hx => ?_⟩)
    · rcases List.mem_cons.1 ((h x).1 (by simp [hx])) with e | e
      · subst e; exact absurd (a1 x hx) (irr x)
      · exact e
    · rcases List.mem_cons.1 ((h x).2 (by simp [hx])) with e | e
      · subst e; exact absurd (b1 x hx) (irr x)
      · exact e
section
variable {P : Program} {t : Nat} {x y : Operand}
theorem bytes_less (a b : ByteArray) : Op.bytesLess a.toList b.toList = ltB a b := by
  rw [Go.ByteArray.toList_eq, Go.ByteArray.toList_eq]
  rfl
theorem pr_strLt {a b : ByteArray} : pureRun P (do eqGuard .lss t x y (.string a) (.string b); binOp .lss t (.string a) (.string b)) = some (.bool (Op.bytesLess a.toList b.toList)) := by
  simp [eqGuard, binOp, Op.stringOp, bind, Sem.bind, pure, pureRun]
theorem pr_strGt {a b : ByteArray} : pureRun P (do eqGuard .gtr t x y (.string a) (.string b); binOp .gtr t (.string a) (.string b)) = some (.bool (!(Op.bytesLess a.toList b.toList || a.toList == b.toList))) := by
  simp [eqGuard, binOp, Op.stringOp, bind, Sem.bind, pure, pureRun]
theorem pr_strGe {a b : ByteArray} : pureRun P (do eqGuard .geq t x y (.string a) (.string b); binOp .geq t (.string a) (.string b)) = some (.bool (!Op.bytesLess a.toList b.toList)) := by
  simp [eqGuard, binOp, Op.stringOp, bind, Sem.bind, pure, pureRun]
theorem bp_lssS {a b : ByteArray} : binP P .lss t x y (some (.string a)) (some (.string b)) = some (.val (.bool (ltB a b))) := by
  simp only [binP, pr_strLt, bytes_less, Option.map_some]
theorem bp_gtrS {a b : ByteArray} : binP P .gtr t x y (some (.string a)) (some (.string b)) = some (.val (.bool (ltB b a))) := by
  simp only [binP, pr_strGt, bytes_less, bytes_teq, Option.map_some]
  have : (!(ltB a b || decide (a = b))) = ltB b a := by
    rcases ltB_tri a b with h | h | h
    · rw [h, ltB_asymm h]; rfl
    · subst h; rw [ltB_irr]; simp
    · have h2 := ltB_asymm h
      have h3 : ¬ a = b := fun e => ltB_ne h e.symm
      rw [h, h2]; simp [h3]
  rw [this]
theorem bp_geqS {a b : ByteArray} : binP P .geq t x y (some (.string a)) (some (.string b)) = some (.val (.bool (!ltB a b))) := by
  simp only [binP, pr_strGe, bytes_less, Option.map_some]
end
attribute [push_cast]
  bp_lssS bp_gtrS bp_geqS
end Go.Proofs.YtpggpdbipajchaaDoor
namespace Go.Proofs.YtpggpdbipajchaaDoor
open Go.RowKit
set_option linter.all false
theorem below_growN (w : World) (k : Nat) (os : Array Obj) : Below w.heap.size w (Sort.grow (w.drewN k) os) :=
  ⟨rfl, rfl, rfl, by simp [Sort.grow, World.drewN], fun b hb => by simp [Sort.grow, World.drewN, Array.getElem?_append_left hb]⟩
def itoaS (n : Int) : ByteArray := ⟨(Lib.itoa n).toArray⟩
theorem tabIs_of {w : World} {io : Nat → Prop} (hT : TabF w io) : Lib.TabIs Tryd.prog w "internal/strconv.uint64pow10" .u64 Lib.pow10Tab := by
  obtain ⟨T, k, h⟩ := hT.at_ _ (List.mem_cons_self ..)
  unfold Lib.TabIs World.var?
  rw [show Tryd.prog.globalNamed "internal/strconv.uint64pow10" = some _ by kernel_rfl, Option.bind_some, h]
def φItoa : Fun := F1 dI fun n => if okI n then some (.val (.string (itoaS n))) else none
theorem φItoa_ap {n : Int} (h : okI n) : φItoa [.val (.int .i64 n)] = some (.val (.string (itoaS n))) := (F1_ap (A := dI) n).trans (if_pos h)
theorem itoa_ok : Sound Tryd.prog 55 φItoa := by
  intro w J ps args r hr hJ hT hargs
  obtain ⟨n, rfl, hq⟩ := F1_some hr
  split at hq
  case isFalse => cases hq
  case isTrue hok =>
  cases hq
  have hargs := hargs
  simp only [RepL] at hargs
  obtain ⟨v1, vs1, e1, h1, rfl⟩ := hargs
  obtain rfl : args = #[v1] := by
    obtain ⟨a⟩ := args
    simp only at e1
    rw [e1]
  simp only [dI, Rep] at h1
  subst h1
  refine (YtpggpdbipajchaaDoor.strconv_Itoa n hok.1 hok.2 w (tabIs_of hT)).mono ?_
  rintro e w' ⟨rfl, k, os, rfl⟩
  exact ⟨_, rfl, below_growN w k os, fun g' _ => by simp only [Rep]; rfl⟩
end Go.Proofs.YtpggpdbipajchaaDoor
namespace Go.Proofs.YtpggpdbipajchaaDoor
open Go.RowKit
set_option linter.all false
section
variable {P : Program} {Γ : Ctx}
end
theorem inn_0o {o : Nat} : inn [0, o] 0 = some 0 := by simp [inn]
theorem inn_1o {o : Nat} (h : 0 < o) : inn [0, o] o = some 1 := by
  have h0 : ¬ (0 : Nat) = o := by omega
  have h1 : (0 == o) = false := by simpa using h0
  simp [inn, List.idxOf_cons, h1]
theorem inn_no {o x : Nat} (h : 0 < x) (h2 : x ≠ o) : inn [0, o] x = none := by
  have h0 : ¬ x = 0 := by omega
  simp [inn, h0, h2]
theorem outF_1n {o nx : Nat} : outF [o] nx 1 = some nx := by simp [outF, outn]
theorem handM_fuel {out : List Nat} {ob : Objs} {l : List PV} : l.mapM (handF out ob fuel) = l.mapM (handF out ob 8) := rfl
attribute [push_cast]
  handM_fuel inn_0o inn_1o inn_no outF_1n
section
variable {P : Program} {Γ : Ctx} {imm : Md} {N : Nat} {gs : List (Option Nat)} {l : List Oper} {Q : AS → Prop} {tm : Nat → PV} {ob : Objs} {nx T : Nat} {Φ : FunIO} {B c : Int} {α : Type} {E : Nat → α → PV} {O : α → CellIO}
end
end Go.Proofs.YtpggpdbipajchaaDoor
namespace Go.Proofs.YtpggpdbipajchaaDoor
open Go.RowKit
set_option linter.all false
abbrev FunN := List PV → Option (PV × List CellIO)
def SoundN (P : Program) (f : Nat) (Ψ : FunN) : Prop := SoundIO P f fun ps cs => if cs = [] then Ψ ps else none
def renT (nm : Nat → Nat) : Nat → PV → Option PV
  | 0, _ => none
  | n + 1, p => match p with
    | .val v => some (.val v)
    | .dead => some .dead
    | .lst k sz es => if k = false ∧ es ≠ [] then none else (es.mapM (renT nm n)).map (.lst k sz)
    | .ptr k e o => if k = false then none else (renT nm n e).map (.ptr k · o)
    | .own o sz i f => some (.own (nm o) sz i f)
    | .row o sz i m => some (.row (nm o) sz i m)
    | .agg cs => (cs.mapM (renT nm n)).map .agg
    | .tup cs => (cs.mapM (renT nm n)).map .tup
theorem Rep.renT {nm : Nat → Nat} {g g' : Gh} {w : World} (hI : ∀ b, g.I true b → g'.I true b) (ho : ∀ o, g.D o → g'.β (nm o) = g.β o ∧ g'.κ (nm o) = g.κ o ∧ g'.D (nm o)) :
    ∀ (f : Nat) (p q : PV) (v : Value), Rep g w p v → Proofs.YtpggpdbipajchaaDoor.renT nm f p = some q → Rep g' w q v
  | 0, p, q, v, h, hr => by simp [Proofs.YtpggpdbipajchaaDoor.renT] at hr
  | f + 1, p, q, v, h, hr => by
    cases p with
    | val u => simp only [Proofs.YtpggpdbipajchaaDoor.renT, Option.some.injEq] at hr; subst hr; simpa [Rep] using h
    | dead => simp only [Proofs.YtpggpdbipajchaaDoor.renT, Option.some.injEq] at hr; subst hr; simp [Rep]
    | lst k sz es =>
      simp only [Proofs.YtpggpdbipajchaaDoor.renT] at hr
      split at hr
      · cases hr
      · rename_i hk
        simp only [Option.map_eq_some_iff] at hr
        obtain ⟨es', h1, rfl⟩ := hr
        have hl := (mapM_get h1).1
        simp only [Rep] at h ⊢
        obtain ⟨a, cap, rfl, h2, h3, h4⟩ := h
        refine ⟨a, cap, by rw [hl], by omega, h3, ?_⟩
        rcases h4 with rfl | ⟨b, off, rfl, h5, h6⟩
        · left; exact List.eq_nil_of_length_eq_zero (by simpa using hl)
        · by_cases hnil : es = []
          · left; subst hnil; exact List.eq_nil_of_length_eq_zero (by simpa using hl)
          · right
            cases k with
            | false => simp [hnil] at hk
            | true => exact ⟨b, off, rfl, hI _ h5, RepEs.conv (g := g) (g' := g') (Rep.renT hI ho f) h6 h1⟩
    | ptr k e o =>
      simp only [Proofs.YtpggpdbipajchaaDoor.renT] at hr
      split at hr
      · cases hr
      · rename_i hk
        simp only [Option.map_eq_some_iff] at hr
        obtain ⟨e', h1, rfl⟩ := hr
        simp only [Rep] at h ⊢
        obtain ⟨b, off, rfl, h2, u, h3, h4⟩ := h
        cases k with
        | false => simp at hk
        | true => exact ⟨b, off, rfl, hI _ h2, u, Rep.renT hI ho f e e' u h3 h1, h4⟩
    | own o sz i f' =>
      simp only [Proofs.YtpggpdbipajchaaDoor.renT, Option.some.injEq] at hr
      subst hr
      simp only [Rep] at h ⊢
      obtain ⟨e1, _, e3⟩ := ho o h.2
      exact ⟨by rw [e1]; exact h.1, e3⟩
    | row o sz i m =>
      simp only [Proofs.YtpggpdbipajchaaDoor.renT, Option.some.injEq] at hr
      subst hr
      simp only [Rep] at h ⊢
      obtain ⟨c, h1, h2, h3, h4, h5⟩ := h
      obtain ⟨e1, e2, e3⟩ := ho o h5
      exact ⟨c, by rw [e1]; exact h1, h2, h3, by rw [e2]; exact h4, e3⟩
    | agg cs =>
      simp only [Proofs.YtpggpdbipajchaaDoor.renT, Option.map_eq_some_iff] at hr
      obtain ⟨cs', h1, rfl⟩ := hr
      simp only [Rep] at h ⊢
      obtain ⟨vs, rfl, h2⟩ := h
      exact ⟨vs, rfl, RepL.conv (g := g) (g' := g') (Rep.renT hI ho f) h2 h1⟩
    | tup cs =>
      simp only [Proofs.YtpggpdbipajchaaDoor.renT, Option.map_eq_some_iff] at hr
      obtain ⟨cs', h1, rfl⟩ := hr
      simp only [Rep] at h ⊢
      obtain ⟨vs, rfl, h2⟩ := h
      exact ⟨vs, rfl, RepL.conv (g := g) (g' := g') (Rep.renT hI ho f) h2 h1⟩
def renCT (nm : Nat → Nat) (f : Nat) (c : CellIO) : Option CellIO := (c.2.2.mapM (renT nm f)).map fun es => (c.1, c.2.1, es)
def pureN (Ψ : FunN) : Fun := fun ps => (Ψ ps).bind fun rc => reify true 0 (fun o => rc.2[o]?) fuel rc.1
theorem SoundN.pure {P : Program} {f : Nat} {Ψ : FunN} (h : SoundN P f Ψ) : Sound P f (pureN Ψ) := by
  intro w J ps args r hr hJ hT hargs
  unfold pureN at hr
  simp only [Option.bind_eq_some_iff] at hr
  obtain ⟨⟨r0, cs0⟩, h2, h3⟩ := hr
  dsimp only at h3
  let J' : Bool → Nat → Prop := fun k b => k = false ∧ J b
  have hO' : ObjsIO J' w (fun _ => 0) (fun _ => 0) [] := ⟨fun o ho => by simp at ho, fun o o' ho => by simp at ho, fun o c ho => by simp at ho⟩
  refine (h w J' (fun _ => 0) (fun _ => 0) ps [] args r0 cs0 (by simpa using h2) (fun k b hb => hJ b hb.2) hO' (hT.io fun t _ ⟨o, ho, _⟩ => by simp at ho) hargs).mono ?_
  rintro e w' ⟨v, β', κ', M, rfl, hfr, _, _, hnew, hM, hO2, hrep⟩
  refine ⟨v, rfl, ⟨hfr.os, hfr.tape, hfr.output, hfr.size, fun b hb => hfr.block b hb (fun ⟨o, ho, _⟩ => by simp at ho)⟩, fun g' hg => ?_⟩
  refine Rep.seen (fr := true) (n := 0) (s := initIO ps cs0) (g := ghIO (addN J' M) β' κ' cs0.length) (g' := g') (fun o c ho => hO2.at_ o c ho) ⟨fun e => (by cases e), fun _ => ⟨fun b hb => ?_, fun o ho _ => ?_⟩⟩ fuel _ _ _ hrep h3
  · rcases hb with ⟨h6, _⟩ | ⟨_, h6⟩
    · cases h6
    · exact hg b (hM b h6).1 (hM b h6).2
  · obtain ⟨c, hc⟩ := Option.isSome_iff_exists.1 ho
    have hlt := (List.getElem?_eq_some_iff.1 hc).1
    exact hg _ (hnew o (Nat.zero_le _) hlt) (hO2.lt o hlt).1
theorem SoundN.io {P : Program} {f : Nat} {Ψ : FunN} (h : SoundN P f Ψ) : SoundIO P f fun ps cs => if cs = [] then Ψ ps else none := h
section
variable {P : Program} {Γ : Ctx}
end
section
variable {α β γ δ ρ : Type} {A : Dec α} {B : Dec β} {C : Dec γ} {D : Dec δ} {ps : List PV} {r : ρ}
def G1 (A : Dec α) (F : α → Option ρ) (ps : List PV) : Option ρ := match ps with | [p] => (A.d p).bind F | _ => none
def G2 (A : Dec α) (B : Dec β) (F : α → β → Option ρ) (ps : List PV) : Option ρ := match ps with | [p, q] => (A.d p).bind fun a => (B.d q).bind fun b => F a b | _ => none
theorem G1_some {F : α → Option ρ} (h : G1 A F ps = some r) : ∃ a, ps = [A.e a] ∧ F a = some r := by
  unfold G1 at h
  split at h
  · rw [Option.bind_eq_some_iff] at h
    obtain ⟨a, h1, h2⟩ := h
    exact ⟨a, by rw [A.h _ _ h1], h2⟩
  · cases h
theorem G1_ap {F : α → Option ρ} (a : α) : G1 A F [A.e a] = F a := by simp [G1, A.h']
end
def nC (T sz : Nat) (es : List PV) : List CellIO := match es with | [] => [] | _ :: _ => [(T, sz, es)]
theorem nC_nil {T sz : Nat} : nC T sz [] = [] := rfl
theorem nC_pos {T sz : Nat} {es : List PV} (h : 0 < es.length) : nC T sz es = [(T, sz, es)] := by
  cases es with
  | nil => simp at h
  | cons e es => rfl
section
variable {Ψ : FunN} {α : Type} {g : α → Value} {l : List α} {T sz : Nat}
theorem pureN_of {ps : List PV} {cs0 : List CellIO} {r r1 : PV} (h2 : Ψ ps = some (r, cs0)) (h3 : reify true 0 (fun o => cs0[o]?) fuel r = some r1) : pureN Ψ ps = some r1 := by
  unfold pureN
  rw [h2, Option.bind_some, h3]
theorem ioR_two {ob : Objs} {nx o T T2 sz sz2 : Nat} {es es2 : List PV} {r : PV} : ioR [o] ob nx (some (r, [(T, sz, es), (T2, sz2, es2)])) = (renF (outF [o] nx) fuel r).bind fun r' => (es.mapM (renF (outF [o] nx) fuel)).bind fun es' => (es2.mapM (renF (outF [o] nx) fuel)).map fun es2' => (r', upd (upd ob o (some (T, sz, es'))) nx (some (T2, sz2, es2')), nx + 1) := by
  unfold ioR
  simp only [mapM_cons', mapM_nil', renC]
  cases renF (outF [o] nx) fuel r with
  | none => rfl
  | some r' =>
    cases es.mapM (renF (outF [o] nx) fuel) with
    | none => rfl
    | some es' =>
      cases es2.mapM (renF (outF [o] nx) fuel) with
      | none => rfl
      | some es2' => 
        simp only [Option.map_some, Option.bind_some, List.length_cons, List.length_nil, Nat.zero_add, Nat.reduceAdd, Nat.reduceSub, Option.some.injEq, Prod.mk.injEq, true_and, and_true]
        show putObs ob [(outn [o] nx 0, _), (outn [o] nx 1, _)] = _
        simp only [putObs, outn, List.length_cons, List.length_nil, Nat.zero_add, Nat.lt_one_iff, if_true, Nat.one_ne_zero, if_false, Nat.sub_self, Nat.add_zero, List.getD_cons_zero]
end
theorem renM_fuel {nm : Nat → Option Nat} {l : List PV} : l.mapM (renF nm fuel) = l.mapM (renF nm 8) := rfl
attribute [push_cast]
  ioR_two renM_fuel
section
variable {P : Program} {Γ : Ctx}
end
section
variable {P : Program} {tm : Nat → PV} {ob : Objs} {nx : Nat} {rs : List ResultVar} {r : PV} {c' : CellIO} {x : X} {R : PV → List CellIO → Prop}
end
end Go.Proofs.YtpggpdbipajchaaDoor
namespace Go.Proofs.YtpggpdbipajchaaDoor
open Go.RowKit
set_option linter.all false
theorem at8_u {s : ByteArray} {j : Nat} (h : j < s.data.toList.length) : at8 s j = (s.data.toList[j].toNat : Int) := by
  have hl : s.data.toList.length = s.size := Array.length_toList
  have e : s[j]? = some s.data.toList[j] := by
    rw [getElem?_pos s j (by omega)]
    congr 1
  unfold at8
  rw [e]
  rfl
end Go.Proofs.YtpggpdbipajchaaDoor
namespace Go.Proofs.YtpggpdbipajchaaDoor
open Go.RowKit
set_option linter.all false
def NumI (n m : Int) (out : ByteArray) : Prop := Lib.decDigits n.toNat = (if m < 10 then [] else Lib.decDigits (m / 10).toNat) ++ out.data.toList
theorem dec_small {m : Int} (h0 : 0 ≤ m) (h : m < 10) : Lib.decDigits m.toNat = [UInt8.ofNat (48 + (m % 10).toNat)] := by
  rw [Lib.decDigits, dif_pos (by omega)]
  congr 2
  omega
theorem dec_big {m : Int} (h : ¬ m < 10) : Lib.decDigits m.toNat = Lib.decDigits (m / 10).toNat ++ [UInt8.ofNat (48 + (m % 10).toNat)] := by
  rw [Lib.decDigits, dif_neg (by omega), show m.toNat / 10 = (m / 10).toNat by omega, show m.toNat % 10 = (m % 10).toNat by omega]
abbrev digB (m : Int) : ByteArray := bytesOf [IntKind.u8.wrap (48 + m % 10)]
theorem digB_data (m : Int) : (digB m).data.toList = [UInt8.ofNat (48 + (m % 10).toNat)] := by
  have e : IntKind.u8.wrap (48 + m % 10) = 48 + m % 10 := by
    rw [IntKind.wrap_u8]
    omega
  have e2 : (48 + m % 10).toNat = 48 + (m % 10).toNat := by omega
  unfold digB bytesOf
  rw [e]
  simp [e2]
theorem NumI.start {n : Int} (h : 0 ≤ n) : NumI n n (digB n) := by
  unfold NumI
  split
  · rw [dec_small h (by assumption), digB_data]; rfl
  · rw [dec_big (by assumption), digB_data]
theorem NumI.step {n m : Int} {out : ByteArray} (h : NumI n m out) (h0 : 9 < m) : NumI n (m / 10) (digB (m / 10) ++ out) := by
  unfold NumI at h ⊢
  rw [if_neg (by omega)] at h
  rw [h]
  have e : (digB (m / 10) ++ out).data.toList = [UInt8.ofNat (48 + (m / 10 % 10).toNat)] ++ out.data.toList := by
    rw [ByteArray.data_append, Array.toList_append, digB_data]
  rw [e, ← List.append_assoc]
  congr 1
  split
  · rw [dec_small (by omega) (by assumption)]; rfl
  · rw [dec_big (by assumption)]
theorem NumI.stop {n m : Int} {out : ByteArray} (h : NumI n m out) (hn : 0 ≤ n) (h0 : ¬ 9 < m) : out = itoaS n := by
  unfold NumI at h
  rw [if_pos (by omega), List.nil_append] at h
  unfold itoaS Lib.itoa
  rw [if_neg (by omega), h]
theorem dec_head : ∀ (u : Nat), ∃ b r, Lib.decDigits u = b :: r ∧ 48 ≤ b.toNat := fun u => by
  induction u using Nat.strongRecOn with
  | _ u ih =>
    by_cases h : u < 10
    · refine ⟨_, [], by rw [Lib.decDigits, dif_pos h], ?_⟩
      show 48 ≤ (48 + u) % 256
      omega
    · obtain ⟨b, r, h1, h2⟩ := ih (u / 10) (by omega)
      exact ⟨b, r ++ [UInt8.ofNat (48 + u % 10)], by rw [Lib.decDigits, dif_neg h, h1]; rfl, h2⟩
theorem itoaS_head {n : Int} (h : 0 ≤ n) : 0 < (itoaS n).size ∧ 48 ≤ at8 (itoaS n) 0 := by
  obtain ⟨b, r, h1, h2⟩ := dec_head n.toNat
  have e : (itoaS n).data.toList = b :: r := by
    unfold itoaS Lib.itoa
    rw [if_neg (by omega), h1]
  have hl : (itoaS n).data.toList.length = (itoaS n).size := Array.length_toList
  have h3 : 0 < (itoaS n).data.toList.length := by rw [e]; simp
  refine ⟨by omega, ?_⟩
  rw [at8_u h3]
  have : (itoaS n).data.toList[0] = b := by simp only [e, List.getElem_cons_zero]
  rw [this]
  omega
def φNum : Fun := F1 dI fun n => if 0 ≤ n ∧ n ≤ 1099511627776 then some (.val (.string (itoaS n))) else none
theorem φNum_ap {n : Int} (h : 0 ≤ n) (h2 : n ≤ 1099511627776) : φNum [.val (.int .i64 n)] = some (.val (.string (itoaS n))) := (F1_ap (A := dI) n).trans (if_pos ⟨h, h2⟩)
set_option maxHeartbeats 8000000 in
theorem num_ok : Sound Tryd.prog 50 φNum := by
  refine sound_pq mixed GE_ok Tryd.func50 rfl 23 rfl [.tmp 2] rfl (by kernel_rfl) fun ps r hr => ?_
  obtain ⟨n, rfl, hq⟩ := F1_some hr
  clear hr
  split at hq
  case isFalse => cases hq
  case isTrue hpre =>
  cases hq
  refine ⟨by simp, ?_⟩
  simp only [dIs, dUs, dSs, dI_e, dU_e, dB_e, dS_e, dFn_e, dL_e, dA2_e, dA3_e, dA4_e, dA5_e]
  obtain ⟨h0, h1⟩ := hpre
  have hst := Lib.hid (NumI.start h0)
  have hd9 : 0 ≤ n % 10 ∧ n % 10 ≤ 9 := by omega
  (refine wlk ?_; intros)
  refine i_loop (α := Int × ByteArray × Nat) mixed (fun s => [(0, iv s.1), (3, .val (.string s.2.1))])
    (fun s => []) (fun s => s.2.2)
    (fun s => 0 ≤ s.1 ∧ s.1 ≤ 1099511627776 ∧ NumI n s.1 s.2.1 ∧ (s.2.1.size : Int) + s.1 ≤ 1099511627780 ∧ 0 < s.2.2) (fun s => s.1.toNat) (by kernel_rfl) (n, digB n, 1) ⟨h0, h1, hst.out, by dsimp only; have : (digB n).size = 1 := size_bytesOf _; omega, by simp⟩ ?_ ?_ rfl ?_
  · exact agr
  · exact agr
  rintro ⟨m, out, y⟩ ⟨m0, m1, hI, hsz, hy⟩
  dsimp only at m0 m1 hI hsz hy
  replace hI := Lib.hid hI
  by_cases h9 : 9 < m
  · have hst := Lib.hid (hI.out.step h9)
    (refine wlk ?_; intros)
    refine ⟨(m / 10, digB (m / 10) ++ out, y + 1), ⟨by dsimp only; omega, by dsimp only; omega, hst.out, by dsimp only; rw [ByteArray.size_append, size_bytesOf]; simp only [List.length_cons, List.length_nil]; omega, by dsimp only; omega⟩, by dsimp only; omega, ?_, ?_, rfl⟩
    · exact agr
    · exact agr
  · have hst := hI.out.stop h0 h9
    subst hst
    exact wlkF
end Go.Proofs.YtpggpdbipajchaaDoor
namespace Go.Proofs.YtpggpdbipajchaaDoor
open Go.RowKit
set_option linter.all false
def ΦOpen : FunIO := fun ps cs => match ps, cs with
  | [p], [] => (dUs.d p).map fun code => (.own 0 2 0 0, [rdC 102 (code.take 2000) 0])
  | _, _ => none
theorem ΦOpen_ap {code : List Int} : ΦOpen [.lst false 1 (code.map fun n => .val (.int .u8 n))] [] = some (.own 0 2 0 0, [rdC 102 (code.take 2000) 0]) := by
  have := dUs.h' code
  simp only [dUs, dL_e, dU_e] at this
  simp only [ΦOpen, dUs, this, Option.map_some]
theorem open_io : SoundIO Tryd.prog 60 ΦOpen := by
  refine sound_pq0 mixed GE_ok Tryd.func60 rfl 11 rfl [.tmp 2] rfl (by kernel_rfl) fun ps cs r cs' hr => ?_
  unfold ΦOpen at hr
  split at hr
  case h_2 => cases hr
  rename_i p
  rw [Option.map_eq_some_iff] at hr
  obtain ⟨code, h1, h2⟩ := hr
  obtain rfl := dUs.h _ _ h1
  clear h1
  cases h2
  refine ⟨rfl, by simp, ?_⟩
  simp only [dIs, dUs, dSs, dI_e, dU_e, dB_e, dS_e, dFn_e, dL_e, dA2_e, dA3_e, dA4_e, dA5_e]
  repeat' (first | (with_reducible first | apply i_seq | apply i_block | apply i_skip | apply i_exit | apply i_ret | apply i_kS | apply i_kSx | apply i_kSr | apply i_kL | apply i_kLx | apply i_kLr | apply i_kB | apply i_kBr | apply i_kBs | apply i_nil) | ((with_reducible apply i_region); (simp only [List.map_cons, List.map_nil] <;> exact rfl)) | ((with_reducible apply i_draw); (simp only [List.map_cons, List.map_nil] <;> exact rfl); decide +kernel) | ((with_reducible apply i_kBo); rfl) | ((first | ((with_reducible apply i_V); rfl; rfl; rfl) | ((first | ((with_reducible apply i_E); rfl) | ((with_reducible apply i_S); rfl)); first | rfl | (simp only [push_cast, ↓reduceIte])) | ((with_reducible apply i_Vq); rfl; rfl) | ((with_reducible apply i_Vp); rfl; rfl; rfl) | (with_reducible first | apply i_Gb | apply i_cond)); (simp (disch := (first | omega | (simp only [push_cast]; first | done | omega))) only [push_cast, ↓reduceIte, Nat.reduceEqDiff, Nat.reduceBEq, Nat.reduceAdd, Nat.reduceSub, Int.reduceToNat, *] <;> with_reducible exact rfl); all_goals try (first | (with_reducible first | refine hyT ?_ | refine hyF ?_ | exact hyA | exact hyB) | (intro hX; first | (cases hX; done) | ((try simp only [decide_eq_true_eq, decide_eq_false_iff_not, Bool.not_eq_true', Bool.not_eq_false'] at hX); (try have hXb := inB_iff.1 hX))))))
  · refine i_endN1 0 (by first | exact .inl rfl | exact .inr rfl) ?_ ?_
    · (focus (simp (disch := (first | omega | (simp only [push_cast]; first | done | omega))) only [push_cast, ↓reduceIte, Nat.reduceEqDiff, Nat.reduceBEq, Nat.reduceAdd, Nat.reduceSub, Int.reduceToNat, rep_iv, rep_sv, rep_w, rep_i3, rep_i4, *] <;> with_reducible exact rfl))
    · simp only [push_cast, ↓reduceIte, Nat.reduceEqDiff, Nat.reduceBEq, Nat.reduceAdd, Nat.reduceSub, Int.reduceToNat, rdC]
  · have h : code.take 2000 = code := List.take_of_length_le (by simp_all; omega)
    refine i_endN1 0 (by first | exact .inl rfl | exact .inr rfl) ?_ ?_
    · (focus (simp (disch := (first | omega | (simp only [push_cast]; first | done | omega))) only [push_cast, ↓reduceIte, Nat.reduceEqDiff, Nat.reduceBEq, Nat.reduceAdd, Nat.reduceSub, Int.reduceToNat, rep_iv, rep_sv, rep_w, rep_i3, rep_i4, *] <;> with_reducible exact rfl))
    · simp only [push_cast, ↓reduceIte, Nat.reduceEqDiff, Nat.reduceBEq, Nat.reduceAdd, Nat.reduceSub, Int.reduceToNat, rdC, h]
theorem pick_ex : ∃ Φ : FunIO, SoundIO Tryd.prog 61 Φ ∧ Drw2 102 Φ 1000000000 1 (fun v : Int => PV.val (.int .i64 v)) (fun _ => True) (fun n v => 0 ≤ v ∧ (1 ≤ n → v < n)) := by
  refine drw2_of mixed GE_ok Tryd.func61 rfl 99 rfl [.tmp 4] rfl (by kernel_rfl) (by simp) _ _ _ _ _ _ fun code p n hok hp _ => ?_
  obtain ⟨hlen, hbyte, hp0, hp1⟩ := id hok
  have hb0 := hbyte p.toNat
  have hb1 := hbyte (p % code.length).toNat
  have hb2 := hbyte ((p * 7 + 3) % code.length).toNat
  have hm : 0 < code.length → 0 ≤ p % (code.length : Int) ∧ p % (code.length : Int) < code.length ∧ 0 ≤ (p * 7 + 3) % (code.length : Int) ∧ (p * 7 + 3) % (code.length : Int) < code.length ∧ 0 ≤ p / (code.length : Int) ∧ p / (code.length : Int) ≤ p := fun h =>
    ⟨Int.emod_nonneg _ (by omega), Int.emod_lt_of_pos _ (by omega), Int.emod_nonneg _ (by omega), Int.emod_lt_of_pos _ (by omega), Int.ediv_nonneg hp0 (by omega), Int.ediv_le_self _ hp0⟩
  clear hbyte
  repeat' (first | (first | (with_reducible first | apply i_seq | apply i_block | apply i_skip | apply i_exit | apply i_ret | apply i_kS | apply i_kSx | apply i_kSr | apply i_kL | apply i_kLx | apply i_kLr | apply i_kB | apply i_kBr | apply i_kBs | apply i_nil) | ((with_reducible apply i_region); (simp only [List.map_cons, List.map_nil] <;> exact rfl)) | ((with_reducible apply i_draw); (simp only [List.map_cons, List.map_nil] <;> exact rfl); decide +kernel) | ((with_reducible apply i_kBo); rfl) | ((first | ((with_reducible apply i_V); rfl; rfl; rfl) | ((first | ((with_reducible apply i_E); rfl) | ((with_reducible apply i_S); rfl)); first | rfl | (simp only [push_cast, ↓reduceIte])) | ((with_reducible apply i_Vq); rfl; rfl) | ((with_reducible apply i_Vp); rfl; rfl; rfl) | (with_reducible first | apply i_Gb | apply i_cond)); (simp (disch := (first | omega | (simp only [push_cast]; first | done | omega))) only [push_cast, ↓reduceIte, Nat.reduceEqDiff, Nat.reduceBEq, Nat.reduceAdd, Nat.reduceSub, Int.reduceToNat, *] <;> with_reducible exact rfl); all_goals try (first | (with_reducible first | refine hyT ?_ | refine hyF ?_ | exact hyA | exact hyB) | (intro hX; first | (cases hX; done) | ((try simp only [decide_eq_true_eq, decide_eq_false_iff_not, Bool.not_eq_true', Bool.not_eq_false'] at hX); (try have hXb := inB_iff.1 hX)))))) | ((with_reducible apply i_xor); rfl; (simp (disch := (first | omega | (simp only [push_cast]; first | done | omega))) only [push_cast, ↓reduceIte, Nat.reduceEqDiff, Nat.reduceBEq, Nat.reduceAdd, Nat.reduceSub, Int.reduceToNat, *] <;> with_reducible exact rfl); (simp (disch := (first | omega | (simp only [push_cast]; first | done | omega))) only [push_cast, ↓reduceIte, Nat.reduceEqDiff, Nat.reduceBEq, Nat.reduceAdd, Nat.reduceSub, Int.reduceToNat, *] <;> with_reducible exact rfl); (first | omega | (simp only [push_cast]; first | done | omega)); (first | omega | (simp only [push_cast]; first | done | omega)); (first | omega | (simp only [push_cast]; first | done | omega)); (first | omega | (simp only [push_cast]; first | done | omega)); intro z hz1 hz2))
  all_goals ((with_reducible apply i_fin1 (by first | exact .inl rfl | exact .inr rfl)); (focus (simp (disch := (first | omega | (simp only [push_cast]; first | done | omega))) only [push_cast, ↓reduceIte, Nat.reduceEqDiff, Nat.reduceBEq, Nat.reduceAdd, Nat.reduceSub, Int.reduceToNat, rep_iv, rep_sv, rep_w, rep_i3, rep_i4, *] <;> with_reducible exact rfl)); (focus (simp (disch := (first | omega | (simp only [push_cast]; first | done | omega))) only [push_cast, ↓reduceIte, Nat.reduceEqDiff, Nat.reduceBEq, Nat.reduceAdd, Nat.reduceSub, Int.reduceToNat, rep_iv, rep_sv, rep_w, rep_i3, rep_i4, *] <;> with_reducible exact rfl)))
  all_goals (first | omega | exact hok.to (by omega) (by omega) | exact ⟨Int.emod_nonneg _ (by omega), fun _ => Int.emod_lt_of_pos _ (by omega)⟩)
noncomputable def Φpick : FunIO := Classical.choose pick_ex
theorem pick_io : SoundIO Tryd.prog 61 Φpick := (Classical.choose_spec pick_ex).1
theorem pick_drw : Drw2 102 Φpick 1000000000 1 (fun v : Int => PV.val (.int .i64 v)) (fun _ => True) (fun n v => 0 ≤ v ∧ (1 ≤ n → v < n)) := (Classical.choose_spec pick_ex).2
noncomputable def GOdd : Ctx := { fn := fun f => none, io := fun f => if f = 61 then some Φpick else none }
theorem GOdd_ok : SoundΓ Tryd.prog GOdd := ⟨(fun f φ h => by
  unfold GOdd at h
  dsimp only at h
  cases h), (fun f φ h => by
  unfold GOdd at h
  dsimp only at h
  split at h
  · rename_i hf; cases h; subst hf; exact ⟨⟨_, Tryd.func61, rfl, rfl⟩, pick_io⟩
  cases h), rfl⟩
theorem odd_ex : ∃ Φ : FunIO, SoundIO Tryd.prog 74 Φ ∧ Drw2 102 Φ 900000000 1 (fun v : Bool => PV.val (.bool v)) (fun n => 0 ≤ n ∧ n ≤ 1000000) (fun n v => n ≤ 0 → v = false) := by
  refine drw2_of mixed GOdd_ok Tryd.func74 rfl 15 rfl [.tmp 4] rfl (by kernel_rfl) (by simp) _ _ _ _ _ _ fun code p n hok hp hn => ?_
  have hp0 := hok.pos
  repeat' (first | (first | (with_reducible first | apply i_seq | apply i_block | apply i_skip | apply i_exit | apply i_ret | apply i_kS | apply i_kSx | apply i_kSr | apply i_kL | apply i_kLx | apply i_kLr | apply i_kB | apply i_kBr | apply i_kBs | apply i_nil) | ((with_reducible apply i_region); (simp only [List.map_cons, List.map_nil] <;> exact rfl)) | ((with_reducible apply i_draw); (simp only [List.map_cons, List.map_nil] <;> exact rfl); decide +kernel) | ((with_reducible apply i_kBo); rfl) | ((first | ((with_reducible apply i_V); rfl; rfl; rfl) | ((first | ((with_reducible apply i_E); rfl) | ((with_reducible apply i_S); rfl)); first | rfl | (simp only [push_cast, ↓reduceIte])) | ((with_reducible apply i_Vq); rfl; rfl) | ((with_reducible apply i_Vp); rfl; rfl; rfl) | (with_reducible first | apply i_Gb | apply i_cond)); (simp (disch := (first | omega | (simp only [push_cast]; first | done | omega))) only [push_cast, ↓reduceIte, Nat.reduceEqDiff, Nat.reduceBEq, Nat.reduceAdd, Nat.reduceSub, Int.reduceToNat, *] <;> with_reducible exact rfl); all_goals try (first | (with_reducible first | refine hyT ?_ | refine hyF ?_ | exact hyA | exact hyB) | (intro hX; first | (cases hX; done) | ((try simp only [decide_eq_true_eq, decide_eq_false_iff_not, Bool.not_eq_true', Bool.not_eq_false'] at hX); (try have hXb := inB_iff.1 hX)))))) | ((with_reducible apply i_drw2 pick_drw (fun _ _ => rfl)); rfl; (simp (disch := (first | omega | (simp only [push_cast]; first | done | omega))) only [push_cast, ↓reduceIte, Nat.reduceEqDiff, Nat.reduceBEq, Nat.reduceAdd, Nat.reduceSub, Int.reduceToNat, *] <;> with_reducible exact rfl); (simp (disch := (first | omega | (simp only [push_cast]; first | done | omega))) only [push_cast, ↓reduceIte, Nat.reduceEqDiff, Nat.reduceBEq, Nat.reduceAdd, Nat.reduceSub, Int.reduceToNat, *] <;> with_reducible exact rfl); (simp (disch := (first | omega | (simp only [push_cast]; first | done | omega))) only [push_cast, ↓reduceIte, Nat.reduceEqDiff, Nat.reduceBEq, Nat.reduceAdd, Nat.reduceSub, Int.reduceToNat, *] <;> with_reducible exact rfl); assumption; omega; (focus (first | trivial | omega)); (focus (first | rfl | (simp only [push_cast, ↓reduceIte]))); intro v pp hv hok hpp1 hpp2))
  all_goals ((with_reducible apply i_fin1 (by first | exact .inl rfl | exact .inr rfl)); (focus (simp (disch := (first | omega | (simp only [push_cast]; first | done | omega))) only [push_cast, ↓reduceIte, Nat.reduceEqDiff, Nat.reduceBEq, Nat.reduceAdd, Nat.reduceSub, Int.reduceToNat, rep_iv, rep_sv, rep_w, rep_i3, rep_i4, *] <;> with_reducible exact rfl)); (focus (simp (disch := (first | omega | (simp only [push_cast]; first | done | omega))) only [push_cast, ↓reduceIte, Nat.reduceEqDiff, Nat.reduceBEq, Nat.reduceAdd, Nat.reduceSub, Int.reduceToNat, rep_iv, rep_sv, rep_w, rep_i3, rep_i4, *] <;> with_reducible exact rfl)))
  all_goals (first | omega | assumption | (intro h; first | omega | rfl | (simp; omega)))
noncomputable def Φodd : FunIO := Classical.choose odd_ex
theorem odd_io : SoundIO Tryd.prog 74 Φodd := (Classical.choose_spec odd_ex).1
theorem odd_drw : Drw2 102 Φodd 900000000 1 (fun v : Bool => PV.val (.bool v)) (fun n => 0 ≤ n ∧ n ≤ 1000000) (fun n v => n ≤ 0 → v = false) := (Classical.choose_spec odd_ex).2
end Go.Proofs.YtpggpdbipajchaaDoor
namespace Go.Proofs.YtpggpdbipajchaaDoor
open Go.RowKit
set_option linter.all false
theorem pagesB_no {zs : List Int} {k : Nat} (h : k < zs.length) (hb : okPage zs k = false) : pagesB zs = false := by
  unfold pagesB
  rw [okPages_mono h hb]
  rfl
theorem pagesB_yes {zs : List Int} (h : okPages zs zs.length = true) : pagesB zs = decide ((zs.length : Int) ≤ 30) := by
  unfold pagesB
  rw [h, Bool.true_and]
  exact decide_eq_decide.2 (by omega)
theorem pagesB_iff {zs : List Int} : pagesB zs = true ↔ (∀ i, i < zs.length → (1 ≤ zs[i]?.getD 0 ∧ zs[i]?.getD 0 ≤ 999) ∧ (0 < i → zs[i - 1]?.getD 0 < zs[i]?.getD 0)) ∧ zs.length ≤ 30 := by
  unfold pagesB okPages
  simp only [Bool.and_eq_true, List.all_eq_true, List.mem_range, decide_eq_true_eq]
  refine and_congr_left fun _ => forall_congr' fun i => imp_congr_right fun _ => ?_
  simp only [okPage, Bool.and_eq_true, inB_iff, Bool.or_eq_true, beq_iff_eq, decide_eq_true_eq]
  refine and_congr_right fun _ => ?_
  constructor
  · rintro (h | h) h0
    · omega
    · exact h
  · intro h
    by_cases h0 : i = 0
    · exact .inl h0
    · exact .inr (h (by omega))
def φPagesV : Fun := F1 dIs fun zs => if zs.length ≤ 1099511627776 then some (bv (pagesB zs)) else none
theorem φPagesV_ap {zs : List Int} (h : zs.length ≤ 1099511627776) : φPagesV [.lst false 1 (zs.map fun n => .val (.int .i64 n))] = some (.val (.bool (pagesB zs))) :=
  (F1_ap (A := dIs) zs).trans (if_pos h)
noncomputable def GPvi : Ctx := { fn := fun f => if f = 52 then some φPage else none, io := fun f => none }
theorem GPvi_ok : SoundΓ Tryd.prog GPvi := ⟨(fun f φ h => by
  unfold GPvi at h
  dsimp only at h
  split at h
  · rename_i hf; cases h; subst hf; exact ⟨⟨_, Tryd.func52, rfl, rfl⟩, isPage_ok⟩
  cases h), (fun f φ h => by
  unfold GPvi at h
  dsimp only at h
  cases h), rfl⟩
theorem GPvi_52 (ob : Objs) (ps : List PV) : evCall GPvi ob 52 ps = (ps.mapM (reify false 0 ob fuel)).bind φPage := by
  have h : GPvi.fn 52 = some φPage := by simp [GPvi]
  unfold evCall
  rw [h]
  cases ps.mapM (reify false 0 ob fuel) <;> rfl
set_option maxHeartbeats 4000000 in
theorem implPagesV_ok : Sound Tryd.prog 37 φPagesV := by
  refine sound_pq mixed GPvi_ok Tryd.func37 rfl 32 rfl [.tmp 2] rfl (by kernel_rfl) fun ps r hr => ?_
  obtain ⟨zs, rfl, hq⟩ := F1_some hr
  clear hr
  split at hq
  case isFalse => cases hq
  case isTrue hpre =>
  cases hq
  refine ⟨by simp, ?_⟩
  simp only [dIs, dUs, dSs, dI_e, dU_e, dB_e, dS_e, dFn_e, dL_e, dA2_e, dA3_e, dA4_e, dA5_e]
  have gpvi_c52 := GPvi_52; have ap := φPage_ap
  repeat' (first | (with_reducible first | apply i_seq | apply i_block | apply i_skip | apply i_exit | apply i_ret | apply i_kS | apply i_kSx | apply i_kSr | apply i_kL | apply i_kLx | apply i_kLr | apply i_kB | apply i_kBr | apply i_kBs | apply i_nil) | ((with_reducible apply i_region); (simp only [List.map_cons, List.map_nil] <;> exact rfl)) | ((with_reducible apply i_draw); (simp only [List.map_cons, List.map_nil] <;> exact rfl); decide +kernel) | ((with_reducible apply i_kBo); rfl) | ((first | ((with_reducible apply i_V); rfl; rfl; rfl) | ((first | ((with_reducible apply i_E); rfl) | ((with_reducible apply i_S); rfl)); first | rfl | (simp only [push_cast, ↓reduceIte])) | ((with_reducible apply i_Vq); rfl; rfl) | ((with_reducible apply i_Vp); rfl; rfl; rfl) | (with_reducible first | apply i_Gb | apply i_cond)); (simp (disch := (first | omega | (simp only [push_cast]; first | done | omega))) only [push_cast, ↓reduceIte, Nat.reduceEqDiff, Nat.reduceBEq, Nat.reduceAdd, Nat.reduceSub, Int.reduceToNat, *] <;> with_reducible exact rfl); all_goals try (first | (with_reducible first | refine hyT ?_ | refine hyF ?_ | exact hyA | exact hyB) | (intro hX; first | (cases hX; done) | ((try simp only [decide_eq_true_eq, decide_eq_false_iff_not, Bool.not_eq_true', Bool.not_eq_false'] at hX); (try have hXb := inB_iff.1 hX))))))
  refine i_loop (α := Nat) mixed (fun k => [(0, .lst false 1 (zs.map fun n => .val (.int .i64 n))), (5, .lst false 1 (zs.map fun n => .val (.int .i64 n))), (6, iv zs.length), (7, iv k)]) (fun _ => []) (fun _ => 0)
    (fun k => k ≤ zs.length ∧ okPages zs k = true) (fun k => zs.length - k) (by kernel_rfl) 0 ⟨Nat.zero_le _, rfl⟩ ?_ trivial rfl ?_
  · simp only [push_cast, ↓reduceIte, Nat.reduceEqDiff, Nat.reduceBEq, Nat.reduceAdd, Nat.reduceSub, Int.reduceToNat]
  · intro k ⟨hk, hok⟩
    have hpg : okPage zs k = (inB (zs[k]?.getD 0) 1 999 && (k == 0 || decide (zs[k - 1]?.getD 0 < zs[k]?.getD 0))) := rfl
    repeat' (first | (with_reducible first | apply i_seq | apply i_block | apply i_skip | apply i_exit | apply i_ret | apply i_kS | apply i_kSx | apply i_kSr | apply i_kL | apply i_kLx | apply i_kLr | apply i_kB | apply i_kBr | apply i_kBs | apply i_nil) | ((with_reducible apply i_region); (simp only [List.map_cons, List.map_nil] <;> exact rfl)) | ((with_reducible apply i_draw); (simp only [List.map_cons, List.map_nil] <;> exact rfl); decide +kernel) | ((with_reducible apply i_kBo); rfl) | ((first | ((with_reducible apply i_V); rfl; rfl; rfl) | ((first | ((with_reducible apply i_E); rfl) | ((with_reducible apply i_S); rfl)); first | rfl | (simp only [push_cast, ↓reduceIte])) | ((with_reducible apply i_Vq); rfl; rfl) | ((with_reducible apply i_Vp); rfl; rfl; rfl) | (with_reducible first | apply i_Gb | apply i_cond)); (simp (disch := (first | omega | (simp only [push_cast]; first | done | omega))) only [push_cast, ↓reduceIte, Nat.reduceEqDiff, Nat.reduceBEq, Nat.reduceAdd, Nat.reduceSub, Int.reduceToNat, *] <;> with_reducible exact rfl); all_goals try (first | (with_reducible first | refine hyT ?_ | refine hyF ?_ | exact hyA | exact hyB) | (intro hX; first | (cases hX; done) | ((try simp only [decide_eq_true_eq, decide_eq_false_iff_not, Bool.not_eq_true', Bool.not_eq_false'] at hX); (try have hXb := inB_iff.1 hX))))))
    all_goals try ((first | apply i_end | apply i_endN); simp (disch := (first | omega | (simp only [push_cast]; first | done | omega))) only [push_cast, ↓reduceIte, Nat.reduceEqDiff, Nat.reduceBEq, Nat.reduceAdd, Nat.reduceSub, Int.reduceToNat, *])
    all_goals try (rw [pagesB_no (k := k) (by omega) (by rw [hpg]; simp_all; try omega)]; done)
    all_goals try (rw [pagesB_yes (by rwa [show zs.length = k by omega])]; done)
    all_goals
      refine ⟨k + 1, ⟨by omega, by rw [okPages_succ, hok, hpg]; simp_all; try omega⟩, by dsimp only; omega, by simp only [push_cast, ↓reduceIte, Nat.reduceEqDiff, Nat.reduceBEq, Nat.reduceAdd, Nat.reduceSub, Int.reduceToNat], trivial, rfl⟩
noncomputable def GPvs : Ctx := { fn := fun f => if f = 48 then some φIn else none, io := fun f => none }
theorem GPvs_ok : SoundΓ Tryd.prog GPvs := ⟨(fun f φ h => by
  unfold GPvs at h
  dsimp only at h
  split at h
  · rename_i hf; cases h; subst hf; exact ⟨⟨_, Tryd.func48, rfl, rfl⟩, l1In_ok⟩
  cases h), (fun f φ h => by
  unfold GPvs at h
  dsimp only at h
  cases h), rfl⟩
theorem GPvs_48 (ob : Objs) (ps : List PV) : evCall GPvs ob 48 ps = (ps.mapM (reify false 0 ob fuel)).bind φIn := by
  have h : GPvs.fn 48 = some φIn := by simp [GPvs]
  unfold evCall
  rw [h]
  cases ps.mapM (reify false 0 ob fuel) <;> rfl
set_option maxHeartbeats 4000000 in
theorem specPagesV_ok : Sound Tryd.prog 30 φPagesV := by
  refine sound_pq mixed GPvs_ok Tryd.func30 rfl 35 rfl [.tmp 2] rfl (by kernel_rfl) fun ps r hr => ?_
  obtain ⟨zs, rfl, hq⟩ := F1_some hr
  clear hr
  split at hq
  case isFalse => cases hq
  case isTrue hpre =>
  cases hq
  refine ⟨by simp, ?_⟩
  simp only [dIs, dUs, dSs, dI_e, dU_e, dB_e, dS_e, dFn_e, dL_e, dA2_e, dA3_e, dA4_e, dA5_e]
  have gpvs_c48 := GPvs_48; have ap := φIn_ap
  repeat' (first | (with_reducible first | apply i_seq | apply i_block | apply i_skip | apply i_exit | apply i_ret | apply i_kS | apply i_kSx | apply i_kSr | apply i_kL | apply i_kLx | apply i_kLr | apply i_kB | apply i_kBr | apply i_kBs | apply i_nil) | ((with_reducible apply i_region); (simp only [List.map_cons, List.map_nil] <;> exact rfl)) | ((with_reducible apply i_draw); (simp only [List.map_cons, List.map_nil] <;> exact rfl); decide +kernel) | ((with_reducible apply i_kBo); rfl) | ((first | ((with_reducible apply i_V); rfl; rfl; rfl) | ((first | ((with_reducible apply i_E); rfl) | ((with_reducible apply i_S); rfl)); first | rfl | (simp only [push_cast, ↓reduceIte])) | ((with_reducible apply i_Vq); rfl; rfl) | ((with_reducible apply i_Vp); rfl; rfl; rfl) | (with_reducible first | apply i_Gb | apply i_cond)); (simp (disch := (first | omega | (simp only [push_cast]; first | done | omega))) only [push_cast, ↓reduceIte, Nat.reduceEqDiff, Nat.reduceBEq, Nat.reduceAdd, Nat.reduceSub, Int.reduceToNat, *] <;> with_reducible exact rfl); all_goals try (first | (with_reducible first | refine hyT ?_ | refine hyF ?_ | exact hyA | exact hyB) | (intro hX; first | (cases hX; done) | ((try simp only [decide_eq_true_eq, decide_eq_false_iff_not, Bool.not_eq_true', Bool.not_eq_false'] at hX); (try have hXb := inB_iff.1 hX))))))
  refine i_loop (α := Nat) mixed (fun k => [(0, .lst false 1 (zs.map fun n => .val (.int .i64 n))), (3, iv k)]) (fun _ => []) (fun _ => 0)
    (fun k => k ≤ zs.length ∧ okPages zs k = true) (fun k => zs.length - k) (by kernel_rfl) 0 ⟨Nat.zero_le _, rfl⟩ ?_ trivial rfl ?_
  · simp only [push_cast, ↓reduceIte, Nat.reduceEqDiff, Nat.reduceBEq, Nat.reduceAdd, Nat.reduceSub, Int.reduceToNat]
  · intro k ⟨hk, hok⟩
    have hpg : okPage zs k = (inB (zs[k]?.getD 0) 1 999 && (k == 0 || decide (zs[k - 1]?.getD 0 < zs[k]?.getD 0))) := rfl
    repeat' (first | (with_reducible first | apply i_seq | apply i_block | apply i_skip | apply i_exit | apply i_ret | apply i_kS | apply i_kSx | apply i_kSr | apply i_kL | apply i_kLx | apply i_kLr | apply i_kB | apply i_kBr | apply i_kBs | apply i_nil) | ((with_reducible apply i_region); (simp only [List.map_cons, List.map_nil] <;> exact rfl)) | ((with_reducible apply i_draw); (simp only [List.map_cons, List.map_nil] <;> exact rfl); decide +kernel) | ((with_reducible apply i_kBo); rfl) | ((first | ((with_reducible apply i_V); rfl; rfl; rfl) | ((first | ((with_reducible apply i_E); rfl) | ((with_reducible apply i_S); rfl)); first | rfl | (simp only [push_cast, ↓reduceIte])) | ((with_reducible apply i_Vq); rfl; rfl) | ((with_reducible apply i_Vp); rfl; rfl; rfl) | (with_reducible first | apply i_Gb | apply i_cond)); (simp (disch := (first | omega | (simp only [push_cast]; first | done | omega))) only [push_cast, ↓reduceIte, Nat.reduceEqDiff, Nat.reduceBEq, Nat.reduceAdd, Nat.reduceSub, Int.reduceToNat, *] <;> with_reducible exact rfl); all_goals try (first | (with_reducible first | refine hyT ?_ | refine hyF ?_ | exact hyA | exact hyB) | (intro hX; first | (cases hX; done) | ((try simp only [decide_eq_true_eq, decide_eq_false_iff_not, Bool.not_eq_true', Bool.not_eq_false'] at hX); (try have hXb := inB_iff.1 hX))))))
    all_goals try ((first | apply i_end | apply i_endN); simp (disch := (first | omega | (simp only [push_cast]; first | done | omega))) only [push_cast, ↓reduceIte, Nat.reduceEqDiff, Nat.reduceBEq, Nat.reduceAdd, Nat.reduceSub, Int.reduceToNat, *])
    all_goals try (rw [pagesB_no (k := k) (by omega) (by rw [hpg]; simp_all; try omega)]; done)
    all_goals try (rw [pagesB_yes (by rwa [show zs.length = k by omega])]; done)
    all_goals
      refine ⟨k + 1, ⟨by omega, by rw [okPages_succ, hok, hpg]; simp_all; try omega⟩, by dsimp only; omega, by simp only [push_cast, ↓reduceIte, Nat.reduceEqDiff, Nat.reduceBEq, Nat.reduceAdd, Nat.reduceSub, Int.reduceToNat], trivial, rfl⟩
def glueB (g : I4) : Bool := inB g.1 0 1000 && inB g.2.1 0 1000 && inB g.2.2.1 0 g.1 && inB g.2.2.2 0 1
def φGlueV : Fun := F1 dI4 fun g => some (bv (glueB g))
theorem φGlueV_ap {a b c d : Int} : φGlueV [.agg [.val (.int .i64 a), .val (.int .i64 b), .val (.int .i64 c), .val (.int .i64 d)]] = some (.val (.bool (glueB (a, b, c, d)))) := F1_ap (A := dI4) (a, b, c, d)
noncomputable def GGl : Ctx := { fn := fun f => if f = 86 then some φIn else none, io := fun f => none }
theorem GGl_ok : SoundΓ Tryd.prog GGl := ⟨(fun f φ h => by
  unfold GGl at h
  dsimp only at h
  split at h
  · rename_i hf; cases h; subst hf; exact ⟨⟨_, Tryd.func86, rfl, rfl⟩, in_ok⟩
  cases h), (fun f φ h => by
  unfold GGl at h
  dsimp only at h
  cases h), rfl⟩
theorem GGl_86 (ob : Objs) (ps : List PV) : evCall GGl ob 86 ps = (ps.mapM (reify false 0 ob fuel)).bind φIn := by
  have h : GGl.fn 86 = some φIn := by simp [GGl]
  unfold evCall
  rw [h]
  cases ps.mapM (reify false 0 ob fuel) <;> rfl
set_option maxHeartbeats 4000000 in
theorem implGlueV_ok : Sound Tryd.prog 62 φGlueV := by
  refine sound_pq mixed GGl_ok Tryd.func62 rfl 23 rfl [.tmp 2] rfl (by kernel_rfl) fun ps r hr => ?_
  obtain ⟨⟨a, b, c, d⟩, rfl, hr⟩ := F1_some hr
  cases hr
  refine ⟨by simp, ?_⟩
  simp only [dIs, dUs, dSs, dI_e, dU_e, dB_e, dS_e, dFn_e, dL_e, dA2_e, dA3_e, dA4_e, dA5_e]
  have ggl_c86 := GGl_86; have ap := φIn_ap
  repeat' (first | (with_reducible first | apply i_seq | apply i_block | apply i_skip | apply i_exit | apply i_ret | apply i_kS | apply i_kSx | apply i_kSr | apply i_kL | apply i_kLx | apply i_kLr | apply i_kB | apply i_kBr | apply i_kBs | apply i_nil) | ((with_reducible apply i_region); (simp only [List.map_cons, List.map_nil] <;> exact rfl)) | ((with_reducible apply i_draw); (simp only [List.map_cons, List.map_nil] <;> exact rfl); decide +kernel) | ((with_reducible apply i_kBo); rfl) | ((first | ((with_reducible apply i_V); rfl; rfl; rfl) | ((first | ((with_reducible apply i_E); rfl) | ((with_reducible apply i_S); rfl)); first | rfl | (simp only [push_cast, ↓reduceIte])) | ((with_reducible apply i_Vq); rfl; rfl) | ((with_reducible apply i_Vp); rfl; rfl; rfl) | (with_reducible first | apply i_Gb | apply i_cond)); (simp (disch := (first | omega | (simp only [push_cast]; first | done | omega))) only [push_cast, ↓reduceIte, Nat.reduceEqDiff, Nat.reduceBEq, Nat.reduceAdd, Nat.reduceSub, Int.reduceToNat, *] <;> with_reducible exact rfl); all_goals try (first | (with_reducible first | refine hyT ?_ | refine hyF ?_ | exact hyA | exact hyB) | (intro hX; first | (cases hX; done) | ((try simp only [decide_eq_true_eq, decide_eq_false_iff_not, Bool.not_eq_true', Bool.not_eq_false'] at hX); (try have hXb := inB_iff.1 hX))))))
  all_goals ((first | apply i_end | apply i_endN); simp (disch := (first | omega | (simp only [push_cast]; first | done | omega))) only [push_cast, ↓reduceIte, Nat.reduceEqDiff, Nat.reduceBEq, Nat.reduceAdd, Nat.reduceSub, Int.reduceToNat, *])
  all_goals simp_all [glueB]
noncomputable def GAl : Ctx := { fn := fun f => if f = 62 then some φGlueV else none, io := fun f => none }
theorem GAl_ok : SoundΓ Tryd.prog GAl := ⟨(fun f φ h => by
  unfold GAl at h
  dsimp only at h
  split at h
  · rename_i hf; cases h; subst hf; exact ⟨⟨_, Tryd.func62, rfl, rfl⟩, implGlueV_ok⟩
  cases h), (fun f φ h => by
  unfold GAl at h
  dsimp only at h
  cases h), rfl⟩
theorem GAl_62 (ob : Objs) (ps : List PV) : evCall GAl ob 62 ps = (ps.mapM (reify false 0 ob fuel)).bind φGlueV := by
  have h : GAl.fn 62 = some φGlueV := by simp [GAl]
  unfold evCall
  rw [h]
  cases ps.mapM (reify false 0 ob fuel) <;> rfl
def φTrue : Fun := F0 (some (bv true))
theorem φTrue_ap : φTrue [] = some (.val (.bool true)) := rfl
theorem alive_ok : Sound Tryd.prog 22 φTrue := by
  refine sound_pq mixed GAl_ok Tryd.func22 rfl 3 rfl [.tmp 0] rfl (by kernel_rfl) fun ps r hr => ?_
  obtain ⟨rfl, hr⟩ := F0_some hr
  cases hr
  refine ⟨by simp, ?_⟩
  have gal_c62 := GAl_62; have ap := @φGlueV_ap
  have e : glueB (4, 0, 0, 0) = true := rfl
  (refine wlkX ?_; intros)
  all_goals (exact fnF)
noncomputable def GRd : Ctx := { fn := fun f => none, io := fun f => if f = 61 then some Φpick else if f = 74 then some Φodd else none }
theorem GRd_ok : SoundΓ Tryd.prog GRd := ⟨(fun f φ h => by
  unfold GRd at h
  dsimp only at h
  cases h), (fun f φ h => by
  unfold GRd at h
  dsimp only at h
  split at h
  · rename_i hf; cases h; subst hf; exact ⟨⟨_, Tryd.func61, rfl, rfl⟩, pick_io⟩
  split at h
  · rename_i hf; cases h; subst hf; exact ⟨⟨_, Tryd.func74, rfl, rfl⟩, odd_io⟩
  cases h), rfl⟩
end Go.Proofs.YtpggpdbipajchaaDoor
namespace Go.Proofs.YtpggpdbipajchaaDoor
open Go.RowKit
set_option linter.all false
theorem map_app' {α β : Type} {f : α → β} {l l' : List α} : l.map f ++ l'.map f = (l ++ l').map f := List.map_append.symm
theorem min_l {a b : Nat} (h : a ≤ b) : min a b = a := Nat.min_eq_left h
attribute [push_cast]
  map_app' min_l List.take_length
theorem strI_take {s : ByteArray} : (strI s).take s.size = strI s := List.take_of_length_le (by rw [strI_length]; exact Nat.le_refl _)
attribute [push_cast]
  strI_take
theorem io_ag {Φ : FunIO} {ob : Objs} {nx : Nat} {u : Value} {k : Bool} {sz : Nat} {α : Type} {g : α → Value} {l : List α} : ioEv Φ ob nx [.agg [.val u, .lst k sz (l.map fun x => PV.val (g x))]] = ioR [] ob nx (Φ [.agg [.val u, .lst k sz (l.map fun x => PV.val (g x))]] []) :=
  ioNo_of rfl (by simp only [mapM_cons', mapM_nil', renS_fuel, renS_agg, renS_val, renS_vals]; rfl)
attribute [push_cast]
  io_ag
end Go.Proofs.YtpggpdbipajchaaDoor
namespace Go.Proofs.YtpggpdbipajchaaDoor
open Go.RowKit
set_option linter.all false
section
variable {Φ : FunIO} {ob : Objs} {nx o sz i n : Nat} {u u2 v v2 v3 : Value}
theorem io_gr2 : ioEv Φ ob nx [.agg [.val u, .row o sz i n], .val v] = ioOne Φ ob nx o [.agg [.val u, .row 0 sz i n], .val v] (ob o) := ioOne_of (by simp [refsOf, dedup]) (by simp only [mapM_cons', mapM_nil', renS_fuel, renS_agg, renS_row, renS_val, inn_self]; rfl)
theorem io_gr4 : ioEv Φ ob nx [.agg [.val u, .row o sz i n], .val v, .val v2, .val v3] = ioOne Φ ob nx o [.agg [.val u, .row 0 sz i n], .val v, .val v2, .val v3] (ob o) := ioOne_of (by simp [refsOf, dedup]) (by simp only [mapM_cons', mapM_nil', renS_fuel, renS_agg, renS_row, renS_val, inn_self]; rfl)
theorem io_gn2 : ioEv Φ ob nx [.agg [.val u, .val u2], .val v] = ioR [] ob nx (Φ [.agg [.val u, .val u2], .val v] []) := ioNo_of rfl rfl
end
attribute [push_cast]
  io_gr2 io_gr4 io_gn2
end Go.Proofs.YtpggpdbipajchaaDoor
namespace Go.Proofs.YtpggpdbipajchaaDoor
open Go.RowKit
set_option linter.all false
def refsA : List PV → List Nat
  | [] => []
  | .own o _ _ _ :: l => o :: refsA l
  | .row o _ _ _ :: l => o :: refsA l
  | _ :: l => refsA l
def refsX : PV → List Nat
  | .own o _ _ _ => [o]
  | .row o _ _ _ => [o]
  | .agg cs => refsA cs
  | _ => []
def refsL : List PV → List Nat
  | [] => []
  | p :: ps => refsX p ++ refsL ps
theorem refsA_eq : ∀ cs : List PV, (cs.flatMap fun c => match c with | .own o _ _ _ => [o] | .row o _ _ _ => [o] | _ => []) = refsA cs
  | [] => rfl
  | c :: cs => by
    rw [List.flatMap_cons, refsA_eq cs]
    cases c <;> rfl
theorem refsL_eq : ∀ ps : List PV, ps.flatMap refsOf = refsL ps
  | [] => rfl
  | p :: ps => by
    rw [List.flatMap_cons, refsL_eq ps]
    show _ = refsX p ++ refsL ps
    congr 1
    cases p with
    | agg cs => exact refsA_eq cs
    | _ => rfl
section
variable {Φ : FunIO} {ob : Objs} {nx : Nat}
def ioTwo (Φ : FunIO) (ob : Objs) (nx a b : Nat) (qs : List PV) : Option CellIO → Option CellIO → Option (PV × Objs × Nat)
  | some c, some d => (c.2.2.mapM (renF (inn [a, b]) fuel)).bind fun es => (d.2.2.mapM (renF (inn [a, b]) fuel)).bind fun fs => ioR [a, b] ob nx (Φ qs [(c.1, c.2.1, es), (d.1, d.2.1, fs)])
  | _, _ => none
def ioX (Φ : FunIO) (ob : Objs) (nx : Nat) (ps : List PV) : List Nat → Option (PV × Objs × Nat)
  | [] => (ps.mapM (renF (inn []) fuel)).bind fun qs => ioR [] ob nx (Φ qs [])
  | [o] => (ps.mapM (renF (inn [o]) fuel)).bind fun qs => ioOne Φ ob nx o qs (ob o)
  | [a, b] => (ps.mapM (renF (inn [a, b]) fuel)).bind fun qs => ioTwo Φ ob nx a b qs (ob a) (ob b)
  | _ => ioEv Φ ob nx ps
theorem io_any (ps : List PV) : ioEv Φ ob nx ps = ioX Φ ob nx ps (dedup (refsL ps)) := by
  generalize hos : dedup (refsL ps) = os
  rw [← refsL_eq] at hos
  match os with
  | [] =>
    show _ = (ps.mapM (renF (inn []) fuel)).bind _
    cases h2 : ps.mapM (renF (inn []) fuel) with
    | some qs => rw [ioEv_eq ps [] hos, h2, mapM_nil']; rfl
    | none => rw [ioEv_eq ps [] hos, h2, mapM_nil']; rfl
  | [o] =>
    show _ = (ps.mapM (renF (inn [o]) fuel)).bind _
    cases h2 : ps.mapM (renF (inn [o]) fuel) with
    | some qs => rw [ioOne_of hos h2]; rfl
    | none =>
      rw [ioEv_eq ps [o] hos, h2]
      cases [o].mapM ob <;> rfl
  | [a, b] =>
    show _ = (ps.mapM (renF (inn [a, b]) fuel)).bind _
    rw [ioEv_eq ps [a, b] hos]
    simp only [mapM_cons', mapM_nil', renC]
    cases ps.mapM (renF (inn [a, b]) fuel) with
    | none => cases ob a <;> cases ob b <;> rfl
    | some qs =>
      simp only [Option.bind_some]
      cases ob a with
      | none => rfl
      | some c =>
        cases ob b with
        | none => rfl
        | some d =>
          obtain ⟨T, sz, es0⟩ := c
          obtain ⟨T2, sz2, fs0⟩ := d
          simp only [Option.bind_some, Option.map_some, ioTwo, mapM_cons', mapM_nil', renC]
          cases es0.mapM (renF (inn [a, b]) fuel) with
          | none => rfl
          | some es =>
            simp only [Option.bind_some, Option.map_some]
            cases fs0.mapM (renF (inn [a, b]) fuel) <;> rfl
  | _ :: _ :: _ :: _ => rfl
theorem ioX_nil {ps : List PV} : ioX Φ ob nx ps [] = (ps.mapM (renF (inn []) fuel)).bind fun qs => ioR [] ob nx (Φ qs []) := rfl
theorem ioX_one {ps : List PV} {o : Nat} : ioX Φ ob nx ps [o] = (ps.mapM (renF (inn [o]) fuel)).bind fun qs => ioOne Φ ob nx o qs (ob o) := rfl
theorem ioX_two {ps : List PV} {a b : Nat} : ioX Φ ob nx ps [a, b] = (ps.mapM (renF (inn [a, b]) fuel)).bind fun qs => ioTwo Φ ob nx a b qs (ob a) (ob b) := rfl
theorem ioTwo_some {a b T T2 sz sz2 : Nat} {es es2 qs : List PV} : ioTwo Φ ob nx a b qs (some (T, sz, es)) (some (T2, sz2, es2)) = (es.mapM (renF (inn [a, b]) fuel)).bind fun es => (es2.mapM (renF (inn [a, b]) fuel)).bind fun fs => ioR [a, b] ob nx (Φ qs [(T, sz, es), (T2, sz2, fs)]) := rfl
theorem dd_ab {a b : Nat} (h : ¬ a = b) : dedup [a, b] = [a, b] := by
  have h' : ¬ b = a := fun e => h e.symm
  simp [dedup, h']
theorem inn_a {a b : Nat} : inn [a, b] a = some 0 := by simp [inn]
theorem inn_b {a b : Nat} (h : ¬ a = b) : inn [a, b] b = some 1 := by
  have h2 : (a == b) = false := by simpa using h
  simp [inn, List.idxOf_cons, h2]
theorem outF_ab0 {a b nx : Nat} : outF [a, b] nx 0 = some a := rfl
theorem outF_ab1 {a b nx : Nat} : outF [a, b] nx 1 = some b := rfl
theorem outF_ab2 {a b nx : Nat} : outF [a, b] nx 2 = some nx := by simp [outF, outn]
theorem outF_a1 {a nx : Nat} : outF [a] nx 1 = some nx := by simp [outF, outn]
theorem ioR_ab2 {a b T T2 sz sz2 : Nat} {es es2 : List PV} {r : PV} : ioR [a, b] ob nx (some (r, [(T, sz, es), (T2, sz2, es2)])) = (renF (outF [a, b] nx) fuel r).bind fun r' => (es.mapM (renF (outF [a, b] nx) fuel)).bind fun es' => (es2.mapM (renF (outF [a, b] nx) fuel)).map fun es2' => (r', upd (upd ob a (some (T, sz, es'))) b (some (T2, sz2, es2')), nx) := by
  unfold ioR
  simp only [mapM_cons', mapM_nil', renC]
  cases renF (outF [a, b] nx) fuel r with
  | none => rfl
  | some r' =>
    cases es.mapM (renF (outF [a, b] nx) fuel) with
    | none => rfl
    | some es' =>
      cases es2.mapM (renF (outF [a, b] nx) fuel) <;> rfl
theorem ioR_ab3 {a b T T2 T3 sz sz2 sz3 : Nat} {es es2 es3 : List PV} {r : PV} : ioR [a, b] ob nx (some (r, [(T, sz, es), (T2, sz2, es2), (T3, sz3, es3)])) = (renF (outF [a, b] nx) fuel r).bind fun r' => (es.mapM (renF (outF [a, b] nx) fuel)).bind fun es' => (es2.mapM (renF (outF [a, b] nx) fuel)).bind fun es2' => (es3.mapM (renF (outF [a, b] nx) fuel)).map fun es3' => (r', upd (upd (upd ob a (some (T, sz, es'))) b (some (T2, sz2, es2'))) nx (some (T3, sz3, es3')), nx + 1) := by
  unfold ioR
  simp only [mapM_cons', mapM_nil', renC]
  cases renF (outF [a, b] nx) fuel r with
  | none => rfl
  | some r' =>
    cases es.mapM (renF (outF [a, b] nx) fuel) with
    | none => rfl
    | some es' =>
      cases es2.mapM (renF (outF [a, b] nx) fuel) with
      | none => rfl
      | some es2' =>
        cases es3.mapM (renF (outF [a, b] nx) fuel) with
        | none => rfl
        | some es3' =>
          simp only [Option.map_some, Option.bind_some, List.length_cons, List.length_nil, Nat.zero_add, Nat.reduceAdd, Nat.reduceSub, Option.some.injEq, Prod.mk.injEq, true_and, and_true]
          show putObs ob [(outn [a, b] nx 0, _), (outn [a, b] nx 1, _), (outn [a, b] nx 2, _)] = _
          simp [putObs, outn]
theorem dd_nil : dedup [] = [] := rfl
theorem dd_one {o : Nat} : dedup [o] = [o] := rfl
theorem dd_two {o : Nat} : dedup [o, o] = [o] := by simp [dedup]
theorem rl_nil : refsL [] = [] := rfl
theorem rl_cons {p : PV} {ps : List PV} : refsL (p :: ps) = refsX p ++ refsL ps := rfl
theorem rx_val {v : Value} : refsX (.val v) = [] := rfl
theorem rx_lst {k : Bool} {sz : Nat} {es : List PV} : refsX (.lst k sz es) = [] := rfl
theorem rx_ptr {k : Bool} {e : PV} {o : Nat} : refsX (.ptr k e o) = [] := rfl
theorem rx_own {o a b c : Nat} : refsX (.own o a b c) = [o] := rfl
theorem rx_row {o a b c : Nat} : refsX (.row o a b c) = [o] := rfl
theorem rx_agg {cs : List PV} : refsX (.agg cs) = refsA cs := rfl
theorem ra_nil : refsA [] = [] := rfl
theorem ra_val {v : Value} {l : List PV} : refsA (.val v :: l) = refsA l := rfl
theorem ra_lst {k : Bool} {sz : Nat} {es l : List PV} : refsA (.lst k sz es :: l) = refsA l := rfl
theorem ra_own {o a b c : Nat} {l : List PV} : refsA (.own o a b c :: l) = o :: refsA l := rfl
theorem ra_row {o a b c : Nat} {l : List PV} : refsA (.row o a b c :: l) = o :: refsA l := rfl
end
attribute [push_cast low]
  io_any
attribute [push_cast]
  ioX_nil ioX_one ioX_two ioTwo_some dd_ab inn_a inn_b outF_ab0 outF_ab1 outF_ab2 outF_a1 ioR_ab2 ioR_ab3 dd_nil dd_one dd_two rl_nil rl_cons rx_val rx_lst rx_ptr rx_own rx_row rx_agg ra_nil ra_val ra_lst ra_own ra_row
end Go.Proofs.YtpggpdbipajchaaDoor
namespace Go.Proofs.YtpggpdbipajchaaDoor
open Go.RowKit
set_option linter.all false
theorem byteNs_gl {l : List Int} : byteNs (l.map fun n => .val (.int .u8 n)) = some l := by
  induction l with
  | nil => rfl
  | cons x l ih => simp_all [byteNs]
attribute [push_cast]
  byteNs_gl
theorem gl_ext {a b : ByteArray} (h : a.data.toList = b.data.toList) : a = b := by
  obtain ⟨⟨a⟩⟩ := a
  obtain ⟨⟨b⟩⟩ := b
  simp only at h
  rw [h]
end Go.Proofs.YtpggpdbipajchaaDoor
namespace Go.Proofs.YtpggpdbipajchaaDoor
open Go.RowKit
set_option linter.all false
abbrev Rn := Int × Int
def runStep (R : List Rn) (n : Int) : List Rn := match R.getLast? with
  | some r => if r.2 + 1 = n then R.dropLast ++ [(r.1, n)] else R ++ [(n, n)]
  | none => [(n, n)]
def runsR (l : List Int) : List Rn := l.foldl runStep []
def runT (r : Rn) : ByteArray := if r.1 = r.2 then itoaS r.1 else (itoaS r.1 ++ ⟨#[45]⟩) ++ itoaS r.2
def csB : ByteArray := ⟨#[44, 32]⟩
def textR (l : List Int) : ByteArray := joinB ((runsR l).map runT) csB
def pagesT (l : List Int) : ByteArray := if pagesB l = true then textR l else ⟨#[]⟩
theorem runsR_snoc (l : List Int) (n : Int) : runsR (l ++ [n]) = runStep (runsR l) n := by simp [runsR, List.foldl_append]
theorem runStep_snoc (R : List Rn) (r : Rn) (n : Int) : runStep (R ++ [r]) n = if r.2 + 1 = n then R ++ [(r.1, n)] else R ++ [r] ++ [(n, n)] := by
  unfold runStep
  rw [List.getLast?_append]
  simp
theorem runs_last : ∀ (l : List Int) (n : Int), ∃ R a, runsR (l ++ [n]) = R ++ [(a, n)] := fun l n => by
  rw [runsR_snoc]
  rcases List.eq_nil_or_concat (runsR l) with h | ⟨R, r, h⟩
  · rw [h]; exact ⟨[], n, rfl⟩
  · rw [h, List.concat_eq_append, runStep_snoc]
    split
    · exact ⟨R, r.1, rfl⟩
    · exact ⟨R ++ [r], n, rfl⟩
theorem take_snoc {l : List Int} {k : Nat} (h : k < l.length) : l.take (k + 1) = l.take k ++ [l[k]?.getD 0] := by
  rw [List.take_succ_eq_append_getElem h, List.getElem?_eq_getElem h]
  rfl
theorem runs_run {l : List Int} {k : Nat} (hk : k < l.length) (hb : 0 < k → ¬ l[k - 1]?.getD 0 + 1 = l[k]?.getD 0) : ∀ e, k ≤ e → e < l.length → (∀ j, k ≤ j → j < e → l[j + 1]?.getD 0 = l[j]?.getD 0 + 1) →
    runsR (l.take (e + 1)) = runsR (l.take k) ++ [(l[k]?.getD 0, l[e]?.getD 0)] := by
  intro e
  induction e with
  | zero =>
    intro h1 _ _
    obtain rfl : k = 0 := by omega
    rw [take_snoc hk]
    rfl
  | succ e ih =>
    intro h1 h2 h3
    by_cases he : k = e + 1
    · subst he
      rw [take_snoc h2, runsR_snoc]
      have hb := hb (by omega)
      rw [show e + 1 - 1 = e by omega] at hb
      obtain ⟨R, a, hR⟩ := runs_last (l.take e) (l[e]?.getD 0)
      rw [take_snoc (show e < l.length by omega), hR, runStep_snoc, if_neg hb]
    · have hR := ih (by omega) (by omega) fun j h4 h5 => h3 j h4 (by omega)
      rw [take_snoc h2, runsR_snoc, hR, runStep_snoc, if_pos (by rw [h3 e (by omega) (by omega)])]
theorem joinG_snoc {l : LS} (h : 0 < l.length) (z sep : ByteArray) : joinB (l ++ [z]) sep = (joinB l sep ++ sep) ++ z := by
  cases l with
  | nil => simp at h
  | cons x r =>
    refine gl_ext ?_
    rw [ByteArray.data_append, Array.toList_append, ByteArray.data_append, Array.toList_append]
    show Lib.join ((x :: (r ++ [z])).map (·.data.toList)) sep.data.toList = Lib.join ((x :: r).map (·.data.toList)) sep.data.toList ++ sep.data.toList ++ z.data.toList
    rw [List.map_cons, List.map_cons, Lib.join_cons, Lib.join_cons]
    simp [Lib.joinTail]
theorem joinG_one (z sep : ByteArray) : joinB [z] sep = z := gl_ext (by
  show Lib.join [z.data.toList] sep.data.toList = z.data.toList
  rw [Lib.join_one])
theorem textR_run {l : List Int} {k e : Nat} (hk : k < l.length) (hb : 0 < k → ¬ l[k - 1]?.getD 0 + 1 = l[k]?.getD 0) (h1 : k ≤ e) (h2 : e < l.length) (h3 : ∀ j, k ≤ j → j < e → l[j + 1]?.getD 0 = l[j]?.getD 0 + 1) :
    textR (l.take (e + 1)) = (if k = 0 then ⟨#[]⟩ else textR (l.take k) ++ csB) ++ runT (l[k]?.getD 0, l[e]?.getD 0) := by
  unfold textR
  rw [runs_run hk hb e h1 h2 h3, List.map_append, List.map_singleton]
  split
  · rename_i h
    subst h
    show joinB [_] csB = _
    rw [joinG_one]
    exact gl_ext (by rw [ByteArray.data_append, Array.toList_append]; rfl)
  · rename_i h
    obtain ⟨R, a, hR⟩ := runs_last (l.take (k - 1)) (l[k - 1]?.getD 0)
    rw [← take_snoc (show k - 1 < l.length by omega), show k - 1 + 1 = k by omega] at hR
    rw [joinG_snoc (by rw [hR]; simp)]
theorem textR_pos {l : List Int} {k : Nat} (h0 : 0 < k) (hk : k ≤ l.length) (hp : ∀ j, j < l.length → 0 ≤ l[j]?.getD 0) : 0 < (textR (l.take k)).size := by
  obtain ⟨R, a, hR⟩ := runs_last (l.take (k - 1)) (l[k - 1]?.getD 0)
  rw [← take_snoc (show k - 1 < l.length by omega), show k - 1 + 1 = k by omega] at hR
  unfold textR
  rw [joinB_size, hR, List.map_append, List.map_singleton]
  have hz : 0 < (runT (a, l[k - 1]?.getD 0)).size := by
    have := (itoaS_head (hp (k - 1) (by omega))).1
    unfold runT
    split
    · rename_i h; simp only at h; rw [h]; exact this
    · rw [ByteArray.size_append]; dsimp only; omega
  have : (runT (a, l[k - 1]?.getD 0)).size ≤ sumS (R.map runT ++ [runT (a, l[k - 1]?.getD 0)]) := by
    unfold sumS
    rw [List.map_append, List.sum_append]
    simp
  omega
end Go.Proofs.YtpggpdbipajchaaDoor
namespace Go.Proofs.YtpggpdbipajchaaDoor
open Go.RowKit
set_option linter.all false
def rn0 : Rn := (0, 0)
section
variable {β : Type} {i : Nat}
theorem get_rn {g : Rn → PV} {l : List Rn} (h : i < l.length) : ((l[i]?).map g).getD .dead = g ((l[i]?).getD rn0) := by simp [h]
theorem omg_rn {g : Rn → β} {l : List Rn} (h : i < l.length) : Option.map g l[i]? = some (g ((l[i]?).getD rn0)) := by simp [h]
theorem set_rn {l : List Rn} {a b : Int} : (l.map fun x => PV.agg [.val (.int .i64 x.1), .val (.int .i64 x.2)]).set i (.agg [.val (.int .i64 a), .val (.int .i64 b)]) = (l.set i (a, b)).map fun x => PV.agg [.val (.int .i64 x.1), .val (.int .i64 x.2)] := by rw [List.map_set]
end
attribute [push_cast]
  get_rn omg_rn set_rn
abbrev pvR (x : Rn) : PV := .agg [.val (.int .i64 x.1), .val (.int .i64 x.2)]
def RunI (l : List Int) (k : Nat) (R : List Rn) : Prop := R = runsR (l.take k)
theorem pages_at {l : List Int} (h : pagesB l = true) {i : Nat} (hi : i < l.length) : 1 ≤ l[i]?.getD 0 ∧ l[i]?.getD 0 ≤ 999 := ((pagesB_iff.1 h).1 i hi).1
theorem pages_len {l : List Int} (h : pagesB l = true) : l.length ≤ 30 := (pagesB_iff.1 h).2
theorem RunI.zero (l : List Int) : RunI l 0 [] := rfl
theorem RunI.last {l : List Int} {k : Nat} {R : List Rn} (h : RunI l k R) (h0 : 0 < k) (hk : k ≤ l.length) : 0 < R.length ∧ ∃ a, R[R.length - 1]?.getD rn0 = (a, l[k - 1]?.getD 0) := by
  obtain ⟨R0, a, hR⟩ := runs_last (l.take (k - 1)) (l[k - 1]?.getD 0)
  rw [← take_snoc (show k - 1 < l.length by omega), show k - 1 + 1 = k by omega] at hR
  unfold RunI at h
  rw [h, hR]
  simp
theorem RunI.start {l : List Int} {R : List Rn} (h : RunI l 0 R) (h0 : 0 < l.length) : RunI l 1 ([] ++ [(l[0]?.getD 0, l[0]?.getD 0)]) := by
  unfold RunI
  rw [take_snoc h0]
  rfl
theorem RunI.next {l : List Int} {k : Nat} {R : List Rn} (h : RunI l k R) (h0 : 0 < k) (hk : k < l.length) :
    RunI l (k + 1) (if l[k - 1]?.getD 0 + 1 = l[k]?.getD 0 then R.set (R.length - 1) ((R[R.length - 1]?.getD rn0).1, l[k]?.getD 0) else R ++ [(l[k]?.getD 0, l[k]?.getD 0)]) := by
  obtain ⟨R0, a, hR⟩ := runs_last (l.take (k - 1)) (l[k - 1]?.getD 0)
  rw [← take_snoc (show k - 1 < l.length by omega), show k - 1 + 1 = k by omega] at hR
  unfold RunI at h ⊢
  rw [take_snoc hk, runsR_snoc, hR, runStep_snoc, h, hR]
  dsimp only
  split
  · simp
  · rfl
theorem runs_le (l : List Int) : (runsR l).length ≤ l.length := by
  have key : ∀ n, ∀ l : List Int, l.length = n → (runsR l).length ≤ l.length := by
    intro n
    induction n with
    | zero => intro l h; rw [List.eq_nil_of_length_eq_zero h]; exact Nat.le_refl _
    | succ n ih =>
      intro l h
      rcases List.eq_nil_or_concat l with h1 | ⟨l0, x, h1⟩
      · subst h1; exact Nat.le_refl _
      · rw [List.concat_eq_append] at h1
        subst h1
        rw [List.length_append, List.length_singleton] at h ⊢
        have := ih l0 (by omega)
        rw [runsR_snoc]
        unfold runStep
        split
        · rename_i r hr
          split
          · rw [List.length_append, List.length_dropLast, List.length_singleton]; omega
          · rw [List.length_append, List.length_singleton]; omega
        · simp
  exact key _ l rfl
theorem runs_rng {l : List Int} (h : ∀ x ∈ l, 1 ≤ x ∧ x ≤ 999) : ∀ r ∈ runsR l, (1 ≤ r.1 ∧ r.1 ≤ 999) ∧ (1 ≤ r.2 ∧ r.2 ≤ 999) := by
  have key : ∀ n, ∀ l : List Int, l.length = n → (∀ x ∈ l, 1 ≤ x ∧ x ≤ 999) → ∀ r ∈ runsR l, (1 ≤ r.1 ∧ r.1 ≤ 999) ∧ (1 ≤ r.2 ∧ r.2 ≤ 999) := by
    intro n
    induction n with
    | zero => intro l h _ r hr; rw [List.eq_nil_of_length_eq_zero h] at hr; simp [runsR] at hr
    | succ n ih =>
      intro l h hx r hr
      rcases List.eq_nil_or_concat l with h1 | ⟨l0, x, h1⟩
      · subst h1; simp [runsR] at hr
      · rw [List.concat_eq_append] at h1
        subst h1
        rw [List.length_append, List.length_singleton] at h
        have ih := ih l0 (by omega) fun y hy => hx y (List.mem_append.2 (.inl hy))
        have hxx := hx x (by simp)
        rw [runsR_snoc] at hr
        rcases List.eq_nil_or_concat (runsR l0) with h2 | ⟨R, z, h2⟩
        · rw [h2] at hr
          simp only [runStep, List.getLast?_nil, List.mem_singleton] at hr
          subst hr
          exact ⟨hxx, hxx⟩
        · rw [List.concat_eq_append] at h2
          rw [h2] at hr ih
          rw [runStep_snoc] at hr
          have hz := ih z (by simp)
          split at hr
          · rcases List.mem_append.1 hr with hr | hr
            · exact ih r (List.mem_append.2 (.inl hr))
            · simp only [List.mem_singleton] at hr
              subst hr
              exact ⟨hz.1, hxx⟩
          · rcases List.mem_append.1 hr with hr | hr
            · exact ih r hr
            · simp only [List.mem_singleton] at hr
              subst hr
              exact ⟨hxx, hxx⟩
  exact key _ l rfl h
theorem itoaS_size4 {n : Int} (h : 0 ≤ n) (h2 : n ≤ 9999) : (itoaS n).size ≤ 4 := by
  have e : (itoaS n).size = Lib.nDigits n.toNat := by
    unfold itoaS Lib.itoa
    rw [if_neg (by omega), ← Lib.decDigits_length]
    rfl
  rw [e]
  by_cases h1 : n.toNat < 10
  · rw [Lib.nDigits_small h1]; omega
  · rw [Lib.nDigits_big h1]
    by_cases h3 : n.toNat / 10 < 10
    · rw [Lib.nDigits_small h3]; omega
    · rw [Lib.nDigits_big h3]
      by_cases h4 : n.toNat / 10 / 10 < 10
      · rw [Lib.nDigits_small h4]; omega
      · rw [Lib.nDigits_big h4, Lib.nDigits_small (by omega)]; omega
theorem runT_size {a b : Int} (h : (0 ≤ a ∧ a ≤ 9999) ∧ 0 ≤ b ∧ b ≤ 9999) : (runT (a, b)).size ≤ 9 := by
  have h1 := itoaS_size4 h.1.1 h.1.2
  have h2 := itoaS_size4 h.2.1 h.2.2
  unfold runT
  split
  · dsimp only; omega
  · rw [ByteArray.size_append, ByteArray.size_append]
    have : (⟨#[45]⟩ : ByteArray).size = 1 := rfl
    dsimp only
    omega
theorem runT_sizeR {r : Rn} (h : (0 ≤ r.1 ∧ r.1 ≤ 9999) ∧ 0 ≤ r.2 ∧ r.2 ≤ 9999) : (runT r).size ≤ 9 := runT_size h
def φRunT : Fun := F2 dI dI fun a b => if (0 ≤ a ∧ a ≤ 9999) ∧ 0 ≤ b ∧ b ≤ 9999 then some (.val (.string (runT (a, b)))) else none
theorem φRunT_ap {a b : Int} (h : (0 ≤ a ∧ a ≤ 9999) ∧ 0 ≤ b ∧ b ≤ 9999) : φRunT [.val (.int .i64 a), .val (.int .i64 b)] = some (.val (.string (runT (a, b)))) := (F2_ap (A := dI) (B := dI) a b).trans (if_pos h)
noncomputable def GRt : Ctx := { fn := fun f => if f = 55 then some φItoa else none, io := fun f => none }
theorem GRt_ok : SoundΓ Tryd.prog GRt := ⟨(fun f φ h => by
  unfold GRt at h
  dsimp only at h
  split at h
  · rename_i hf; cases h; subst hf; exact ⟨⟨_, Tryd.func55, rfl, rfl⟩, itoa_ok⟩
  cases h), (fun f φ h => by
  unfold GRt at h
  dsimp only at h
  cases h), rfl⟩
theorem GRt_55 (ob : Objs) (ps : List PV) : evCall GRt ob 55 ps = (ps.mapM (reify false 0 ob fuel)).bind φItoa := by
  have h : GRt.fn 55 = some φItoa := by simp [GRt]
  unfold evCall
  rw [h]
  cases ps.mapM (reify false 0 ob fuel) <;> rfl
theorem runText_ok : Sound Tryd.prog 68 φRunT := by
  refine sound_pq mixed GRt_ok Tryd.func68 rfl 16 rfl [.tmp 4] rfl (by kernel_rfl) fun ps r hr => ?_
  obtain ⟨a, b, rfl, hq⟩ := F2_some hr
  clear hr
  split at hq
  case isFalse => cases hq
  case isTrue hpre =>
  cases hq
  refine ⟨by simp, ?_⟩
  simp only [dIs, dUs, dSs, dI_e, dU_e, dB_e, dS_e, dFn_e, dL_e, dA2_e, dA3_e, dA4_e, dA5_e]
  have ap1 := φItoa_ap (n := a) ⟨by omega, by omega⟩
  have ap2 := φItoa_ap (n := b) ⟨by omega, by omega⟩
  have h1 := itoaS_size4 hpre.1.1 hpre.1.2
  have h2 := itoaS_size4 hpre.2.1 hpre.2.2
  have hone : (⟨#[45]⟩ : ByteArray).size = 1 := rfl
  unfold runT
  by_cases hab : a = b
  · rw [if_pos hab]
    have grt_c55 := GRt_55
    exact wlkF
  · rw [if_neg hab]
    have grt_c55 := GRt_55
    exact wlkF
def φRuns : Fun := F1 dIs fun l => if pagesB l = true then some (.lst true 2 ((runsR l).map pvR)) else none
theorem φRuns_ap {l : List Int} (h : pagesB l = true) : φRuns [.lst false 1 (l.map fun n => .val (.int .i64 n))] = some (.lst true 2 ((runsR l).map pvR)) := (F1_ap (A := dIs) l).trans (if_pos h)
set_option maxHeartbeats 16000000 in
theorem runsOf_ok : Sound Tryd.prog 67 φRuns := by
  refine sound_pqW mixed GE_ok Tryd.func67 rfl 41 rfl [.tmp 2] rfl (by kernel_rfl) fun ps r hr => ?_
  obtain ⟨l, rfl, hq⟩ := F1_some hr
  clear hr
  split at hq
  case isFalse => cases hq
  case isTrue hpre =>
  cases hq
  refine ⟨by simp, ?_⟩
  simp only [dIs, dUs, dSs, dI_e, dU_e, dB_e, dS_e, dFn_e, dL_e, dA2_e, dA3_e, dA4_e, dA5_e]
  have hlen := pages_len hpre
  have hat := fun i hi => pages_at hpre (i := i) hi
  clear hpre
  (refine wlk ?_; intros)
  refine i_loop (α := Nat × List Rn × Nat × Nat) mixed (fun s => [(3, nP 2 (s.2.1.map pvR) s.2.2.1), (7, .lst false 1 (l.map fun n => .val (.int .i64 n))), (8, iv l.length), (9, iv s.1)])
    (fun s => nO 80 2 (s.2.1.map pvR) s.2.2.1) (fun s => s.2.2.2)
    (fun s => s.1 ≤ l.length ∧ RunI l s.1 s.2.1 ∧ (0 < s.2.1.length → s.2.2.1 < s.2.2.2)) (fun s => l.length - s.1) (by kernel_rfl) (0, [], 0, 0) ⟨Nat.zero_le _, RunI.zero l, by simp⟩ ?_ ?_ rfl ?_
  · exact agr
  · exact agr
  rintro ⟨k, R, x, y⟩ ⟨hk, hI, hxy⟩
  dsimp only at hk hI hxy
  have hRl : R.length ≤ 30 := by
    have := runs_le (l.take k)
    rw [← show R = runsR (l.take k) from hI, List.length_take] at this
    omega
  by_cases h0 : k < l.length
  · have hak := hat k h0
    have hak1 := hat (k - 1)
    clear hat
    by_cases hk0 : k = 0
    · subst hk0
      have hst := Lib.hid (hI.start h0)
      have hR0 : R = [] := hI
      subst hR0
      clear hI hak1
      (refine wlk ?_; intros)
      refine ⟨(1, [] ++ [(l[0]?.getD 0, l[0]?.getD 0)], y + 1, y + 2), ⟨by dsimp only; omega, hst.out, fun _ => by dsimp only; omega⟩, by dsimp only; omega, ?_, ?_, rfl⟩
      · exact agr
      · exact agr
    · have hnx := hI.next (by omega) h0
      obtain ⟨hp, a, hla⟩ := hI.last (by omega) hk
      rw [hla] at hnx
      have hxy := hxy hp
      have hak1 := hak1 (by omega)
      have hap : 0 < (R.map pvR).length := by rw [List.length_map]; exact hp
      have hap2 : 0 < ((R.set (R.length - 1) (a, l[k]?.getD 0)).map pvR).length := by rw [List.length_map, List.length_set]; exact hp
      have hap3 : 0 < ((R ++ [(l[k]?.getD 0, l[k]?.getD 0)]).map pvR).length := by simp
      replace hI := Lib.hid hI
      by_cases hc : l[k - 1]?.getD 0 + 1 = l[k]?.getD 0
      · rw [if_pos hc] at hnx
        replace hnx := Lib.hid hnx
        simp only [nP_pos hap, nO_pos hap, List.length_map]
        (refine wlk ?_; intros)
        refine ⟨(k + 1, R.set (R.length - 1) (a, l[k]?.getD 0), x, y), ⟨by dsimp only; omega, hnx.out, fun _ => hxy⟩, by dsimp only; omega, ?_, ?_, rfl⟩
        · simp (disch := (first | omega | (simp only [push_cast]; first | done | omega))) only [push_cast, ↓reduceIte, Nat.reduceEqDiff, Nat.reduceBEq, Nat.reduceAdd, Nat.reduceSub, Int.reduceToNat, nP_pos hap2, List.length_set, List.length_map, *]
        · simp (disch := (first | omega | (simp only [push_cast]; first | done | omega))) only [push_cast, ↓reduceIte, Nat.reduceEqDiff, Nat.reduceBEq, Nat.reduceAdd, Nat.reduceSub, Int.reduceToNat, nO_pos hap2, *]
      · rw [if_neg hc] at hnx
        replace hnx := Lib.hid hnx
        simp only [nP_pos hap, nO_pos hap, List.length_map]
        (refine wlk ?_; intros)
        refine ⟨(k + 1, R ++ [(l[k]?.getD 0, l[k]?.getD 0)], y + 1, y + 2), ⟨by dsimp only; omega, hnx.out, fun _ => by dsimp only; omega⟩, by dsimp only; omega, ?_, ?_, rfl⟩
        · simp (disch := (first | omega | (simp only [push_cast]; first | done | omega))) only [push_cast, ↓reduceIte, Nat.reduceEqDiff, Nat.reduceBEq, Nat.reduceAdd, Nat.reduceSub, Int.reduceToNat, nP_pos hap3, List.length_append, *]
        · simp (disch := (first | omega | (simp only [push_cast]; first | done | omega))) only [push_cast, ↓reduceIte, Nat.reduceEqDiff, Nat.reduceBEq, Nat.reduceAdd, Nat.reduceSub, Int.reduceToNat, nO_pos hap3, List.map_append, List.map_cons, List.map_nil, *]
  · obtain rfl : k = l.length := by omega
    have hR : runsR l = R := by
      unfold RunI at hI
      rw [hI, List.take_of_length_le (Nat.le_refl _)]
    rw [hR]
    clear hI hR hat
    by_cases hR0 : R.length = 0
    · obtain rfl : R = [] := List.eq_nil_of_length_eq_zero hR0
      (refine wlk ?_; intros)
      all_goals ((with_reducible apply i_endW (by first | exact .inl rfl | exact .inr rfl)); (simp (disch := (first | omega | (simp only [push_cast]; first | done | omega))) only [push_cast, ↓reduceIte, Nat.reduceEqDiff, Nat.reduceBEq, Nat.reduceAdd, Nat.reduceSub, Int.reduceToNat, *] <;> with_reducible exact rfl))
      all_goals exact nil_le _ _
    · have hap : 0 < (R.map pvR).length := by rw [List.length_map]; omega
      have hxy := hxy (by omega)
      simp only [nP_pos hap, nO_pos hap, List.length_map]
      (refine wlk ?_; intros)
      all_goals ((with_reducible apply i_endW (by first | exact .inl rfl | exact .inr rfl)); (simp (disch := (first | omega | (simp only [push_cast]; first | done | omega))) only [push_cast, ↓reduceIte, Nat.reduceEqDiff, Nat.reduceBEq, Nat.reduceAdd, Nat.reduceSub, Int.reduceToNat, *] <;> with_reducible exact rfl))
      all_goals exact PV.le_refl _
theorem textR_size {l : List Int} (h : ∀ x ∈ l, 1 ≤ x ∧ x ≤ 999) : (textR l).size ≤ 11 * l.length := by
  have h1 := runs_le l
  unfold textR
  rw [joinB_size, List.length_map]
  have h2 : sumS ((runsR l).map runT) ≤ 9 * ((runsR l).map runT).length := by
    have := sumS_le (l := (runsR l).map runT) (c := 9) fun i => by
      by_cases hi : i < ((runsR l).map runT).length
      · rw [List.getElem?_eq_getElem hi, Option.getD_some, List.getElem_map]
        have hr := runs_rng h _ (List.getElem_mem (l := runsR l) (n := i) (by simpa using hi))
        exact runT_sizeR ⟨⟨by omega, by omega⟩, by omega, by omega⟩
      · rw [List.getElem?_eq_none (by omega)]
        decide
    omega
  rw [List.length_map] at h2
  have h3 : csB.size = 2 := rfl
  rw [h3]
  omega
theorem pages_mem {l : List Int} (h : pagesB l = true) : ∀ x ∈ l, 1 ≤ x ∧ x ≤ 999 := fun x hx => by
  obtain ⟨i, hi, rfl⟩ := List.getElem_of_mem hx
  have := pages_at h hi
  rwa [List.getElem?_eq_getElem hi, Option.getD_some] at this
def φPt : Fun := F1 dIs fun l => if l.length ≤ 1099511627776 then some (.val (.string (pagesT l))) else none
theorem φPt_ap {l : List Int} (h : l.length ≤ 1099511627776) : φPt [.lst false 1 (l.map fun n => .val (.int .i64 n))] = some (.val (.string (pagesT l))) := (F1_ap (A := dIs) l).trans (if_pos h)
noncomputable def φJoinN : Fun := nilF 1 φJoin
theorem φJoinN_ap {l : List ByteArray} {sep : ByteArray} (h : l.length ≤ 1048576) (h2 : (joinB l sep).size ≤ 140737488355328) : φJoinN [.lst false 1 (l.map fun s => .val (.string s)), .val (.string sep)] = some (.val (.string (joinB l sep))) := φJoin_ap h h2
theorem φJoinN_nil : φJoinN [.val (.slice none 0 0), .val (.string csB)] = some (.val (.string ⟨#[]⟩)) := φJoin_ap (l := []) (by simp) (by rw [show joinB [] csB = ⟨#[]⟩ from rfl]; simp [ByteArray.size])
noncomputable def GPt : Ctx := { fn := fun f => if f = 37 then some φPagesV else if f = 67 then some φRuns else if f = 68 then some φRunT else if f = 69 then some φJoinN else none, io := fun f => none }
theorem GPt_ok : SoundΓ Tryd.prog GPt := ⟨(fun f φ h => by
  unfold GPt at h
  dsimp only at h
  split at h
  · rename_i hf; cases h; subst hf; exact ⟨⟨_, Tryd.func37, rfl, rfl⟩, implPagesV_ok⟩
  split at h
  · rename_i hf; cases h; subst hf; exact ⟨⟨_, Tryd.func67, rfl, rfl⟩, runsOf_ok⟩
  split at h
  · rename_i hf; cases h; subst hf; exact ⟨⟨_, Tryd.func68, rfl, rfl⟩, runText_ok⟩
  split at h
  · rename_i hf; cases h; subst hf; exact ⟨⟨_, Tryd.func69, rfl, rfl⟩, (join_ok.nil 1)⟩
  cases h), (fun f φ h => by
  unfold GPt at h
  dsimp only at h
  cases h), rfl⟩
theorem GPt_37 (ob : Objs) (ps : List PV) : evCall GPt ob 37 ps = (ps.mapM (reify false 0 ob fuel)).bind φPagesV := by
  have h : GPt.fn 37 = some φPagesV := by simp [GPt]
  unfold evCall
  rw [h]
  cases ps.mapM (reify false 0 ob fuel) <;> rfl
theorem GPt_67 (ob : Objs) (ps : List PV) : evCall GPt ob 67 ps = (ps.mapM (reify false 0 ob fuel)).bind φRuns := by
  have h : GPt.fn 67 = some φRuns := by simp [GPt]
  unfold evCall
  rw [h]
  cases ps.mapM (reify false 0 ob fuel) <;> rfl
theorem GPt_68 (ob : Objs) (ps : List PV) : evCall GPt ob 68 ps = (ps.mapM (reify false 0 ob fuel)).bind φRunT := by
  have h : GPt.fn 68 = some φRunT := by simp [GPt]
  unfold evCall
  rw [h]
  cases ps.mapM (reify false 0 ob fuel) <;> rfl
theorem GPt_69 (ob : Objs) (ps : List PV) : evCall GPt ob 69 ps = (ps.mapM (reify false 0 ob fuel)).bind φJoinN := by
  have h : GPt.fn 69 = some φJoinN := by simp [GPt]
  unfold evCall
  rw [h]
  cases ps.mapM (reify false 0 ob fuel) <;> rfl
set_option maxHeartbeats 16000000 in
theorem implPt_ok : Sound Tryd.prog 27 φPt := by
  refine sound_pq mixed GPt_ok Tryd.func27 rfl 27 rfl [.tmp 2] rfl (by kernel_rfl) fun ps r hr => ?_
  obtain ⟨l, rfl, hq⟩ := F1_some hr
  clear hr
  split at hq
  case isFalse => cases hq
  case isTrue hpre =>
  cases hq
  refine ⟨by simp, ?_⟩
  simp only [dIs, dUs, dSs, dI_e, dU_e, dB_e, dS_e, dFn_e, dL_e, dA2_e, dA3_e, dA4_e, dA5_e]
  have ap1 := φPagesV_ap hpre
  unfold pagesT
  cases hB : pagesB l with
  | false =>
    rw [hB] at ap1
    rw [if_neg (by decide)]
    clear hB
    have gpt_c37 := GPt_37; have gpt_c67 := GPt_67; have gpt_c68 := GPt_68; have gpt_c69 := GPt_69
    exact wlkF
  | true =>
    have ap2 := φRuns_ap hB
    have hlen := pages_len hB
    have hmem := pages_mem hB
    have hsz := textR_size hmem
    have hrl := runs_le l
    have hrn : ∀ i, i < (runsR l).length → (0 ≤ ((runsR l)[i]?.getD rn0).1 ∧ ((runsR l)[i]?.getD rn0).1 ≤ 9999) ∧ 0 ≤ ((runsR l)[i]?.getD rn0).2 ∧ ((runsR l)[i]?.getD rn0).2 ≤ 9999 := fun i hi => by
      rw [List.getElem?_eq_getElem hi, Option.getD_some]
      have := runs_rng hmem _ (List.getElem_mem hi)
      omega
    rw [hB] at ap1
    rw [if_pos rfl]
    unfold textR at hsz ⊢
    generalize runsR l = R at *
    have hcs : csB = ⟨#[44, 32]⟩ := rfl
    rw [hcs] at hsz ⊢
    have apn := φJoinN_nil
    rw [hcs] at apn
    have apj := φJoinN_ap (l := R.map runT) (sep := ⟨#[44, 32]⟩) (by rw [List.length_map]; omega) (by omega)
    have hJ0 : R.length = 0 → joinB (R.map runT) ⟨#[44, 32]⟩ = ⟨#[]⟩ := fun h => by rw [List.eq_nil_of_length_eq_zero h]; rfl
    replace hJ0 := Lib.hid hJ0
    generalize joinB (R.map runT) ⟨#[44, 32]⟩ = J at *
    clear hB hmem hcs
    have gpt_c37 := GPt_37; have gpt_c67 := GPt_67; have gpt_c68 := GPt_68; have gpt_c69 := GPt_69
    (refine wlk ?_; intros)
    refine i_loop (α := Nat × Nat × Nat) mixed (fun s => [(3, nP 1 (((R.take s.1).map runT).map fun s => .val (.string s)) s.2.1), (10, .lst true 2 (R.map pvR)), (11, iv R.length), (12, iv s.1)])
      (fun s => nO 9 1 (((R.take s.1).map runT).map fun s => .val (.string s)) s.2.1) (fun s => s.2.2)
      (fun s => s.1 ≤ R.length ∧ (0 < s.1 → s.2.1 < s.2.2)) (fun s => R.length - s.1) (by kernel_rfl) (0, 0, 0) ⟨Nat.zero_le _, by simp⟩ ?_ ?_ rfl ?_
    · exact agr
    · exact agr
    rintro ⟨k, x, y⟩ ⟨hk, hxy⟩
    dsimp only at hk hxy
    by_cases hkl : k < R.length
    · have hr := hrn k hkl
      have ap3 := φRunT_ap hr
      have htk : (R.take (k + 1)).map runT = (R.take k).map runT ++ [runT (R[k]?.getD rn0)] := by
        rw [List.take_succ_eq_append_getElem hkl, List.map_append, List.getElem?_eq_getElem hkl]
        rfl
      have hts := runT_size hr
      have hp2 : 0 < (((R.take (k + 1)).map runT).map fun s => PV.val (.string s)).length := by rw [htk]; simp
      have hln : ((R.take k).map runT).length = k := by rw [List.length_map, List.length_take]; omega
      clear hrn
      generalize hre : (R[k]?.getD rn0) = r at *
      obtain ⟨a, b⟩ := r
      dsimp only at hr ap3
      replace htk := Lib.hid htk
      have hln2 : (((R.take (k + 1)).map runT).map fun s => PV.val (.string s)).length = k + 1 := by rw [List.length_map, List.length_map, List.length_take]; omega
      replace hln2 := Lib.hid hln2
      have hes := Lib.hid (show (((R.take (k + 1)).map runT).map fun s => PV.val (.string s)) = (((R.take k).map runT).map fun s => PV.val (.string s)) ++ [PV.val (.string (runT (a, b)))] from by rw [htk.out, List.map_append]; rfl)
      by_cases hk0 : k = 0
      · subst hk0
        simp only [List.take_zero, List.map_nil, nP_nil, nO_nil]
        (refine wlk ?_; intros)
        refine ⟨(1, y + 2, y + 3), ⟨by dsimp only; omega, fun _ => by dsimp only; omega⟩, by dsimp only; omega, ?_, ?_, rfl⟩
        · simp (disch := (first | omega | (simp only [push_cast]; first | done | omega))) only [push_cast, ↓reduceIte, Nat.reduceEqDiff, Nat.reduceBEq, Nat.reduceAdd, Nat.reduceSub, Int.reduceToNat, nP_pos hp2, hln2.out, *]
        · simp (disch := (first | omega | (simp only [push_cast]; first | done | omega))) only [push_cast, ↓reduceIte, Nat.reduceEqDiff, Nat.reduceBEq, Nat.reduceAdd, Nat.reduceSub, Int.reduceToNat, nO_pos hp2, htk.out, List.take_zero, List.map_nil, List.map_cons, List.nil_append, *]
      · have hxy := hxy (by omega)
        have hap : 0 < (((R.take k).map runT).map fun s => PV.val (.string s)).length := by rw [List.length_map, hln]; omega
        have hln3 : (((R.take k).map runT).map fun s => PV.val (.string s)).length = k := by rw [List.length_map, hln]
        simp only [nP_pos hap, nO_pos hap, hln3]
        (refine wlk ?_; intros)
        refine ⟨(k + 1, y + 2, y + 3), ⟨by dsimp only; omega, fun _ => by dsimp only; omega⟩, by dsimp only; omega, ?_, ?_, rfl⟩
        · simp (disch := (first | omega | (simp only [push_cast]; first | done | omega))) only [push_cast, ↓reduceIte, Nat.reduceEqDiff, Nat.reduceBEq, Nat.reduceAdd, Nat.reduceSub, Int.reduceToNat, nP_pos hp2, hln2.out, *]
        · clear hre hln hln3
          simp (disch := (first | omega | (simp only [push_cast]; first | done | omega))) only [push_cast, ↓reduceIte, Nat.reduceEqDiff, Nat.reduceBEq, Nat.reduceAdd, Nat.reduceSub, Int.reduceToNat, nO_pos hp2, hes.out, *]
    · obtain rfl : k = R.length := by omega
      rw [List.take_of_length_le (Nat.le_refl _)]
      by_cases hR0 : R.length = 0
      · have hJ := hJ0.out hR0
        subst hJ
        obtain rfl : R = [] := List.eq_nil_of_length_eq_zero hR0
        simp only [List.map_nil, nP_nil, nO_nil]
        exact wlkF
      · have hxy := hxy (by omega)
        have hap : 0 < ((R.map runT).map fun s => PV.val (.string s)).length := by rw [List.length_map, List.length_map]; omega
        simp only [nP_pos hap, nO_pos hap]
        rw [List.length_map]
        exact wlkF
end Go.Proofs.YtpggpdbipajchaaDoor
