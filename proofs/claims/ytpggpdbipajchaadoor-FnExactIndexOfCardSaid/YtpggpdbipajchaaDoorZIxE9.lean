/- What the proof rests on, part 9: contracts of functions. No condition beyond what each states. -/
import Derived.Test.YtpggpdbipajchaaDoorZIxE8
namespace Go.Proofs.YtpggpdbipajchaaDoor
open Go.RowKit
set_option linter.all false
abbrev LS := List ByteArray
section
variable {α β : Type} {n sz sz' f i : Nat} {ob : Objs} {k k' fr : Bool} {l : List LS}
theorem get_ss {g : LS → PV} (h : i < l.length) : ((l[i]?).map g).getD .dead = g ((l[i]?).getD []) := by simp [h]
theorem omg_ss {g : LS → β} (h : i < l.length) : Option.map g l[i]? = some (g ((l[i]?).getD [])) := by simp [h]
theorem mapM_maps {F : PV → Option PV} {g g' : α → PV} (h : ∀ x, F (g x) = some (g' x)) : ∀ {l : List α}, (l.map g).mapM F = some (l.map g')
  | [] => rfl
  | x :: l => by rw [List.map_cons, List.mapM_cons, h x, mapM_maps h]; rfl
theorem reify_strs {m : Nat} {p : LS} : reify false m ob (f + 2) (.lst k sz (p.map fun s => .val (.string s))) = some (.lst false sz (p.map fun s => .val (.string s))) := reifyS_vals
theorem reify_strsT {m : Nat} {p : LS} : reify fr m ob (f + 2) (.lst true sz (p.map fun s => .val (.string s))) = some (.lst fr sz (p.map fun s => .val (.string s))) := by
  cases fr
  · exact reifyS_vals
  · exact reifyT_vals
theorem reifyS_lsts : reify false n ob (f + 3) (.lst k sz (l.map fun p => .lst k' sz' (p.map fun s => .val (.string s)))) = some (.lst false sz (l.map fun p => .lst false sz' (p.map fun s => .val (.string s)))) := by
  show (if false = true ∧ k = false ∧ (l.map fun p => PV.lst k' sz' (p.map fun s => PV.val (.string s))) ≠ [] then none else ((l.map fun p => PV.lst k' sz' (p.map fun s => PV.val (.string s))).mapM (reify false n ob (f + 2))).map (PV.lst false sz)) = _
  rw [mapM_maps (g' := fun p => PV.lst false sz' (p.map fun s => PV.val (.string s))) fun p => reify_strs]
  simp
theorem reifyT_lsts : reify true n ob (f + 3) (.lst true sz (l.map fun p => .lst true sz' (p.map fun s => .val (.string s)))) = some (.lst true sz (l.map fun p => .lst true sz' (p.map fun s => .val (.string s)))) := by
  show (if true = true ∧ true = false ∧ (l.map fun p => PV.lst true sz' (p.map fun s => PV.val (.string s))) ≠ [] then none else ((l.map fun p => PV.lst true sz' (p.map fun s => PV.val (.string s))).mapM (reify true n ob (f + 2))).map (PV.lst true sz)) = _
  rw [mapM_maps (g' := fun p => PV.lst true sz' (p.map fun s => PV.val (.string s))) fun p => reify_strsT]
  simp
theorem rowRe_lsts {m T : Nat} (hm : m = l.length) : rowRe fr (f + 2) ob sz 0 m (some (T, sz, l.map fun p => .lst true sz' (p.map fun s => .val (.string s)))) = some (.lst fr sz (l.map fun p => .lst fr sz' (p.map fun s => .val (.string s)))) := by
  subst hm
  have e : ((l.map fun p => PV.lst true sz' (p.map fun s => PV.val (.string s))).drop 0).take l.length = l.map fun p => PV.lst true sz' (p.map fun s => PV.val (.string s)) := by
    rw [List.drop_zero, List.take_of_length_le (by simp)]
  have e2 := mapM_maps (l := l) (F := reify fr 0 ob (f + 2)) (g := fun p => PV.lst true sz' (p.map fun s => PV.val (.string s))) (g' := fun p => PV.lst fr sz' (p.map fun s => PV.val (.string s))) fun p => reify_strsT
  simp only [rowRe, e, e2, Nat.zero_add, List.length_map, Nat.le_refl, and_self, if_true, Option.map_some]
theorem fillZ_get {xs : List α} {z : α} {j : Nat} (h : j < xs.length) : (fillZ xs z j)[j]? = some z := by
  unfold fillZ
  have hl : (xs.take j).length = j := by simp; omega
  rw [List.getElem?_append_right (by omega), hl, Nat.sub_self, List.getElem?_replicate, if_pos (by omega)]
end
attribute [push_cast]
  get_ss omg_ss reifyS_lsts reifyT_lsts rowRe_lsts fillZ_get
theorem eq_of_getDK {α : Type} {d : α} {xs ys : List α} (hl : xs.length = ys.length) (h : ∀ j, j < xs.length → xs[j]?.getD d = ys[j]?.getD d) : xs = ys := by
  apply List.ext_getElem hl
  intro i h1 h2
  have := h i h1
  simpa [h1, h2] using this
def smallC (c : Int) : Bool := inB c 97 122
def digC (c : Int) : Bool := inB c 48 57
def prevD (s : ByteArray) (k : Nat) : Bool := decide (0 < k) && digC (at8 s (k - 1))
def patAt (s : ByteArray) (k : Nat) : Bool := smallC (at8 s k) || (digC (at8 s k) && !prevD s k) || (decide (at8 s k = 46) && (decide (k = 0) || decide (k + 1 = s.size)))
def anyS (s : ByteArray) (k : Nat) : Bool := (List.range k).any fun j => smallC (at8 s j)
def patB (s : ByteArray) : Bool := (List.range s.size).all (patAt s) && (anyS s s.size && decide (s.size ≤ 12))
theorem patB_yes {s : ByteArray} (h : ∀ j, j < s.size → patAt s j = true) : patB s = (anyS s s.size && decide (s.size ≤ 12)) := by
  have : (List.range s.size).all (patAt s) = true := by
    rw [List.all_eq_true]
    exact fun k hk => h k (List.mem_range.1 hk)
  simp [patB, this]
structure PatI (s : ByteArray) (k : Nat) (n : Int) : Prop where
  kk : k ≤ s.size
  n0 : 0 ≤ n
  n1 : n ≤ k
  all : ∀ j, j < k → patAt s j = true
  any : decide (0 < n) = anyS s k
theorem PatI.zero (s : ByteArray) : PatI s 0 0 := ⟨Nat.zero_le _, by omega, by omega, fun j hj => by omega, rfl⟩
theorem PatI.done {s : ByteArray} {k : Nat} {n : Int} (h : PatI s k n) (hk : ¬ k < s.size) : patB s = (decide (0 < n) && decide (s.size ≤ 12)) := by
  have hk2 := h.kk
  have : k = s.size := by omega
  subst this
  rw [patB_yes h.all, h.any]
def φEqS : Fun := F2 dSs dSs fun a b => if a.length ≤ 1048576 ∧ b.length ≤ 1048576 then some (bv (decide (a = b))) else none
theorem φEqS_ap {a b : LS} (h : a.length ≤ 1048576) (h2 : b.length ≤ 1048576) : φEqS [.lst false 1 (a.map fun s => .val (.string s)), .lst false 1 (b.map fun s => .val (.string s))] = some (.val (.bool (decide (a = b)))) :=
  (F2_ap (A := dSs) (B := dSs) a b).trans (if_pos ⟨h, h2⟩)
set_option maxHeartbeats 4000000 in
theorem eqStringS_ok : Sound Tryd.prog 16 φEqS := by
  refine sound_pq mixed GE_ok Tryd.func16 rfl 26 rfl [.tmp 4] rfl (by kernel_rfl) fun ps r hr => ?_
  obtain ⟨xs, ys, rfl, hq⟩ := F2_some hr
  clear hr
  split at hq
  case isFalse => cases hq
  case isTrue hlen =>
  cases hq
  obtain ⟨hl1, hl2⟩ := hlen
  refine ⟨by simp, ?_⟩
  simp only [dIs, dUs, dSs, dI_e, dU_e, dB_e, dS_e, dFn_e, dL_e, dA2_e, dA3_e, dA4_e, dA5_e]
  repeat' (first | (with_reducible first | apply i_seq | apply i_block | apply i_skip | apply i_exit | apply i_ret | apply i_kS | apply i_kSx | apply i_kSr | apply i_kL | apply i_kLx | apply i_kLr | apply i_kB | apply i_kBr | apply i_kBs | apply i_nil) | ((with_reducible apply i_region); (simp only [List.map_cons, List.map_nil] <;> exact rfl)) | ((with_reducible apply i_draw); (simp only [List.map_cons, List.map_nil] <;> exact rfl); decide +kernel) | ((with_reducible apply i_kBo); rfl) | ((first | ((with_reducible apply i_V); rfl; rfl; rfl) | ((first | ((with_reducible apply i_E); rfl) | ((with_reducible apply i_S); rfl)); first | rfl | (simp only [push_cast, ↓reduceIte])) | ((with_reducible apply i_Vq); rfl; rfl) | ((with_reducible apply i_Vp); rfl; rfl; rfl) | (with_reducible first | apply i_Gb | apply i_cond)); (simp (disch := (first | omega | (simp only [push_cast]; first | done | omega))) only [push_cast, ↓reduceIte, Nat.reduceEqDiff, Nat.reduceBEq, Nat.reduceAdd, Nat.reduceSub, Int.reduceToNat, *] <;> with_reducible exact rfl); all_goals try (first | (with_reducible first | refine hyT ?_ | refine hyF ?_ | exact hyA | exact hyB) | (intro hX; first | (cases hX; done) | ((try simp only [decide_eq_true_eq, decide_eq_false_iff_not, Bool.not_eq_true', Bool.not_eq_false'] at hX); (try have hXb := inB_iff.1 hX))))))
  · ((first | apply i_end | apply i_endN); simp (disch := (first | omega | (simp only [push_cast]; first | done | omega))) only [push_cast, ↓reduceIte, Nat.reduceEqDiff, Nat.reduceBEq, Nat.reduceAdd, Nat.reduceSub, Int.reduceToNat, *])
    have : ¬ xs = ys := fun h => by subst h; simp_all
    simp [this]
  refine i_loop (α := Nat) mixed (fun k => [(0, .lst false 1 (xs.map fun s => .val (.string s))), (1, .lst false 1 (ys.map fun s => .val (.string s))), (5, iv k)]) (fun k => []) (fun _ => 0)
    (fun k => k ≤ xs.length ∧ ∀ j, j < k → xs[j]?.getD .empty = ys[j]?.getD .empty) (fun k => xs.length - k) (by kernel_rfl) 0 ⟨Nat.zero_le _, fun j hj => by omega⟩ ?_ trivial rfl ?_
  · simp only [push_cast, ↓reduceIte, Nat.reduceEqDiff, Nat.reduceBEq, Nat.reduceAdd, Nat.reduceSub, Int.reduceToNat]
  · intro k ⟨hk, hok⟩
    repeat' (first | (with_reducible first | apply i_seq | apply i_block | apply i_skip | apply i_exit | apply i_ret | apply i_kS | apply i_kSx | apply i_kSr | apply i_kL | apply i_kLx | apply i_kLr | apply i_kB | apply i_kBr | apply i_kBs | apply i_nil) | ((with_reducible apply i_region); (simp only [List.map_cons, List.map_nil] <;> exact rfl)) | ((with_reducible apply i_draw); (simp only [List.map_cons, List.map_nil] <;> exact rfl); decide +kernel) | ((with_reducible apply i_kBo); rfl) | ((first | ((with_reducible apply i_V); rfl; rfl; rfl) | ((first | ((with_reducible apply i_E); rfl) | ((with_reducible apply i_S); rfl)); first | rfl | (simp only [push_cast, ↓reduceIte])) | ((with_reducible apply i_Vq); rfl; rfl) | ((with_reducible apply i_Vp); rfl; rfl; rfl) | (with_reducible first | apply i_Gb | apply i_cond)); (simp (disch := (first | omega | (simp only [push_cast]; first | done | omega))) only [push_cast, ↓reduceIte, Nat.reduceEqDiff, Nat.reduceBEq, Nat.reduceAdd, Nat.reduceSub, Int.reduceToNat, *] <;> with_reducible exact rfl); all_goals try (first | (with_reducible first | refine hyT ?_ | refine hyF ?_ | exact hyA | exact hyB) | (intro hX; first | (cases hX; done) | ((try simp only [decide_eq_true_eq, decide_eq_false_iff_not, Bool.not_eq_true', Bool.not_eq_false'] at hX); (try have hXb := inB_iff.1 hX))))))
    all_goals try ((first | apply i_end | apply i_endN); simp (disch := (first | omega | (simp only [push_cast]; first | done | omega))) only [push_cast, ↓reduceIte, Nat.reduceEqDiff, Nat.reduceBEq, Nat.reduceAdd, Nat.reduceSub, Int.reduceToNat, *])
    · have : ¬ xs = ys := fun h => by subst h; simp_all
      simp [this]
    · refine ⟨k + 1, ⟨by omega, fun j hj => ?_⟩, by dsimp only; omega, by simp only [push_cast, ↓reduceIte, Nat.reduceEqDiff, Nat.reduceBEq, Nat.reduceAdd, Nat.reduceSub, Int.reduceToNat], trivial, rfl⟩
      by_cases h1 : j < k
      · exact hok j h1
      · have : j = k := by omega
        subst this
        assumption
    · have : xs = ys := eq_of_getDK (d := .empty) (by omega) fun j hj => hok j (by omega)
      simp [this]
end Go.Proofs.YtpggpdbipajchaaDoor
namespace Go.Proofs.YtpggpdbipajchaaDoor
open Go.RowKit
set_option linter.all false
abbrev BL := Op.bytesLess
theorem bl_irr : ∀ x : List UInt8, BL x x = false
  | [] => rfl
  | a :: x => by
    unfold BL Op.bytesLess
    have := bl_irr x
    unfold BL at this
    rw [this]
    simp
theorem bl_nil (x : List UInt8) : BL x [] = false := by
  cases x <;> rfl
theorem bl_cons {a b : UInt8} {x y : List UInt8} : BL (a :: x) (b :: y) = true ↔ a.toNat < b.toNat ∨ (a.toNat = b.toNat ∧ BL x y = true) := by
  unfold BL
  conv => lhs; unfold Op.bytesLess
  rw [Bool.or_eq_true, Bool.and_eq_true, decide_eq_true_eq, beq_iff_eq, UInt8.lt_iff_toNat_lt, ← UInt8.toNat_inj]
theorem bl_trans : ∀ {x y z : List UInt8}, BL x y = true → BL y z = true → BL x z = true
  | _, [], _, h, _ => by rw [bl_nil] at h; cases h
  | _, _ :: _, [], _, h => by rw [bl_nil] at h; cases h
  | [], _ :: _, _ :: _, _, _ => rfl
  | a :: x, b :: y, c :: z, h1, h2 => by
    rw [bl_cons] at h1 h2 ⊢
    rcases h1 with h1 | ⟨h1, h3⟩ <;> rcases h2 with h2 | ⟨h2, h4⟩
    · left; omega
    · left; omega
    · left; omega
    · right; exact ⟨by omega, bl_trans h3 h4⟩
theorem bl_tri : ∀ x y : List UInt8, BL x y = true ∨ x = y ∨ BL y x = true
  | [], [] => .inr (.inl rfl)
  | [], _ :: _ => .inl rfl
  | _ :: _, [] => .inr (.inr rfl)
  | a :: x, b :: y => by
    rw [bl_cons, bl_cons]
    rcases Nat.lt_trichotomy a.toNat b.toNat with h | h | h
    · exact .inl (.inl h)
    · rcases bl_tri x y with h2 | h2 | h2
      · exact .inl (.inr ⟨h, h2⟩)
      · exact .inr (.inl (by rw [h2, UInt8.toNat_inj.1 h]))
      · exact .inr (.inr (.inr ⟨h.symm, h2⟩))
    · exact .inr (.inr (.inl h))
def ltB (a b : ByteArray) : Bool := BL a.data.toList b.data.toList
theorem ltB_irr (a : ByteArray) : ltB a a = false := bl_irr _
theorem ltB_trans {a b c : ByteArray} (h : ltB a b = true) (h2 : ltB b c = true) : ltB a c = true := bl_trans h h2
theorem ltB_tri (a b : ByteArray) : ltB a b = true ∨ a = b ∨ ltB b a = true := by
  rcases bl_tri a.data.toList b.data.toList with h | h | h
  · exact .inl h
  · refine .inr (.inl ?_)
    obtain ⟨⟨x⟩⟩ := a
    obtain ⟨⟨y⟩⟩ := b
    simpa using h
  · exact .inr (.inr h)
theorem ltB_asymm {a b : ByteArray} (h : ltB a b = true) : ltB b a = false := by
  cases h2 : ltB b a with
  | false => rfl
  | true => have := ltB_trans h h2; rw [ltB_irr] at this; cases this
theorem ltB_ne {a b : ByteArray} (h : ltB a b = true) : ¬ a = b := fun e => by rw [e, ltB_irr] at h; cases h
theorem asc_unique {α : Type} {R : α → α → Prop} (irr : ∀ a, ¬ R a a) (tr : ∀ a b c, R a b → R b c → R a c) : ∀ {l l' : List α}, l.Pairwise R → l'.Pairwise R → (∀ x, x ∈ l ↔ x ∈ l') → l = l'
  | [], [], _, _, _ => rfl
  | [], b :: l', _, _, h => by have := (h b).2 (by simp); simp at this
  | a :: l, [], _, _, h => by have := (h a).1 (by simp); simp at this
  | a :: l, b :: l', h1, h2, h => by
    obtain ⟨a1, a2⟩ := List.pairwise_cons.1 h1
    obtain ⟨b1, b2⟩ := List.pairwise_cons.1 h2
    have hab : a = b := by
      rcases List.mem_cons.1 ((h a).1 (by simp)) with e | e
      · exact e
      · rcases List.mem_cons.1 ((h b).2 (by simp)) with e2 | e2
        · exact e2.symm
        · exact absurd (tr _ _ _ (a1 b e2) (b1 a e)) (irr a)
    subst hab
    refine congrArg (a :: ·) (asc_unique irr tr a2 b2 fun x => ⟨fun hx => ?_, fun hx => ?_⟩)
    · rcases List.mem_cons.1 ((h x).1 (by simp [hx])) with e | e
      · subst e; exact absurd (a1 x hx) (irr x)
      · exact e
    · rcases List.mem_cons.1 ((h x).2 (by simp [hx])) with e | e
      · subst e; exact absurd (b1 x hx) (irr x)
      · exact e
section
variable {P : Program} {t : Nat} {x y : Operand}
theorem bytes_less (a b : ByteArray) : Op.bytesLess a.toList b.toList = ltB a b := by
  rw [Go.ByteArray.toList_eq, Go.ByteArray.toList_eq]
  rfl
theorem pr_strLt {a b : ByteArray} : pureRun P (do eqGuard .lss t x y (.string a) (.string b); binOp .lss t (.string a) (.string b)) = some (.bool (Op.bytesLess a.toList b.toList)) := by
  simp [eqGuard, binOp, Op.stringOp, bind, Sem.bind, pure, pureRun]
theorem pr_strGt {a b : ByteArray} : pureRun P (do eqGuard .gtr t x y (.string a) (.string b); binOp .gtr t (.string a) (.string b)) = some (.bool (!(Op.bytesLess a.toList b.toList || a.toList == b.toList))) := by
  simp [eqGuard, binOp, Op.stringOp, bind, Sem.bind, pure, pureRun]
theorem pr_strGe {a b : ByteArray} : pureRun P (do eqGuard .geq t x y (.string a) (.string b); binOp .geq t (.string a) (.string b)) = some (.bool (!Op.bytesLess a.toList b.toList)) := by
  simp [eqGuard, binOp, Op.stringOp, bind, Sem.bind, pure, pureRun]
theorem bp_lssS {a b : ByteArray} : binP P .lss t x y (some (.string a)) (some (.string b)) = some (.val (.bool (ltB a b))) := by
  simp only [binP, pr_strLt, bytes_less, Option.map_some]
theorem bp_gtrS {a b : ByteArray} : binP P .gtr t x y (some (.string a)) (some (.string b)) = some (.val (.bool (ltB b a))) := by
  simp only [binP, pr_strGt, bytes_less, bytes_teq, Option.map_some]
  have : (!(ltB a b || decide (a = b))) = ltB b a := by
    rcases ltB_tri a b with h | h | h
    · rw [h, ltB_asymm h]; rfl
    · subst h; rw [ltB_irr]; simp
    · have h2 := ltB_asymm h
      have h3 : ¬ a = b := fun e => ltB_ne h e.symm
      rw [h, h2]; simp [h3]
  rw [this]
theorem bp_geqS {a b : ByteArray} : binP P .geq t x y (some (.string a)) (some (.string b)) = some (.val (.bool (!ltB a b))) := by
  simp only [binP, pr_strGe, bytes_less, Option.map_some]
end
attribute [push_cast]
  bp_lssS bp_gtrS bp_geqS
end Go.Proofs.YtpggpdbipajchaaDoor
namespace Go.Proofs.YtpggpdbipajchaaDoor
open Go.RowKit
set_option linter.all false
theorem below_growN (w : World) (k : Nat) (os : Array Obj) : Below w.heap.size w (Sort.grow (w.drewN k) os) :=
  ⟨rfl, rfl, rfl, by simp [Sort.grow, World.drewN], fun b hb => by simp [Sort.grow, World.drewN, Array.getElem?_append_left hb]⟩
def itoaS (n : Int) : ByteArray := ⟨(Lib.itoa n).toArray⟩
theorem tabIs_of {w : World} {io : Nat → Prop} (hT : TabF w io) : Lib.TabIs Tryd.prog w "internal/strconv.uint64pow10" .u64 Lib.pow10Tab := by
  obtain ⟨T, k, h⟩ := hT.at_ _ (List.mem_cons_self ..)
  unfold Lib.TabIs World.var?
  rw [show Tryd.prog.globalNamed "internal/strconv.uint64pow10" = some _ by kernel_rfl, Option.bind_some, h]
def φItoa : Fun := F1 dI fun n => if okI n then some (.val (.string (itoaS n))) else none
theorem φItoa_ap {n : Int} (h : okI n) : φItoa [.val (.int .i64 n)] = some (.val (.string (itoaS n))) := (F1_ap (A := dI) n).trans (if_pos h)
theorem itoa_ok : Sound Tryd.prog 55 φItoa := by
  intro w J ps args r hr hJ hT hargs
  obtain ⟨n, rfl, hq⟩ := F1_some hr
  split at hq
  case isFalse => cases hq
  case isTrue hok =>
  cases hq
  have hargs := hargs
  simp only [RepL] at hargs
  obtain ⟨v1, vs1, e1, h1, rfl⟩ := hargs
  obtain rfl : args = #[v1] := by
    obtain ⟨a⟩ := args
    simp only at e1
    rw [e1]
  simp only [dI, Rep] at h1
  subst h1
  refine (YtpggpdbipajchaaDoor.strconv_Itoa n hok.1 hok.2 w (tabIs_of hT)).mono ?_
  rintro e w' ⟨rfl, k, os, rfl⟩
  exact ⟨_, rfl, below_growN w k os, fun g' _ => by simp only [Rep]; rfl⟩
end Go.Proofs.YtpggpdbipajchaaDoor
namespace Go.Proofs.YtpggpdbipajchaaDoor
open Go.RowKit
set_option linter.all false
section
variable {P : Program} {Γ : Ctx}
end
theorem inn_0o {o : Nat} : inn [0, o] 0 = some 0 := by simp [inn]
theorem inn_1o {o : Nat} (h : 0 < o) : inn [0, o] o = some 1 := by
  have h0 : ¬ (0 : Nat) = o := by omega
  have h1 : (0 == o) = false := by simpa using h0
  simp [inn, List.idxOf_cons, h1]
theorem inn_no {o x : Nat} (h : 0 < x) (h2 : x ≠ o) : inn [0, o] x = none := by
  have h0 : ¬ x = 0 := by omega
  simp [inn, h0, h2]
theorem outF_1n {o nx : Nat} : outF [o] nx 1 = some nx := by simp [outF, outn]
theorem handM_fuel {out : List Nat} {ob : Objs} {l : List PV} : l.mapM (handF out ob fuel) = l.mapM (handF out ob 8) := rfl
attribute [push_cast]
  handM_fuel inn_0o inn_1o inn_no outF_1n
section
variable {P : Program} {Γ : Ctx} {imm : Md} {N : Nat} {gs : List (Option Nat)} {l : List Oper} {Q : AS → Prop} {tm : Nat → PV} {ob : Objs} {nx T : Nat} {Φ : FunIO} {B c : Int} {α : Type} {E : Nat → α → PV} {O : α → CellIO}
end
end Go.Proofs.YtpggpdbipajchaaDoor
namespace Go.Proofs.YtpggpdbipajchaaDoor
open Go.RowKit
set_option linter.all false
abbrev FunN := List PV → Option (PV × List CellIO)
def SoundN (P : Program) (f : Nat) (Ψ : FunN) : Prop := SoundIO P f fun ps cs => if cs = [] then Ψ ps else none
def renT (nm : Nat → Nat) : Nat → PV → Option PV
  | 0, _ => none
  | n + 1, p => match p with
    | .val v => some (.val v)
    | .dead => some .dead
    | .lst k sz es => if k = false ∧ es ≠ [] then none else (es.mapM (renT nm n)).map (.lst k sz)
    | .ptr k e o => if k = false then none else (renT nm n e).map (.ptr k · o)
    | .own o sz i f => some (.own (nm o) sz i f)
    | .row o sz i m => some (.row (nm o) sz i m)
    | .agg cs => (cs.mapM (renT nm n)).map .agg
    | .tup cs => (cs.mapM (renT nm n)).map .tup
theorem Rep.renT {nm : Nat → Nat} {g g' : Gh} {w : World} (hI : ∀ b, g.I true b → g'.I true b) (ho : ∀ o, g.D o → g'.β (nm o) = g.β o ∧ g'.κ (nm o) = g.κ o ∧ g'.D (nm o)) :
    ∀ (f : Nat) (p q : PV) (v : Value), Rep g w p v → Proofs.YtpggpdbipajchaaDoor.renT nm f p = some q → Rep g' w q v
  | 0, p, q, v, h, hr => by simp [Proofs.YtpggpdbipajchaaDoor.renT] at hr
  | f + 1, p, q, v, h, hr => by
    cases p with
    | val u => simp only [Proofs.YtpggpdbipajchaaDoor.renT, Option.some.injEq] at hr; subst hr; simpa [Rep] using h
    | dead => simp only [Proofs.YtpggpdbipajchaaDoor.renT, Option.some.injEq] at hr; subst hr; simp [Rep]
    | lst k sz es =>
      simp only [Proofs.YtpggpdbipajchaaDoor.renT] at hr
      split at hr
      · cases hr
      · rename_i hk
        simp only [Option.map_eq_some_iff] at hr
        obtain ⟨es', h1, rfl⟩ := hr
        have hl := (mapM_get h1).1
        simp only [Rep] at h ⊢
        obtain ⟨a, cap, rfl, h2, h3, h4⟩ := h
        refine ⟨a, cap, by rw [hl], by omega, h3, ?_⟩
        rcases h4 with rfl | ⟨b, off, rfl, h5, h6⟩
        · left; exact List.eq_nil_of_length_eq_zero (by simpa using hl)
        · by_cases hnil : es = []
          · left; subst hnil; exact List.eq_nil_of_length_eq_zero (by simpa using hl)
          · right
            cases k with
            | false => simp [hnil] at hk
            | true => exact ⟨b, off, rfl, hI _ h5, RepEs.conv (g := g) (g' := g') (Rep.renT hI ho f) h6 h1⟩
    | ptr k e o =>
      simp only [Proofs.YtpggpdbipajchaaDoor.renT] at hr
      split at hr
      · cases hr
      · rename_i hk
        simp only [Option.map_eq_some_iff] at hr
        obtain ⟨e', h1, rfl⟩ := hr
        simp only [Rep] at h ⊢
        obtain ⟨b, off, rfl, h2, u, h3, h4⟩ := h
        cases k with
        | false => simp at hk
        | true => exact ⟨b, off, rfl, hI _ h2, u, Rep.renT hI ho f e e' u h3 h1, h4⟩
    | own o sz i f' =>
      simp only [Proofs.YtpggpdbipajchaaDoor.renT, Option.some.injEq] at hr
      subst hr
      simp only [Rep] at h ⊢
      obtain ⟨e1, _, e3⟩ := ho o h.2
      exact ⟨by rw [e1]; exact h.1, e3⟩
    | row o sz i m =>
      simp only [Proofs.YtpggpdbipajchaaDoor.renT, Option.some.injEq] at hr
      subst hr
      simp only [Rep] at h ⊢
      obtain ⟨c, h1, h2, h3, h4, h5⟩ := h
      obtain ⟨e1, e2, e3⟩ := ho o h5
      exact ⟨c, by rw [e1]; exact h1, h2, h3, by rw [e2]; exact h4, e3⟩
    | agg cs =>
      simp only [Proofs.YtpggpdbipajchaaDoor.renT, Option.map_eq_some_iff] at hr
      obtain ⟨cs', h1, rfl⟩ := hr
      simp only [Rep] at h ⊢
      obtain ⟨vs, rfl, h2⟩ := h
      exact ⟨vs, rfl, RepL.conv (g := g) (g' := g') (Rep.renT hI ho f) h2 h1⟩
    | tup cs =>
      simp only [Proofs.YtpggpdbipajchaaDoor.renT, Option.map_eq_some_iff] at hr
      obtain ⟨cs', h1, rfl⟩ := hr
      simp only [Rep] at h ⊢
      obtain ⟨vs, rfl, h2⟩ := h
      exact ⟨vs, rfl, RepL.conv (g := g) (g' := g') (Rep.renT hI ho f) h2 h1⟩
def renCT (nm : Nat → Nat) (f : Nat) (c : CellIO) : Option CellIO := (c.2.2.mapM (renT nm f)).map fun es => (c.1, c.2.1, es)
def liftN (Ψ : FunN) : FunIO := fun ps cs => (ps.mapM (reify false 0 (fun o => cs[o]?) fuel)).bind fun qs => (Ψ qs).bind fun rc => (renT (cs.length + ·) fuel rc.1).bind fun r => (rc.2.mapM (renCT (cs.length + ·) fuel)).map fun cs' => (r, cs ++ cs')
theorem SoundN.lift {P : Program} {f : Nat} {Ψ : FunN} (h : SoundN P f Ψ) : SoundIO P f (liftN Ψ) := by
  intro w J β κ ps cs args r cs2 hr hJ hO hT hargs
  unfold liftN at hr
  simp only [Option.bind_eq_some_iff, Option.map_eq_some_iff] at hr
  obtain ⟨qs, h1, ⟨r0, cs0⟩, h2, r1, h3, cs1, h4, h5⟩ := hr
  simp only [Prod.mk.injEq] at h5
  obtain ⟨rfl, rfl⟩ := h5
  dsimp only at h3 h4
  let n := cs.length
  let J' : Bool → Nat → Prop := fun k b => k = false ∧ ((∃ k', J k' b) ∨ ∃ o, o < n ∧ b = β o)
  have hJ' : ∀ k b, J' k b → b < w.heap.size := fun k b hb => by
    rcases hb.2 with ⟨k', hk⟩ | ⟨o, ho, rfl⟩
    · exact hJ k' b hk
    · exact (hO.lt o ho).1
  have hargs' : RepL (ghIO J' (fun _ => 0) (fun _ => 0) 0) w qs args.toList := by
    refine RepL.conv (g := ghIO J β κ n) (g' := ghIO J' (fun _ => 0) (fun _ => 0) 0) (Rep.seen (fr := false) (n := 0) (s := initIO ps cs) (g := ghIO J β κ n) (g' := ghIO J' (fun _ => 0) (fun _ => 0) 0) (fun o c ho => hO.at_ o c ho) ⟨fun _ => ⟨fun k b hb => ⟨rfl, .inl ⟨k, hb⟩⟩, fun o ho => ?_⟩, fun e => by cases e⟩ fuel) hargs h1
    obtain ⟨c, hc⟩ := Option.isSome_iff_exists.1 ho
    exact ⟨rfl, .inr ⟨o, (List.getElem?_eq_some_iff.1 hc).1, rfl⟩⟩
  have hO' : ObjsIO J' w (fun _ => 0) (fun _ => 0) [] := ⟨fun o ho => by simp at ho, fun o o' ho => by simp at ho, fun o c ho => by simp at ho⟩
  refine (h w J' (fun _ => 0) (fun _ => 0) qs [] args r0 cs0 (by simpa using h2) hJ' hO' (hT.io fun t _ ⟨o, ho, _⟩ => by simp at ho) hargs').mono ?_
  rintro e w' ⟨v, β', κ', M, rfl, hfr, _, _, hnew, hM, hO2, hrep⟩
  have hfr' : ∀ b, b < w.heap.size → w'.heap[b]? = w.heap[b]? := fun b hb => hfr.block b hb (fun ⟨o, ho, _⟩ => by simp at ho)
  have hl1 := (mapM_get h4).1
  let β2 : Nat → Nat := fun o => if o < n then β o else β' (o - n)
  let κ2 : Nat → Nat := fun o => if o < n then κ o else κ' (o - n)
  have hTI : ∀ b, (ghIO (addN J' M) β' κ' cs0.length).I true b → (ghIO (addN J M) β2 κ2 (cs ++ cs1).length).I true b := fun b hb => by
    rcases hb with ⟨h6, _⟩ | ⟨_, h6⟩
    · cases h6
    · exact .inr ⟨rfl, h6⟩
  have hTo : ∀ o, (ghIO (addN J' M) β' κ' cs0.length).D o → (ghIO (addN J M) β2 κ2 (cs ++ cs1).length).β (n + o) = (ghIO (addN J' M) β' κ' cs0.length).β o ∧ (ghIO (addN J M) β2 κ2 (cs ++ cs1).length).κ (n + o) = (ghIO (addN J' M) β' κ' cs0.length).κ o ∧ (ghIO (addN J M) β2 κ2 (cs ++ cs1).length).D (n + o) := fun o ho => by
    have h6 : o < cs0.length := ho.1
    refine ⟨?_, ?_, ⟨?_, fun q => q⟩⟩
    · simp only [ghIO, β2]; rw [if_neg (by omega)]; congr 1; omega
    · simp only [ghIO, κ2]; rw [if_neg (by omega)]; congr 1; omega
    · simp only [ghIO, List.length_append]; omega
  have hblk : ∀ i, i < cs0.length → w.heap.size ≤ β' i ∧ β' i < w'.heap.size ∧ ∀ k, ¬ addN J' M k (β' i) := fun i hi => ⟨hnew i (Nat.zero_le _) hi, (hO2.lt i hi).1, (hO2.lt i hi).2⟩
  refine ⟨v, β2, κ2, M, rfl, ⟨hfr.os, hfr.tape, hfr.output, hfr.size, fun b hb _ => hfr' b hb⟩, by simp, fun o ho => ⟨by simp only [β2]; rw [if_pos ho], by simp only [κ2]; rw [if_pos ho]⟩, fun o h6 h7 => ?_, hM, ⟨fun o ho => ?_, fun o o' ho ho' he => ?_, fun o c hc => ?_⟩, Rep.renT (g := ghIO (addN J' M) β' κ' cs0.length) hTI hTo fuel _ _ _ hrep h3⟩
  · simp only [β2]
    rw [if_neg (by omega)]
    rw [List.length_append] at h7
    exact (hblk (o - n) (by omega)).1
  · rw [List.length_append] at ho
    simp only [β2]
    split
    · rename_i hlt
      refine ⟨Nat.lt_of_lt_of_le (hO.lt o hlt).1 hfr.size, fun k hb => ?_⟩
      rcases hb with hb | ⟨_, hb⟩
      · exact (hO.lt o hlt).2 k hb
      · have := (hM _ hb).1
        have := (hO.lt o hlt).1
        omega
    · rename_i hlt
      obtain ⟨k1, k2, k3⟩ := hblk (o - n) (by omega)
      refine ⟨k2, fun k hb => ?_⟩
      rcases hb with hb | ⟨hk, hb⟩
      · have := hJ k _ hb
        omega
      · exact k3 true (.inr ⟨rfl, hb⟩)
  · rw [List.length_append] at ho ho'
    simp only [β2] at he
    split at he
    · rename_i hlt
      split at he
      · rename_i hlt'
        exact hO.inj o o' hlt hlt' he
      · rename_i hlt'
        have := (hblk (o' - n) (by omega)).1
        have := (hO.lt o hlt).1
        omega
    · rename_i hlt
      split at he
      · rename_i hlt'
        have := (hblk (o - n) (by omega)).1
        have := (hO.lt o' hlt').1
        omega
      · rename_i hlt'
        have := hO2.inj (o - n) (o' - n) (by omega) (by omega) he
        omega
  · by_cases hlt : o < n
    · have hc0 : cs[o]? = some c := by rwa [List.getElem?_append_left hlt] at hc
      have h6 := hO.at_ o c hc0
      refine h6.mono (g := ghIO J β κ n) (g' := ghIO (addN J M) β2 κ2 (cs ++ cs1).length) ⟨fun k b hb => .inl hb, fun o1 ho1 => ⟨?_, fun q => q⟩, fun o1 ho1 => ?_, fun o1 ho1 => ?_⟩ ⟨hlt, fun q => q⟩ (fun k b hb => hfr' b (hJ k b hb)) (hfr' _ (hO.lt o hlt).1)
      · have h7 : o1 < n := ho1.1
        simp only [ghIO, List.length_append]; omega
      · have h7 : o1 < n := ho1.1
        simp only [ghIO, β2]; rw [if_pos h7]
      · have h7 : o1 < n := ho1.1
        simp only [ghIO, κ2]; rw [if_pos h7]
    · have hc1 : cs1[o - n]? = some c := by rwa [List.getElem?_append_right (by omega)] at hc
      obtain ⟨c0, hc0, hrc⟩ := mapM_at h4 hc1
      obtain ⟨⟨arr, m1, m2⟩, m3, m4⟩ := hO2.at_ (o - n) c0 hc0
      unfold renCT at hrc
      rw [Option.map_eq_some_iff] at hrc
      obtain ⟨es, h6, rfl⟩ := hrc
      have hl := (mapM_get h6).1
      have e1 : β2 o = β' (o - n) := by simp only [β2]; rw [if_neg hlt]
      have e2 : κ2 o = κ' (o - n) := by simp only [κ2]; rw [if_neg hlt]
      refine ⟨⟨arr, by simp only [ghIO, e1]; exact m1, by simp only [ghIO, e2]; exact m2⟩, by simp only [ghIO, e2, hl]; exact m3, ?_⟩
      simp only [ghIO, e1]
      exact RepEs.conv (g := ghIO (addN J' M) β' κ' cs0.length) (g' := ghIO (addN J M) β2 κ2 (cs ++ cs1).length) (Rep.renT (g := ghIO (addN J' M) β' κ' cs0.length) hTI hTo fuel) m4 h6
def pureN (Ψ : FunN) : Fun := fun ps => (Ψ ps).bind fun rc => reify true 0 (fun o => rc.2[o]?) fuel rc.1
theorem SoundN.pure {P : Program} {f : Nat} {Ψ : FunN} (h : SoundN P f Ψ) : Sound P f (pureN Ψ) := by
  intro w J ps args r hr hJ hT hargs
  unfold pureN at hr
  simp only [Option.bind_eq_some_iff] at hr
  obtain ⟨⟨r0, cs0⟩, h2, h3⟩ := hr
  dsimp only at h3
  let J' : Bool → Nat → Prop := fun k b => k = false ∧ J b
  have hO' : ObjsIO J' w (fun _ => 0) (fun _ => 0) [] := ⟨fun o ho => by simp at ho, fun o o' ho => by simp at ho, fun o c ho => by simp at ho⟩
  refine (h w J' (fun _ => 0) (fun _ => 0) ps [] args r0 cs0 (by simpa using h2) (fun k b hb => hJ b hb.2) hO' (hT.io fun t _ ⟨o, ho, _⟩ => by simp at ho) hargs).mono ?_
  rintro e w' ⟨v, β', κ', M, rfl, hfr, _, _, hnew, hM, hO2, hrep⟩
  refine ⟨v, rfl, ⟨hfr.os, hfr.tape, hfr.output, hfr.size, fun b hb => hfr.block b hb (fun ⟨o, ho, _⟩ => by simp at ho)⟩, fun g' hg => ?_⟩
  refine Rep.seen (fr := true) (n := 0) (s := initIO ps cs0) (g := ghIO (addN J' M) β' κ' cs0.length) (g' := g') (fun o c ho => hO2.at_ o c ho) ⟨fun e => (by cases e), fun _ => ⟨fun b hb => ?_, fun o ho _ => ?_⟩⟩ fuel _ _ _ hrep h3
  · rcases hb with ⟨h6, _⟩ | ⟨_, h6⟩
    · cases h6
    · exact hg b (hM b h6).1 (hM b h6).2
  · obtain ⟨c, hc⟩ := Option.isSome_iff_exists.1 ho
    have hlt := (List.getElem?_eq_some_iff.1 hc).1
    exact hg _ (hnew o (Nat.zero_le _) hlt) (hO2.lt o hlt).1
theorem SoundN.io {P : Program} {f : Nat} {Ψ : FunN} (h : SoundN P f Ψ) : SoundIO P f fun ps cs => if cs = [] then Ψ ps else none := h
section
variable {P : Program} {Γ : Ctx}
theorem sound_pqN (hm : P.follows .mixedOrders = true) {f : Nat} {fn : Func} {c : Code} {Ψ : FunN} (hΓ : SoundΓ P Γ) (hf : P.funcs[f]? = some fn) (hb : fn.body = some c) (N : Nat) (hN : fn.ntmps = N) (rs : List ResultVar) (hrs : fn.results.toList = rs) (hc : codeOk Γ true N c = true)
    (h : ∀ ps r cs', Ψ ps = some (r, cs') → ps.length ≤ N ∧ pq P Γ N c (PostIO P rs 0 r cs') (initS ps).tm noObs 0) : SoundN P f Ψ := by
  refine sound_pq0 hm hΓ hf hb N hN rs hrs hc fun ps cs r cs' hr => ?_
  split at hr
  · rename_i hcs
    exact ⟨hcs, h ps r cs' hr⟩
  · cases hr
end
section
variable {α β γ δ ρ : Type} {A : Dec α} {B : Dec β} {C : Dec γ} {D : Dec δ} {ps : List PV} {r : ρ}
def G1 (A : Dec α) (F : α → Option ρ) (ps : List PV) : Option ρ := match ps with | [p] => (A.d p).bind F | _ => none
def G2 (A : Dec α) (B : Dec β) (F : α → β → Option ρ) (ps : List PV) : Option ρ := match ps with | [p, q] => (A.d p).bind fun a => (B.d q).bind fun b => F a b | _ => none
theorem G1_some {F : α → Option ρ} (h : G1 A F ps = some r) : ∃ a, ps = [A.e a] ∧ F a = some r := by
  unfold G1 at h
  split at h
  · rw [Option.bind_eq_some_iff] at h
    obtain ⟨a, h1, h2⟩ := h
    exact ⟨a, by rw [A.h _ _ h1], h2⟩
  · cases h
theorem G1_ap {F : α → Option ρ} (a : α) : G1 A F [A.e a] = F a := by simp [G1, A.h']
end
def nC (T sz : Nat) (es : List PV) : List CellIO := match es with | [] => [] | _ :: _ => [(T, sz, es)]
theorem nC_nil {T sz : Nat} : nC T sz [] = [] := rfl
theorem nC_pos {T sz : Nat} {es : List PV} (h : 0 < es.length) : nC T sz es = [(T, sz, es)] := by
  cases es with
  | nil => simp at h
  | cons e es => rfl
section
variable {Ψ : FunN} {α : Type} {g : α → Value} {l : List α} {T sz : Nat}
theorem liftN_of {ps qs : List PV} {cs cs0 cs1 : List CellIO} {r r1 : PV} (h1 : ps.mapM (reify false 0 (fun o => cs[o]?) fuel) = some qs) (h2 : Ψ qs = some (r, cs0)) (h3 : renT (cs.length + ·) fuel r = some r1) (h4 : cs0.mapM (renCT (cs.length + ·) fuel) = some cs1) : liftN Ψ ps cs = some (r1, cs ++ cs1) := by
  unfold liftN
  rw [h1, Option.bind_some, h2, Option.bind_some]
  dsimp only
  rw [h3, Option.bind_some, h4]
  rfl
theorem renT_flat {nm : Nat → Nat} : ∀ {f : Nat} {p : PV}, flatP f p = true → renT nm f p = some p
  | 0, _, h => by simp [flatP] at h
  | f + 1, p, h => by
    cases p with
    | val v => rfl
    | dead => rfl
    | agg cs =>
      have h2 : ∀ c ∈ cs, flatP f c = true := by simpa [flatP] using h
      simp only [Proofs.YtpggpdbipajchaaDoor.renT]
      rw [mapM_self fun c hc => renT_flat (h2 c hc)]
      rfl
    | _ => simp [flatP] at h
theorem renTM_flat {β : Type} {nm : Nat → Nat} {f : Nat} {g : β → PV} {l : List β} (h : ∀ x, flatP 2 (g x) = true) : (l.map g).mapM (renT nm (f + 2)) = some (l.map g) :=
  mapM_self fun e he => by obtain ⟨x, _, rfl⟩ := List.mem_map.1 he; exact renT_flat (flatP_mono (by omega) (h x))
theorem renCT_vals {nm : Nat → Nat} : renCT nm fuel (T, sz, l.map fun x => PV.val (g x)) = some (T, sz, l.map fun x => PV.val (g x)) := by
  unfold renCT
  show ((l.map fun x => PV.val (g x)).mapM (renT nm (6 + 2))).map _ = _
  rw [renTM_flat fun _ => rfl]
  rfl
theorem ioR_two {ob : Objs} {nx o T T2 sz sz2 : Nat} {es es2 : List PV} {r : PV} : ioR [o] ob nx (some (r, [(T, sz, es), (T2, sz2, es2)])) = (renF (outF [o] nx) fuel r).bind fun r' => (es.mapM (renF (outF [o] nx) fuel)).bind fun es' => (es2.mapM (renF (outF [o] nx) fuel)).map fun es2' => (r', upd (upd ob o (some (T, sz, es'))) nx (some (T2, sz2, es2')), nx + 1) := by
  unfold ioR
  simp only [mapM_cons', mapM_nil', renC]
  cases renF (outF [o] nx) fuel r with
  | none => rfl
  | some r' =>
    cases es.mapM (renF (outF [o] nx) fuel) with
    | none => rfl
    | some es' =>
      cases es2.mapM (renF (outF [o] nx) fuel) with
      | none => rfl
      | some es2' => 
        simp only [Option.map_some, Option.bind_some, List.length_cons, List.length_nil, Nat.zero_add, Nat.reduceAdd, Nat.reduceSub, Option.some.injEq, Prod.mk.injEq, true_and, and_true]
        show putObs ob [(outn [o] nx 0, _), (outn [o] nx 1, _)] = _
        simp only [putObs, outn, List.length_cons, List.length_nil, Nat.zero_add, Nat.lt_one_iff, if_true, Nat.one_ne_zero, if_false, Nat.sub_self, Nat.add_zero, List.getD_cons_zero]
end
theorem renM_fuel {nm : Nat → Option Nat} {l : List PV} : l.mapM (renF nm fuel) = l.mapM (renF nm 8) := rfl
attribute [push_cast]
  ioR_two renM_fuel
section
variable {P : Program} {Γ : Ctx}
theorem relIO_any (hm : P.follows .mixedOrders = true) {f : Nat} {fn : Func} {c : Code} (hΓ : SoundΓ P Γ) (hf : P.funcs[f]? = some fn) (hb : fn.body = some c) (N : Nat) (hN : fn.ntmps = N) (rs : List ResultVar) (hrs : fn.results.toList = rs) (hc : codeOk Γ true N c = true)
    (D : List PV → List CellIO → Prop) (R : List PV → List CellIO → PV → List CellIO → Prop) (hlen : ∀ ps cs, D ps cs → ps.length ≤ N)
    (h : ∀ ps cs, D ps cs → pq P Γ N c (fun x s' => ∃ r cs', R ps cs r cs' ∧ PostIO P rs cs.length r cs' x s') (initS ps).tm (fun o => cs[o]?) cs.length) : ∃ Φ : FunIO, SoundIO P f Φ ∧ ∀ ps cs, D ps cs → ∃ r cs', Φ ps cs = some (r, cs') ∧ R ps cs r cs' := by
  classical
  subst hN hrs
  let Z : List PV → List CellIO → PV × List CellIO → Prop := fun ps cs r => D ps cs ∧ R ps cs r.1 r.2 ∧ ∃ x s', Ev P Γ fn.ntmps c (initIO ps cs) x s' ∧ PostIO P fn.results.toList cs.length r.1 r.2 x s'
  let Φ : FunIO := fun ps cs => if h : ∃ r, Z ps cs r then some (Classical.choose h) else none
  have hΦ : ∀ ps cs r, Φ ps cs = some r → Z ps cs r := fun ps cs r hr => by
    simp only [Φ] at hr
    split at hr
    · rename_i hz
      cases hr
      exact Classical.choose_spec hz
    · cases hr
  refine ⟨Φ, soundIO_of_ev hΓ hf hb (fun ps cs r hr => hlen ps cs (hΦ ps cs r hr).1) fun ps cs r cs' hr => ?_, fun ps cs hd => ?_⟩
  · obtain ⟨_, _, x, s', h1, h2, news, h3, h4, h5, h6⟩ := hΦ ps cs (r, cs') hr
    rw [Option.bind_eq_some_iff] at h5
    obtain ⟨qs, h8, h9⟩ := h5
    refine ⟨x, s', qs, List.range cs.length ++ news, h1, h2, h8, h9, by simp, fun o ho => ?_, ?_, h6⟩
    · rw [List.getElem?_append_left (by simpa using ho), List.getElem?_range ho]
    · rw [List.nodup_append]
      exact ⟨List.nodup_range, h4, fun a ha b hb e => by
        have := h3 b hb
        have := List.mem_range.1 ha
        omega⟩
  · obtain ⟨x, s', h1, r, cs', h2, h3⟩ := pw_ok (mixed := true) (fun _ => hm) c _ _ hc (h ps cs hd)
    have hz : ∃ r, Z ps cs r := ⟨(r, cs'), hd, h2, x, s', h1, h3⟩
    have he : Φ ps cs = some (Classical.choose hz) := by simp only [Φ]; rw [dif_pos hz]
    exact ⟨(Classical.choose hz).1, (Classical.choose hz).2, he, (hΦ ps cs _ he).2.1⟩
end
section
variable {P : Program} {tm : Nat → PV} {ob : Objs} {nx : Nat} {rs : List ResultVar} {r : PV} {c' : CellIO} {x : X} {R : PV → List CellIO → Prop}
theorem i_any1 (hx : x = .normal ∨ x = .ret) (h1 : ((resPs P ⟨tm, ob, nx⟩ rs).bind fun qs => handF [0] ob fuel (onePV qs)) = some r) (h2 : handC [0] ob fuel 0 = some c') (hR : R r [c']) : ∃ r cs', R r cs' ∧ PostIO P rs 1 r cs' x ⟨tm, ob, nx⟩ := ⟨r, [c'], hR, i_end1 hx h1 h2⟩
theorem i_any0 (hx : x = .normal ∨ x = .ret) (h1 : ((resPs P ⟨tm, ob, nx⟩ rs).bind fun qs => handF [] ob fuel (onePV qs)) = some r) (hR : R r []) : ∃ r cs', R r cs' ∧ PostIO P rs 0 r cs' x ⟨tm, ob, nx⟩ := ⟨r, [], hR, i_endN0 hx h1⟩
end
end Go.Proofs.YtpggpdbipajchaaDoor
namespace Go.Proofs.YtpggpdbipajchaaDoor
open Go.RowKit
set_option linter.all false
theorem at8_u {s : ByteArray} {j : Nat} (h : j < s.data.toList.length) : at8 s j = (s.data.toList[j].toNat : Int) := by
  have hl : s.data.toList.length = s.size := Array.length_toList
  have e : s[j]? = some s.data.toList[j] := by
    rw [getElem?_pos s j (by omega)]
    congr 1
  unfold at8
  rw [e]
  rfl
end Go.Proofs.YtpggpdbipajchaaDoor
namespace Go.Proofs.YtpggpdbipajchaaDoor
open Go.RowKit
set_option linter.all false
def NumI (n m : Int) (out : ByteArray) : Prop := Lib.decDigits n.toNat = (if m < 10 then [] else Lib.decDigits (m / 10).toNat) ++ out.data.toList
theorem dec_small {m : Int} (h0 : 0 ≤ m) (h : m < 10) : Lib.decDigits m.toNat = [UInt8.ofNat (48 + (m % 10).toNat)] := by
  rw [Lib.decDigits, dif_pos (by omega)]
  congr 2
  omega
theorem dec_big {m : Int} (h : ¬ m < 10) : Lib.decDigits m.toNat = Lib.decDigits (m / 10).toNat ++ [UInt8.ofNat (48 + (m % 10).toNat)] := by
  rw [Lib.decDigits, dif_neg (by omega), show m.toNat / 10 = (m / 10).toNat by omega, show m.toNat % 10 = (m % 10).toNat by omega]
abbrev digB (m : Int) : ByteArray := bytesOf [IntKind.u8.wrap (48 + m % 10)]
theorem digB_data (m : Int) : (digB m).data.toList = [UInt8.ofNat (48 + (m % 10).toNat)] := by
  have e : IntKind.u8.wrap (48 + m % 10) = 48 + m % 10 := by
    rw [IntKind.wrap_u8]
    omega
  have e2 : (48 + m % 10).toNat = 48 + (m % 10).toNat := by omega
  unfold digB bytesOf
  rw [e]
  simp [e2]
theorem NumI.start {n : Int} (h : 0 ≤ n) : NumI n n (digB n) := by
  unfold NumI
  split
  · rw [dec_small h (by assumption), digB_data]; rfl
  · rw [dec_big (by assumption), digB_data]
theorem NumI.step {n m : Int} {out : ByteArray} (h : NumI n m out) (h0 : 9 < m) : NumI n (m / 10) (digB (m / 10) ++ out) := by
  unfold NumI at h ⊢
  rw [if_neg (by omega)] at h
  rw [h]
  have e : (digB (m / 10) ++ out).data.toList = [UInt8.ofNat (48 + (m / 10 % 10).toNat)] ++ out.data.toList := by
    rw [ByteArray.data_append, Array.toList_append, digB_data]
  rw [e, ← List.append_assoc]
  congr 1
  split
  · rw [dec_small (by omega) (by assumption)]; rfl
  · rw [dec_big (by assumption)]
theorem NumI.stop {n m : Int} {out : ByteArray} (h : NumI n m out) (hn : 0 ≤ n) (h0 : ¬ 9 < m) : out = itoaS n := by
  unfold NumI at h
  rw [if_pos (by omega), List.nil_append] at h
  unfold itoaS Lib.itoa
  rw [if_neg (by omega), h]
theorem dec_head : ∀ (u : Nat), ∃ b r, Lib.decDigits u = b :: r ∧ 48 ≤ b.toNat := fun u => by
  induction u using Nat.strongRecOn with
  | _ u ih =>
    by_cases h : u < 10
    · refine ⟨_, [], by rw [Lib.decDigits, dif_pos h], ?_⟩
      show 48 ≤ (48 + u) % 256
      omega
    · obtain ⟨b, r, h1, h2⟩ := ih (u / 10) (by omega)
      exact ⟨b, r ++ [UInt8.ofNat (48 + u % 10)], by rw [Lib.decDigits, dif_neg h, h1]; rfl, h2⟩
theorem itoaS_head {n : Int} (h : 0 ≤ n) : 0 < (itoaS n).size ∧ 48 ≤ at8 (itoaS n) 0 := by
  obtain ⟨b, r, h1, h2⟩ := dec_head n.toNat
  have e : (itoaS n).data.toList = b :: r := by
    unfold itoaS Lib.itoa
    rw [if_neg (by omega), h1]
  have hl : (itoaS n).data.toList.length = (itoaS n).size := Array.length_toList
  have h3 : 0 < (itoaS n).data.toList.length := by rw [e]; simp
  refine ⟨by omega, ?_⟩
  rw [at8_u h3]
  have : (itoaS n).data.toList[0] = b := by simp only [e, List.getElem_cons_zero]
  rw [this]
  omega
def φNum : Fun := F1 dI fun n => if 0 ≤ n ∧ n ≤ 1099511627776 then some (.val (.string (itoaS n))) else none
theorem φNum_ap {n : Int} (h : 0 ≤ n) (h2 : n ≤ 1099511627776) : φNum [.val (.int .i64 n)] = some (.val (.string (itoaS n))) := (F1_ap (A := dI) n).trans (if_pos ⟨h, h2⟩)
set_option maxHeartbeats 8000000 in
theorem num_ok : Sound Tryd.prog 50 φNum := by
  refine sound_pq mixed GE_ok Tryd.func50 rfl 23 rfl [.tmp 2] rfl (by kernel_rfl) fun ps r hr => ?_
  obtain ⟨n, rfl, hq⟩ := F1_some hr
  clear hr
  split at hq
  case isFalse => cases hq
  case isTrue hpre =>
  cases hq
  refine ⟨by simp, ?_⟩
  simp only [dIs, dUs, dSs, dI_e, dU_e, dB_e, dS_e, dFn_e, dL_e, dA2_e, dA3_e, dA4_e, dA5_e]
  obtain ⟨h0, h1⟩ := hpre
  have hst := Lib.hid (NumI.start h0)
  have hd9 : 0 ≤ n % 10 ∧ n % 10 ≤ 9 := by omega
  (refine wlk ?_; intros)
  refine i_loop (α := Int × ByteArray × Nat) mixed (fun s => [(0, iv s.1), (3, .val (.string s.2.1))])
    (fun s => []) (fun s => s.2.2)
    (fun s => 0 ≤ s.1 ∧ s.1 ≤ 1099511627776 ∧ NumI n s.1 s.2.1 ∧ (s.2.1.size : Int) + s.1 ≤ 1099511627780 ∧ 0 < s.2.2) (fun s => s.1.toNat) (by kernel_rfl) (n, digB n, 1) ⟨h0, h1, hst.out, by dsimp only; have : (digB n).size = 1 := size_bytesOf _; omega, by simp⟩ ?_ ?_ rfl ?_
  · exact agr
  · exact agr
  rintro ⟨m, out, y⟩ ⟨m0, m1, hI, hsz, hy⟩
  dsimp only at m0 m1 hI hsz hy
  replace hI := Lib.hid hI
  by_cases h9 : 9 < m
  · have hst := Lib.hid (hI.out.step h9)
    (refine wlk ?_; intros)
    refine ⟨(m / 10, digB (m / 10) ++ out, y + 1), ⟨by dsimp only; omega, by dsimp only; omega, hst.out, by dsimp only; rw [ByteArray.size_append, size_bytesOf]; simp only [List.length_cons, List.length_nil]; omega, by dsimp only; omega⟩, by dsimp only; omega, ?_, ?_, rfl⟩
    · exact agr
    · exact agr
  · have hst := hI.out.stop h0 h9
    subst hst
    exact wlkF
end Go.Proofs.YtpggpdbipajchaaDoor
namespace Go.Proofs.YtpggpdbipajchaaDoor
open Go.RowKit
set_option linter.all false
theorem pagesB_no {zs : List Int} {k : Nat} (h : k < zs.length) (hb : okPage zs k = false) : pagesB zs = false := by
  unfold pagesB
  rw [okPages_mono h hb]
  rfl
theorem pagesB_yes {zs : List Int} (h : okPages zs zs.length = true) : pagesB zs = decide ((zs.length : Int) ≤ 30) := by
  unfold pagesB
  rw [h, Bool.true_and]
  exact decide_eq_decide.2 (by omega)
theorem pagesB_iff {zs : List Int} : pagesB zs = true ↔ (∀ i, i < zs.length → (1 ≤ zs[i]?.getD 0 ∧ zs[i]?.getD 0 ≤ 999) ∧ (0 < i → zs[i - 1]?.getD 0 < zs[i]?.getD 0)) ∧ zs.length ≤ 30 := by
  unfold pagesB okPages
  simp only [Bool.and_eq_true, List.all_eq_true, List.mem_range, decide_eq_true_eq]
  refine and_congr_left fun _ => forall_congr' fun i => imp_congr_right fun _ => ?_
  simp only [okPage, Bool.and_eq_true, inB_iff, Bool.or_eq_true, beq_iff_eq, decide_eq_true_eq]
  refine and_congr_right fun _ => ?_
  constructor
  · rintro (h | h) h0
    · omega
    · exact h
  · intro h
    by_cases h0 : i = 0
    · exact .inl h0
    · exact .inr (h (by omega))
def φPagesV : Fun := F1 dIs fun zs => if zs.length ≤ 1099511627776 then some (bv (pagesB zs)) else none
theorem φPagesV_ap {zs : List Int} (h : zs.length ≤ 1099511627776) : φPagesV [.lst false 1 (zs.map fun n => .val (.int .i64 n))] = some (.val (.bool (pagesB zs))) :=
  (F1_ap (A := dIs) zs).trans (if_pos h)
noncomputable def GPvi : Ctx := { fn := fun f => if f = 52 then some φPage else none, io := fun f => none }
theorem GPvi_ok : SoundΓ Tryd.prog GPvi := ⟨(fun f φ h => by
  unfold GPvi at h
  dsimp only at h
  split at h
  · rename_i hf; cases h; subst hf; exact ⟨⟨_, Tryd.func52, rfl, rfl⟩, isPage_ok⟩
  cases h), (fun f φ h => by
  unfold GPvi at h
  dsimp only at h
  cases h), rfl⟩
theorem GPvi_52 (ob : Objs) (ps : List PV) : evCall GPvi ob 52 ps = (ps.mapM (reify false 0 ob fuel)).bind φPage := by
  have h : GPvi.fn 52 = some φPage := by simp [GPvi]
  unfold evCall
  rw [h]
  cases ps.mapM (reify false 0 ob fuel) <;> rfl
set_option maxHeartbeats 4000000 in
theorem implPagesV_ok : Sound Tryd.prog 37 φPagesV := by
  refine sound_pq mixed GPvi_ok Tryd.func37 rfl 32 rfl [.tmp 2] rfl (by kernel_rfl) fun ps r hr => ?_
  obtain ⟨zs, rfl, hq⟩ := F1_some hr
  clear hr
  split at hq
  case isFalse => cases hq
  case isTrue hpre =>
  cases hq
  refine ⟨by simp, ?_⟩
  simp only [dIs, dUs, dSs, dI_e, dU_e, dB_e, dS_e, dFn_e, dL_e, dA2_e, dA3_e, dA4_e, dA5_e]
  have gpvi_c52 := GPvi_52; have ap := φPage_ap
  repeat' (first | (with_reducible first | apply i_seq | apply i_block | apply i_skip | apply i_exit | apply i_ret | apply i_kS | apply i_kSx | apply i_kSr | apply i_kL | apply i_kLx | apply i_kLr | apply i_kB | apply i_kBr | apply i_kBs | apply i_nil) | ((with_reducible apply i_region); (simp only [List.map_cons, List.map_nil] <;> exact rfl)) | ((with_reducible apply i_draw); (simp only [List.map_cons, List.map_nil] <;> exact rfl); decide +kernel) | ((with_reducible apply i_kBo); rfl) | ((first | ((with_reducible apply i_V); rfl; rfl; rfl) | ((first | ((with_reducible apply i_E); rfl) | ((with_reducible apply i_S); rfl)); first | rfl | (simp only [push_cast, ↓reduceIte])) | ((with_reducible apply i_Vq); rfl; rfl) | ((with_reducible apply i_Vp); rfl; rfl; rfl) | (with_reducible first | apply i_Gb | apply i_cond)); (simp (disch := (first | omega | (simp only [push_cast]; first | done | omega))) only [push_cast, ↓reduceIte, Nat.reduceEqDiff, Nat.reduceBEq, Nat.reduceAdd, Nat.reduceSub, Int.reduceToNat, *] <;> with_reducible exact rfl); all_goals try (first | (with_reducible first | refine hyT ?_ | refine hyF ?_ | exact hyA | exact hyB) | (intro hX; first | (cases hX; done) | ((try simp only [decide_eq_true_eq, decide_eq_false_iff_not, Bool.not_eq_true', Bool.not_eq_false'] at hX); (try have hXb := inB_iff.1 hX))))))
  refine i_loop (α := Nat) mixed (fun k => [(0, .lst false 1 (zs.map fun n => .val (.int .i64 n))), (5, .lst false 1 (zs.map fun n => .val (.int .i64 n))), (6, iv zs.length), (7, iv k)]) (fun _ => []) (fun _ => 0)
    (fun k => k ≤ zs.length ∧ okPages zs k = true) (fun k => zs.length - k) (by kernel_rfl) 0 ⟨Nat.zero_le _, rfl⟩ ?_ trivial rfl ?_
  · simp only [push_cast, ↓reduceIte, Nat.reduceEqDiff, Nat.reduceBEq, Nat.reduceAdd, Nat.reduceSub, Int.reduceToNat]
  · intro k ⟨hk, hok⟩
    have hpg : okPage zs k = (inB (zs[k]?.getD 0) 1 999 && (k == 0 || decide (zs[k - 1]?.getD 0 < zs[k]?.getD 0))) := rfl
    repeat' (first | (with_reducible first | apply i_seq | apply i_block | apply i_skip | apply i_exit | apply i_ret | apply i_kS | apply i_kSx | apply i_kSr | apply i_kL | apply i_kLx | apply i_kLr | apply i_kB | apply i_kBr | apply i_kBs | apply i_nil) | ((with_reducible apply i_region); (simp only [List.map_cons, List.map_nil] <;> exact rfl)) | ((with_reducible apply i_draw); (simp only [List.map_cons, List.map_nil] <;> exact rfl); decide +kernel) | ((with_reducible apply i_kBo); rfl) | ((first | ((with_reducible apply i_V); rfl; rfl; rfl) | ((first | ((with_reducible apply i_E); rfl) | ((with_reducible apply i_S); rfl)); first | rfl | (simp only [push_cast, ↓reduceIte])) | ((with_reducible apply i_Vq); rfl; rfl) | ((with_reducible apply i_Vp); rfl; rfl; rfl) | (with_reducible first | apply i_Gb | apply i_cond)); (simp (disch := (first | omega | (simp only [push_cast]; first | done | omega))) only [push_cast, ↓reduceIte, Nat.reduceEqDiff, Nat.reduceBEq, Nat.reduceAdd, Nat.reduceSub, Int.reduceToNat, *] <;> with_reducible exact rfl); all_goals try (first | (with_reducible first | refine hyT ?_ | refine hyF ?_ | exact hyA | exact hyB) | (intro hX; first | (cases hX; done) | ((try simp only [decide_eq_true_eq, decide_eq_false_iff_not, Bool.not_eq_true', Bool.not_eq_false'] at hX); (try have hXb := inB_iff.1 hX))))))
    all_goals try ((first | apply i_end | apply i_endN); simp (disch := (first | omega | (simp only [push_cast]; first | done | omega))) only [push_cast, ↓reduceIte, Nat.reduceEqDiff, Nat.reduceBEq, Nat.reduceAdd, Nat.reduceSub, Int.reduceToNat, *])
    all_goals try (rw [pagesB_no (k := k) (by omega) (by rw [hpg]; simp_all; try omega)]; done)
    all_goals try (rw [pagesB_yes (by rwa [show zs.length = k by omega])]; done)
    all_goals
      refine ⟨k + 1, ⟨by omega, by rw [okPages_succ, hok, hpg]; simp_all; try omega⟩, by dsimp only; omega, by simp only [push_cast, ↓reduceIte, Nat.reduceEqDiff, Nat.reduceBEq, Nat.reduceAdd, Nat.reduceSub, Int.reduceToNat], trivial, rfl⟩
noncomputable def GPvs : Ctx := { fn := fun f => if f = 48 then some φIn else none, io := fun f => none }
theorem GPvs_ok : SoundΓ Tryd.prog GPvs := ⟨(fun f φ h => by
  unfold GPvs at h
  dsimp only at h
  split at h
  · rename_i hf; cases h; subst hf; exact ⟨⟨_, Tryd.func48, rfl, rfl⟩, l1In_ok⟩
  cases h), (fun f φ h => by
  unfold GPvs at h
  dsimp only at h
  cases h), rfl⟩
theorem GPvs_48 (ob : Objs) (ps : List PV) : evCall GPvs ob 48 ps = (ps.mapM (reify false 0 ob fuel)).bind φIn := by
  have h : GPvs.fn 48 = some φIn := by simp [GPvs]
  unfold evCall
  rw [h]
  cases ps.mapM (reify false 0 ob fuel) <;> rfl
set_option maxHeartbeats 4000000 in
theorem specPagesV_ok : Sound Tryd.prog 30 φPagesV := by
  refine sound_pq mixed GPvs_ok Tryd.func30 rfl 35 rfl [.tmp 2] rfl (by kernel_rfl) fun ps r hr => ?_
  obtain ⟨zs, rfl, hq⟩ := F1_some hr
  clear hr
  split at hq
  case isFalse => cases hq
  case isTrue hpre =>
  cases hq
  refine ⟨by simp, ?_⟩
  simp only [dIs, dUs, dSs, dI_e, dU_e, dB_e, dS_e, dFn_e, dL_e, dA2_e, dA3_e, dA4_e, dA5_e]
  have gpvs_c48 := GPvs_48; have ap := φIn_ap
  repeat' (first | (with_reducible first | apply i_seq | apply i_block | apply i_skip | apply i_exit | apply i_ret | apply i_kS | apply i_kSx | apply i_kSr | apply i_kL | apply i_kLx | apply i_kLr | apply i_kB | apply i_kBr | apply i_kBs | apply i_nil) | ((with_reducible apply i_region); (simp only [List.map_cons, List.map_nil] <;> exact rfl)) | ((with_reducible apply i_draw); (simp only [List.map_cons, List.map_nil] <;> exact rfl); decide +kernel) | ((with_reducible apply i_kBo); rfl) | ((first | ((with_reducible apply i_V); rfl; rfl; rfl) | ((first | ((with_reducible apply i_E); rfl) | ((with_reducible apply i_S); rfl)); first | rfl | (simp only [push_cast, ↓reduceIte])) | ((with_reducible apply i_Vq); rfl; rfl) | ((with_reducible apply i_Vp); rfl; rfl; rfl) | (with_reducible first | apply i_Gb | apply i_cond)); (simp (disch := (first | omega | (simp only [push_cast]; first | done | omega))) only [push_cast, ↓reduceIte, Nat.reduceEqDiff, Nat.reduceBEq, Nat.reduceAdd, Nat.reduceSub, Int.reduceToNat, *] <;> with_reducible exact rfl); all_goals try (first | (with_reducible first | refine hyT ?_ | refine hyF ?_ | exact hyA | exact hyB) | (intro hX; first | (cases hX; done) | ((try simp only [decide_eq_true_eq, decide_eq_false_iff_not, Bool.not_eq_true', Bool.not_eq_false'] at hX); (try have hXb := inB_iff.1 hX))))))
  refine i_loop (α := Nat) mixed (fun k => [(0, .lst false 1 (zs.map fun n => .val (.int .i64 n))), (3, iv k)]) (fun _ => []) (fun _ => 0)
    (fun k => k ≤ zs.length ∧ okPages zs k = true) (fun k => zs.length - k) (by kernel_rfl) 0 ⟨Nat.zero_le _, rfl⟩ ?_ trivial rfl ?_
  · simp only [push_cast, ↓reduceIte, Nat.reduceEqDiff, Nat.reduceBEq, Nat.reduceAdd, Nat.reduceSub, Int.reduceToNat]
  · intro k ⟨hk, hok⟩
    have hpg : okPage zs k = (inB (zs[k]?.getD 0) 1 999 && (k == 0 || decide (zs[k - 1]?.getD 0 < zs[k]?.getD 0))) := rfl
    repeat' (first | (with_reducible first | apply i_seq | apply i_block | apply i_skip | apply i_exit | apply i_ret | apply i_kS | apply i_kSx | apply i_kSr | apply i_kL | apply i_kLx | apply i_kLr | apply i_kB | apply i_kBr | apply i_kBs | apply i_nil) | ((with_reducible apply i_region); (simp only [List.map_cons, List.map_nil] <;> exact rfl)) | ((with_reducible apply i_draw); (simp only [List.map_cons, List.map_nil] <;> exact rfl); decide +kernel) | ((with_reducible apply i_kBo); rfl) | ((first | ((with_reducible apply i_V); rfl; rfl; rfl) | ((first | ((with_reducible apply i_E); rfl) | ((with_reducible apply i_S); rfl)); first | rfl | (simp only [push_cast, ↓reduceIte])) | ((with_reducible apply i_Vq); rfl; rfl) | ((with_reducible apply i_Vp); rfl; rfl; rfl) | (with_reducible first | apply i_Gb | apply i_cond)); (simp (disch := (first | omega | (simp only [push_cast]; first | done | omega))) only [push_cast, ↓reduceIte, Nat.reduceEqDiff, Nat.reduceBEq, Nat.reduceAdd, Nat.reduceSub, Int.reduceToNat, *] <;> with_reducible exact rfl); all_goals try (first | (with_reducible first | refine hyT ?_ | refine hyF ?_ | exact hyA | exact hyB) | (intro hX; first | (cases hX; done) | ((try simp only [decide_eq_true_eq, decide_eq_false_iff_not, Bool.not_eq_true', Bool.not_eq_false'] at hX); (try have hXb := inB_iff.1 hX))))))
    all_goals try ((first | apply i_end | apply i_endN); simp (disch := (first | omega | (simp only [push_cast]; first | done | omega))) only [push_cast, ↓reduceIte, Nat.reduceEqDiff, Nat.reduceBEq, Nat.reduceAdd, Nat.reduceSub, Int.reduceToNat, *])
    all_goals try (rw [pagesB_no (k := k) (by omega) (by rw [hpg]; simp_all; try omega)]; done)
    all_goals try (rw [pagesB_yes (by rwa [show zs.length = k by omega])]; done)
    all_goals
      refine ⟨k + 1, ⟨by omega, by rw [okPages_succ, hok, hpg]; simp_all; try omega⟩, by dsimp only; omega, by simp only [push_cast, ↓reduceIte, Nat.reduceEqDiff, Nat.reduceBEq, Nat.reduceAdd, Nat.reduceSub, Int.reduceToNat], trivial, rfl⟩
end Go.Proofs.YtpggpdbipajchaaDoor
namespace Go.Proofs.YtpggpdbipajchaaDoor
open Go.RowKit
set_option linter.all false
def mixL {α : Type} (m : Nat → α) (l : List α) (j : Nat) : List α := (List.range j).map m ++ l.drop j
section
variable {α : Type} {m : Nat → α} {l : List α} {j : Nat}
theorem mixL_length (h : j ≤ l.length) : (mixL m l j).length = l.length := by simp [mixL]; omega
theorem mixL_zero : mixL m l 0 = l := by simp [mixL]
theorem mixL_full (h : l.length ≤ j) : mixL m l j = (List.range j).map m := by simp [mixL, List.drop_eq_nil_of_le h]
theorem mixL_set (h : j < l.length) : (mixL m l j).set j (m j) = mixL m l (j + 1) := by
  have e : l.drop j = l[j] :: l.drop (j + 1) := List.drop_eq_getElem_cons h
  unfold mixL
  rw [List.set_append_right _ _ (by simp), e, show j - ((List.range j).map m).length = 0 by simp, List.set_cons_zero, List.range_succ]
  simp
end
def MarkD {α : Type} (T : Nat) (en : α → PV) (ps : List PV) (cs : List CellIO) : Prop :=
  (∃ (l : List α) (k : Int), ps = [.row 0 1 0 l.length, .val (.int .i64 k)] ∧ cs = [(T, 1, l.map en)] ∧ l.length ≤ 1048576 ∧ 0 < k ∧ k ≤ 1099511627776) ∨ ∃ k : Int, ps = [.val (.slice none 0 0), .val (.int .i64 k)] ∧ cs = []
def Marks {α : Type} (T : Nat) (en : α → PV) (mk : Int → Nat → List α) (Φ : FunIO) : Prop :=
  (∀ (l : List α) (k : Int), l.length ≤ 1048576 → 0 < k → k ≤ 1099511627776 → Φ [.row 0 1 0 l.length, .val (.int .i64 k)] [(T, 1, l.map en)] = some (.val (.int .i64 (k + l.length)), [(T, 1, (mk k l.length).map en)])) ∧
  ∀ k : Int, Φ [.val (.slice none 0 0), .val (.int .i64 k)] [] = some (.val (.int .i64 k), [])
def okH (k : Int) : Prop := 0 < k ∧ k ≤ 1099511627776
instance (k : Int) : Decidable (okH k) := by unfold okH; infer_instance
theorem markText_ex : ∃ φ : Fun, Sound Tryd.prog 57 φ ∧ ∀ k : Int, 0 < k → k ≤ 2199023255552 → ∃ s : ByteArray, φ [.val (.int .i64 k)] = some (.val (.string s)) ∧ s.size ≤ 2199023255553 := by
  obtain ⟨φ, h1, h2⟩ := rel_of_pq mixed GE_ok Tryd.func57 rfl 20 rfl [.tmp 2] rfl (by kernel_rfl) (fun ps => ∃ k : Int, ps = [.val (.int .i64 k)] ∧ 0 < k ∧ k ≤ 2199023255552)
    (fun ps r => ∃ s : ByteArray, r = .val (.string s) ∧ s.size ≤ 2199023255553) (fun ps ⟨k, e, _⟩ => by rw [e]; simp) (fun ps ⟨k, e, hk, hk2⟩ => by
      subst e
      (repeat' (first | (with_reducible first | apply i_seq | apply i_block | apply i_skip | apply i_exit | apply i_ret | apply i_kS | apply i_kSx | apply i_kSr | apply i_kL | apply i_kLx | apply i_kLr | apply i_kB | apply i_kBr | apply i_kBs | apply i_nil) | ((with_reducible apply i_region); (simp only [List.map_cons, List.map_nil] <;> exact rfl)) | ((with_reducible apply i_draw); (simp only [List.map_cons, List.map_nil] <;> exact rfl); decide +kernel) | ((with_reducible apply i_kBo); rfl) | ((first | ((with_reducible apply i_V); rfl; rfl; rfl) | ((first | ((with_reducible apply i_E); rfl) | ((with_reducible apply i_S); rfl)); first | rfl | (simp only [push_cast, ↓reduceIte])) | ((with_reducible apply i_Vq); rfl; rfl) | ((with_reducible apply i_Vp); rfl; rfl; rfl) | (with_reducible first | apply i_Gb | apply i_cond)); (simp (disch := (first | omega | (simp only [push_cast]; first | done | omega))) only [push_cast, ↓reduceIte, Nat.reduceEqDiff, Nat.reduceBEq, Nat.reduceAdd, Nat.reduceSub, Int.reduceToNat, *] <;> with_reducible exact rfl); all_goals try (first | (with_reducible first | refine hyT ?_ | refine hyF ?_ | exact hyA | exact hyB) | (intro hX; first | (cases hX; done) | ((try simp only [decide_eq_true_eq, decide_eq_false_iff_not, Bool.not_eq_true', Bool.not_eq_false'] at hX); (try have hXb := inB_iff.1 hX))))))); all_goals try (exfalso; omega)
      refine i_loop (α := ByteArray × Int × Nat) mixed (fun s => [(0, iv s.2.1), (3, .val (.string s.1))]) (fun j => []) (fun s => s.2.2)
        (fun s => (s.1.size : Int) + s.2.1 ≤ 2199023255552 ∧ 0 ≤ s.2.1) (fun s => s.2.1.toNat) (by kernel_rfl) (⟨#[]⟩, k, 0) ⟨by have h0 : ((⟨#[]⟩ : ByteArray)).size = 0 := rfl; dsimp only; omega, by dsimp only; omega⟩ ?_ trivial rfl ?_
      · simp (disch := (first | omega | (simp only [push_cast]; first | done | omega))) only [push_cast, ↓reduceIte, Nat.reduceEqDiff, Nat.reduceBEq, Nat.reduceAdd, Nat.reduceSub, Int.reduceToNat, List.length_append, *]
      rintro ⟨s, q, y⟩ ⟨h3, h4⟩
      dsimp only at h3 h4
      have h5 : ((⟨#[109]⟩ : ByteArray)).size = 1 := rfl
      (repeat' (first | (with_reducible first | apply i_seq | apply i_block | apply i_skip | apply i_exit | apply i_ret | apply i_kS | apply i_kSx | apply i_kSr | apply i_kL | apply i_kLx | apply i_kLr | apply i_kB | apply i_kBr | apply i_kBs | apply i_nil) | ((with_reducible apply i_region); (simp only [List.map_cons, List.map_nil] <;> exact rfl)) | ((with_reducible apply i_draw); (simp only [List.map_cons, List.map_nil] <;> exact rfl); decide +kernel) | ((with_reducible apply i_kBo); rfl) | ((first | ((with_reducible apply i_V); rfl; rfl; rfl) | ((first | ((with_reducible apply i_E); rfl) | ((with_reducible apply i_S); rfl)); first | rfl | (simp only [push_cast, ↓reduceIte])) | ((with_reducible apply i_Vq); rfl; rfl) | ((with_reducible apply i_Vp); rfl; rfl; rfl) | (with_reducible first | apply i_Gb | apply i_cond)); (simp (disch := (first | omega | (simp only [push_cast]; first | done | omega))) only [push_cast, ↓reduceIte, Nat.reduceEqDiff, Nat.reduceBEq, Nat.reduceAdd, Nat.reduceSub, Int.reduceToNat, *] <;> with_reducible exact rfl); all_goals try (first | (with_reducible first | refine hyT ?_ | refine hyF ?_ | exact hyA | exact hyB) | (intro hX; first | (cases hX; done) | ((try simp only [decide_eq_true_eq, decide_eq_false_iff_not, Bool.not_eq_true', Bool.not_eq_false'] at hX); (try have hXb := inB_iff.1 hX))))))); all_goals try (exfalso; omega)
      · refine ⟨(bytesOf [IntKind.u8.wrap (48 + q % 10)] ++ s, q / 10, y + 1), ⟨?_, ?_⟩, ?_, ?_, trivial, rfl⟩
        · simp only [ByteArray.size_append, size_bytesOf, List.length_cons, List.length_nil]; omega
        · dsimp only; omega
        · dsimp only; omega
        · simp (disch := (first | omega | (simp only [push_cast]; first | done | omega))) only [push_cast, ↓reduceIte, Nat.reduceEqDiff, Nat.reduceBEq, Nat.reduceAdd, Nat.reduceSub, Int.reduceToNat, List.length_append, *]
      · refine ⟨_, ⟨⟨#[109]⟩ ++ s, rfl, ?_⟩, i_end (by (simp (disch := (first | omega | (simp only [push_cast]; first | done | omega))) only [push_cast, ↓reduceIte, Nat.reduceEqDiff, Nat.reduceBEq, Nat.reduceAdd, Nat.reduceSub, Int.reduceToNat, *] <;> with_reducible exact rfl))⟩
        rw [ByteArray.size_append]
        omega)
  refine ⟨φ, h1, fun k hk hk2 => ?_⟩
  obtain ⟨r, e, s, rfl, hs⟩ := h2 _ ⟨k, rfl, hk, hk2⟩
  exact ⟨s, e, hs⟩
noncomputable def φMarkT : Fun := Classical.choose markText_ex
theorem markText_ok : Sound Tryd.prog 57 φMarkT := (Classical.choose_spec markText_ex).1
open Classical in
noncomputable def mkT (k : Int) : ByteArray := if h : 0 < k ∧ k ≤ 2199023255552 then Classical.choose ((Classical.choose_spec markText_ex).2 k h.1 h.2) else .empty
theorem φMarkT_ap {k : Int} (h : 0 < k) (h2 : k ≤ 2199023255552) : φMarkT [.val (.int .i64 k)] = some (.val (.string (mkT k))) := by
  unfold mkT
  rw [dif_pos ⟨h, h2⟩]
  exact (Classical.choose_spec ((Classical.choose_spec markText_ex).2 k h h2)).1
noncomputable def marksS (k : Int) (n : Nat) : LS := (List.range n).map fun j : Nat => mkT (k + j)
theorem marksS_length (k : Int) (n : Nat) : (marksS k n).length = n := by simp [marksS]
theorem marksS_at (k : Int) {n j : Nat} (h : j < n) : (marksS k n)[j]?.getD .empty = mkT (k + j) := by simp [marksS, h]
noncomputable def GMkS : Ctx := { fn := fun f => if f = 57 then some φMarkT else none, io := fun f => none }
theorem GMkS_ok : SoundΓ Tryd.prog GMkS := ⟨(fun f φ h => by
  unfold GMkS at h
  dsimp only at h
  split at h
  · rename_i hf; cases h; subst hf; exact ⟨⟨_, Tryd.func57, rfl, rfl⟩, markText_ok⟩
  cases h), (fun f φ h => by
  unfold GMkS at h
  dsimp only at h
  cases h), rfl⟩
theorem GMkS_57 (ob : Objs) (ps : List PV) : evCall GMkS ob 57 ps = (ps.mapM (reify false 0 ob fuel)).bind φMarkT := by
  have h : GMkS.fn 57 = some φMarkT := by simp [GMkS]
  unfold evCall
  rw [h]
  cases ps.mapM (reify false 0 ob fuel) <;> rfl
theorem markStringS_ex : ∃ Φ : FunIO, SoundIO Tryd.prog 17 Φ ∧ Marks 9 (fun s : ByteArray => .val (.string s)) marksS Φ := by
  obtain ⟨Φ, h1, h2⟩ := relIO_any mixed GMkS_ok Tryd.func17 rfl 20 rfl [.tmp 4] rfl (by kernel_rfl) (MarkD 9 fun s : ByteArray => .val (.string s))
    (fun ps cs r cs' => (∀ (l : LS) (k : Int), ps = [.row 0 1 0 l.length, .val (.int .i64 k)] → cs = [(9, 1, l.map fun s => .val (.string s))] → r = .val (.int .i64 (k + l.length)) ∧ cs' = [(9, 1, (marksS k l.length).map fun s => .val (.string s))]) ∧ ∀ k : Int, ps = [.val (.slice none 0 0), .val (.int .i64 k)] → r = .val (.int .i64 k) ∧ cs' = [])
    (fun ps cs hd => by rcases hd with ⟨l, k, rfl, _⟩ | ⟨k, rfl, _⟩ <;> simp) (fun ps cs hd => by
      rcases hd with ⟨l, k, rfl, rfl, hl, hk, hk2⟩ | ⟨k, rfl, rfl⟩
      · rw [ls_one]
        (refine wlkX ?_; intros)
        refine i_loop (α := Nat) mixed (fun j => [(0, .row 0 1 0 l.length), (1, iv (k + j)), (5, iv j)]) (fun j => [(0, 9, 1, (mixL (fun j : Nat => mkT (k + j)) l j).map fun s => .val (.string s))]) (fun _ => 1)
          (fun j => j ≤ l.length) (fun j => l.length - j) (by kernel_rfl) 0 (Nat.zero_le _) ?_ ?_ rfl ?_
        · simp (disch := (first | omega | (simp only [push_cast]; first | done | omega))) only [push_cast, ↓reduceIte, Nat.reduceEqDiff, Nat.reduceBEq, Nat.reduceAdd, Nat.reduceSub, Int.reduceToNat, Int.add_zero]
        · simp (disch := (first | omega | (simp only [push_cast]; first | done | omega))) only [push_cast, ↓reduceIte, Nat.reduceEqDiff, Nat.reduceBEq, Nat.reduceAdd, Nat.reduceSub, Int.reduceToNat, mixL_zero]
        intro j hj
        have hm : (mixL (fun j : Nat => mkT (k + j)) l j).length = l.length := mixL_length hj
        by_cases h : j < l.length
        · have ap := φMarkT_ap (k := k + j) (by omega) (by omega)
          have gmks_c57 := GMkS_57
          (refine wlk ?_; intros)
          refine ⟨j + 1, by omega, by dsimp only; omega, ?_, ?_, rfl⟩
          · simp (disch := (first | omega | (simp only [push_cast]; first | done | omega))) only [push_cast, ↓reduceIte, Nat.reduceEqDiff, Nat.reduceBEq, Nat.reduceAdd, Nat.reduceSub, Int.reduceToNat, *]
            simp only [Int.add_assoc, and_self]
          · simp (disch := (first | omega | (simp only [push_cast]; first | done | omega))) only [push_cast, ↓reduceIte, Nat.reduceEqDiff, Nat.reduceBEq, Nat.reduceAdd, Nat.reduceSub, Int.reduceToNat, *]
            rw [← mixL_set h]
        · (refine wlk ?_; intros)
          refine i_any1 (r := .val (.int .i64 (k + j))) (c' := (9, 1, (mixL (fun j : Nat => mkT (k + j)) l j).map fun s => .val (.string s))) (by first | exact .inl rfl | exact .inr rfl) (by (simp (disch := (first | omega | (simp only [push_cast]; first | done | omega))) only [push_cast, ↓reduceIte, Nat.reduceEqDiff, Nat.reduceBEq, Nat.reduceAdd, Nat.reduceSub, Int.reduceToNat, *] <;> with_reducible exact rfl)) (by (simp (disch := (first | omega | (simp only [push_cast]; first | done | omega))) only [push_cast, ↓reduceIte, Nat.reduceEqDiff, Nat.reduceBEq, Nat.reduceAdd, Nat.reduceSub, Int.reduceToNat, *] <;> with_reducible exact rfl)) ⟨fun l1 k1 e1 e2 => ?_, fun k1 e1 => by simp at e1⟩
          obtain ⟨e3, e4⟩ : l.length = l1.length ∧ k = k1 := by simpa using e1
          subst e4
          rw [mixL_full (by omega), ← e3, show j = l.length by omega]
          exact ⟨rfl, rfl⟩
      · rw [ls_nil]
        (refine wlkX ?_; intros)
        refine i_loop (α := Unit) mixed (fun j => [(0, .val (.slice none 0 0)), (1, iv k), (5, iv 0)]) (fun j => []) (fun _ => 0)
          (fun j => True) (fun j => 0) (by kernel_rfl) () trivial ?_ trivial rfl ?_
        · exact agr
        intro j hj
        (refine wlk ?_; intros)
        refine i_any0 (r := .val (.int .i64 k)) (by first | exact .inl rfl | exact .inr rfl) (by (simp (disch := (first | omega | (simp only [push_cast]; first | done | omega))) only [push_cast, ↓reduceIte, Nat.reduceEqDiff, Nat.reduceBEq, Nat.reduceAdd, Nat.reduceSub, Int.reduceToNat, *] <;> with_reducible exact rfl)) ⟨fun l1 k1 e1 e2 => by simp at e1, fun k1 e1 => ?_⟩
        obtain rfl : k = k1 := by simpa using e1
        exact ⟨rfl, rfl⟩)
  refine ⟨Φ, h1, fun l k hl hk hk2 => ?_, fun k => ?_⟩
  · obtain ⟨r, cs', e, hr, _⟩ := h2 _ _ (.inl ⟨l, k, rfl, rfl, hl, hk, hk2⟩)
    obtain ⟨rfl, rfl⟩ := hr l k rfl rfl
    exact e
  · obtain ⟨r, cs', e, _, hr⟩ := h2 _ _ (.inr ⟨k, rfl, rfl⟩)
    obtain ⟨rfl, rfl⟩ := hr k rfl
    exact e
noncomputable def ΦmarkS : FunIO := Classical.choose markStringS_ex
theorem markS_io : SoundIO Tryd.prog 17 ΦmarkS := (Classical.choose_spec markStringS_ex).1
theorem markS_mk : Marks 9 (fun s : ByteArray => .val (.string s)) marksS ΦmarkS := (Classical.choose_spec markStringS_ex).2
noncomputable def GHdS : Ctx := { fn := fun f => if f = 57 then some φMarkT else none, io := fun f => none }
theorem GHdS_ok : SoundΓ Tryd.prog GHdS := ⟨(fun f φ h => by
  unfold GHdS at h
  dsimp only at h
  split at h
  · rename_i hf; cases h; subst hf; exact ⟨⟨_, Tryd.func57, rfl, rfl⟩, markText_ok⟩
  cases h), (fun f φ h => by
  unfold GHdS at h
  dsimp only at h
  cases h), rfl⟩
theorem GHdS_57 (ob : Objs) (ps : List PV) : evCall GHdS ob 57 ps = (ps.mapM (reify false 0 ob fuel)).bind φMarkT := by
  have h : GHdS.fn 57 = some φMarkT := by simp [GHdS]
  unfold evCall
  rw [h]
  cases ps.mapM (reify false 0 ob fuel) <;> rfl
noncomputable def φHeldS : Fun := F2 dSs dI fun l k => if l = marksS k l.length ∧ l.length ≤ 1048576 ∧ okH k then some (iv (k + l.length)) else none
theorem φHeldS_ap {k : Int} {n : Nat} (hn : n ≤ 1048576) (hk : 0 < k) (hk2 : k ≤ 1099511627776) : φHeldS [.lst false 1 ((marksS k n).map fun s => .val (.string s)), .val (.int .i64 k)] = some (.val (.int .i64 (k + n))) := by
  refine (F2_ap (A := dSs) (B := dI) (marksS k n) k).trans ((if_pos ⟨by rw [marksS_length], by rw [marksS_length]; exact hn, hk, hk2⟩).trans ?_)
  rw [marksS_length]
set_option maxHeartbeats 4000000 in
theorem heldStringS_ok : Sound Tryd.prog 44 φHeldS := by
  refine sound_pq mixed GHdS_ok Tryd.func44 rfl 22 rfl [.tmp 4] rfl (by kernel_rfl) fun ps r hr => ?_
  obtain ⟨l, k, rfl, hq⟩ := F2_some hr
  clear hr
  split at hq
  case isFalse => cases hq
  case isTrue hpre =>
  cases hq
  refine ⟨by simp, ?_⟩
  simp only [dIs, dUs, dSs, dI_e, dU_e, dB_e, dS_e, dFn_e, dL_e, dA2_e, dA3_e, dA4_e, dA5_e]
  obtain ⟨hl, hlen, hk, hk2⟩ := hpre
  have hat : ∀ j : Nat, j < l.length → l[j]?.getD .empty = mkT (k + j) := fun j hj => by
    rw [hl, marksS_at k hj]
  clear hl
  (refine wlkX ?_; intros)
  refine i_loop (α := Nat) mixed (fun j => [(0, .lst false 1 (l.map fun s => .val (.string s))), (1, iv (k + j)), (5, iv j)]) (fun j => []) (fun _ => 0)
    (fun j => j ≤ l.length) (fun j => l.length - j) (by kernel_rfl) 0 (Nat.zero_le _) ?_ trivial rfl ?_
  · simp (disch := (first | omega | (simp only [push_cast]; first | done | omega))) only [push_cast, ↓reduceIte, Nat.reduceEqDiff, Nat.reduceBEq, Nat.reduceAdd, Nat.reduceSub, Int.reduceToNat, Int.add_zero]
  intro j hj
  by_cases h : j < l.length
  · have hj2 := hat j h
    have ap := φMarkT_ap (k := k + j) (by omega) (by omega)
    clear hat
    have ghds_c57 := GHdS_57
    (refine wlk ?_; intros)
    refine ⟨j + 1, by omega, by dsimp only; omega, ?_, trivial, rfl⟩
    simp (disch := (first | omega | (simp only [push_cast]; first | done | omega))) only [push_cast, ↓reduceIte, Nat.reduceEqDiff, Nat.reduceBEq, Nat.reduceAdd, Nat.reduceSub, Int.reduceToNat, *]
    simp only [Int.add_assoc, and_self]
  · clear hat
    (refine wlk ?_; intros)
    rw [show l.length = j by omega]
    (exact fnF)
end Go.Proofs.YtpggpdbipajchaaDoor
namespace Go.Proofs.YtpggpdbipajchaaDoor
open Go.RowKit
set_option linter.all false
theorem map_app' {α β : Type} {f : α → β} {l l' : List α} : l.map f ++ l'.map f = (l ++ l').map f := List.map_append.symm
theorem min_l {a b : Nat} (h : a ≤ b) : min a b = a := Nat.min_eq_left h
attribute [push_cast]
  map_app' min_l List.take_length
theorem strI_take {s : ByteArray} : (strI s).take s.size = strI s := List.take_of_length_le (by rw [strI_length]; exact Nat.le_refl _)
attribute [push_cast]
  strI_take
theorem io_ag {Φ : FunIO} {ob : Objs} {nx : Nat} {u : Value} {k : Bool} {sz : Nat} {α : Type} {g : α → Value} {l : List α} : ioEv Φ ob nx [.agg [.val u, .lst k sz (l.map fun x => PV.val (g x))]] = ioR [] ob nx (Φ [.agg [.val u, .lst k sz (l.map fun x => PV.val (g x))]] []) :=
  ioNo_of rfl (by simp only [mapM_cons', mapM_nil', renS_fuel, renS_agg, renS_val, renS_vals]; rfl)
attribute [push_cast]
  io_ag
end Go.Proofs.YtpggpdbipajchaaDoor
namespace Go.Proofs.YtpggpdbipajchaaDoor
open Go.RowKit
set_option linter.all false
section
variable {Φ : FunIO} {ob : Objs} {nx o sz i n : Nat} {u u2 v v2 v3 : Value}
theorem io_gr2 : ioEv Φ ob nx [.agg [.val u, .row o sz i n], .val v] = ioOne Φ ob nx o [.agg [.val u, .row 0 sz i n], .val v] (ob o) := ioOne_of (by simp [refsOf, dedup]) (by simp only [mapM_cons', mapM_nil', renS_fuel, renS_agg, renS_row, renS_val, inn_self]; rfl)
theorem io_gr4 : ioEv Φ ob nx [.agg [.val u, .row o sz i n], .val v, .val v2, .val v3] = ioOne Φ ob nx o [.agg [.val u, .row 0 sz i n], .val v, .val v2, .val v3] (ob o) := ioOne_of (by simp [refsOf, dedup]) (by simp only [mapM_cons', mapM_nil', renS_fuel, renS_agg, renS_row, renS_val, inn_self]; rfl)
theorem io_gn2 : ioEv Φ ob nx [.agg [.val u, .val u2], .val v] = ioR [] ob nx (Φ [.agg [.val u, .val u2], .val v] []) := ioNo_of rfl rfl
end
attribute [push_cast]
  io_gr2 io_gr4 io_gn2
end Go.Proofs.YtpggpdbipajchaaDoor
namespace Go.Proofs.YtpggpdbipajchaaDoor
open Go.RowKit
set_option linter.all false
def refsA : List PV → List Nat
  | [] => []
  | .own o _ _ _ :: l => o :: refsA l
  | .row o _ _ _ :: l => o :: refsA l
  | _ :: l => refsA l
def refsX : PV → List Nat
  | .own o _ _ _ => [o]
  | .row o _ _ _ => [o]
  | .agg cs => refsA cs
  | _ => []
def refsL : List PV → List Nat
  | [] => []
  | p :: ps => refsX p ++ refsL ps
theorem refsA_eq : ∀ cs : List PV, (cs.flatMap fun c => match c with | .own o _ _ _ => [o] | .row o _ _ _ => [o] | _ => []) = refsA cs
  | [] => rfl
  | c :: cs => by
    rw [List.flatMap_cons, refsA_eq cs]
    cases c <;> rfl
theorem refsL_eq : ∀ ps : List PV, ps.flatMap refsOf = refsL ps
  | [] => rfl
  | p :: ps => by
    rw [List.flatMap_cons, refsL_eq ps]
    show _ = refsX p ++ refsL ps
    congr 1
    cases p with
    | agg cs => exact refsA_eq cs
    | _ => rfl
section
variable {Φ : FunIO} {ob : Objs} {nx : Nat}
def ioTwo (Φ : FunIO) (ob : Objs) (nx a b : Nat) (qs : List PV) : Option CellIO → Option CellIO → Option (PV × Objs × Nat)
  | some c, some d => (c.2.2.mapM (renF (inn [a, b]) fuel)).bind fun es => (d.2.2.mapM (renF (inn [a, b]) fuel)).bind fun fs => ioR [a, b] ob nx (Φ qs [(c.1, c.2.1, es), (d.1, d.2.1, fs)])
  | _, _ => none
def ioX (Φ : FunIO) (ob : Objs) (nx : Nat) (ps : List PV) : List Nat → Option (PV × Objs × Nat)
  | [] => (ps.mapM (renF (inn []) fuel)).bind fun qs => ioR [] ob nx (Φ qs [])
  | [o] => (ps.mapM (renF (inn [o]) fuel)).bind fun qs => ioOne Φ ob nx o qs (ob o)
  | [a, b] => (ps.mapM (renF (inn [a, b]) fuel)).bind fun qs => ioTwo Φ ob nx a b qs (ob a) (ob b)
  | _ => ioEv Φ ob nx ps
theorem io_any (ps : List PV) : ioEv Φ ob nx ps = ioX Φ ob nx ps (dedup (refsL ps)) := by
  generalize hos : dedup (refsL ps) = os
  rw [← refsL_eq] at hos
  match os with
  | [] =>
    show _ = (ps.mapM (renF (inn []) fuel)).bind _
    cases h2 : ps.mapM (renF (inn []) fuel) with
    | some qs => rw [ioEv_eq ps [] hos, h2, mapM_nil']; rfl
    | none => rw [ioEv_eq ps [] hos, h2, mapM_nil']; rfl
  | [o] =>
    show _ = (ps.mapM (renF (inn [o]) fuel)).bind _
    cases h2 : ps.mapM (renF (inn [o]) fuel) with
    | some qs => rw [ioOne_of hos h2]; rfl
    | none =>
      rw [ioEv_eq ps [o] hos, h2]
      cases [o].mapM ob <;> rfl
  | [a, b] =>
    show _ = (ps.mapM (renF (inn [a, b]) fuel)).bind _
    rw [ioEv_eq ps [a, b] hos]
    simp only [mapM_cons', mapM_nil', renC]
    cases ps.mapM (renF (inn [a, b]) fuel) with
    | none => cases ob a <;> cases ob b <;> rfl
    | some qs =>
      simp only [Option.bind_some]
      cases ob a with
      | none => rfl
      | some c =>
        cases ob b with
        | none => rfl
        | some d =>
          obtain ⟨T, sz, es0⟩ := c
          obtain ⟨T2, sz2, fs0⟩ := d
          simp only [Option.bind_some, Option.map_some, ioTwo, mapM_cons', mapM_nil', renC]
          cases es0.mapM (renF (inn [a, b]) fuel) with
          | none => rfl
          | some es =>
            simp only [Option.bind_some, Option.map_some]
            cases fs0.mapM (renF (inn [a, b]) fuel) <;> rfl
  | _ :: _ :: _ :: _ => rfl
theorem ioX_nil {ps : List PV} : ioX Φ ob nx ps [] = (ps.mapM (renF (inn []) fuel)).bind fun qs => ioR [] ob nx (Φ qs []) := rfl
theorem ioX_one {ps : List PV} {o : Nat} : ioX Φ ob nx ps [o] = (ps.mapM (renF (inn [o]) fuel)).bind fun qs => ioOne Φ ob nx o qs (ob o) := rfl
theorem ioX_two {ps : List PV} {a b : Nat} : ioX Φ ob nx ps [a, b] = (ps.mapM (renF (inn [a, b]) fuel)).bind fun qs => ioTwo Φ ob nx a b qs (ob a) (ob b) := rfl
theorem ioTwo_some {a b T T2 sz sz2 : Nat} {es es2 qs : List PV} : ioTwo Φ ob nx a b qs (some (T, sz, es)) (some (T2, sz2, es2)) = (es.mapM (renF (inn [a, b]) fuel)).bind fun es => (es2.mapM (renF (inn [a, b]) fuel)).bind fun fs => ioR [a, b] ob nx (Φ qs [(T, sz, es), (T2, sz2, fs)]) := rfl
theorem dd_ab {a b : Nat} (h : ¬ a = b) : dedup [a, b] = [a, b] := by
  have h' : ¬ b = a := fun e => h e.symm
  simp [dedup, h']
theorem inn_a {a b : Nat} : inn [a, b] a = some 0 := by simp [inn]
theorem inn_b {a b : Nat} (h : ¬ a = b) : inn [a, b] b = some 1 := by
  have h2 : (a == b) = false := by simpa using h
  simp [inn, List.idxOf_cons, h2]
theorem outF_ab0 {a b nx : Nat} : outF [a, b] nx 0 = some a := rfl
theorem outF_ab1 {a b nx : Nat} : outF [a, b] nx 1 = some b := rfl
theorem outF_ab2 {a b nx : Nat} : outF [a, b] nx 2 = some nx := by simp [outF, outn]
theorem outF_a1 {a nx : Nat} : outF [a] nx 1 = some nx := by simp [outF, outn]
theorem ioR_ab2 {a b T T2 sz sz2 : Nat} {es es2 : List PV} {r : PV} : ioR [a, b] ob nx (some (r, [(T, sz, es), (T2, sz2, es2)])) = (renF (outF [a, b] nx) fuel r).bind fun r' => (es.mapM (renF (outF [a, b] nx) fuel)).bind fun es' => (es2.mapM (renF (outF [a, b] nx) fuel)).map fun es2' => (r', upd (upd ob a (some (T, sz, es'))) b (some (T2, sz2, es2')), nx) := by
  unfold ioR
  simp only [mapM_cons', mapM_nil', renC]
  cases renF (outF [a, b] nx) fuel r with
  | none => rfl
  | some r' =>
    cases es.mapM (renF (outF [a, b] nx) fuel) with
    | none => rfl
    | some es' =>
      cases es2.mapM (renF (outF [a, b] nx) fuel) <;> rfl
theorem ioR_ab3 {a b T T2 T3 sz sz2 sz3 : Nat} {es es2 es3 : List PV} {r : PV} : ioR [a, b] ob nx (some (r, [(T, sz, es), (T2, sz2, es2), (T3, sz3, es3)])) = (renF (outF [a, b] nx) fuel r).bind fun r' => (es.mapM (renF (outF [a, b] nx) fuel)).bind fun es' => (es2.mapM (renF (outF [a, b] nx) fuel)).bind fun es2' => (es3.mapM (renF (outF [a, b] nx) fuel)).map fun es3' => (r', upd (upd (upd ob a (some (T, sz, es'))) b (some (T2, sz2, es2'))) nx (some (T3, sz3, es3')), nx + 1) := by
  unfold ioR
  simp only [mapM_cons', mapM_nil', renC]
  cases renF (outF [a, b] nx) fuel r with
  | none => rfl
  | some r' =>
    cases es.mapM (renF (outF [a, b] nx) fuel) with
    | none => rfl
    | some es' =>
      cases es2.mapM (renF (outF [a, b] nx) fuel) with
      | none => rfl
      | some es2' =>
        cases es3.mapM (renF (outF [a, b] nx) fuel) with
        | none => rfl
        | some es3' =>
          simp only [Option.map_some, Option.bind_some, List.length_cons, List.length_nil, Nat.zero_add, Nat.reduceAdd, Nat.reduceSub, Option.some.injEq, Prod.mk.injEq, true_and, and_true]
          show putObs ob [(outn [a, b] nx 0, _), (outn [a, b] nx 1, _), (outn [a, b] nx 2, _)] = _
          simp [putObs, outn]
theorem dd_nil : dedup [] = [] := rfl
theorem dd_one {o : Nat} : dedup [o] = [o] := rfl
theorem dd_two {o : Nat} : dedup [o, o] = [o] := by simp [dedup]
theorem rl_nil : refsL [] = [] := rfl
theorem rl_cons {p : PV} {ps : List PV} : refsL (p :: ps) = refsX p ++ refsL ps := rfl
theorem rx_val {v : Value} : refsX (.val v) = [] := rfl
theorem rx_lst {k : Bool} {sz : Nat} {es : List PV} : refsX (.lst k sz es) = [] := rfl
theorem rx_ptr {k : Bool} {e : PV} {o : Nat} : refsX (.ptr k e o) = [] := rfl
theorem rx_own {o a b c : Nat} : refsX (.own o a b c) = [o] := rfl
theorem rx_row {o a b c : Nat} : refsX (.row o a b c) = [o] := rfl
theorem rx_agg {cs : List PV} : refsX (.agg cs) = refsA cs := rfl
theorem ra_nil : refsA [] = [] := rfl
theorem ra_val {v : Value} {l : List PV} : refsA (.val v :: l) = refsA l := rfl
theorem ra_lst {k : Bool} {sz : Nat} {es l : List PV} : refsA (.lst k sz es :: l) = refsA l := rfl
theorem ra_own {o a b c : Nat} {l : List PV} : refsA (.own o a b c :: l) = o :: refsA l := rfl
theorem ra_row {o a b c : Nat} {l : List PV} : refsA (.row o a b c :: l) = o :: refsA l := rfl
end
attribute [push_cast low]
  io_any
attribute [push_cast]
  ioX_nil ioX_one ioX_two ioTwo_some dd_ab inn_a inn_b outF_ab0 outF_ab1 outF_ab2 outF_a1 ioR_ab2 ioR_ab3 dd_nil dd_one dd_two rl_nil rl_cons rx_val rx_lst rx_ptr rx_own rx_row rx_agg ra_nil ra_val ra_lst ra_own ra_row
end Go.Proofs.YtpggpdbipajchaaDoor
namespace Go.Proofs.YtpggpdbipajchaaDoor
open Go.RowKit
set_option linter.all false
theorem byteNs_gl {l : List Int} : byteNs (l.map fun n => .val (.int .u8 n)) = some l := by
  induction l with
  | nil => rfl
  | cons x l ih => simp_all [byteNs]
attribute [push_cast]
  byteNs_gl
theorem gl_ext {a b : ByteArray} (h : a.data.toList = b.data.toList) : a = b := by
  obtain ⟨⟨a⟩⟩ := a
  obtain ⟨⟨b⟩⟩ := b
  simp only at h
  rw [h]
end Go.Proofs.YtpggpdbipajchaaDoor
namespace Go.Proofs.YtpggpdbipajchaaDoor
open Go.RowKit
set_option linter.all false
abbrev Rn := Int × Int
def runStep (R : List Rn) (n : Int) : List Rn := match R.getLast? with
  | some r => if r.2 + 1 = n then R.dropLast ++ [(r.1, n)] else R ++ [(n, n)]
  | none => [(n, n)]
def runsR (l : List Int) : List Rn := l.foldl runStep []
def runT (r : Rn) : ByteArray := if r.1 = r.2 then itoaS r.1 else (itoaS r.1 ++ ⟨#[45]⟩) ++ itoaS r.2
def csB : ByteArray := ⟨#[44, 32]⟩
def textR (l : List Int) : ByteArray := joinB ((runsR l).map runT) csB
def pagesT (l : List Int) : ByteArray := if pagesB l = true then textR l else ⟨#[]⟩
theorem runsR_snoc (l : List Int) (n : Int) : runsR (l ++ [n]) = runStep (runsR l) n := by simp [runsR, List.foldl_append]
theorem runStep_snoc (R : List Rn) (r : Rn) (n : Int) : runStep (R ++ [r]) n = if r.2 + 1 = n then R ++ [(r.1, n)] else R ++ [r] ++ [(n, n)] := by
  unfold runStep
  rw [List.getLast?_append]
  simp
theorem runs_last : ∀ (l : List Int) (n : Int), ∃ R a, runsR (l ++ [n]) = R ++ [(a, n)] := fun l n => by
  rw [runsR_snoc]
  rcases List.eq_nil_or_concat (runsR l) with h | ⟨R, r, h⟩
  · rw [h]; exact ⟨[], n, rfl⟩
  · rw [h, List.concat_eq_append, runStep_snoc]
    split
    · exact ⟨R, r.1, rfl⟩
    · exact ⟨R ++ [r], n, rfl⟩
theorem take_snoc {l : List Int} {k : Nat} (h : k < l.length) : l.take (k + 1) = l.take k ++ [l[k]?.getD 0] := by
  rw [List.take_succ_eq_append_getElem h, List.getElem?_eq_getElem h]
  rfl
theorem runs_run {l : List Int} {k : Nat} (hk : k < l.length) (hb : 0 < k → ¬ l[k - 1]?.getD 0 + 1 = l[k]?.getD 0) : ∀ e, k ≤ e → e < l.length → (∀ j, k ≤ j → j < e → l[j + 1]?.getD 0 = l[j]?.getD 0 + 1) →
    runsR (l.take (e + 1)) = runsR (l.take k) ++ [(l[k]?.getD 0, l[e]?.getD 0)] := by
  intro e
  induction e with
  | zero =>
    intro h1 _ _
    obtain rfl : k = 0 := by omega
    rw [take_snoc hk]
    rfl
  | succ e ih =>
    intro h1 h2 h3
    by_cases he : k = e + 1
    · subst he
      rw [take_snoc h2, runsR_snoc]
      have hb := hb (by omega)
      rw [show e + 1 - 1 = e by omega] at hb
      obtain ⟨R, a, hR⟩ := runs_last (l.take e) (l[e]?.getD 0)
      rw [take_snoc (show e < l.length by omega), hR, runStep_snoc, if_neg hb]
    · have hR := ih (by omega) (by omega) fun j h4 h5 => h3 j h4 (by omega)
      rw [take_snoc h2, runsR_snoc, hR, runStep_snoc, if_pos (by rw [h3 e (by omega) (by omega)])]
theorem joinG_snoc {l : LS} (h : 0 < l.length) (z sep : ByteArray) : joinB (l ++ [z]) sep = (joinB l sep ++ sep) ++ z := by
  cases l with
  | nil => simp at h
  | cons x r =>
    refine gl_ext ?_
    rw [ByteArray.data_append, Array.toList_append, ByteArray.data_append, Array.toList_append]
    show Lib.join ((x :: (r ++ [z])).map (·.data.toList)) sep.data.toList = Lib.join ((x :: r).map (·.data.toList)) sep.data.toList ++ sep.data.toList ++ z.data.toList
    rw [List.map_cons, List.map_cons, Lib.join_cons, Lib.join_cons]
    simp [Lib.joinTail]
theorem joinG_one (z sep : ByteArray) : joinB [z] sep = z := gl_ext (by
  show Lib.join [z.data.toList] sep.data.toList = z.data.toList
  rw [Lib.join_one])
theorem textR_run {l : List Int} {k e : Nat} (hk : k < l.length) (hb : 0 < k → ¬ l[k - 1]?.getD 0 + 1 = l[k]?.getD 0) (h1 : k ≤ e) (h2 : e < l.length) (h3 : ∀ j, k ≤ j → j < e → l[j + 1]?.getD 0 = l[j]?.getD 0 + 1) :
    textR (l.take (e + 1)) = (if k = 0 then ⟨#[]⟩ else textR (l.take k) ++ csB) ++ runT (l[k]?.getD 0, l[e]?.getD 0) := by
  unfold textR
  rw [runs_run hk hb e h1 h2 h3, List.map_append, List.map_singleton]
  split
  · rename_i h
    subst h
    show joinB [_] csB = _
    rw [joinG_one]
    exact gl_ext (by rw [ByteArray.data_append, Array.toList_append]; rfl)
  · rename_i h
    obtain ⟨R, a, hR⟩ := runs_last (l.take (k - 1)) (l[k - 1]?.getD 0)
    rw [← take_snoc (show k - 1 < l.length by omega), show k - 1 + 1 = k by omega] at hR
    rw [joinG_snoc (by rw [hR]; simp)]
theorem textR_pos {l : List Int} {k : Nat} (h0 : 0 < k) (hk : k ≤ l.length) (hp : ∀ j, j < l.length → 0 ≤ l[j]?.getD 0) : 0 < (textR (l.take k)).size := by
  obtain ⟨R, a, hR⟩ := runs_last (l.take (k - 1)) (l[k - 1]?.getD 0)
  rw [← take_snoc (show k - 1 < l.length by omega), show k - 1 + 1 = k by omega] at hR
  unfold textR
  rw [joinB_size, hR, List.map_append, List.map_singleton]
  have hz : 0 < (runT (a, l[k - 1]?.getD 0)).size := by
    have := (itoaS_head (hp (k - 1) (by omega))).1
    unfold runT
    split
    · rename_i h; simp only at h; rw [h]; exact this
    · rw [ByteArray.size_append]; dsimp only; omega
  have : (runT (a, l[k - 1]?.getD 0)).size ≤ sumS (R.map runT ++ [runT (a, l[k - 1]?.getD 0)]) := by
    unfold sumS
    rw [List.map_append, List.sum_append]
    simp
  omega
end Go.Proofs.YtpggpdbipajchaaDoor
