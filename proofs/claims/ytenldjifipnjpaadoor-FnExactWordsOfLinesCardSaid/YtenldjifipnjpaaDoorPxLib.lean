/- Go's library functions as contracts of the engine; weaker contracts out of stronger ones. -/
import Derived.Test.YtenldjifipnjpaaDoorPxTy
import Derived.Test.YtenldjifipnjpaaDoorShelf
import Derived.Lib.Join
namespace Go.Proofs.YtenldjifipnjpaaDoor
open Go.RowKit
set_option linter.all false
/-- Whatever reads as p reads as q. -/
def PV.le (p q : PV) : Prop := ∀ (g : Gh) (w : World) (v : Value), Rep g w p v → Rep g w q v
theorem PV.le_refl (p : PV) : p.le p := fun _ _ _ h => h
theorem PV.le.trans {p q r : PV} (h : p.le q) (h2 : q.le r) : p.le r := fun g w v hv => h2 g w v (h g w v hv)
theorem nil_le (k : Bool) (sz : Nat) : (PV.val (.slice none 0 0)).le (.lst k sz []) := fun g w v h => by
  simp only [Rep] at h ⊢
  subst h
  exact ⟨none, 0, rfl, Nat.le_refl _, by omega, .inl trivial⟩
def leL : List PV → List PV → Prop
  | [], [] => True
  | p :: ps, q :: qs => p.le q ∧ leL ps qs
  | _, _ => False
theorem leL_refl : ∀ (l : List PV), leL l l
  | [] => trivial
  | p :: l => ⟨p.le_refl, leL_refl l⟩
theorem leL_rep {g : Gh} {w : World} : ∀ {ps qs : List PV} {vs : List Value}, leL ps qs → RepL g w ps vs → RepL g w qs vs
  | [], [], vs, _, h => h
  | p :: ps, q :: qs, vs, hl, h => by
    simp only [RepL] at h ⊢
    obtain ⟨v, vs', rfl, h1, h2⟩ := h
    exact ⟨v, vs', rfl, hl.1 _ _ _ h1, leL_rep hl.2 h2⟩
  | [], _ :: _, vs, hl, _ => hl.elim
  | _ :: _, [], vs, hl, _ => hl.elim
theorem tup_le {ps qs : List PV} (h : leL ps qs) : (PV.tup ps).le (.tup qs) := fun g w v hv => by
  simp only [Rep] at hv ⊢
  obtain ⟨vs, rfl, h1⟩ := hv
  exact ⟨vs, rfl, leL_rep h h1⟩
theorem agg_le {ps qs : List PV} (h : leL ps qs) : (PV.agg ps).le (.agg qs) := fun g w v hv => by
  simp only [Rep] at hv ⊢
  obtain ⟨vs, rfl, h1⟩ := hv
  exact ⟨vs, rfl, leL_rep h h1⟩
theorem Sound.weak {P : Program} {f : Nat} {φ φ' : Fun} (h : Sound P f φ) (hw : ∀ ps r, φ' ps = some r → ∃ ps' r', leL ps ps' ∧ φ ps' = some r' ∧ r'.le r) : Sound P f φ' := by
  intro w J ps args r hr hJ hT hargs
  obtain ⟨ps', r', h1, h2, h3⟩ := hw ps r hr
  refine (h w J ps' args r' h2 hJ hT (leL_rep h1 hargs)).mono ?_
  rintro e w' ⟨v, rfl, hb, hrep⟩
  exact ⟨v, rfl, hb, fun g' hg => h3 _ _ _ (hrep g' hg)⟩
/-- A slice that may be nil. -/
def nrm (sz : Nat) : PV → PV
  | .val (.slice none 0 0) => .lst false sz []
  | p => p
theorem le_nrm (sz : Nat) (p : PV) : p.le (nrm sz p) := by
  unfold nrm
  split
  · exact nil_le _ _
  · exact p.le_refl
theorem leL_nrm (sz : Nat) : ∀ ps : List PV, leL ps (ps.map (nrm sz))
  | [] => trivial
  | p :: ps => ⟨le_nrm sz p, leL_nrm sz ps⟩
/-- The same contract where a slice may be nil. -/
def nilF (sz : Nat) (φ : Fun) : Fun := fun ps => φ (ps.map (nrm sz))
theorem Sound.nil {P : Program} {f : Nat} {φ : Fun} (h : Sound P f φ) (sz : Nat) : Sound P f (nilF sz φ) :=
  h.weak fun ps r hr => ⟨_, r, leL_nrm sz ps, hr, PV.le_refl _⟩
/-! The walk's ends: what is handed back may read as something weaker. -/
section
variable {P : Program} {Γ : Ctx}
theorem sound_pqW (hm : P.follows .mixedOrders = true) {f : Nat} {fn : Func} {c : Code} {φ : Fun} (hΓ : SoundΓ P Γ) (hf : P.funcs[f]? = some fn) (hb : fn.body = some c) (N : Nat) (hN : fn.ntmps = N) (rs : List ResultVar) (hrs : fn.results.toList = rs) (hc : codeOk Γ true N c = true)
    (h : ∀ ps r, φ ps = some r → ps.length ≤ N ∧ pq P Γ N c (fun x s' => ∃ r', r'.le r ∧ Post P rs r' x s') (initS ps).tm (fun _ => none) 0) : Sound P f φ := by
  obtain ⟨φ', h1, h2⟩ := rel_of_pq hm hΓ hf hb N hN rs hrs hc (fun ps => ∃ r, φ ps = some r) (fun ps r' => ∀ r, φ ps = some r → r'.le r) (fun ps ⟨r, hr⟩ => (h ps r hr).1) (fun ps ⟨r, hr⟩ => by
    refine pw_mono (fun x s' hx => ?_) _ _ (h ps r hr).2
    obtain ⟨r', k1, k2⟩ := hx
    exact ⟨r', fun r1 hr1 => by rw [hr] at hr1; cases hr1; exact k1, k2⟩)
  refine h1.weak fun ps r hr => ?_
  obtain ⟨r', k1, k2⟩ := h2 ps ⟨r, hr⟩
  exact ⟨ps, r', leL_refl _, k1, k2 r hr⟩
theorem i_endW {rs : List ResultVar} {r r' : PV} {tm : Nat → PV} {ob : Objs} {nx : Nat} {x : X} (hx : x = .normal ∨ x = .ret) (h : ((resPs P ⟨tm, ob, nx⟩ rs).bind fun qs => reify true 0 ob fuel (onePV qs)) = some r') (hl : r'.le r) : ∃ r', r'.le r ∧ Post P rs r' x ⟨tm, ob, nx⟩ := ⟨r', hl, hx, h⟩
end
theorem reify_nil0 {n f sz : Nat} {ob : Objs} {k : Bool} : reify false n ob (f + 1) (.lst k sz []) = some (.lst false sz []) := by simp [reify]
theorem reify_nil1 {n f sz : Nat} {ob : Objs} {k : Bool} : reify true n ob (f + 1) (.lst k sz []) = some (.lst true sz []) := by simp [reify]
attribute [push_cast] reify_nil0 reify_nil1
/-! A row that may still be nil. -/
def nP (sz : Nat) (es : List PV) (x : Nat) : PV := match es with | [] => .val (.slice none 0 0) | _ :: _ => .row x sz 0 es.length
def nO (T sz : Nat) (es : List PV) (x : Nat) : List (Nat × CellIO) := match es with | [] => [] | _ :: _ => [(x, T, sz, es)]
theorem nP_nil {sz x : Nat} : nP sz [] x = .val (.slice none 0 0) := rfl
theorem nP_cons {sz x : Nat} {e : PV} {es : List PV} : nP sz (e :: es) x = .row x sz 0 (es.length + 1) := rfl
theorem nO_nil {T sz x : Nat} : nO T sz [] x = [] := rfl
theorem nO_cons {T sz x : Nat} {e : PV} {es : List PV} : nO T sz (e :: es) x = [(x, T, sz, e :: es)] := rfl
theorem nP_pos {sz x : Nat} {es : List PV} (h : 0 < es.length) : nP sz es x = .row x sz 0 es.length := by
  cases es with
  | nil => simp at h
  | cons e es => rfl
theorem nO_pos {T sz x : Nat} {es : List PV} (h : 0 < es.length) : nO T sz es x = [(x, T, sz, es)] := by
  cases es with
  | nil => simp at h
  | cons e es => rfl
attribute [push_cast] nP_nil nO_nil
attribute [push_cast low] nP_pos nO_pos
/-! Strings. -/
theorem bp_addS {P : Program} {t : Nat} {x y : Operand} {a b : ByteArray} (h : a.size + b.size ≤ 9223372036854775807) : binP P .add t x y (some (.string a)) (some (.string b)) = some (.val (.string (a ++ b))) := by
  have h2 : ¬ (((a.size + b.size : Nat) : Int) > IntKind.i64.max) := by
    have : IntKind.i64.max = 9223372036854775807 := by decide
    rw [this]
    omega
  have : pureRun P (do eqGuard .add t x y (.string a) (.string b); binOp .add t (.string a) (.string b)) = some (.string (a ++ b)) := by
    show pureRun P (Op.stringOp .add a b) = _
    unfold Op.stringOp
    dsimp only
    rw [if_neg h2]
    rfl
  simp only [binP, this, Option.map_some]
theorem size_push (ns : List Int) (r : ByteArray) : (ns.foldl (fun r n => r.push (UInt8.ofNat n.toNat)) r).size = r.size + ns.length := by
  induction ns generalizing r with
  | nil => simp
  | cons n ns ih => rw [List.foldl_cons, ih, List.length_cons, ByteArray.size_push]; omega
theorem size_bytesOf (ns : List Int) : (bytesOf ns).size = ns.length := by
  unfold bytesOf
  rw [size_push]
  simp
attribute [push_cast]
  bp_addS size_bytesOf ByteArray.size_append byteNs
/-! strings.Join. -/
def joinB (l : List ByteArray) (sep : ByteArray) : ByteArray := ⟨(Lib.join (l.map (·.data.toList)) sep.data.toList).toArray⟩
def φJoin : Fun := F2 dSs dS fun l sep => if l.length ≤ 1048576 ∧ (joinB l sep).size ≤ 140737488355328 then some (.val (.string (joinB l sep))) else none
theorem φJoin_ap {l : List ByteArray} {sep : ByteArray} (h : l.length ≤ 1048576) (h2 : (joinB l sep).size ≤ 140737488355328) : φJoin [.lst false 1 (l.map fun s => .val (.string s)), .val (.string sep)] = some (.val (.string (joinB l sep))) :=
  (F2_ap (A := dSs) (B := dS) l sep).trans (if_pos ⟨h, h2⟩)
theorem str_cells {g : Gh} {w : World} {b off : Nat} {l : List ByteArray} (h : RepEs g w 1 (l.map fun s => PV.val (.string s)) b off) : ∀ (j : Nat) x, l[j]? = some x → w.cell? ⟨b, off + j, none⟩ = some (.string x) := fun j x hx => by
  obtain ⟨u, h1, h2, _⟩ := h.get (i := j) (e := .val (.string x)) (by simp [hx])
  simp only [Rep] at h1
  subst h1
  have := h2.2 0 (by simp [Value.cells])
  simpa [Value.cells] using this
theorem sound_join {P : Program} {f : Nat} (H0 : ∀ (a : Option Addr) (c : Nat) (sep : ByteArray) (w : World), Calls P f #[.slice a 0 c, .string sep] w fun e w' => e = .returned (.string ⟨#[]⟩) ∧ w' = w)
    (H1 : ∀ (bk o c : Nat) (xs : List ByteArray) (sep : ByteArray) (w : World), (∀ (j : Nat) x, xs[j]? = some x → w.cell? ⟨bk, o + j, none⟩ = some (.string x)) → bk < w.heap.size → xs.length ≤ 140737488355328 → xs.length ≤ c → (Lib.join (xs.map (·.data.toList)) sep.data.toList).length ≤ 140737488355328 →
      Calls P f #[.slice (some ⟨bk, o, none⟩) xs.length c, .string sep] w fun e w' => e = .returned (.string ⟨(Lib.join (xs.map (·.data.toList)) sep.data.toList).toArray⟩) ∧ Below w.heap.size w w') : Sound P f φJoin := by
  intro w J ps args r hr hJ hT hargs
  obtain ⟨l, sep, rfl, hq⟩ := F2_some hr
  split at hq
  case isFalse => cases hq
  case isTrue hok =>
  cases hq
  have hargs := hargs
  simp only [RepL] at hargs
  obtain ⟨v1, vs1, e1, h1, v2, vs2, rfl, h2, rfl⟩ := hargs
  obtain rfl : args = #[v1, v2] := by
    obtain ⟨a⟩ := args
    simp only at e1
    rw [e1]
  simp only [dSs, dL, dS, Rep] at h1 h2
  subst h2
  obtain ⟨a, cap, rfl, k1, k2, k3⟩ := h1
  simp only [List.length_map] at k1 ⊢
  have hsz : (joinB l sep).size = (Lib.join (l.map (·.data.toList)) sep.data.toList).length := by simp [joinB, ByteArray.size]
  rcases k3 with k3 | ⟨b, off, rfl, k4, k5⟩
  · have : l = [] := by simpa using k3
    subst this
    refine (H0 a cap sep w).mono ?_
    rintro e w' ⟨rfl, rfl⟩
    exact ⟨_, rfl, Below.refl _ _, fun g' _ => by simp only [Rep]; rfl⟩
  · refine (H1 b off cap l sep w (str_cells k5) (hJ b k4.2) (by omega) k1 (by omega)).mono ?_
    rintro e w' ⟨rfl, hb⟩
    exact ⟨_, rfl, hb, fun g' _ => by simp only [Rep]; rfl⟩
theorem joinTail_len (sep : List UInt8) : ∀ (r : List (List UInt8)), (Lib.joinTail sep r).length = (r.map List.length).sum + r.length * sep.length
  | [] => by simp [Lib.joinTail]
  | x :: r => by
    have ih := joinTail_len sep r
    unfold Lib.joinTail at ih ⊢
    simp only [List.map_cons, List.flatten_cons, List.length_append, List.sum_cons, List.length_cons, ih, Nat.add_mul]
    omega
/-- How many bytes strings have. -/
def sumS (l : List ByteArray) : Nat := (l.map (·.size)).sum
theorem joinB_size (l : List ByteArray) (sep : ByteArray) : (joinB l sep).size = sumS l + (l.length - 1) * sep.size := by
  have hsz : (joinB l sep).size = (Lib.join (l.map (·.data.toList)) sep.data.toList).length := by simp [joinB, ByteArray.size]
  rw [hsz]
  clear hsz
  have e : ∀ s : ByteArray, s.data.toList.length = s.size := fun s => Array.length_toList
  cases l with
  | nil => simp [Lib.join_nil, sumS]
  | cons x r =>
    rw [List.map_cons, Lib.join_cons, List.length_append, joinTail_len]
    simp only [List.map_map, List.length_map, sumS, List.map_cons, List.sum_cons, List.length_cons, Nat.add_sub_cancel, e]
    have h2 : (List.length ∘ fun x : ByteArray => x.data.toList) = fun x => x.size := funext fun s => e s
    rw [h2]
    omega
theorem sumS_le {l : List ByteArray} {c : Nat} (h : ∀ i : Nat, (l[i]?.getD .empty).size ≤ c) : sumS l ≤ l.length * c := by
  induction l with
  | nil => simp [sumS]
  | cons x l ih =>
    have h0 := h 0
    have := ih fun i => by simpa using h (i + 1)
    simp only [List.getElem?_cons_zero, Option.getD_some] at h0
    simp only [sumS, List.map_cons, List.sum_cons, List.length_cons, Nat.add_mul, Nat.one_mul] at this ⊢
    omega
theorem join_ok : Sound Tryd.prog 79 φJoin := sound_join YtenldjifipnjpaaDoor.strings_Join_none YtenldjifipnjpaaDoor.strings_Join
end Go.Proofs.YtenldjifipnjpaaDoor
