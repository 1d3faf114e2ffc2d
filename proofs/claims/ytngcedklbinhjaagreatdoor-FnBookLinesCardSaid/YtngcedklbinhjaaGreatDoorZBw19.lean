/- What the proof rests on, part 19: contracts of functions. No condition beyond what each states. -/
import Derived.Test.YtngcedklbinhjaaGreatDoorZBw18
namespace Go.Proofs.YtngcedklbinhjaaGreatDoor
open Go.RowKit
set_option linter.all false
theorem map_app' {α β : Type} {f : α → β} {l l' : List α} : l.map f ++ l'.map f = (l ++ l').map f := List.map_append.symm
theorem aCu {a b : Nat} (h : a ≤ b) : min a b = a := Nat.min_eq_left h
attribute [push_cast]
 map_app' aCu List.take_length
theorem aji {s : ByteArray} : (atv s).take s.size = atv s := List.take_of_length_le (by rw [sK]; exact Nat.le_refl _)
attribute [push_cast]
 aji
theorem aB7 {Φ : fG} {ob : aF} {nx : Nat} {u : Value} {k : Bool} {sz : Nat} {α : Type} {g : α → Value} {l : List α} : qH Φ ob nx [.agg [.val u, .lst k sz (l.map fun x => PV.val (g x))]] = ioR [] ob nx (Φ [.agg [.val u, .lst k sz (l.map fun x => PV.val (g x))]] []) :=
 uq rfl (by simp only [mapM_cons', mapM_nil', fC, mO, iU, kr]; rfl)
attribute [push_cast]
 aB7
def aze (sz : Nat) : PV → PV
 | .agg cs => .agg (cs.map (nrm sz))
 | p => nrm sz p
theorem aq3 (sz : Nat) (p : PV) : p.le (aze sz p) := by
 unfold aze
 split
 ·exact ayS (abu sz _)
 ·exact anm sz p
theorem aeh (sz : Nat) : ∀ ps : List PV, leL ps (ps.map (aze sz))
 | [] => trivial
 | p :: ps => ⟨aq3 sz p, aeh sz ps⟩
def atn (sz : Nat) (φ : Fun) : Fun := fun ps => φ (ps.map (aze sz))
theorem Sound.atn {P : Program} {f : Nat} {φ : Fun} (h : Sound P f φ) (sz : Nat) : Sound P f (Proofs.YtngcedklbinhjaaGreatDoor.atn sz φ) :=
 h.weak fun ps r hr => ⟨_, r, aeh sz ps, hr, PV.le_refl _⟩
end Go.Proofs.YtngcedklbinhjaaGreatDoor
namespace Go.Proofs.YtngcedklbinhjaaGreatDoor
open Go.RowKit
set_option linter.all false
section
variable {Φ : fG} {ob : aF} {nx o sz i n : Nat} {u u2 v v2 v3 : Value}
theorem ay5 : qH Φ ob nx [.agg [.val u, .row o sz i n], .val v] = oM Φ ob nx o [.agg [.val u, .row 0 sz i n], .val v] (ob o) := jI (by simp [refsOf, dedup]) (by simp only [mapM_cons', mapM_nil', fC, mO, mY, iU, jD]; rfl)
theorem av0 : qH Φ ob nx [.agg [.val u, .row o sz i n], .val v, .val v2, .val v3] = oM Φ ob nx o [.agg [.val u, .row 0 sz i n], .val v, .val v2, .val v3] (ob o) := jI (by simp [refsOf, dedup]) (by simp only [mapM_cons', mapM_nil', fC, mO, mY, iU, jD]; rfl)
theorem avr : qH Φ ob nx [.agg [.val u, .val u2], .val v] = ioR [] ob nx (Φ [.agg [.val u, .val u2], .val v] []) := uq rfl rfl
end
attribute [push_cast]
 ay5 av0 avr
end Go.Proofs.YtngcedklbinhjaaGreatDoor
namespace Go.Proofs.YtngcedklbinhjaaGreatDoor
open Go.RowKit
set_option linter.all false
theorem aie {l : List Int} : iP (l.map fun n => .val (.int .u8 n)) = some l := by
 induction l with
 | nil => rfl
 | cons x l ih => simp_all [iP]
attribute [push_cast]
 aie
theorem anU {a b : ByteArray} (h : a.data.toList = b.data.toList) : a = b := by
 obtain ⟨⟨a⟩⟩ := a
 obtain ⟨⟨b⟩⟩ := b
 simp only at h
 rw [h]
end Go.Proofs.YtngcedklbinhjaaGreatDoor
namespace Go.Proofs.YtngcedklbinhjaaGreatDoor
open Go.RowKit
set_option linter.all false
def j6 (c : UInt8) : List UInt8 → List (List UInt8)
 | [] => [[]]
 | b :: l => if b = c then [] :: j6 c l else match j6 c l with
  | h :: t => (b :: h) :: t
  | [] => [[b]]
theorem agP (c : UInt8) : ∀ s, j6 c s ≠ []
 | [] => by simp [j6]
 | b :: l => by
  unfold j6
  split
  ·simp
  ·split <;> simp
theorem alS (c : UInt8) (l : List UInt8) : Lib.index (c :: l) [c] = 0 := by simp [Lib.index, List.isPrefixOf]
theorem adR {b c : UInt8} (l : List UInt8) (h : ¬ b = c) : Lib.index (b :: l) [c] = if Lib.index l [c] == -1 then -1 else Lib.index l [c] + 1 := by
 have hp : ([c] : List UInt8).isPrefixOf (b :: l) = false := by
  have : ¬ c = b := fun e => h e.symm
  simp [List.isPrefixOf, this]
 rw [Lib.index, hp]
 simp
theorem ag8 {b c : UInt8} (l : List UInt8) (h : ¬ b = c) : ∀ k, ∃ h0 t, Lib.splitK [c] 0 k l = h0 :: t ∧ Lib.splitK [c] 0 k (b :: l) = (b :: h0) :: t
 | 0 => ⟨l, [], rfl, rfl⟩
 | k + 1 => by
  by_cases hi : Lib.index l [c] = -1
  ·refine ⟨l, [], ?_, ?_⟩
   ·unfold Lib.splitK
    rw [if_pos (beq_iff_eq.2 hi)]
   ·unfold Lib.splitK
    rw [adR l h, if_pos (beq_iff_eq.2 hi)]
    rfl
  ·have hge := Lib.index_ge l [c]
   have h1 : ¬ (Lib.index l [c] == -1) = true := fun e => hi (beq_iff_eq.1 e)
   have h2 : ¬ (Lib.index l [c] + 1 == -1) = true := fun e => by have := beq_iff_eq.1 e; omega
   refine ⟨l.take ((Lib.index l [c]).toNat + 0), Lib.splitK [c] 0 k (l.drop ((Lib.index l [c]).toNat + 1)), ?_, ?_⟩
   ·conv => lhs; unfold Lib.splitK
    rw [if_neg h1]
    rfl
   ·conv => lhs; unfold Lib.splitK
    rw [adR l h, if_neg h1, if_neg h2, show (Lib.index l [c] + 1).toNat = (Lib.index l [c]).toNat + 1 by omega]
    rfl
theorem adN (c : UInt8) : ∀ s : List UInt8, Lib.splitK [c] 0 (Lib.count s [c]) s = j6 c s
 | [] => by
  rw [Lib.count_one]
  rfl
 | b :: l => by
  have ih := adN c l
  by_cases h : b = c
  ·subst h
   rw [Lib.count_cons_eq, Nat.add_comm]
   unfold j6
   conv => lhs; unfold Lib.splitK
   rw [alS, if_neg (by decide), if_pos rfl, ← ih]
   rfl
  ·rw [Lib.count_cons_ne b c l h]
   obtain ⟨h0, t, e1, e2⟩ := ag8 l h (Lib.count l [c])
   rw [e2]
   unfold j6
   rw [if_neg h, ← ih, e1]
def fV : List UInt8 → List UInt8 → List (List UInt8)
 | [], w => if w = [] then [] else [w]
 | b :: l, w => if b = 32 then (if w = [] then [] else [w]) ++ fV l [] else fV l (w ++ [b])
def atM (w : List UInt8) : List (List UInt8) → List (List UInt8)
 | h :: t => (w ++ h) :: t
 | [] => []
theorem adz (l : List (List UInt8)) : atM [] l = l := by cases l <;> rfl
theorem mD : ∀ (s w : List UInt8), (atM w (j6 32 s)).filter (fun x => decide (x ≠ [])) = fV s w
 | [], w => by
  by_cases h : w = [] <;> simp [j6, atM, fV, h]
 | b :: l, w => by
  by_cases h : b = 32
  ·subst h
   have ih := mD l []
   rw [adz] at ih
   unfold j6 fV
   rw [if_pos rfl, if_pos rfl, ← ih]
   by_cases hw : w = [] <;> simp [atM, hw]
  ·have ih := mD l (w ++ [b])
   unfold j6 fV
   rw [if_neg h, if_neg h, ← ih]
   have hne := agP 32 l
   generalize j6 32 l = L at *
   cases L with
   | nil => exact absurd rfl hne
   | cons x t => simp [atM]
def jk (s : List UInt8) : List UInt8 := if Lib.hasSuffix s [45] then s.take (s.length - 1) else s ++ [32]
def eU : List (List UInt8) → List UInt8
 | [] => []
 | s :: l => jk s ++ eU l
theorem aa8 (s : ByteArray) : ((Lib.splitB ⟨#[32]⟩ 0 (Lib.countB s ⟨#[32]⟩) s).filter fun x => decide (x.data.toList ≠ [])).map (·.data.toList) = fV s.data.toList [] := by
 have h := mD s.data.toList []
 rw [adz, ← adN] at h
 rw [← h]
 have e := Lib.splitB_data ⟨#[32]⟩ 0 (Lib.countB s ⟨#[32]⟩) s
 have e2 : Lib.splitK [32] 0 (Lib.count s.data.toList [32]) s.data.toList = (Lib.splitB ⟨#[32]⟩ 0 (Lib.countB s ⟨#[32]⟩) s).map (·.data.toList) := e.symm
 rw [e2, List.filter_map]
 rfl
theorem aeu (l : List UInt8) (z : UInt8) : Lib.hasSuffix (l ++ [z]) [45] = decide (z = 45) := by
 unfold Lib.hasSuffix List.isSuffixOf
 rw [List.reverse_append]
 by_cases h : z = 45
 ·subst h; simp [List.isPrefixOf]
 ·have h2 : ¬ (45 : UInt8) = z := fun e => h e.symm
  simp [List.isPrefixOf, h, h2]
end Go.Proofs.YtngcedklbinhjaaGreatDoor
namespace Go.Proofs.YtngcedklbinhjaaGreatDoor
open Go.RowKit
set_option linter.all false
abbrev azT : It := (2, 4, 3, 1, 0, 0, false)
abbrev azk : It := (3, 3, 0, 0, 0, 50, true)
abbrev pW : List It := [(3, 0, 0, 0, 0, 10000, false), (2, 0, 1, 0, 1, 0, false), (3, 0, 0, 0, 0, -10000, false)]
def itT (x : It) (tx : LS) (i : Nat) : List UInt8 := if x.kd = 1 then (tx[i]?.getD .empty).data.toList else if x.kd = 2 ∧ 0 < x.wd then [32] else []
def stL : List It → LS → Nat → List UInt8
 | [], _, _ => []
 | x :: l, tx, i => itT x tx i ++ stL l tx (if x.kd = 1 then i + 1 else i)
theorem ajP (x : It) (l : List It) : nb (x :: l) = (if x.kd = 1 then 1 else 0) + nb l := by
 unfold nb
 by_cases h : x.kd = 1
 ·rw [if_pos h, List.filter_cons_of_pos (by simpa using h), List.length_cons]; omega
 ·rw [if_neg h, List.filter_cons_of_neg (by simpa using h)]; omega
theorem oo : ∀ (l l' : List It) (tx : LS) (i : Nat), stL (l ++ l') tx i = stL l tx i ++ stL l' tx (i + nb l)
 | [], l', tx, i => rfl
 | x :: l, l', tx, i => by
  rw [List.cons_append, stL, stL, oo l l', List.append_assoc, ajP]
  split <;> (congr 3; omega)
theorem oG : ∀ (l : List It) (tx tx' : LS) (i i' : Nat), (∀ j, j < nb l → tx[i + j]?.getD .empty = tx'[i' + j]?.getD .empty) → stL l tx i = stL l tx' i'
 | [], _, _, _, _, _ => rfl
 | x :: l, tx, tx', i, i', h => by
  rw [ajP] at h
  rw [stL, stL]
  by_cases hk : x.kd = 1
  ·rw [if_pos hk] at h
   rw [if_pos hk, if_pos hk]
   have h0 := h 0 (by omega)
   simp only [Nat.add_zero] at h0
   congr 1
   ·unfold itT
    rw [if_pos hk, if_pos hk, h0]
   ·refine oG l tx tx' (i + 1) (i' + 1) fun j hj => ?_
    have := h (j + 1) (by omega)
    rw [show i + 1 + j = i + (j + 1) by omega, show i' + 1 + j = i' + (j + 1) by omega]
    exact this
  ·rw [if_neg hk] at h
   rw [if_neg hk, if_neg hk]
   congr 1
   ·unfold itT
    rw [if_neg hk, if_neg hk]
   ·exact oG l tx tx' i i' fun j hj => h j (by omega)
def stI (l : List It) (tx : LS) (n : Nat) : List UInt8 := stL (l.take n) tx 0
theorem adK {l : List It} {tx : LS} {n : Nat} (h : n < l.length) : stI l tx (n + 1) = stI l tx n ++ itT (gI l n) tx (nbX l n) := by
 unfold stI
 rw [List.take_succ_eq_append_getElem h, oo]
 have e : gI l n = l[n] := by unfold gI; rw [List.getElem?_eq_getElem h, Option.getD_some]
 rw [e, stL, stL, List.append_nil, Nat.zero_add]
 rfl
theorem aej {l : List It} {tx : LS} {a : Nat} (hk : (gI l a).kd = 1) (htx : ∀ k, k < nb l → 1 ≤ (tx[k]?.getD .empty).size) : ∀ j, a + j ≤ l.length → stI l tx (a + j) = stI l tx a ++ (lnT l tx a j).data.toList ∧ (0 < j → 1 ≤ (lnT l tx a j).size)
 | 0, _ => ⟨by simp [lnT], fun h => by omega⟩
 | j + 1, h => by
  obtain ⟨h1, h2⟩ := aej hk htx j (by omega)
  rw [← Nat.add_assoc, adK (by omega), h1, lnT, List.append_assoc]
  have hsz : ∀ (s t : ByteArray), (s ++ t).data.toList = s.data.toList ++ t.data.toList := fun s t => by rw [ByteArray.data_append, Array.toList_append]
  by_cases k1 : (gI l (a + j)).kd = 1
  ·rw [ai8 k1, hsz]
   unfold itT
   rw [if_pos k1]
   refine ⟨rfl, fun _ => ?_⟩
   have := htx _ (ado (by omega) k1)
   rw [ByteArray.size_append]
   omega
  ·have hj : 0 < j := by
    rcases Nat.eq_zero_or_pos j with h0 | h0
    ·subst h0; exact absurd hk k1
    ·exact h0
   have hs := h2 hj
   unfold itT
   rw [if_neg k1]
   by_cases k2 : (gI l (a + j)).kd = 2 ∧ 0 < (gI l (a + j)).wd
   ·rw [if_pos k2, aiS ⟨k2.1, k2.2, adC hs⟩, hsz]
    refine ⟨rfl, fun _ => ?_⟩
    rw [ByteArray.size_append]
    omega
   ·rw [if_neg k2, ajk k1 (fun q => k2 ⟨q.1, q.2.1⟩), List.append_nil]
    exact ⟨rfl, fun _ => hs⟩
def ng : List It → Prop
 | [] => True
 | x :: l => (x.kd = 1 ∨ ((x = azT ∨ x = azk) ∧ ∃ y l', l = y :: l' ∧ y.kd = 1)) ∧ ng l
theorem ng.app : ∀ {l l' : List It}, ng l → ng l' → ng (l ++ l')
 | [], _, _, h => h
 | x :: l, l', h, h' => by
  refine ⟨?_, ng.app h.2 h'⟩
  rcases h.1 with h1 | ⟨h1, y, l2, h2, h3⟩
  ·exact .inl h1
  ·exact .inr ⟨h1, y, l2 ++ l', by rw [h2]; rfl, h3⟩
theorem ng.at_ : ∀ {l : List It} {n : Nat}, ng l → n < l.length → (gI l n).kd = 1 ∨ ((gI l n = azT ∨ gI l n = azk) ∧ n + 1 < l.length ∧ (gI l (n + 1)).kd = 1)
 | x :: l, 0, h, _ => by
  rcases h.1 with h1 | ⟨h1, y, l2, h2, h3⟩
  ·exact .inl h1
  ·subst h2
   exact .inr ⟨h1, by simp, h3⟩
 | x :: l, n + 1, h, hn => by
  have := ng.at_ (l := l) (n := n) h.2 (by simpa using hn)
  rcases this with h1 | ⟨h1, h2, h3⟩
  ·exact .inl h1
  ·exact .inr ⟨h1, by simpa using h2, h3⟩
 | [], n, _, h => by simp at h
def aDe (l : List It) : Prop := ∃ y l', l = y :: l' ∧ y.kd = 1
theorem ad2 (ps : LS) : ∀ k, ng (wiK ps k) ∧ (0 < k → aDe (wiK ps k))
 | 0 => ⟨trivial, fun h => by omega⟩
 | k + 1 => by
  obtain ⟨h1, h2⟩ := ad2 ps k
  rw [wiK]
  have hb : ng [((1 : Int), nR (ps[k]?.getD .empty), (0 : Int), (0 : Int), (0 : Int), (0 : Int), false)] := ⟨.inl rfl, trivial⟩
  by_cases hk : k = 0
  ·subst hk
   exact ⟨⟨.inl rfl, trivial⟩, fun _ => ⟨_, _, rfl, rfl⟩⟩
  ·rw [if_neg hk]
   obtain ⟨y, l', hy1, hy2⟩ := h2 (by omega)
   refine ⟨?_, fun _ => ?_⟩
   ·rw [List.append_assoc]
    exact ng.app h1 ⟨.inr ⟨.inr rfl, _, _, rfl, rfl⟩, hb⟩
   ·rw [hy1]
    exact ⟨y, _, rfl, hy2⟩
theorem adk {ws pats : LS} (h1 : bX ws = true) (h2 : bT pats = true) : ∀ k, k ≤ ws.length → ng (piK ws pats k) ∧ (0 < k → aDe (piK ws pats k))
 | 0, _ => ⟨trivial, fun h => by omega⟩
 | k + 1, hk => by
  obtain ⟨g1, g2⟩ := adk h1 h2 k (by omega)
  have hp := vo (pats := pats) (mX h1 (k := k) (by omega)) h2
  obtain ⟨w1, w2⟩ := ad2 (dD (ws[k]?.getD .empty) pats) (dD (ws[k]?.getD .empty) pats).length
  have w2 := w2 hp
  rw [piK]
  by_cases h0 : k = 0
  ·subst h0
   exact ⟨w1, fun _ => w2⟩
  ·rw [if_neg h0]
   obtain ⟨y, l', hy1, hy2⟩ := g2 (by omega)
   refine ⟨?_, fun _ => ?_⟩
   ·rw [List.append_assoc]
    exact ng.app g1 ⟨.inr ⟨.inl rfl, w2⟩, w1⟩
   ·rw [hy1]
    exact ⟨y, _, rfl, hy2⟩
theorem acG {l l' : List It} {n : Nat} (h : n < l.length) : gI (l ++ l') n = gI l n := by
 unfold gI
 rw [List.getElem?_append_left h]
theorem rW {l l' : List It} {n : Nat} : gI (l ++ l') (l.length + n) = gI l' n := by
 unfold gI
 rw [List.getElem?_append_right (by omega), Nat.add_sub_cancel_left]
theorem ai2 {P : List It} (hg : ng P) {n : Nat} (hn : n < (P ++ pW).length) (hb : lJ (P ++ pW) n = true) : n + 1 = (P ++ pW).length ∨ ((gI (P ++ pW) n = azT ∨ gI (P ++ pW) n = azk) ∧ n + 1 < (P ++ pW).length ∧ (gI (P ++ pW) (n + 1)).kd = 1) := by
 have hlen : (P ++ pW).length = P.length + 3 := by simp
 rw [hlen] at hn ⊢
 by_cases h : n < P.length
 ·have h1 := hg.at_ h
  rw [acG h]
  rcases h1 with h1 | ⟨h1, h2, h3⟩
  ·unfold lJ at hb
   rw [acG h, if_neg (by omega), decide_eq_true_eq] at hb
   omega
  ·rw [acG h2]
   exact .inr ⟨h1, by omega, h3⟩
 ·obtain ⟨i, rfl⟩ : ∃ i, n = P.length + i := ⟨n - P.length, by omega⟩
  have h3 : i < 3 := by omega
  match i, h3 with
  | 0, _ =>
   unfold lJ at hb
   rw [rW, if_neg (show ¬ (gI pW 0).kd = 2 by decide), decide_eq_true_eq] at hb
   exact absurd hb.2 (by decide)
  | 1, _ =>
   unfold lJ at hb
   rw [rW, if_pos (show (gI pW 1).kd = 2 from rfl), decide_eq_true_eq, show P.length + 1 - 1 = P.length + 0 by omega, rW] at hb
   exact absurd hb.2 (by decide)
  | 2, _ => exact .inl (by omega)
theorem agB (ps : LS) (s : ByteArray) : xk (ps ++ [s]) = xk ps ++ s.data.toList := by simp [xk]
theorem anh (ps : LS) : ∀ k, k ≤ ps.length → stL (wiK ps k) ps 0 = xk (ps.take k)
 | 0, _ => rfl
 | k + 1, h => by
  have ih := anh ps k (by omega)
  have hb : ∀ i, i = k → stL [((1 : Int), nR (ps[k]?.getD .empty), (0 : Int), (0 : Int), (0 : Int), (0 : Int), false)] ps i = (ps[k]?.getD .empty).data.toList := fun i e => by
   subst e
   rw [stL, stL, List.append_nil]
   exact if_pos rfl
  have ht : xk (ps.take (k + 1)) = xk (ps.take k) ++ (ps[k]?.getD .empty).data.toList := by
   rw [List.take_succ_eq_append_getElem (by omega), agB, List.getElem?_eq_getElem (by omega), Option.getD_some]
  rw [wiK, oo, ht]
  by_cases h0 : k = 0
  ·rw [if_pos h0, ih, hb _ (by rw [ald]; omega)]
  ·rw [if_neg h0, oo, ih, hb _ (by rw [tZ, ald, show nb [((3 : Int), (3 : Int), (0 : Int), (0 : Int), (0 : Int), (50 : Int), true)] = 0 from by decide]; omega)]
   have : stL [azk] ps (0 + nb (wiK ps k)) = [] := rfl
   rw [this, List.append_nil]
theorem aiV {w : ByteArray} {pats : LS} (h1 : eB w = true) (h2 : bT pats = true) : xk (dD w pats) = w.data.toList := by
 unfold dD
 rw [if_pos (jH.2 ⟨h1, h2⟩)]
 exact asJ (lV (pats := pats) h1) (aW h1).2.1
theorem oV {s : ByteArray} (h : eB s = true) : s.data.toList ≠ [] ∧ ∀ b ∈ s.data.toList, ¬ b = 32 := by
 have hs := (aW h).2.1
 refine ⟨fun e => ?_, fun b hb e => ?_⟩
 ·have : s.data.toList.length = s.size := Array.length_toList
  rw [e] at this
  simp at this
  omega
 ·obtain ⟨i, hi, rfl⟩ := List.getElem_of_mem hb
  have hi2 : i < s.size := by simpa using hi
  unfold eB at h
  rw [Bool.and_eq_true, List.all_eq_true] at h
  have h1 := aj.1 (h.1 i (List.mem_range.2 hi2))
  have h2 : at8 s i = (s.data.toList[i].toNat : Int) := by
   unfold at8
   rw [getElem?_pos s i hi2]
   rfl
  rw [h2, e] at h1
  exact absurd h1.1 (by decide)
theorem ads : ∀ (w r acc : List UInt8), (∀ b ∈ w, ¬ b = 32) → fV (w ++ r) acc = fV r (acc ++ w)
 | [], r, acc, _ => by simp
 | b :: w, r, acc, h => by
  rw [List.cons_append, fV, if_neg (h b (by simp)), ads w r (acc ++ [b]) (fun c hc => h c (by simp [hc]))]
  simp
theorem aek {w r : List UInt8} (h : ∀ b ∈ w, ¬ b = 32) (h0 : w ≠ []) : fV (w ++ 32 :: r) [] = w :: fV r [] := by
 rw [ads w _ _ h, List.nil_append, fV, if_pos rfl]
 cases w with
 | nil => exact absurd rfl h0
 | cons b w => rfl
def jnB (ws : LS) : Nat → List UInt8
 | 0 => []
 | k + 1 => (if k = 0 then [] else jnB ws k ++ [32]) ++ (ws[k]?.getD .empty).data.toList
theorem anD {ws pats : LS} (h1 : bX ws = true) (h2 : bT pats = true) : ∀ k, k ≤ ws.length → stL (piK ws pats k) (txK ws pats k) 0 = jnB ws k
 | 0, _ => rfl
 | k + 1, hk => by
  have ih := anD h1 h2 k (by omega)
  have hnb := alj ws pats k
  have hfst : stL (piK ws pats k) (txK ws pats (k + 1)) 0 = jnB ws k := by
   rw [← ih]
   refine oG _ _ _ _ _ fun j hj => ?_
   rw [txK, Nat.zero_add, List.getElem?_append_left (by omega)]
  have hlst : ∀ i, i = nb (piK ws pats k) → stL (wiR (ws[k]?.getD .empty) pats) (txK ws pats (k + 1)) i = (ws[k]?.getD .empty).data.toList := fun i e => by
   rw [← aiV (mX h1 (k := k) (by omega)) h2]
   have := anh (dD (ws[k]?.getD .empty) pats) _ (Nat.le_refl _)
   rw [List.take_length] at this
   rw [← this]
   refine oG _ _ _ _ _ fun j hj => ?_
   rw [txK, e, hnb, List.getElem?_append_right (by omega), Nat.add_sub_cancel_left, Nat.zero_add]
  rw [piK, jnB, oo]
  by_cases h0 : k = 0
  ·rw [if_pos h0, if_pos h0, hfst, hlst _ (by rw [Nat.zero_add])]
   subst h0
   rfl
  ·rw [if_neg h0, if_neg h0, oo, hfst, hlst _ (by rw [tZ, Nat.zero_add, show nb [((2 : Int), (4 : Int), (3 : Int), (1 : Int), (0 : Int), (0 : Int), false)] = 0 from by decide, Nat.add_zero])]
   rfl
theorem aqn {ws pats : LS} (h1 : bX ws = true) (h2 : bT pats = true) : stI (piR ws pats) (txR ws pats) (piR ws pats).length = jnB ws ws.length := by
 unfold stI
 rw [List.take_length]
 unfold piR txR
 rw [oo, anD h1 h2 _ (Nat.le_refl _)]
 exact List.append_nil _
theorem y8 {ws : LS} (h : bX ws = true) : ∀ k, k < ws.length → ∀ r, fV (jnB ws (k + 1) ++ 32 :: r) [] = (ws.take (k + 1)).map (·.data.toList) ++ fV r []
 | 0, hk, r => by
  have hw := mX h hk
  rw [jnB, if_pos rfl, List.nil_append, aek (oV hw).2 (oV hw).1, List.take_succ_eq_append_getElem hk, List.getElem?_eq_getElem hk, Option.getD_some]
  rfl
 | k + 1, hk, r => by
  have hw := mX h hk
  rw [jnB, if_neg (by omega), List.append_assoc, List.append_assoc, List.singleton_append, y8 h k (by omega), aek (oV hw).2 (oV hw).1, List.take_succ_eq_append_getElem hk, List.map_append, List.append_assoc, List.getElem?_eq_getElem hk, Option.getD_some]
  rfl
theorem qx : ∀ (a b : List (List UInt8)), eU (a ++ b) = eU a ++ eU b
 | [], b => rfl
 | s :: a, b => by rw [List.cons_append, eU, eU, qx a b, List.append_assoc]
theorem amm (t : List UInt8) : jk (t ++ [45]) = t := by
 unfold jk
 rw [aeu, if_pos (by decide)]
 simp
theorem adg {t : List UInt8} (h : ∀ b ∈ t, ¬ b = 45) : jk t = t ++ [32] := by
 rcases List.eq_nil_or_concat t with h0 | ⟨t', z, h0⟩
 ·subst h0; rfl
 ·rw [List.concat_eq_append] at h0
  subst h0
  unfold jk
  rw [aeu, if_neg]
  have := h z (by simp)
  simpa using this
theorem ac8 {P : List It} {tx : LS} {br : List Int} (hg : ng P) (hf : aDe P) (hb : ao9 (P ++ pW) br) (htx : ∀ k, k < nb (P ++ pW) → 1 ≤ (tx[k]?.getD .empty).size) (hno : ∀ k : Nat, anr (tx[k]?.getD .empty)) : ∀ k, k ≤ br.length →
  (k < br.length → (gI (P ++ pW) (frB br k)).kd = 1 ∧ eU ((nk (P ++ pW) tx br k).map (·.data.toList)) = stI (P ++ pW) tx (frB br k)) ∧
  (frB br k = (P ++ pW).length → eU ((nk (P ++ pW) tx br k).map (·.data.toList)) = stI (P ++ pW) tx (frB br k) ++ [32])
 | 0, _ => by
  obtain ⟨y, l', hy1, hy2⟩ := hf
  refine ⟨fun _ => ⟨?_, rfl⟩, fun h => ?_⟩
  ·subst hy1; exact hy2
  ·subst hy1
   exact absurd h (by show ¬ 0 = _; simp)
 | k + 1, hk => by
  obtain ⟨ih, -⟩ := ac8 hg hf hb htx hno k (by omega)
  obtain ⟨hk1, ih⟩ := ih (by omega)
  obtain ⟨b1, b2, b3, b4⟩ := hb.at_ (k := k) (by omega)
  have hq := (gy.1 (hb.2 k (by omega)).2).2.1
  have hfs := rX br k
  have hnx : k + 1 < br.length → frB br (k + 1) < (P ++ pW).length := fun h => by
   obtain ⟨c1, c2, c3, -⟩ := hb.at_ h
   omega
  have hlk : nk (P ++ pW) tx br (k + 1) = nk (P ++ pW) tx br k ++ [lnR (P ++ pW) tx (frB br k) (br[k]?.getD 0).toNat] := rfl
  generalize (br[k]?.getD 0).toNat = en at *
  have hcs := ai2 hg b3 hq
  have hlast : en + 1 = (P ++ pW).length → gI (P ++ pW) en = (3, 0, 0, 0, 0, -10000, false) := fun h => by
   have hlen : (P ++ pW).length = P.length + 3 := by simp
   rw [show en = P.length + 2 by omega, rW]
   rfl
  rw [hlk, hfs]
  rw [hfs] at hnx
  generalize frB br k = a at *
  have hst := (aej hk1 htx (en - a) (by omega)).1
  rw [show a + (en - a) = en by omega] at hst
  have hnoL : ∀ b ∈ (lnT (P ++ pW) tx a (en - a)).data.toList, ¬ b = 45 := ad6 hno _
  have hsu := adK (tx := tx) b3
  rw [List.map_append, qx, ih, hsu, hst]
  have hone : eU ([lnR (P ++ pW) tx a en].map (·.data.toList)) = jk (lnR (P ++ pW) tx a en).data.toList := by
   show jk _ ++ [] = _
   rw [List.append_nil]
  rw [hone]
  unfold lnR
  rcases hcs with h1 | ⟨h1 | h1, h2, h3⟩
  ·refine ⟨fun h => absurd (hnx h) (by omega), fun _ => ?_⟩
   rw [hlast h1, if_neg (by decide), adg hnoL]
   show _ = (_ ++ []) ++ _
   rw [List.append_nil, List.append_assoc]
  ·refine ⟨fun _ => ⟨h3, ?_⟩, fun h => absurd h (by omega)⟩
   rw [h1, if_neg (by decide), adg hnoL, ← List.append_assoc]
   rfl
  ·refine ⟨fun _ => ⟨h3, ?_⟩, fun h => absurd h (by omega)⟩
   rw [h1, if_pos rfl, ByteArray.data_append, Array.toList_append]
   show _ ++ jk (_ ++ [45]) = (_ ++ _) ++ []
   rw [amm, List.append_nil]
theorem adf {l : List It} {wd most : Int} (hl : bM l = true) (hm : most ≤ 10000) : ∀ (f a : Nat) (lk : Int), a < l.length → l.length - a < f → (aX l wd most a lk).isSome = true → ((bkF l wd most f a lk).getLastD 0).toNat + 1 = l.length
 | 0, a, lk, h, hf, _ => by omega
 | f + 1, a, lk, h, hf, hs => by
  obtain ⟨r, hr⟩ := Option.isSome_iff_exists.1 hs
  obtain ⟨x, c0, hx, -⟩ := mU h hr
  obtain ⟨h1, h2⟩ := eD hl hm (by omega) hr
  obtain ⟨h3, -⟩ := h2 h
  rw [mQ (by omega) hr]
  by_cases he : r.2.1 + 1 = l.length
  ·rw [he, vH]
   show ((r.2.1 : Int)).toNat + 1 = _
   omega
  ·have ih := adf (wd := wd) hl hm f (r.2.1 + 1) r.2.2 (by omega) (by omega) (by rw [hx]; rfl)
   have hp := yC (wd := wd) (most := most) (lk := r.2.2) (f := f - 1) (a := r.2.1 + 1) (l := l) (by omega) (by rw [hx]; rfl)
   rw [show f - 1 + 1 = f by omega] at hp
   cases hb : bkF l wd most f (r.2.1 + 1) r.2.2 with
   | nil => rw [hb] at hp; simp at hp
   | cons y t =>
    rw [hb] at ih
    exact ih
theorem akK {l : List It} {wd most : Int} (h : jO l wd most = true) : frB (dN l wd most) (dN l wd most).length = l.length := by
 obtain ⟨h1, h2, -, h4, h5⟩ := gu.1 h
 have hp : 0 < (dN l wd most).length := yC h2 h5
 have hl := adf (wd := wd) h1 h4.2 (l.length + 1) 0 1 h2 (by omega) h5
 unfold frB
 rw [if_neg (by omega)]
 have : (dN l wd most)[(dN l wd most).length - 1]?.getD 0 = (dN l wd most).getLastD 0 := by
  rw [← List.getLast?_eq_getElem?, List.getLastD_eq_getLast?]
 rw [this]
 exact hl
theorem abU {ws pats : LS} {wd most : Int} (h : lC ws pats wd most = true) (r : List UInt8) : fV (eU ((nQ ws pats wd most).map (·.data.toList)) ++ r) [] = ws.map (·.data.toList) ++ fV r [] := by
 unfold nQ
 rw [if_pos h]
 unfold lC at h
 rw [Bool.and_eq_true] at h
 obtain ⟨h1, h2⟩ := h
 have hV : piV ws pats = piR ws pats := if_pos h1
 rw [hV] at h2
 obtain ⟨p1, p2, p3, -⟩ := pJ.1 h1
 obtain ⟨g1, g2⟩ := adk p1 p2 ws.length (Nat.le_refl _)
 obtain ⟨hB, -, -, hm, -⟩ := gu.1 h2
 have hb := aea (wd := wd) hB hm.2
 have hnb := asU ws pats
 have hls := akK h2
 have hL := (ac8 (tx := txR ws pats) g1 (g2 p3) hb (fun k hk => anp (by rw [← hnb]; exact hk)) (aqQ ws pats) _ (Nat.le_refl _)).2 hls
 have e : piK ws pats ws.length ++ pW = piR ws pats := rfl
 rw [e] at hL
 rw [hL, hls, aqn p1 p2, List.append_assoc]
 obtain ⟨n, hn⟩ : ∃ n, ws.length = n + 1 := ⟨ws.length - 1, by omega⟩
 have hj := y8 p1 n (by omega) r
 rw [← hn, List.take_length] at hj
 exact hj
theorem ajo (ws : LS) : (ws.map (·.data.toList)).map (fun b => (⟨b.toArray⟩ : ByteArray)) = ws := by
 rw [List.map_map]
 conv => rhs; rw [← List.map_id ws]
 exact List.map_congr_left fun s _ => rfl
theorem adn {p : List LS} {q : LS} {x y : Int} : ∀ k, (∀ j, j < k → lC (p[j]?.getD []) q x y = true) → ∀ r, fV (eU ((blK p q x y k).map (·.data.toList)) ++ r) [] = ((p.take k).flatten).map (·.data.toList) ++ fV r []
 | 0, _, r => by simp [blK, eU]
 | k + 1, h, r => by
  rw [blK, List.map_append, qx, List.append_assoc, adn k (fun j hj => h j (by omega)), abU (h k (by omega))]
  by_cases hk : k < p.length
  ·rw [List.take_succ_eq_append_getElem hk, List.flatten_append, List.map_append, List.getElem?_eq_getElem hk, Option.getD_some, List.append_assoc]
   simp
  ·rw [List.getElem?_eq_none (by omega), List.take_of_length_le (show p.length ≤ k + 1 by omega), List.take_of_length_le (show p.length ≤ k by omega)]
   simp
end Go.Proofs.YtngcedklbinhjaaGreatDoor
namespace Go.Proofs.YtngcedklbinhjaaGreatDoor
open Go.RowKit
set_option linter.all false
noncomputable def xB (l : LS) : LS := (fV (eU (l.map (·.data.toList))) []).map fun b => ⟨b.toArray⟩
def auQ (l : LS) : Prop := l.length ≤ 1048576 ∧ aa1 l ≤ 1048576
def azf (l R : LS) (k : Nat) (rest : List UInt8) (out : LS) (word : ByteArray) : Prop :=
 out.map (·.data.toList) ++ fV (rest ++ eU ((l.drop k).map (·.data.toList))) word.data.toList = R.map (·.data.toList)
theorem aqh {a b : LS} (h : a.map (·.data.toList) = b.map (·.data.toList)) : a = b := by
 induction a generalizing b with
 | nil => cases b with
  | nil => rfl
  | cons y b => simp at h
 | cons x a ih => cases b with
  | nil => simp at h
  | cons y b =>
   simp only [List.map_cons, List.cons.injEq] at h
   rw [anU h.1, ih h.2]
theorem ai4 {w : ByteArray} : w.data.toList = [] ↔ w = ⟨#[]⟩ := ⟨fun h => anU h, fun h => by rw [h]⟩
theorem azf.byte {l R : LS} {k : Nat} {out : LS} {word w2 : ByteArray} {b : UInt8} {r : List UInt8} (h : azf l R k (b :: r) out word) (hb : ¬ b = 32) (hw : w2.data.toList = word.data.toList ++ [b]) : azf l R k r out w2 := by
 unfold azf at h ⊢
 rw [List.cons_append] at h
 unfold fV at h
 rw [if_neg hb] at h
 rw [hw]
 exact h
end Go.Proofs.YtngcedklbinhjaaGreatDoor
namespace Go.Proofs
set_option linter.all false
def YtngcedklbinhjaaGreatDoor.tC : Go.Shelf.Ren := ⟨fun | 166 => 32 | 240 => 65 | 276 => 89 | n => n, fun | 0 => 0 | 3 => 3 | 4 => 4 | 9 => 9 | 20 => 20 | 37 => 22 | 70 => 70 | 72 => 72 | 75 => 76 | 164 => 117 | 31 => 23 | 76 => 77 | 127 => 109 | 5 => 5 | 80 => 80 | n => n, fun | n => n⟩
theorem YtngcedklbinhjaaGreatDoor.azF : Go.Proofs.Lays.n166 Tryz.prog YtngcedklbinhjaaGreatDoor.tC := {
 mixed := by kernel_rfl
 f166 := Tryz.func32.trans (congrArg some (by kernel_rfl))
 f240 := Tryz.func65.trans (congrArg some (by kernel_rfl))
 f276 := Tryz.func89.trans (congrArg some (by kernel_rfl))
 t0 := Tryz.underlying0
 a0 := Tryz.isAgg0
 z0 := Tryz.sizeOf0
 v0 := Tryz.zeroValue0
 t3 := Tryz.underlying3
 a3 := Tryz.isAgg3
 z3 := Tryz.sizeOf3
 v3 := Tryz.zeroValue3
 t4 := Tryz.underlying4
 a4 := Tryz.isAgg4
 z4 := Tryz.sizeOf4
 v4 := Tryz.zeroValue4
 t9 := Tryz.underlying9
 a9 := Tryz.isAgg9
 z9 := Tryz.sizeOf9
 v9 := Tryz.zeroValue9
 t20 := Tryz.underlying20
 a20 := Tryz.isAgg20
 z20 := Tryz.sizeOf20
 v20 := Tryz.zeroValue20
 t37 := Tryz.underlying22
 a37 := Tryz.isAgg22
 z37 := Tryz.sizeOf22
 v37 := Tryz.zeroValue22
 t70 := Tryz.underlying70
 a70 := Tryz.isAgg70
 z70 := Tryz.sizeOf70
 v70 := Tryz.zeroValue70
 t72 := Tryz.underlying72
 a72 := Tryz.isAgg72
 z72 := Tryz.sizeOf72
 v72 := Tryz.zeroValue72
 t75 := Tryz.underlying76
 a75 := Tryz.isAgg76
 z75 := Tryz.sizeOf76
 v75 := Tryz.zeroValue76
 t164 := Tryz.underlying117
 a164 := Tryz.isAgg117
 z164 := Tryz.sizeOf117
 v164 := Tryz.zeroValue117 }
theorem YtngcedklbinhjaaGreatDoor.au0 : Builder.Extra Tryz.prog YtngcedklbinhjaaGreatDoor.tC := {
 sizeBuilder := by kernel_rfl
 liesBuilder := by kernel_rfl
 t5 := Tryz.underlying5
 a5 := Tryz.isAgg5
 z5 := Tryz.sizeOf5
 v5 := Tryz.zeroValue5
 infoByte := by kernel_rfl
 cellsByte := by kernel_rfl
 sizeByte := by kernel_rfl
 neB5 := by decide }
end Go.Proofs
namespace Go.Proofs.YtngcedklbinhjaaGreatDoor
open Go.RowKit
set_option linter.all false
theorem ahG (a b : List UInt8) : Lib.byteCells (a ++ b) = Lib.byteCells a ++ Lib.byteCells b := by simp [Lib.byteCells]
theorem strCells_eq (s : ByteArray) : Lib.strCells s = Lib.byteCells s.data.toList := Lib.strCells_eq s
def ah7 (w : World) (b off : Nat) (l : LS) : Prop := ∀ (j : Nat) x, l[j]? = some x → w.cell? ⟨b, off + j, none⟩ = some (.string x)
theorem ah7.below {B : Nat} {w w' : World} {b off : Nat} {l : LS} (h : ah7 w b off l) (hB : b < B) (hb : Below B w w') : ah7 w' b off l := fun j x hj => by
 rw [hb.cell (p := ⟨b, off + j, none⟩) hB]
 exact h j x hj
theorem aaI {B b : Nat} {l : List UInt8} {s : ByteArray} {w : World} (h : Lib.IsBuilder 72 5 B b (Lib.byteCells l) w) (hlen : l.length + s.size ≤ 140737488355328) (hBw : B ≤ w.heap.size) :
  Calls Tryz.prog 32 #[.pointer (some ⟨b, 0, none⟩), .string s] w fun e w' => e = .returned (.tuple #[.int .i64 s.size, .nilIface]) ∧ Lib.IsBuilder 72 5 B b (Lib.byteCells (l ++ s.data.toList)) w' ∧ Below B w w' := by
 refine (Any.Builder_WriteString (ρ := YtngcedklbinhjaaGreatDoor.tC) YtngcedklbinhjaaGreatDoor.azF YtngcedklbinhjaaGreatDoor.au0 B b (Lib.byteCells l) s w h (by simpa [Lib.byteCells] using hlen) hBw).mono ?_
 rintro e w' ⟨rfl, h1, h2⟩
 refine ⟨rfl, .inr ?_, h2⟩
 rw [ahG, ← strCells_eq]
 exact h1
def aqP (w : World) (b off : Nat) (g : List Int) : Prop := ∀ (j : Nat) x, g[j]? = some x → w.cell? ⟨b, off + j, none⟩ = some (.int .i64 x)
theorem aqP.below {B : Nat} {w w' : World} {b off : Nat} {l : List Int} (h : aqP w b off l) (hB : b < B) (hb : Below B w w') : aqP w' b off l := fun j x hj => by
 rw [hb.cell (p := ⟨b, off + j, none⟩) hB]
 exact h j x hj
end Go.Proofs.YtngcedklbinhjaaGreatDoor
namespace Go.Proofs.YtngcedklbinhjaaGreatDoor
open Go.RowKit
set_option linter.all false
def iN (c : UInt8) (s : ByteArray) : List ByteArray := Lib.splitB ⟨#[c]⟩ 0 (Lib.countB s ⟨#[c]⟩) s
theorem rT (c : UInt8) : (1 : Nat) ≤ (⟨#[c]⟩ : ByteArray).size := by simp [ByteArray.size]
theorem uT (c : UInt8) (s : ByteArray) : (iN c s).length = Lib.countB s ⟨#[c]⟩ + 1 := Lib.splitB_all _ (rT c) 0 _ s rfl
theorem aeC (c : UInt8) (s : ByteArray) : (iN c s).length ≤ s.size + 1 := by
 rw [uT]
 have := Lib.countB_le ⟨#[c]⟩ (rT c) s.size s (Nat.le_refl _)
 omega
set_option maxHeartbeats 1000000 in
theorem ag9 (c : UInt8) (s : ByteArray) (w : World) (hs : s.size < 4294967281) : Calls Tryz.prog 33 #[.string s, .string ⟨#[c]⟩] w fun e w' =>
  e = .returned (.slice (some ⟨w.heap.size, 0, none⟩) (iN c s).length (iN c s).length) ∧ w' = w.alloc (.cells ((iN c s).map Value.string).toArray 9) := by
 have hle := Lib.countB_le ⟨#[c]⟩ (rT c) s.size s (Nat.le_refl _)
 have hpl := uT c s
 have hI : ∀ (x : ByteArray) (cs : Array Value), x.size ≤ s.size → Calls Tryz.prog 92 #[.string x, .string ⟨#[c]⟩] (w.alloc (.cells cs 9)) fun e w' => e = .returned (.int .i64 (Lib.indexB x ⟨#[c]⟩)) ∧ w' = w.alloc (.cells cs 9) := fun x cs _ =>
  (YtngcedklbinhjaaGreatDoor.strings_Index_one x c _).mono fun e w' ⟨he, hw⟩ => ⟨by rw [he]; exact congrArg (fun z => Ending.returned (Value.int .i64 z)) (Lib.index_one x.data.toList c).symm, hw⟩
 have hC : Calls Tryz.prog 91 #[.string s, .string ⟨#[c]⟩] w fun e w' => e = .returned (.int .i64 (Lib.countB s ⟨#[c]⟩)) ∧ w' = w :=
  (YtngcedklbinhjaaGreatDoor.strings_Count_one s c w).mono fun e w' ⟨he, hw⟩ => ⟨by rw [he]; exact congrArg (fun z : Nat => Ending.returned (Value.int .i64 z)) (Lib.count_one c s.data.toList).symm, hw⟩
 have hg := Any.strings_genSplit_core YtngcedklbinhjaaGreatDoor.aqe (by kernel_rfl) s ⟨#[c]⟩ 0 (-1) (Lib.countB s ⟨#[c]⟩ + 1) w hs (rT c) (Nat.zero_le _) hI hC (by decide) (by decide) (by rw [if_pos (by decide)]; omega)
 have e1 : Lib.splitB ⟨#[c]⟩ 0 (Lib.countB s ⟨#[c]⟩ + 1 - 1) s = iN c s := rfl
 have e2 : Lib.cellsOf (iN c s) (Lib.countB s ⟨#[c]⟩ + 1) = ((iN c s).map Value.string).toArray := by rw [← hpl]; exact Lib.cellsOf_full _
 rw [e1, e2, ← hpl] at hg
 clear hI hC hle hpl e1 e2
 generalize iN c s = ps at *
 go_enter Tryz.func33, Tryz.ntmps33
 go_wp2_with (go_at_call 66; refine hg.mono ?_; rintro e w' ⟨rfl, hw⟩; rw [hw])
 go_ret
 exact ⟨rfl, rfl⟩
end Go.Proofs.YtngcedklbinhjaaGreatDoor
namespace Go.Proofs.YtngcedklbinhjaaGreatDoor
open Go.RowKit
set_option linter.all false
theorem alM {J : Bool → Nat → Prop} {w w' : World} {e n : Nat} {v : Value} {l : List ByteArray} (hn : 0 < n) (hl : l.length = n) (hJ : ∀ k b, J k b → b < w.heap.size) (h : w'.ownsRow w.heap.size e 1 v n (l.map Value.string)) :
  ∃ b κ, w.heap.size ≤ b ∧ uz (addN J fun _ => False) w' (fun _ => b) (fun _ => κ) [(e, 1, l.map fun n => .val (.string n))] ∧ Rep (kY (addN J fun _ => False) (fun _ => b) (fun _ => κ) 1) w' (.row 0 1 0 n) v := by
 obtain ⟨h0, h1⟩ := h
 rcases h1 with ⟨rfl, h1⟩ | ⟨b, cap, cur, rfl, h2, h3, h4, h5, h6, h7⟩
 ·omega
 ·rw [Nat.mul_one] at h6 h7
  refine ⟨b, cur.size, h2, ⟨fun o ho => ⟨lt_of_heap h3, fun k hk => ?_⟩, fun o o' ho ho' _ => by simp at ho ho'; omega, fun o cc hc => ?_⟩, ?_⟩
  ·rcases hk with hk | ⟨_, hk⟩
   ·have := hJ k _ hk
    omega
   ·exact hk
  ·have ho : o = 0 := by have := (List.getElem?_eq_some_iff.1 hc).1; simp at this; exact this
   subst ho
   simp only [List.getElem?_cons_zero, Option.some.injEq] at hc
   subst hc
   refine ⟨⟨cur, h3, rfl⟩, by simp [kY]; omega, ?_⟩
   refine dx.of fun i x hx => ?_
   rw [List.getElem?_map, Option.map_eq_some_iff] at hx
   obtain ⟨y, hy, rfl⟩ := hx
   refine ⟨.string y, by simp [Rep], ⟨by simp [Value.cells, Value.oneCell'], fun j hj => ?_⟩, rfl⟩
   have hj0 : j = 0 := by simp [Value.cells] at hj; exact hj
   subst hj0
   have e1 : cur.toList[i]? = some (.string y) := by
    have hi : i < n := by have := (List.getElem?_eq_some_iff.1 hy).1; omega
    have e2 : (cur.toList.take n)[i]? = some (.string y) := by rw [h7]; simp [hy]
    rw [List.getElem?_take, if_pos hi] at e2
    exact e2
   simp only [World.cell?, kY, h3, Nat.zero_add, Nat.mul_one, Nat.add_zero]
   simpa [Value.cells] using e1
  ·simp only [Rep, kY]
   exact ⟨cap, by simp, h4, by simp only [maxLen] at h5; omega, by omega, ⟨by simp, fun q => q⟩⟩
theorem u6 : ∀ (a : List (List UInt8)) (x : List UInt8), eU (a ++ [x]) = eU a ++ jk x
 | [], x => by simp [eU]
 | s :: a, x => by
  show jk s ++ eU (a ++ [x]) = jk s ++ eU a ++ jk x
  rw [u6 a x, List.append_assoc]
theorem uM {l : LS} {k : Nat} (h : k < l.length) : eU ((l.take (k + 1)).map (·.data.toList)) = eU ((l.take k).map (·.data.toList)) ++ jk l[k].data.toList := by
 rw [List.take_succ_eq_append_getElem h, List.map_append, List.map_cons, List.map_nil, u6]
theorem aad (s : List UInt8) : (jk s).length ≤ s.length + 1 := by
 unfold jk
 split
 ·rw [List.length_take]; omega
 ·rw [List.length_append]; simp
theorem qI {l : LS} : ∀ k, k ≤ l.length → (eU ((l.take k).map (·.data.toList))).length ≤ aa1 (l.take k) + k
 | 0, _ => by simp [eU]
 | k + 1, hk => by
  have ih := qI (l := l) k (by omega)
  have h1 := aaY (l := l) (k := k) (by omega)
  rw [List.getElem?_eq_getElem (show k < l.length by omega), Option.getD_some] at h1
  have h2 := aad l[k].data.toList
  have h3 : l[k].data.toList.length = l[k].size := Array.length_toList
  rw [uM (by omega), List.length_append]
  omega
theorem zy {w : World} {B B' e n : Nat} {v : Value} {xs : List Value} (h : w.ownsRow B e 1 v n xs) (hB : B' ≤ B) : w.ownsRow B' e 1 v n xs := by
 obtain ⟨h0, h1⟩ := h
 refine ⟨h0, h1.imp id ?_⟩
 rintro ⟨g, cap, cur, h2, h3, h4⟩
 exact ⟨g, cap, cur, h2, Nat.le_trans hB h3, h4⟩
theorem one_cell (w : World) (v : Value) (T : TypeId) : ∀ (j : Nat) u, [v][j]? = some u → (w.alloc (.cells #[v] T)).cell? ((⟨w.heap.size, 0, none⟩ : Addr).add j) = some u := by
 intro j u hj
 match j, hj with
 | 0, hj => simp at hj; subst hj; simp [Addr.add]
theorem afj {x : ByteArray} (h : ¬ x = ⟨#[]⟩) : x.toList.isEmpty = false := by
 cases hb : x.toList.isEmpty with
 | false => rfl
 | true =>
  rw [Lib.toList_data] at hb
  exact absurd (ai4.1 (List.isEmpty_iff.1 hb)) h
set_option maxHeartbeats 4000000 in
set_option maxRecDepth 100000 in
theorem aoC {w : World} {a : Option Addr} {b off n c : Nat} {l R : LS} (hR : R = xB l) (hz : l.length = n) (hn : n ≤ 1048576) (ha : 0 < n → a = some ⟨b, off, none⟩ ∧ b < w.heap.size) (hs : ah7 w b off l) (hsum : aa1 l ≤ 1048576) :
  Calls Tryz.prog 12 #[.slice a n c] w fun e w' => ∃ v, e = .returned v ∧ Below w.heap.size w w' ∧ w'.ownsRow w.heap.size 9 1 v R.length (R.map Value.string) ∧ (R = [] → v = .slice none 0 0) := by
 have HZ := Lib.hid hz
 have HS := Lib.hid hs
 have HA := Lib.hid ha
 have HR := Lib.hid hR
 clear hz hs ha hR
 go_enter Tryz.func12, Tryz.ntmps12
 go_wp2
 go_loopw [13] (fun i wr => ∃ k : Nat, k ≤ n ∧ i = .int .i64 k ∧ Aside (Lib.IsBuilder 72 5 w.heap.size w.heap.size (Lib.byteCells (eU ((l.take k).map (·.data.toList)))) wr) ∧ Aside (Below w.heap.size w wr)) (fun i _ => n - (intOf i).toNat)
 case atStart => exact ⟨0, Nat.zero_le _, rfl, (show Lib.IsBuilder _ _ _ _ _ _ from Lib.fresh_isBuilder _ _ _), (show Below _ _ _ from vG (Below.refl _ _))⟩
 case round =>
  obtain ⟨k, hk, rfl, AB, AW⟩ := hrel
  by_cases hlt : k < n
  ·obtain ⟨rfl, hb⟩ := HA.out (by omega)
   have hkl : k < l.length := by rw [HZ.out]; exact hlt
   have hc := (HS.out.below hb AW.out) k _ (List.getElem?_eq_getElem hkl)
   have hjl := qI (l := l) k (by rw [HZ.out]; exact hk)
   have hst := aaY (l := l) hkl
   have hle := zk l (k + 1)
   have hjs := uM hkl
   rw [List.getElem?_eq_getElem hkl, Option.getD_some] at hst
   generalize l[k] = x at *
   have HJ := Lib.hid hjs
   have i1 : (0 : Int) ≤ (k : Int) := by omega
   have i2 : (k : Int) < (n : Int) := by omega
   have hbw : w.heap.size ≤ wr.heap.size := AW.out.size
   cases hy : Lib.hasSuffix x.data.toList [45] with
   | true =>
    have e1 : Lib.trimSuffix x.data.toList [45] = jk x.data.toList := by
     unfold Lib.trimSuffix jk
     rw [if_pos hy, if_pos hy]
     rfl
    have hcut : ∀ W, Calls Tryz.prog 31 #[.string x, .string ⟨#[45]⟩] W fun e w' => e = .returned (.tuple #[.string ⟨(jk x.data.toList).toArray⟩, .bool true]) ∧ w' = W := fun W => by
     have h := YtngcedklbinhjaaGreatDoor.strings_CutSuffix x ⟨#[45]⟩ W (by omega)
     rw [show (⟨#[45]⟩ : ByteArray).data.toList = [45] from rfl, e1, hy] at h
     exact h
    have hx2 := aad x.data.toList
    have hx3 : x.data.toList.length = x.size := Array.length_toList
    have hx4 : (⟨(jk x.data.toList).toArray⟩ : ByteArray).size = (jk x.data.toList).length := rfl
    have hwr := fun (W : World) (hW : Lib.IsBuilder 72 5 w.heap.size w.heap.size (Lib.byteCells (eU ((l.take k).map (·.data.toList)))) W) (hs : w.heap.size ≤ W.heap.size) => aaI (s := ⟨(jk x.data.toList).toArray⟩) hW (by omega) hs
    have HCUT := Lib.hid hcut
    have HWR := Lib.hid hwr
    clear hcut hwr hjs hst hle hx2 hx3 hx4 hy e1
    go_wp2_with (first
      | (go_at_call 31; refine (HCUT.out _).mono ?_; rintro e w2 ⟨rfl, rfl⟩)
      | (go_at_call 32; refine (HWR.out _ AB.out hbw).mono ?_; rintro e w3 ⟨rfl, hab2, hb2⟩; have AB2 := Lib.hid hab2; have AW2 := Lib.hid (AW.out.trans hb2); clear hab2 hb2))
    go_roundw
    case rel => exact ⟨k + 1, by omega, by go_num, (show Lib.IsBuilder _ _ _ _ _ _ from by rw [HJ.out]; exact AB2.out), (show Below _ _ _ from AW2.out)⟩
    case measure => simp [intOf]; omega
   | false =>
    have hn9 : ¬ Lib.hasSuffix x.data.toList [45] = true := by rw [hy]; decide
    have e1 : (x ++ ⟨#[32]⟩ : ByteArray).data.toList = jk x.data.toList := by
     unfold jk
     rw [if_neg hn9, ByteArray.data_append, Array.toList_append]
    have hcut : ∀ W, Calls Tryz.prog 31 #[.string x, .string ⟨#[45]⟩] W fun e w' => e = .returned (.tuple #[.string ⟨(Lib.trimSuffix x.data.toList [45]).toArray⟩, .bool false]) ∧ w' = W := fun W => by
     have h := YtngcedklbinhjaaGreatDoor.strings_CutSuffix x ⟨#[45]⟩ W (by omega)
     rw [show (⟨#[45]⟩ : ByteArray).data.toList = [45] from rfl, hy] at h
     exact h
    have hx4 : (x ++ ⟨#[32]⟩ : ByteArray).size = x.size + 1 := by rw [ByteArray.size_append]; rfl
    have hwr := fun (W : World) (hW : Lib.IsBuilder 72 5 w.heap.size w.heap.size (Lib.byteCells (eU ((l.take k).map (·.data.toList)))) W) (hs : w.heap.size ≤ W.heap.size) => aaI (s := x ++ ⟨#[32]⟩) hW (by omega) hs
    have E1 := Lib.hid e1
    have HCUT := Lib.hid hcut
    have HWR := Lib.hid hwr
    have hxs : x.size ≤ 1048576 := by omega
    clear hcut hwr hjs hst hle hx4 hy e1 hn9
    go_wp2_with (first
      | (go_at_call 31; refine (HCUT.out _).mono ?_; rintro e w2 ⟨rfl, rfl⟩)
      | (go_at_call 32; refine (HWR.out _ AB.out hbw).mono ?_; rintro e w3 ⟨rfl, hab2, hb2⟩; have AB2 := Lib.hid hab2; have AW2 := Lib.hid (AW.out.trans hb2); clear hab2 hb2))
    go_roundw
    case rel => exact ⟨k + 1, by omega, by go_num, (show Lib.IsBuilder _ _ _ _ _ _ from by rw [HJ.out, ← E1.out]; exact AB2.out), (show Below _ _ _ from AW2.out)⟩
    case measure => simp [intOf]; omega
  ·obtain rfl : k = n := by omega
   have hlz := HZ.out
   obtain ⟨G, hG⟩ : ∃ G, G = eU (l.map (·.data.toList)) := ⟨_, rfl⟩
   have hgl := qI (l := l) k (by omega)
   have hab := AB.out
   rw [List.take_of_length_le (by omega)] at hgl hab
   rw [← hG] at hgl hab
   have AB0 := Lib.hid hab
   have hgs : (⟨G.toArray⟩ : ByteArray).size = G.length := rfl
   have hsp := fun W => ag9 32 ⟨G.toArray⟩ W (by rw [hgs]; omega)
   have hpl := aeC 32 ⟨G.toArray⟩
   rw [hgs] at hpl
   have hwr : R = (iN 32 ⟨G.toArray⟩).filter fun x => decide (¬ x = ⟨#[]⟩) := by
    rw [HR.out]
    refine aqh ?_
    have h := aa8 ⟨G.toArray⟩
    have e : (fun x : ByteArray => decide (x.data.toList ≠ [])) = fun x => decide (¬ x = ⟨#[]⟩) := by
     funext x
     exact decide_eq_decide.2 (not_congr ai4)
    rw [e] at h
    rw [show (iN 32 ⟨G.toArray⟩) = Lib.splitB ⟨#[32]⟩ 0 (Lib.countB ⟨G.toArray⟩ ⟨#[32]⟩) ⟨G.toArray⟩ from rfl, h, hG]
    unfold xB
    rw [List.map_map]
    exact List.map_id _
   generalize hps : iN 32 ⟨G.toArray⟩ = ps at *
   have hsp2 : ∀ W, Calls Tryz.prog 33 #[.string ⟨G.toArray⟩, .string ⟨#[32]⟩] W fun e w' => e = .returned (.slice (some ⟨W.heap.size, 0, none⟩) ps.length ps.length) ∧ w' = W.alloc (.cells (ps.map Value.string).toArray 9) := hsp
   have HSP := Lib.hid hsp2
   have HWR := Lib.hid hwr
   have hb0 := AW.out
   have HB0 := Lib.hid hb0
   have hbz := AW.out.size
   clear hsp hsp2 hwr hps hab AB hG hlz HS HA HZ hgs AW hb0 HR
   go_wp2_with (first
     | (go_at_call 34; refine (YtngcedklbinhjaaGreatDoor.Builder_String_any w.heap.size w.heap.size G _ AB0.out hbz).mono ?_; rintro e w5 ⟨rfl, hb5⟩; have HB5 := Lib.hid hb5; clear hb5)
     | (go_at_call 33; refine (HSP.out w5).mono ?_; rintro e w6 ⟨rfl, rfl⟩))
   have hw6 := heap_alloc_new w5 (.cells (ps.map Value.string).toArray 9)
   have hz6 : (w5.alloc (.cells (ps.map Value.string).toArray 9)).heap.size = w5.heap.size + 1 := by simp
   have hb6 : Below w.heap.size w (w5.alloc (.cells (ps.map Value.string).toArray 9)) := vG (HB0.out.trans HB5.out)
   have hz8 : w.heap.size ≤ w5.heap.size := Nat.le_trans hbz HB5.out.size
   clear hbz
   generalize w5.alloc (.cells (ps.map Value.string).toArray 9) = w6 at *
   generalize w5.heap.size = B at *
   have HW6 := Lib.hid hw6
   have HB6 := Lib.hid hb6
   clear hw6 hb6 HB5 HB0 AB0 HSP
   go_loopw [8, 32] (fun v i wr => ∃ k : Nat, k ≤ ps.length ∧ i = .int .i64 k ∧ Aside (wr.ownsRow w6.heap.size 9 1 v ((ps.take k).filter fun x => decide (¬ x = ⟨#[]⟩)).length (((ps.take k).filter fun x => decide (¬ x = ⟨#[]⟩)).map Value.string)) ∧ Aside (Below w6.heap.size w6 wr) ∧ Aside ((ps.take k).filter (fun x => decide (¬ x = ⟨#[]⟩)) = [] → v = .slice none 0 0)) (fun _ i _ => ps.length - (intOf i).toNat)
   case atStart => exact ⟨0, Nat.zero_le _, rfl, (show World.ownsRow _ _ _ _ _ _ _ from World.ownsRow_nil _ _ _ _), (show Below _ _ _ from Below.refl _ _), (show _ → _ from fun _ => rfl)⟩
   case round =>
    obtain ⟨k, hk, rfl, AO, AW2, AN⟩ := hrel
    by_cases hlt : k < ps.length
    ·have hcx : wr.cell? ⟨B, k, none⟩ = some (.string ps[k]) := by
      rw [AW2.out.cell (p := ⟨B, k, none⟩) (show B < w6.heap.size by omega)]
      simp only [World.cell?, HW6.out]
      simp [hlt]
     have hfl : ((ps.take (k + 1)).filter fun x => decide (¬ x = ⟨#[]⟩)) = ((ps.take k).filter fun x => decide (¬ x = ⟨#[]⟩)) ++ if ps[k] = ⟨#[]⟩ then [] else [ps[k]] := by
      rw [List.take_succ_eq_append_getElem hlt, List.filter_append]
      congr 1
      by_cases h : ps[k] = ⟨#[]⟩ <;> simp [h]
     have hfle := List.length_filter_le (fun x => decide (¬ x = ⟨#[]⟩)) (ps.take k)
     rw [List.length_take] at hfle
     generalize ps[k] = x at *
     generalize hK0 : ((ps.take k).filter fun x => decide (¬ x = ⟨#[]⟩)) = K0 at *
     clear hK0
     have HF := Lib.hid hfl
     have i1 : (0 : Int) ≤ (k : Int) := by omega
     have i2 : (k : Int) < (ps.length : Int) := by omega
     have hbw : w6.heap.size ≤ wr.heap.size := AW2.out.size
     have hKs : K0.length ≤ 2097154 := by omega
     clear hfl hfle
     by_cases hx : x = ⟨#[]⟩
     ·rw [if_pos hx, List.append_nil] at HF
      subst hx
      go_wp2
      go_roundw
      case rel => exact ⟨k + 1, by omega, by go_num, (show World.ownsRow _ _ _ _ _ _ _ from by rw [HF.out]; exact AO.out), (show Below _ _ _ from AW2.out), (show _ → _ from by rw [HF.out]; exact AN.out)⟩
      case measure => simp [intOf]; omega
     ·rw [if_neg hx] at HF
      obtain ⟨i0, hi, hz0, hz1, hz2⟩ := info_parts (show (Tryz.prog.info? 9).map (fun i => (i.zero, i.size, i.bytes)) = some (some (.string ByteArray.empty), 1, 16) by kernel_rfl)
      have hne := afj hx
      go_wp2_with (at_builtin; refine wpList_append_own _ rfl _ _ 23 rfl w6.heap.size 9 i0 (.string ByteArray.empty) 1 16 Tryz.underlying23 hi hz0 hz1 hz2 rfl (by decide) _ _ _ rfl (AO.out.alloc _) ⟨wr.heap.size, 0, none⟩ 1 1 [.string x] rfl rfl (one_cell _ _ _) (by intro u hu; simp at hu; subst hu; rfl) (by unfold maxLen; omega) (by omega) (by simp; omega) ?_; intro v' w1 hown' hgrow _; have HO1 := Lib.hid hown'; have HGR := Lib.hid hgrow; clear hown' hgrow)
      go_wp2
      go_roundw
      case rel =>
       have hlt8 := fun q hq => (AO.out.lt q hq).1
       refine ⟨k + 1, by omega, by go_num, (show World.ownsRow _ _ _ _ _ _ _ from by rw [HF.out, List.length_append, List.map_append]; exact HO1.out), (show Below _ _ _ from (AW2.out.alloc hbw _).grown HGR.out (by simp; omega) hlt8), (show _ → _ from by rw [HF.out]; simp)⟩
      case measure => simp [intOf]; omega
    ·obtain rfl : k = ps.length := by omega
     rw [List.take_of_length_le (Nat.le_refl _)] at AO AN
     rw [← HWR.out] at AO AN
     go_wp2
     go_ret
     exact ⟨_, rfl, abQ HB6.out AW2.out, zy AO.out (by omega), AN.out⟩
end Go.Proofs.YtngcedklbinhjaaGreatDoor
namespace Go.Proofs.YtngcedklbinhjaaGreatDoor
open Go.RowKit
set_option linter.all false
noncomputable def avv : ahb := G1 dSs fun l => open Classical in if auQ l then some (nP 1 ((xB l).map fun s => .val (.string s)) 0, nC 9 1 ((xB l).map fun s => .val (.string s))) else none
theorem akm : nH Tryz.prog 12 avv := by
 intro w J β κ ps cs args r cs' hr hJ hO _ hargs
 dsimp only at hr
 split at hr
 case isFalse => cases hr
 case isTrue hcs =>
 subst hcs
 obtain ⟨l, rfl, hq⟩ := ahU hr
 split at hq
 case isFalse => cases hq
 case isTrue hok =>
 simp only [Option.some.injEq, Prod.mk.injEq] at hq
 obtain ⟨rfl, rfl⟩ := hq
 simp only [dQ] at hargs
 obtain ⟨v1, vs1, e1, h1, rfl⟩ := hargs
 obtain rfl : args = #[v1] := by
  obtain ⟨a⟩ := args
  simp only at e1
  rw [e1]
 simp only [dSs, dL, dS, Rep] at h1
 obtain ⟨a, cap, rfl, k1, k2, k3⟩ := h1
 simp only [List.length_map] at k1 ⊢
 have hfact : ∃ b off, (0 < l.length → a = some ⟨b, off, none⟩ ∧ b < w.heap.size) ∧ ah7 w b off l := by
  rcases k3 with k3 | ⟨b, off, rfl, k4, k5⟩
  ·have : l = [] := by simpa using k3
   subst this
   exact ⟨0, 0, fun h => by simp at h, fun j x hj => by simp at hj⟩
  ·exact ⟨b, off, fun _ => ⟨rfl, hJ _ b k4⟩, aiq k5⟩
 obtain ⟨b, off, ha, hs⟩ := hfact
 refine (aoC (R := xB l) rfl rfl hok.1 ha hs hok.2).mono ?_
 rintro e w' ⟨v, rfl, hb, hown, hnil⟩
 generalize xB l = R at *
 by_cases h0 : R.length = 0
 ·obtain rfl : R = [] := List.eq_nil_of_length_eq_zero h0
  obtain rfl := hnil rfl
  refine ⟨_, fun _ => 0, fun _ => 0, fun _ => False, rfl, ⟨hb.os, hb.tape, hb.output, hb.size, fun k hk _ => hb.block k hk⟩, by simp, fun o ho => by simp at ho, fun o _ ho => by simp [nC] at ho, fun b hb => hb.elim, ⟨fun o ho => by simp [nC] at ho, fun o o' ho => by simp [nC] at ho, fun o c hc => by simp [nC] at hc⟩, ?_⟩
  simp [nP, Rep]
 ·have hp : 0 < (R.map fun s => PV.val (.string s)).length := by rw [List.length_map]; omega
  rw [aS hp, aeo hp, List.length_map]
  obtain ⟨b1, κ1, hb1, hO1, hrep⟩ := alM (J := J) (n := R.length) (by omega) rfl hJ hown
  exact ⟨v, fun _ => b1, fun _ => κ1, fun _ => False, rfl, ⟨hb.os, hb.tape, hb.output, hb.size, fun k hk _ => hb.block k hk⟩, by simp, fun o ho => by simp at ho, fun o _ _ => hb1, fun b hb => hb.elim, hO1, hrep⟩
end Go.Proofs.YtngcedklbinhjaaGreatDoor
namespace Go.Proofs.YtngcedklbinhjaaGreatDoor
open Go.RowKit
set_option linter.all false
noncomputable def adY : Fun := aaP avv
theorem afy : Sound Tryz.prog 12 adY := akm.pure
noncomputable def uZ : Fun := atp 1 adY
theorem aiF {l : LS} (h : auQ l) (h0 : 0 < (xB l).length) : adY [.lst false 1 (l.map fun s => .val (.string s))] = some (.lst true 1 ((xB l).map fun s => .val (.string s))) := by
 have hp : 0 < ((xB l).map fun s => PV.val (.string s)).length := by simpa using h0
 refine ku (r := .row 0 1 0 (xB l).length) (cs0 := [(9, 1, (xB l).map fun s => .val (.string s))]) ((ak6 (A := dSs) l).trans ((if_pos h).trans (by rw [aS hp, aeo hp, List.length_map]))) ?_
 rw [zi]
 (simp (disch := (first | omega | (simp only [push_cast]; first | done | omega))) only [push_cast, ↓reduceIte, Nat.reduceEqDiff, Nat.reduceBEq, Nat.reduceAdd, Nat.reduceSub, Int.reduceToNat, *] <;> with_reducible exact rfl)
theorem aeD {l : LS} (h : auQ l) (h0 : (xB l).length = 0) : adY [.lst false 1 (l.map fun s => .val (.string s))] = some (.val (.slice none 0 0)) := by
 have hR : xB l = [] := List.eq_nil_of_length_eq_zero h0
 exact ku (r := .val (.slice none 0 0)) (cs0 := []) ((ak6 (A := dSs) l).trans ((if_pos h).trans (by rw [hR]; rfl))) rfl
theorem afX {l : LS} (h : auQ l) (h0 : 0 < (xB l).length) : uZ [.lst false 1 (l.map fun s => .val (.string s))] = some (.lst true 1 ((xB l).map fun s => .val (.string s))) := aiF h h0
theorem zR : uZ [.val (.slice none 0 0)] = some (.val (.slice none 0 0)) := aeD (l := []) ⟨by simp, by simp [aa1]⟩ (by simp [xB, eU, fV])
end Go.Proofs.YtngcedklbinhjaaGreatDoor
namespace Go.Proofs.YtngcedklbinhjaaGreatDoor
open Go.RowKit
set_option linter.all false
def abX : Fun := F2 dIs dIs fun a b => if a.length ≤ 1048576 ∧ b.length ≤ 1048576 then some (bv (decide (a = b))) else none
theorem wH {a b : List Int} (h : a.length ≤ 1048576) (h2 : b.length ≤ 1048576) : abX [.lst false 1 (a.map fun n => .val (.int .i64 n)), .lst false 1 (b.map fun n => .val (.int .i64 n))] = some (.val (.bool (decide (a = b)))) :=
 (kX (A := dIs) (B := dIs) a b).trans (if_pos ⟨h, h2⟩)
set_option maxHeartbeats 4000000 in
theorem acK : Sound Tryz.prog 16 abX := by
 refine ay mixed jQ Tryz.func16 rfl 26 rfl [.tmp 4] rfl (by kernel_rfl) fun ps r hr => ?_
 obtain ⟨xs, ys, rfl, hq⟩ := dA hr
 clear hr
 split at hq
 case isFalse => cases hq
 case isTrue hlen =>
 cases hq
 obtain ⟨hl1, hl2⟩ := hlen
 refine ⟨by simp, ?_⟩
 simp only [dIs, dUs, dSs, eX, fq, eT, fE, bS, fA, bO, bP, bR, bQ]
 repeat' (first | (with_reducible first | apply bF | apply av | apply aO | apply aJ | apply bC | apply dY | apply bA | apply bH | apply d9 | apply bE | apply bJ | apply dX | apply bI | apply bG | apply bD) | ((with_reducible apply au); (simp only [List.map_cons, List.map_nil] <;> exact rfl)) | ((with_reducible apply aI); (simp only [List.map_cons, List.map_nil] <;> exact rfl); decide +kernel) | ((with_reducible apply bB); rfl) | ((first | ((with_reducible apply i_V); rfl; rfl; rfl) | ((first | ((with_reducible apply i_E); rfl) | ((with_reducible apply i_S); rfl)); first | rfl | (simp only [push_cast, ↓reduceIte])) | ((with_reducible apply dW); rfl; rfl) | ((with_reducible apply dZ); rfl; rfl; rfl) | (with_reducible first | apply dV | apply aL)); (simp (disch := (first | omega | (simp only [push_cast]; first | done | omega))) only [push_cast, ↓reduceIte, Nat.reduceEqDiff, Nat.reduceBEq, Nat.reduceAdd, Nat.reduceSub, Int.reduceToNat, *] <;> with_reducible exact rfl); all_goals try (first | (with_reducible first | refine hyT ?_ | refine hyF ?_ | exact hyA | exact hyB) | (intro hX; first | (cases hX; done) | ((try simp only [decide_eq_true_eq, decide_eq_false_iff_not, Bool.not_eq_true', Bool.not_eq_false'] at hX); (try have hXb := aj.1 hX))))))
 ·((first | apply dw | apply bK); simp (disch := (first | omega | (simp only [push_cast]; first | done | omega))) only [push_cast, ↓reduceIte, Nat.reduceEqDiff, Nat.reduceBEq, Nat.reduceAdd, Nat.reduceSub, Int.reduceToNat, *])
  have : ¬ xs = ys := fun h => by subst h; simp_all
  simp [this]
 refine aT (α := Nat) mixed (fun k => [(0, .lst false 1 (xs.map fun n => .val (.int .i64 n))), (1, .lst false 1 (ys.map fun n => .val (.int .i64 n))), (5, iv k)]) (fun k => []) (fun _ => 0)
  (fun k => k ≤ xs.length ∧ ∀ j, j < k → xs[j]?.getD 0 = ys[j]?.getD 0) (fun k => xs.length - k) (by kernel_rfl) 0 ⟨Nat.zero_le _, fun j hj => by omega⟩ ?_ trivial rfl ?_
 ·simp only [push_cast, ↓reduceIte, Nat.reduceEqDiff, Nat.reduceBEq, Nat.reduceAdd, Nat.reduceSub, Int.reduceToNat]
 ·intro k ⟨hk, hok⟩
  repeat' (first | (with_reducible first | apply bF | apply av | apply aO | apply aJ | apply bC | apply dY | apply bA | apply bH | apply d9 | apply bE | apply bJ | apply dX | apply bI | apply bG | apply bD) | ((with_reducible apply au); (simp only [List.map_cons, List.map_nil] <;> exact rfl)) | ((with_reducible apply aI); (simp only [List.map_cons, List.map_nil] <;> exact rfl); decide +kernel) | ((with_reducible apply bB); rfl) | ((first | ((with_reducible apply i_V); rfl; rfl; rfl) | ((first | ((with_reducible apply i_E); rfl) | ((with_reducible apply i_S); rfl)); first | rfl | (simp only [push_cast, ↓reduceIte])) | ((with_reducible apply dW); rfl; rfl) | ((with_reducible apply dZ); rfl; rfl; rfl) | (with_reducible first | apply dV | apply aL)); (simp (disch := (first | omega | (simp only [push_cast]; first | done | omega))) only [push_cast, ↓reduceIte, Nat.reduceEqDiff, Nat.reduceBEq, Nat.reduceAdd, Nat.reduceSub, Int.reduceToNat, *] <;> with_reducible exact rfl); all_goals try (first | (with_reducible first | refine hyT ?_ | refine hyF ?_ | exact hyA | exact hyB) | (intro hX; first | (cases hX; done) | ((try simp only [decide_eq_true_eq, decide_eq_false_iff_not, Bool.not_eq_true', Bool.not_eq_false'] at hX); (try have hXb := aj.1 hX))))))
  all_goals try ((first | apply dw | apply bK); simp (disch := (first | omega | (simp only [push_cast]; first | done | omega))) only [push_cast, ↓reduceIte, Nat.reduceEqDiff, Nat.reduceBEq, Nat.reduceAdd, Nat.reduceSub, Int.reduceToNat, *])
  ·have : ¬ xs = ys := fun h => by subst h; simp_all
   simp [this]
  ·refine ⟨k + 1, ⟨by omega, fun j hj => ?_⟩, by dsimp only; omega, by simp only [push_cast, ↓reduceIte, Nat.reduceEqDiff, Nat.reduceBEq, Nat.reduceAdd, Nat.reduceSub, Int.reduceToNat], trivial, rfl⟩
   by_cases h1 : j < k
   ·exact hok j h1
   ·have : j = k := by omega
    subst this
    assumption
  ·have : xs = ys := uY (d := 0) (by omega) fun j hj => hok j (by omega)
   simp [this]
end Go.Proofs.YtngcedklbinhjaaGreatDoor
namespace Go.Proofs.YtngcedklbinhjaaGreatDoor
open Go.RowKit
set_option linter.all false
def adv (l : List Int) : Int := l.sum
theorem aao {l : List Int} {k : Nat} (h : k < l.length) : adv (l.take (k + 1)) = adv (l.take k) + l[k]?.getD 0 := by
 rw [List.take_add_one, List.getElem?_eq_getElem h]
 simp only [adv, List.sum_append, Option.toList_some, List.sum_cons, List.sum_nil, Int.add_zero, Option.getD_some]
theorem alp : adv [] = 0 := rfl
theorem aee {c : Int} {l : List Int} (h : ∀ i : Nat, 0 ≤ l[i]?.getD 0 ∧ l[i]?.getD 0 ≤ c) : ∀ k : Nat, k ≤ l.length → 0 ≤ adv (l.take k) ∧ adv (l.take k) ≤ c * k
 | 0, _ => by simp [adv]
 | k + 1, hk => by
  have ih := aee h k (by omega)
  have := h k
  rw [aao (by omega)]
  have e : c * ((k + 1 : Nat) : Int) = c * k + c := by rw [Int.natCast_add, Int.mul_add]; simp
  omega
def ahX (l : List Int) : Prop := l.length ≤ 1000 ∧ ∀ i : Nat, 0 ≤ l[i]?.getD 0 ∧ l[i]?.getD 0 ≤ 1000
noncomputable instance (l : List Int) : Decidable (ahX l) := Classical.propDecidable _
noncomputable def ab8 : Fun := F1 dIs fun l => if ahX l then some (iv (adv l)) else none
theorem vZ {l : List Int} (h : ahX l) : ab8 [.lst false 1 (l.map fun n => .val (.int .i64 n))] = some (.val (.int .i64 (adv l))) :=
 (jM (A := dIs) l).trans (if_pos h)
theorem akC : Sound Tryz.prog 17 ab8 := by
 refine ay mixed jQ Tryz.func17 rfl 18 rfl [.tmp 2] rfl (by kernel_rfl) fun ps r hr => ?_
 obtain ⟨l, rfl, hq⟩ := bY hr
 clear hr
 split at hq
 case isFalse => cases hq
 case isTrue hpre =>
 cases hq
 refine ⟨by simp, ?_⟩
 simp only [dIs, dUs, dSs, eX, fq, eT, fE, bS, fA, bO, bP, bR, bQ]
 obtain ⟨hlen, hrng⟩ := hpre
 have hs := aee hrng
 repeat' (first | (with_reducible first | apply bF | apply av | apply aO | apply aJ | apply bC | apply dY | apply bA | apply bH | apply d9 | apply bE | apply bJ | apply dX | apply bI | apply bG | apply bD) | ((with_reducible apply au); (simp only [List.map_cons, List.map_nil] <;> exact rfl)) | ((with_reducible apply aI); (simp only [List.map_cons, List.map_nil] <;> exact rfl); decide +kernel) | ((with_reducible apply bB); rfl) | ((first | ((with_reducible apply i_V); rfl; rfl; rfl) | ((first | ((with_reducible apply i_E); rfl) | ((with_reducible apply i_S); rfl)); first | rfl | (simp only [push_cast, ↓reduceIte])) | ((with_reducible apply dW); rfl; rfl) | ((with_reducible apply dZ); rfl; rfl; rfl) | (with_reducible first | apply dV | apply aL)); (simp (disch := (first | omega | (simp only [push_cast]; first | done | omega))) only [push_cast, ↓reduceIte, Nat.reduceEqDiff, Nat.reduceBEq, Nat.reduceAdd, Nat.reduceSub, Int.reduceToNat, *] <;> with_reducible exact rfl); all_goals try (first | (with_reducible first | refine hyT ?_ | refine hyF ?_ | exact hyA | exact hyB) | (intro hX; first | (cases hX; done) | ((try simp only [decide_eq_true_eq, decide_eq_false_iff_not, Bool.not_eq_true', Bool.not_eq_false'] at hX); (try have hXb := aj.1 hX))))))
 refine aT (α := Nat) mixed (fun k => [(0, .lst false 1 (l.map fun n => .val (.int .i64 n))), (3, iv (adv (l.take k))), (4, iv k)]) (fun k => []) (fun _ => 0)
  (fun k => k ≤ l.length) (fun k => l.length - k) (by kernel_rfl) 0 (Nat.zero_le _) ?_ trivial rfl ?_
 ·simp (disch := (first | omega | (simp only [push_cast]; first | done | omega))) only [push_cast, ↓reduceIte, Nat.reduceEqDiff, Nat.reduceBEq, Nat.reduceAdd, Nat.reduceSub, Int.reduceToNat, alp]
 intro k hk
 have h1 := hs k hk
 have h2 := hrng k
 clear hs hrng
 by_cases hkl : k < l.length
 ·repeat' (first | (with_reducible first | apply bF | apply av | apply aO | apply aJ | apply bC | apply dY | apply bA | apply bH | apply d9 | apply bE | apply bJ | apply dX | apply bI | apply bG | apply bD) | ((with_reducible apply au); (simp only [List.map_cons, List.map_nil] <;> exact rfl)) | ((with_reducible apply aI); (simp only [List.map_cons, List.map_nil] <;> exact rfl); decide +kernel) | ((with_reducible apply bB); rfl) | ((first | ((with_reducible apply i_V); rfl; rfl; rfl) | ((first | ((with_reducible apply i_E); rfl) | ((with_reducible apply i_S); rfl)); first | rfl | (simp only [push_cast, ↓reduceIte])) | ((with_reducible apply dW); rfl; rfl) | ((with_reducible apply dZ); rfl; rfl; rfl) | (with_reducible first | apply dV | apply aL)); (simp (disch := (first | omega | (simp only [push_cast]; first | done | omega))) only [push_cast, ↓reduceIte, Nat.reduceEqDiff, Nat.reduceBEq, Nat.reduceAdd, Nat.reduceSub, Int.reduceToNat, *] <;> with_reducible exact rfl); all_goals try (first | (with_reducible first | refine hyT ?_ | refine hyF ?_ | exact hyA | exact hyB) | (intro hX; first | (cases hX; done) | ((try simp only [decide_eq_true_eq, decide_eq_false_iff_not, Bool.not_eq_true', Bool.not_eq_false'] at hX); (try have hXb := aj.1 hX))))))
  all_goals try (exfalso; omega)
  refine ⟨k + 1, by omega, by dsimp only; omega, ?_, ?_, rfl⟩
  ·simp (disch := (first | omega | (simp only [push_cast]; first | done | omega))) only [push_cast, ↓reduceIte, Nat.reduceEqDiff, Nat.reduceBEq, Nat.reduceAdd, Nat.reduceSub, Int.reduceToNat, aao, *]
  ·exact agr
 ·have e1 : l.take k = l := List.take_of_length_le (by omega)
  rw [e1]
  clear e1 h1 h2
  repeat' (first | (with_reducible first | apply bF | apply av | apply aO | apply aJ | apply bC | apply dY | apply bA | apply bH | apply d9 | apply bE | apply bJ | apply dX | apply bI | apply bG | apply bD) | ((with_reducible apply au); (simp only [List.map_cons, List.map_nil] <;> exact rfl)) | ((with_reducible apply aI); (simp only [List.map_cons, List.map_nil] <;> exact rfl); decide +kernel) | ((with_reducible apply bB); rfl) | ((first | ((with_reducible apply i_V); rfl; rfl; rfl) | ((first | ((with_reducible apply i_E); rfl) | ((with_reducible apply i_S); rfl)); first | rfl | (simp only [push_cast, ↓reduceIte])) | ((with_reducible apply dW); rfl; rfl) | ((with_reducible apply dZ); rfl; rfl; rfl) | (with_reducible first | apply dV | apply aL)); (simp (disch := (first | omega | (simp only [push_cast]; first | done | omega))) only [push_cast, ↓reduceIte, Nat.reduceEqDiff, Nat.reduceBEq, Nat.reduceAdd, Nat.reduceSub, Int.reduceToNat, *] <;> with_reducible exact rfl); all_goals try (first | (with_reducible first | refine hyT ?_ | refine hyF ?_ | exact hyA | exact hyB) | (intro hX; first | (cases hX; done) | ((try simp only [decide_eq_true_eq, decide_eq_false_iff_not, Bool.not_eq_true', Bool.not_eq_false'] at hX); (try have hXb := aj.1 hX))))))
  all_goals try (exfalso; omega)
  ((first | apply dw | apply bK); simp (disch := (first | omega | (simp only [push_cast]; first | done | omega))) only [push_cast, ↓reduceIte, Nat.reduceEqDiff, Nat.reduceBEq, Nat.reduceAdd, Nat.reduceSub, Int.reduceToNat, *])
end Go.Proofs.YtngcedklbinhjaaGreatDoor
