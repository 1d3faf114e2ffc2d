/- Boxes, packed (PackRow, PackStack) by the engine. -/
import Derived.Test.YtghhlakfbgcmkaaDoorPxTy
import Derived.Test.YtghhlakfbgcmkaaDoorPlain
import Derived.Test.YtghhlakfbgcmkaaDoorPxGrid
namespace Go.Proofs.YtghhlakfbgcmkaaDoor
open Go.RowKit
set_option linter.all false
theorem ite_nat_ne {α : Type} {a b : Nat} {x y : α} (h : a ≠ b) : (if a = b then x else y) = y := if_neg h
attribute [push_cast]
  ite_nat_ne
theorem eq_of_getDB {α : Type} {d : α} {xs ys : List α} (hl : xs.length = ys.length) (h : ∀ j, j < xs.length → xs[j]?.getD d = ys[j]?.getD d) : xs = ys := by
  apply List.ext_getElem hl
  intro i h1 h2
  have := h i h1
  simpa [h1, h2] using this
theorem drop_getD {α : Type} {d : α} {l : List α} {k : Nat} (h : k < l.length) : l.drop k = l[k]?.getD d :: l.drop (k + 1) := by
  rw [List.drop_eq_getElem_cons h]; simp [h]
abbrev pvB (x : I4) : PV := .agg [.val (.int .i64 x.1), .val (.int .i64 x.2.1), .val (.int .i64 x.2.2.1), .val (.int .i64 x.2.2.2)]
abbrev dBs : Dec (List I4) := dL 4 dI4
def boxQ (a b c d : Int) : Bool := inB a 0 10000 && (inB b 0 10000 && (inB c 0 10000 && inB d (-10000) 10000))
def boxX (x : I4) : Bool := boxQ x.1 x.2.1 x.2.2.1 x.2.2.2
def boxesX (l : List I4) : Bool := decide (l.length ≤ 20) && l.all boxX
theorem boxX_iff {x : I4} : boxX x = true ↔ (0 ≤ x.1 ∧ x.1 ≤ 10000) ∧ (0 ≤ x.2.1 ∧ x.2.1 ≤ 10000) ∧ (0 ≤ x.2.2.1 ∧ x.2.2.1 ≤ 10000) ∧ (-10000 ≤ x.2.2.2 ∧ x.2.2.2 ≤ 10000) := by
  simp [boxX, boxQ, inB]
def φBoxX : Fun := F1 dI4 fun x => some (bv (boxX x))
theorem φBoxX_ap {a b c d : Int} : φBoxX [.agg [.val (.int .i64 a), .val (.int .i64 b), .val (.int .i64 c), .val (.int .i64 d)]] = some (.val (.bool (boxQ a b c d))) := F1_ap (A := dI4) (a, b, c, d)
theorem boxesX_no {l : List I4} {k : Nat} (h : k < l.length) (hb : boxX (l[k]?.getD i40) = false) : boxesX l = false := by
  have : l.all boxX = false := by
    rw [List.all_eq_false]
    exact ⟨l[k], List.getElem_mem h, by simp [h] at hb; simp [hb]⟩
  simp [boxesX, this]
theorem boxesX_yes {l : List I4} (h : ∀ j, j < l.length → boxX (l[j]?.getD i40) = true) : boxesX l = decide (l.length ≤ 20) := by
  have : l.all boxX = true := by
    rw [List.all_eq_true]
    intro x hx
    obtain ⟨j, hj, rfl⟩ := List.getElem_of_mem hx
    simpa [hj] using h j hj
  simp [boxesX, this]
def φBoxes : Fun := F1 dBs fun l => if l.length ≤ 1048576 then some (bv (boxesX l)) else none
theorem φBoxes_ap {l : List I4} (h : l.length ≤ 1048576) : φBoxes [.lst false 4 (l.map fun x => .agg [.val (.int .i64 x.1), .val (.int .i64 x.2.1), .val (.int .i64 x.2.2.1), .val (.int .i64 x.2.2.2)])] = some (.val (.bool (boxesX l))) :=
  (F1_ap (A := dBs) l).trans (if_pos h)
/-- A packed box: itself if it is valid, else the zero one. -/
def okd (o : I4) : I4 × Bool := if boxX o = true then (o, true) else (i40, false)
def φPacked : Fun := F1 dI4 fun x => some (.tup [pvB (okd x).1, bv (okd x).2])
theorem φPacked_ap {a b c d : Int} : φPacked [.agg [.val (.int .i64 a), .val (.int .i64 b), .val (.int .i64 c), .val (.int .i64 d)]] = some (.tup [pvB (okd (a, b, c, d)).1, .val (.bool (okd (a, b, c, d)).2)]) := F1_ap (A := dI4) (a, b, c, d)
def mx (m n : Int) : Int := if n > m then n else m
theorem mx_fold (m n : Int) : (if n > m then n else m) = mx m n := rfl
theorem mx_bd {m n lo hi : Int} (h1 : lo ≤ m) (h2 : m ≤ hi) (h3 : n ≤ hi) : lo ≤ mx m n ∧ mx m n ≤ hi := by unfold mx; split <;> omega
def rowStep (o x : I4) : I4 := (o.1 + x.1, mx o.2.1 (x.2.1 - x.2.2.2), mx o.2.2.1 (x.2.2.1 + x.2.2.2), o.2.2.2)
def stackStep (o x : I4) : I4 := (mx o.1 (x.1 + x.2.2.2), o.2.1 + o.2.2.1 + x.2.1, x.2.2.1, o.2.2.2)
def packG (st : I4 → I4 → I4) (l : List I4) : I4 × Bool := if boxesX l = true then okd (l.foldl st i40) else (i40, false)
def φPackR : Fun := F1 dBs fun l => if l.length ≤ 1048576 then some (.tup [pvB (packG rowStep l).1, bv (packG rowStep l).2]) else none
def φPackS : Fun := F1 dBs fun l => if l.length ≤ 1048576 then some (.tup [pvB (packG stackStep l).1, bv (packG stackStep l).2]) else none
theorem φPackR_ap {l : List I4} (h : l.length ≤ 1048576) : φPackR [.lst false 4 (l.map fun x => .agg [.val (.int .i64 x.1), .val (.int .i64 x.2.1), .val (.int .i64 x.2.2.1), .val (.int .i64 x.2.2.2)])] = some (.tup [pvB (packG rowStep l).1, .val (.bool (packG rowStep l).2)]) :=
  (F1_ap (A := dBs) l).trans (if_pos h)
theorem φPackS_ap {l : List I4} (h : l.length ≤ 1048576) : φPackS [.lst false 4 (l.map fun x => .agg [.val (.int .i64 x.1), .val (.int .i64 x.2.1), .val (.int .i64 x.2.2.1), .val (.int .i64 x.2.2.2)])] = some (.tup [pvB (packG stackStep l).1, .val (.bool (packG stackStep l).2)]) :=
  (F1_ap (A := dBs) l).trans (if_pos h)
theorem boxesX_at {l : List I4} (h : boxesX l = true) : l.length ≤ 20 ∧ ∀ k, k < l.length → boxX (l[k]?.getD i40) = true := by
  unfold boxesX at h
  rw [Bool.and_eq_true, decide_eq_true_eq, List.all_eq_true] at h
  exact ⟨h.1, fun k hk => by simpa [hk] using h.2 _ (List.getElem_mem hk)⟩
attribute [push_cast]
  mx_fold
end Go.Proofs.YtghhlakfbgcmkaaDoor
