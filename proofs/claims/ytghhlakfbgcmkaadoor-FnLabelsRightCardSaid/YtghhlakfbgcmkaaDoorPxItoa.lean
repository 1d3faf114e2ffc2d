/- strconv.Itoa. -/
import Derived.Test.YtghhlakfbgcmkaaDoorPxLib
namespace Go.Proofs.YtghhlakfbgcmkaaDoor
open Go.RowKit
set_option linter.all false
theorem below_growN (w : World) (k : Nat) (os : Array Obj) : Below w.heap.size w (Sort.grow (w.drewN k) os) :=
  ⟨rfl, rfl, rfl, by simp [Sort.grow, World.drewN], fun b hb => by simp [Sort.grow, World.drewN, Array.getElem?_append_left hb]⟩
/-- The numeral of a number. -/
def itoaS (n : Int) : ByteArray := ⟨(Lib.itoa n).toArray⟩
theorem tabIs_of {w : World} {io : Nat → Prop} (hT : TabF w io) : Lib.TabIs Tryd.prog w "internal/strconv.uint64pow10" .u64 Lib.pow10Tab := by
  obtain ⟨T, k, h⟩ := hT.at_ _ (List.mem_cons_self ..)
  unfold Lib.TabIs World.var?
  rw [show Tryd.prog.globalNamed "internal/strconv.uint64pow10" = some _ by kernel_rfl, Option.bind_some, h]
def φItoa : Fun := F1 dI fun n => if okI n then some (.val (.string (itoaS n))) else none
theorem φItoa_ap {n : Int} (h : okI n) : φItoa [.val (.int .i64 n)] = some (.val (.string (itoaS n))) := (F1_ap (A := dI) n).trans (if_pos h)
theorem itoa_ok : Sound Tryd.prog 46 φItoa := by
  intro w J ps args r hr hJ hT hargs
  obtain ⟨n, rfl, hq⟩ := F1_some hr
  split at hq
  case isFalse => cases hq
  case isTrue hok =>
  cases hq
  have hargs := hargs
  simp only [RepL] at hargs
  obtain ⟨v1, vs1, e1, h1, rfl⟩ := hargs
  obtain rfl : args = #[v1] := by
    obtain ⟨a⟩ := args
    simp only at e1
    rw [e1]
  simp only [dI, Rep] at h1
  subst h1
  refine (YtghhlakfbgcmkaaDoor.strconv_Itoa n hok.1 hok.2 w (tabIs_of hT)).mono ?_
  rintro e w' ⟨rfl, k, os, rfl⟩
  exact ⟨_, rfl, below_growN w k os, fun g' _ => by simp only [Rep]; rfl⟩
end Go.Proofs.YtghhlakfbgcmkaaDoor
