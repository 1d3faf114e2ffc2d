/- Rows of numbers and of texts: plain lemmas. -/
import Derived.Test.YtenldjifipnjpaaDoorBase
namespace Go.Proofs.YtenldjifipnjpaaDoor
open Go.RowKit
set_option linter.unusedVariables false

/-- A slice of numbers reads as zs. -/
structure IntsAt (w : World) (a : Option Addr) (n cap : Nat) (zs : List Int) : Prop where
  len : zs.length = n
  le_cap : n ≤ cap
  cap_max : cap ≤ 9223372036854775807
  rng : ∀ i : Nat, -9223372036854775808 ≤ zs[i]?.getD 0 ∧ zs[i]?.getD 0 ≤ 9223372036854775807
  at_ : 0 < n → ∃ b off, a = some ⟨b, off, none⟩ ∧ ∀ i : Nat, i < n → w.cell? ⟨b, off + i, none⟩ = some (.int .i64 (zs[i]?.getD 0))

theorem IntsAt.below {w w' : World} {a : Option Addr} {n cap : Nat} {zs : List Int} (h : IntsAt w a n cap zs) (hb : Below w.heap.size w w') : IntsAt w' a n cap zs :=
  ⟨h.len, h.le_cap, h.cap_max, h.rng, fun h0 => by
    obtain ⟨b, off, rfl, hc⟩ := h.at_ h0
    exact ⟨b, off, rfl, fun i hi => (hb.cell (World.block_lt_of_cell? w _ (hc i hi))).trans (hc i hi)⟩⟩

/-- A slice of texts reads as ss. -/
structure StrsAt (w : World) (a : Option Addr) (n cap : Nat) (ss : List ByteArray) : Prop where
  len : ss.length = n
  le_cap : n ≤ cap
  cap_max : cap ≤ 9223372036854775807
  rng : ∀ i : Nat, (ss[i]?.getD ByteArray.empty).size ≤ 9223372036854775807
  at_ : 0 < n → ∃ b off, a = some ⟨b, off, none⟩ ∧ ∀ i : Nat, i < n → w.cell? ⟨b, off + i, none⟩ = some (.string (ss[i]?.getD ByteArray.empty))

theorem StrsAt.below {w w' : World} {a : Option Addr} {n cap : Nat} {ss : List ByteArray} (h : StrsAt w a n cap ss) (hb : Below w.heap.size w w') : StrsAt w' a n cap ss :=
  ⟨h.len, h.le_cap, h.cap_max, h.rng, fun h0 => by
    obtain ⟨b, off, rfl, hc⟩ := h.at_ h0
    exact ⟨b, off, rfl, fun i hi => (hb.cell (World.block_lt_of_cell? w _ (hc i hi))).trans (hc i hi)⟩⟩

def okPage (zs : List Int) (i : Nat) : Bool := inB (zs[i]?.getD 0) 1 999 && (i == 0 || decide (zs[i - 1]?.getD 0 < zs[i]?.getD 0))
def okPages (zs : List Int) (k : Nat) : Bool := (List.range k).all (okPage zs)
def pagesB (zs : List Int) : Bool := okPages zs zs.length && decide (zs.length ≤ 30)
theorem okPages_succ (zs : List Int) (k : Nat) : okPages zs (k + 1) = (okPages zs k && okPage zs k) := by
  simp [okPages, List.range_succ]
theorem okPages_mono {zs : List Int} {k n : Nat} (h : k < n) (hk : okPage zs k = false) : okPages zs n = false := by
  simp only [okPages, List.all_eq_false]
  exact ⟨k, by simpa using h, by simp [hk]⟩
end Go.Proofs.YtenldjifipnjpaaDoor
