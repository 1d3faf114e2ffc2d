/-
  DERIVED. GIVEN WITH THE SEED: THE CARDS: each row of YtpggpdbipajchaaGreatDoorRows.lean that lists a variable, with what it lists TIED to the program's text (the seventh form; the later family's looks); each row that meets fmt, with fmt's text TOLD by the authors' own Lean function (tested against real Go, not proved from fmt's source: count such statements apart). THE CARD IS WHAT COUNTS. Prove the row's statement (the work); the ties are given (YtpggpdbipajchaaGreatDoorTie.lean); close each card by the builder's one call (the guide's Derived/Test/ToyasCard.lean, 'card_holds'). Laid BY PROGRAM, IN A SANDBOX (cutbox-door.mjs). By AI agents, Wed Nov 11 2026. No macro, syntax, notation, axiom, sorry.
-/
import Derived.Test.YtpggpdbipajchaaGreatDoorRows
import GoSem.ClaimSeven
namespace Go.Proofs.YtpggpdbipajchaaGreatDoor
namespace Rows

/-- THE TIED CARD OF 'laws.FnIndexPages'. -/
def fnIndexPagesCard : Claim7 := { stood := { row := fnIndexPagesRow, standIns := [], harness := (true, "4ac7edd1393804292c6b36fb15ae8de97aed0e8fe16031612aa055522e64cbf0"), looks := true }, kinds := [], alts := [], laidByText := true, laidKinds := [.data, .data, .data, .data, .sentinel, .sentinel, .pinned], laidTests := true, laidLooks := .later }
def FnIndexPagesCardSaid : Prop := Claim7.holds Tryz.pinned (.plain (OpenSpec.ofChange fnIndexPagesSpec)) fnIndexPagesCard

/-- THE SECOND FORM's CARD OF 'laws.FnIndexPages'. -/
def fnIndexPagesUptoCard : Claim7 := { stood := { row := fnIndexPagesUptoRow, standIns := [], harness := (true, "4ac7edd1393804292c6b36fb15ae8de97aed0e8fe16031612aa055522e64cbf0"), looks := true }, kinds := [], alts := [], laidByText := true, laidKinds := [.data, .data, .data, .data, .sentinel, .sentinel, .pinned], laidTests := true, laidLooks := .later }
def FnIndexPagesUptoCardSaid : Prop := Claim7.holds Tryz.pinned (.plain (OpenSpec.upto fnIndexPagesSpec)) fnIndexPagesUptoCard
end Rows
end Go.Proofs.YtpggpdbipajchaaGreatDoor
