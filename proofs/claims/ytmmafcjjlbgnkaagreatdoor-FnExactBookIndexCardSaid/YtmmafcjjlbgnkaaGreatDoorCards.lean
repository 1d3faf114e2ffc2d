/-
  DERIVED. GIVEN WITH THE SEED: THE CARDS: each row of YtmmafcjjlbgnkaaGreatDoorRows.lean that lists a variable, with what it lists TIED to the program's text (the seventh form; the later family's looks); each row that meets fmt, with fmt's text TOLD by the authors' own Lean function (tested against real Go, not proved from fmt's source: count such statements apart). THE CARD IS WHAT COUNTS. Prove the row's statement (the work); the ties are given (YtmmafcjjlbgnkaaGreatDoorTie.lean); close each card by the builder's one call (the guide's Derived/Test/ToyasCard.lean, 'card_holds'). Laid BY PROGRAM, IN A SANDBOX (cutbox-door.mjs). By AI agents, Wed Nov 11 2026. No macro, syntax, notation, axiom, sorry.
-/
import Derived.Test.YtmmafcjjlbgnkaaGreatDoorRows
import GoSem.ClaimSeven
namespace Go.Proofs.YtmmafcjjlbgnkaaGreatDoor
namespace Rows

/-- THE TIED CARD OF 'laws.FnPrinterPages'. -/
def fnPrinterPagesCard : Claim7 := { stood := { row := fnPrinterPagesRow, standIns := [], harness := (true, "8fe5623b40306200c7da73bf6bb71d130675c6a60a4fd6876a5a0a8715345ac4"), looks := true }, kinds := [], alts := [], laidByText := true, laidKinds := [.data, .data, .data, .data, .sentinel, .sentinel, .pinned], laidTests := true, laidLooks := .later }
def FnPrinterPagesCardSaid : Prop := Claim7.holds Tryz.pinned (.plain (OpenSpec.ofChange fnPrinterPagesSpec)) fnPrinterPagesCard

/-- THE TIED CARD OF 'laws.FnBookIndex'. -/
def fnBookIndexCard : Claim7 := { stood := { row := fnBookIndexRow, standIns := [], harness := (true, "8fe5623b40306200c7da73bf6bb71d130675c6a60a4fd6876a5a0a8715345ac4"), looks := true }, kinds := [], alts := [], laidByText := true, laidKinds := [.data, .data, .data, .data, .pinned], laidTests := true, laidLooks := .later }
def FnBookIndexCardSaid : Prop := Claim7.holds Tryz.pinned (.plain (OpenSpec.ofChange fnBookIndexSpec)) fnBookIndexCard

/-- THE TIED CARD OF 'laws.FnExactBookIndex'. -/
def fnExactBookIndexCard : Claim7 := { stood := { row := fnExactBookIndexRow, standIns := [], harness := (true, "8fe5623b40306200c7da73bf6bb71d130675c6a60a4fd6876a5a0a8715345ac4"), looks := true }, kinds := [], alts := [], laidByText := true, laidKinds := [.data, .data, .data, .data, .pinned], laidTests := true, laidLooks := .later }
def FnExactBookIndexCardSaid : Prop := Claim7.holds Tryz.pinned (.plain (OpenSpec.ofChange fnExactBookIndexSpec)) fnExactBookIndexCard

/-- THE SECOND FORM's CARD OF 'laws.FnPrinterPages'. -/
def fnPrinterPagesUptoCard : Claim7 := { stood := { row := fnPrinterPagesUptoRow, standIns := [], harness := (true, "8fe5623b40306200c7da73bf6bb71d130675c6a60a4fd6876a5a0a8715345ac4"), looks := true }, kinds := [], alts := [], laidByText := true, laidKinds := [.data, .data, .data, .data, .sentinel, .sentinel, .pinned], laidTests := true, laidLooks := .later }
def FnPrinterPagesUptoCardSaid : Prop := Claim7.holds Tryz.pinned (.plain (OpenSpec.upto fnPrinterPagesSpec)) fnPrinterPagesUptoCard

/-- THE SECOND FORM's CARD OF 'laws.FnBookIndex'. -/
def fnBookIndexUptoCard : Claim7 := { stood := { row := fnBookIndexUptoRow, standIns := [], harness := (true, "8fe5623b40306200c7da73bf6bb71d130675c6a60a4fd6876a5a0a8715345ac4"), looks := true }, kinds := [], alts := [], laidByText := true, laidKinds := [.data, .data, .data, .data, .pinned], laidTests := true, laidLooks := .later }
def FnBookIndexUptoCardSaid : Prop := Claim7.holds Tryz.pinned (.plain (OpenSpec.upto fnBookIndexSpec)) fnBookIndexUptoCard

/-- THE SECOND FORM's CARD OF 'laws.FnExactBookIndex'. -/
def fnExactBookIndexUptoCard : Claim7 := { stood := { row := fnExactBookIndexUptoRow, standIns := [], harness := (true, "8fe5623b40306200c7da73bf6bb71d130675c6a60a4fd6876a5a0a8715345ac4"), looks := true }, kinds := [], alts := [], laidByText := true, laidKinds := [.data, .data, .data, .data, .pinned], laidTests := true, laidLooks := .later }
def FnExactBookIndexUptoCardSaid : Prop := Claim7.holds Tryz.pinned (.plain (OpenSpec.upto fnExactBookIndexSpec)) fnExactBookIndexUptoCard
end Rows
end Go.Proofs.YtmmafcjjlbgnkaaGreatDoor
