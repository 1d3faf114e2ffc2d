/-
  DERIVED. GIVEN WITH THE SEED: THE CARDS: each row of YtngcedklbinhjaaDoorRows.lean that lists a variable, with what it lists TIED to the program's text (the seventh form; the later family's looks); each row that meets fmt, with fmt's text TOLD by the authors' own Lean function (tested against real Go, not proved from fmt's source: count such statements apart). THE CARD IS WHAT COUNTS. Prove the row's statement (the work); the ties are given (YtngcedklbinhjaaDoorTie.lean); close each card by the builder's one call (the guide's Derived/Test/ToyasCard.lean, 'card_holds'). Laid BY PROGRAM, IN A SANDBOX (cutbox-door.mjs). By AI agents, Wed Nov 11 2026. No macro, syntax, notation, axiom, sorry.
-/
import Derived.Test.YtngcedklbinhjaaDoorRows
import GoSem.ClaimSeven
namespace Go.Proofs.YtngcedklbinhjaaDoor
namespace Rows

/-- THE TIED CARD OF 'laws.FnWordsOfLines'. -/
def fnWordsOfLinesCard : Claim7 := { stood := { row := fnWordsOfLinesRow, standIns := [], harness := (true, "618ed050351c144a41e9b72c04112a54beb3cd2a87cd28116d5d40481f0c1bb4"), looks := false }, kinds := [], alts := [], laidByText := true, laidKinds := [.data, .pinned], laidTests := true, laidLooks := .later }
def FnWordsOfLinesCardSaid : Prop := Claim7.holds Tryd.pinned (.plain (OpenSpec.ofChange fnWordsOfLinesSpec)) fnWordsOfLinesCard

/-- THE SECOND FORM's CARD OF 'laws.FnWordsOfLines'. -/
def fnWordsOfLinesUptoCard : Claim7 := { stood := { row := fnWordsOfLinesUptoRow, standIns := [], harness := (true, "618ed050351c144a41e9b72c04112a54beb3cd2a87cd28116d5d40481f0c1bb4"), looks := false }, kinds := [], alts := [], laidByText := true, laidKinds := [.data, .pinned], laidTests := true, laidLooks := .later }
def FnWordsOfLinesUptoCardSaid : Prop := Claim7.holds Tryd.pinned (.plain (OpenSpec.upto fnWordsOfLinesSpec)) fnWordsOfLinesUptoCard
end Rows
end Go.Proofs.YtngcedklbinhjaaDoor
