/-
  DERIVED. GIVEN WITH THE SEED: THE CARDS: each row of YtngcedklbinhjaaGreatDoorRows.lean that lists a variable, with what it lists TIED to the program's text (the seventh form; the later family's looks); each row that meets fmt, with fmt's text TOLD by the authors' own Lean function (tested against real Go, not proved from fmt's source: count such statements apart). THE CARD IS WHAT COUNTS. Prove the row's statement (the work); the ties are given (YtngcedklbinhjaaGreatDoorTie.lean); close each card by the builder's one call (the guide's Derived/Test/ToyasCard.lean, 'card_holds'). Laid BY PROGRAM, IN A SANDBOX (cutbox-door.mjs). By AI agents, Wed Nov 11 2026. No macro, syntax, notation, axiom, sorry.
-/
import Derived.Test.YtngcedklbinhjaaGreatDoorRows
import GoSem.ClaimSeven
namespace Go.Proofs.YtngcedklbinhjaaGreatDoor
namespace Rows

/-- THE TIED CARD OF 'laws.FnParagraphLines'. -/
def fnParagraphLinesCard : Claim7 := { stood := { row := fnParagraphLinesRow, standIns := [], harness := (true, "6219c5077f42d50ce34a5c13b8572424f70e11ef4f0dc38f9f29ed405a8f2b6c"), looks := false }, kinds := [], alts := [], laidByText := true, laidKinds := [.data, .pinned], laidTests := true, laidLooks := .later }
def FnParagraphLinesCardSaid : Prop := Claim7.holds Tryz.pinned (.plain (OpenSpec.ofChange fnParagraphLinesSpec)) fnParagraphLinesCard

/-- THE TIED CARD OF 'laws.FnBookLines'. -/
def fnBookLinesCard : Claim7 := { stood := { row := fnBookLinesRow, standIns := [], harness := (true, "6219c5077f42d50ce34a5c13b8572424f70e11ef4f0dc38f9f29ed405a8f2b6c"), looks := false }, kinds := [], alts := [], laidByText := true, laidKinds := [.data, .pinned], laidTests := true, laidLooks := .later }
def FnBookLinesCardSaid : Prop := Claim7.holds Tryz.pinned (.plain (OpenSpec.ofChange fnBookLinesSpec)) fnBookLinesCard

/-- THE SECOND FORM's CARD OF 'laws.FnParagraphLines'. -/
def fnParagraphLinesUptoCard : Claim7 := { stood := { row := fnParagraphLinesUptoRow, standIns := [], harness := (true, "6219c5077f42d50ce34a5c13b8572424f70e11ef4f0dc38f9f29ed405a8f2b6c"), looks := false }, kinds := [], alts := [], laidByText := true, laidKinds := [.data, .pinned], laidTests := true, laidLooks := .later }
def FnParagraphLinesUptoCardSaid : Prop := Claim7.holds Tryz.pinned (.plain (OpenSpec.upto fnParagraphLinesSpec)) fnParagraphLinesUptoCard

/-- THE SECOND FORM's CARD OF 'laws.FnBookLines'. -/
def fnBookLinesUptoCard : Claim7 := { stood := { row := fnBookLinesUptoRow, standIns := [], harness := (true, "6219c5077f42d50ce34a5c13b8572424f70e11ef4f0dc38f9f29ed405a8f2b6c"), looks := false }, kinds := [], alts := [], laidByText := true, laidKinds := [.data, .pinned], laidTests := true, laidLooks := .later }
def FnBookLinesUptoCardSaid : Prop := Claim7.holds Tryz.pinned (.plain (OpenSpec.upto fnBookLinesSpec)) fnBookLinesUptoCard
end Rows
end Go.Proofs.YtngcedklbinhjaaGreatDoor
