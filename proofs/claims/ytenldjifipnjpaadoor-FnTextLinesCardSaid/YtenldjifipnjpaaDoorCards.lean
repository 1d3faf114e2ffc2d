/-
  DERIVED. GIVEN WITH THE SEED: THE CARDS: each row of YtenldjifipnjpaaDoorRows.lean that lists a variable, with what it lists TIED to the program's text (the seventh form; the later family's looks); each row that meets fmt, with fmt's text TOLD by the authors' own Lean function (tested against real Go, not proved from fmt's source: count such statements apart). THE CARD IS WHAT COUNTS. Prove the row's statement (the work); the ties are given (YtenldjifipnjpaaDoorTie.lean); close each card by the builder's one call (the guide's Derived/Test/ToyasCard.lean, 'card_holds'). Laid BY PROGRAM, IN A SANDBOX (cutbox-door.mjs). By AI agents, Wed Nov 11 2026. No macro, syntax, notation, axiom, sorry.
-/
import Derived.Test.YtenldjifipnjpaaDoorRows
import GoSem.ClaimSeven
namespace Go.Proofs.YtenldjifipnjpaaDoor
namespace Rows

/-- THE TIED CARD OF 'laws.FnExactWordsOfLines'. -/
def fnExactWordsOfLinesCard : Claim7 := { stood := { row := fnExactWordsOfLinesRow, standIns := [], harness := (true, "53b35ecb0ae568740e1f4aa8b714905a6b39760d21b55cda416b5f27a37524ca"), looks := false }, kinds := [], alts := [], laidByText := true, laidKinds := [.data, .pinned], laidTests := true, laidLooks := .later }
def FnExactWordsOfLinesCardSaid : Prop := Claim7.holds Tryd.pinned (.plain (OpenSpec.ofChange fnExactWordsOfLinesSpec)) fnExactWordsOfLinesCard

/-- THE TIED CARD OF 'laws.FnExactGridLines'. -/
def fnExactGridLinesCard : Claim7 := { stood := { row := fnExactGridLinesRow, standIns := [], harness := (true, "53b35ecb0ae568740e1f4aa8b714905a6b39760d21b55cda416b5f27a37524ca"), looks := false }, kinds := [], alts := [], laidByText := true, laidKinds := [.data, .pinned], laidTests := true, laidLooks := .later }
def FnExactGridLinesCardSaid : Prop := Claim7.holds Tryd.pinned (.plain (OpenSpec.ofChange fnExactGridLinesSpec)) fnExactGridLinesCard

/-- THE TIED CARD OF 'laws.FnGridOf'. -/
def fnGridOfCard : Claim7 := { stood := { row := fnGridOfRow, standIns := [], harness := (true, "53b35ecb0ae568740e1f4aa8b714905a6b39760d21b55cda416b5f27a37524ca"), looks := false }, kinds := [], alts := [], laidByText := true, laidKinds := [.data, .pinned], laidTests := true, laidLooks := .later }
def FnGridOfCardSaid : Prop := Claim7.holds Tryd.pinned (.plain (OpenSpec.ofChange fnGridOfSpec)) fnGridOfCard

/-- THE TIED CARD OF 'laws.FnGridLines'. -/
def fnGridLinesCard : Claim7 := { stood := { row := fnGridLinesRow, standIns := [], harness := (true, "53b35ecb0ae568740e1f4aa8b714905a6b39760d21b55cda416b5f27a37524ca"), looks := false }, kinds := [], alts := [], laidByText := true, laidKinds := [.data, .pinned], laidTests := true, laidLooks := .later }
def FnGridLinesCardSaid : Prop := Claim7.holds Tryd.pinned (.plain (OpenSpec.ofChange fnGridLinesSpec)) fnGridLinesCard

/-- THE TIED CARD OF 'laws.FnExactPageGrid'. -/
def fnExactPageGridCard : Claim7 := { stood := { row := fnExactPageGridRow, standIns := [], harness := (true, "53b35ecb0ae568740e1f4aa8b714905a6b39760d21b55cda416b5f27a37524ca"), looks := false }, kinds := [], alts := [], laidByText := true, laidKinds := [.data, .data, .data], laidTests := true, laidLooks := .later }
def FnExactPageGridCardSaid : Prop := Claim7.holds Tryd.pinned (.plain (OpenSpec.ofChange fnExactPageGridSpec)) fnExactPageGridCard

/-- THE TIED CARD OF 'laws.FnJustifyText'. -/
def fnJustifyTextCard : Claim7 := { stood := { row := fnJustifyTextRow, standIns := [], harness := (true, "53b35ecb0ae568740e1f4aa8b714905a6b39760d21b55cda416b5f27a37524ca"), looks := false }, kinds := [], alts := [], laidByText := true, laidKinds := [.data, .pinned], laidTests := true, laidLooks := .later }
def FnJustifyTextCardSaid : Prop := Claim7.holds Tryd.pinned (.plain (OpenSpec.ofChange fnJustifyTextSpec)) fnJustifyTextCard

/-- THE TIED CARD OF 'laws.FnTextLines'. -/
def fnTextLinesCard : Claim7 := { stood := { row := fnTextLinesRow, standIns := [], harness := (true, "53b35ecb0ae568740e1f4aa8b714905a6b39760d21b55cda416b5f27a37524ca"), looks := false }, kinds := [], alts := [], laidByText := true, laidKinds := [.data, .pinned], laidTests := true, laidLooks := .later }
def FnTextLinesCardSaid : Prop := Claim7.holds Tryd.pinned (.plain (OpenSpec.ofChange fnTextLinesSpec)) fnTextLinesCard

/-- THE TIED CARD OF 'laws.FnPageGrid'. -/
def fnPageGridCard : Claim7 := { stood := { row := fnPageGridRow, standIns := [], harness := (true, "53b35ecb0ae568740e1f4aa8b714905a6b39760d21b55cda416b5f27a37524ca"), looks := false }, kinds := [], alts := [], laidByText := true, laidKinds := [.data, .data, .data, .data, .pinned], laidTests := true, laidLooks := .later }
def FnPageGridCardSaid : Prop := Claim7.holds Tryd.pinned (.plain (OpenSpec.ofChange fnPageGridSpec)) fnPageGridCard

/-- THE SECOND FORM's CARD OF 'laws.FnExactWordsOfLines'. -/
def fnExactWordsOfLinesUptoCard : Claim7 := { stood := { row := fnExactWordsOfLinesUptoRow, standIns := [], harness := (true, "53b35ecb0ae568740e1f4aa8b714905a6b39760d21b55cda416b5f27a37524ca"), looks := false }, kinds := [], alts := [], laidByText := true, laidKinds := [.data, .pinned], laidTests := true, laidLooks := .later }
def FnExactWordsOfLinesUptoCardSaid : Prop := Claim7.holds Tryd.pinned (.plain (OpenSpec.upto fnExactWordsOfLinesSpec)) fnExactWordsOfLinesUptoCard

/-- THE SECOND FORM's CARD OF 'laws.FnExactGridLines'. -/
def fnExactGridLinesUptoCard : Claim7 := { stood := { row := fnExactGridLinesUptoRow, standIns := [], harness := (true, "53b35ecb0ae568740e1f4aa8b714905a6b39760d21b55cda416b5f27a37524ca"), looks := false }, kinds := [], alts := [], laidByText := true, laidKinds := [.data, .pinned], laidTests := true, laidLooks := .later }
def FnExactGridLinesUptoCardSaid : Prop := Claim7.holds Tryd.pinned (.plain (OpenSpec.upto fnExactGridLinesSpec)) fnExactGridLinesUptoCard

/-- THE SECOND FORM's CARD OF 'laws.FnGridOf'. -/
def fnGridOfUptoCard : Claim7 := { stood := { row := fnGridOfUptoRow, standIns := [], harness := (true, "53b35ecb0ae568740e1f4aa8b714905a6b39760d21b55cda416b5f27a37524ca"), looks := false }, kinds := [], alts := [], laidByText := true, laidKinds := [.data, .pinned], laidTests := true, laidLooks := .later }
def FnGridOfUptoCardSaid : Prop := Claim7.holds Tryd.pinned (.plain (OpenSpec.upto fnGridOfSpec)) fnGridOfUptoCard

/-- THE SECOND FORM's CARD OF 'laws.FnGridLines'. -/
def fnGridLinesUptoCard : Claim7 := { stood := { row := fnGridLinesUptoRow, standIns := [], harness := (true, "53b35ecb0ae568740e1f4aa8b714905a6b39760d21b55cda416b5f27a37524ca"), looks := false }, kinds := [], alts := [], laidByText := true, laidKinds := [.data, .pinned], laidTests := true, laidLooks := .later }
def FnGridLinesUptoCardSaid : Prop := Claim7.holds Tryd.pinned (.plain (OpenSpec.upto fnGridLinesSpec)) fnGridLinesUptoCard

/-- THE SECOND FORM's CARD OF 'laws.FnExactPageGrid'. -/
def fnExactPageGridUptoCard : Claim7 := { stood := { row := fnExactPageGridUptoRow, standIns := [], harness := (true, "53b35ecb0ae568740e1f4aa8b714905a6b39760d21b55cda416b5f27a37524ca"), looks := false }, kinds := [], alts := [], laidByText := true, laidKinds := [.data, .data, .data], laidTests := true, laidLooks := .later }
def FnExactPageGridUptoCardSaid : Prop := Claim7.holds Tryd.pinned (.plain (OpenSpec.upto fnExactPageGridSpec)) fnExactPageGridUptoCard

/-- THE SECOND FORM's CARD OF 'laws.FnJustifyText'. -/
def fnJustifyTextUptoCard : Claim7 := { stood := { row := fnJustifyTextUptoRow, standIns := [], harness := (true, "53b35ecb0ae568740e1f4aa8b714905a6b39760d21b55cda416b5f27a37524ca"), looks := false }, kinds := [], alts := [], laidByText := true, laidKinds := [.data, .pinned], laidTests := true, laidLooks := .later }
def FnJustifyTextUptoCardSaid : Prop := Claim7.holds Tryd.pinned (.plain (OpenSpec.upto fnJustifyTextSpec)) fnJustifyTextUptoCard

/-- THE SECOND FORM's CARD OF 'laws.FnTextLines'. -/
def fnTextLinesUptoCard : Claim7 := { stood := { row := fnTextLinesUptoRow, standIns := [], harness := (true, "53b35ecb0ae568740e1f4aa8b714905a6b39760d21b55cda416b5f27a37524ca"), looks := false }, kinds := [], alts := [], laidByText := true, laidKinds := [.data, .pinned], laidTests := true, laidLooks := .later }
def FnTextLinesUptoCardSaid : Prop := Claim7.holds Tryd.pinned (.plain (OpenSpec.upto fnTextLinesSpec)) fnTextLinesUptoCard

/-- THE SECOND FORM's CARD OF 'laws.FnPageGrid'. -/
def fnPageGridUptoCard : Claim7 := { stood := { row := fnPageGridUptoRow, standIns := [], harness := (true, "53b35ecb0ae568740e1f4aa8b714905a6b39760d21b55cda416b5f27a37524ca"), looks := false }, kinds := [], alts := [], laidByText := true, laidKinds := [.data, .data, .data, .data, .pinned], laidTests := true, laidLooks := .later }
def FnPageGridUptoCardSaid : Prop := Claim7.holds Tryd.pinned (.plain (OpenSpec.upto fnPageGridSpec)) fnPageGridUptoCard
end Rows
end Go.Proofs.YtenldjifipnjpaaDoor
