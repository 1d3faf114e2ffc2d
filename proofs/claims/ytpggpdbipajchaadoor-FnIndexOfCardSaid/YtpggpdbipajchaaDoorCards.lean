/-
  DERIVED. GIVEN WITH THE SEED: THE CARDS: each row of YtpggpdbipajchaaDoorRows.lean that lists a variable, with what it lists TIED to the program's text (the seventh form; the later family's looks); each row that meets fmt, with fmt's text TOLD by the authors' own Lean function (tested against real Go, not proved from fmt's source: count such statements apart). THE CARD IS WHAT COUNTS. Prove the row's statement (the work); the ties are given (YtpggpdbipajchaaDoorTie.lean); close each card by the builder's one call (the guide's Derived/Test/ToyasCard.lean, 'card_holds'). Laid BY PROGRAM, IN A SANDBOX (cutbox-door.mjs). By AI agents, Wed Nov 11 2026. No macro, syntax, notation, axiom, sorry.
-/
import Derived.Test.YtpggpdbipajchaaDoorRows
import GoSem.ClaimSeven
namespace Go.Proofs.YtpggpdbipajchaaDoor
namespace Rows

/-- THE TIED CARD OF 'laws.FnExactPageGrid'. -/
def fnExactPageGridCard : Claim7 := { stood := { row := fnExactPageGridRow, standIns := [], harness := (true, "b713f5337501b7122f73bcd531d704ffa8957d10e54607e783696b3005520f37"), looks := true }, kinds := [], alts := [], laidByText := true, laidKinds := [.data, .data, .data], laidTests := true, laidLooks := .later }
def FnExactPageGridCardSaid : Prop := Claim7.holds Tryd.pinned (.plain (OpenSpec.ofChange fnExactPageGridSpec)) fnExactPageGridCard

/-- THE TIED CARD OF 'laws.FnPageGrid'. -/
def fnPageGridCard : Claim7 := { stood := { row := fnPageGridRow, standIns := [], harness := (true, "b713f5337501b7122f73bcd531d704ffa8957d10e54607e783696b3005520f37"), looks := true }, kinds := [], alts := [], laidByText := true, laidKinds := [.data, .data, .data, .data, .pinned], laidTests := true, laidLooks := .later }
def FnPageGridCardSaid : Prop := Claim7.holds Tryd.pinned (.plain (OpenSpec.ofChange fnPageGridSpec)) fnPageGridCard

/-- THE TIED CARD OF 'laws.FnExactPagesText'. -/
def fnExactPagesTextCard : Claim7 := { stood := { row := fnExactPagesTextRow, standIns := [], harness := (true, "b713f5337501b7122f73bcd531d704ffa8957d10e54607e783696b3005520f37"), looks := true }, kinds := [], alts := [], laidByText := true, laidKinds := [.data, .data, .data], laidTests := true, laidLooks := .later }
def FnExactPagesTextCardSaid : Prop := Claim7.holds Tryd.pinned (.plain (OpenSpec.ofChange fnExactPagesTextSpec)) fnExactPagesTextCard

/-- THE TIED CARD OF 'laws.FnPagesText'. -/
def fnPagesTextCard : Claim7 := { stood := { row := fnPagesTextRow, standIns := [], harness := (true, "b713f5337501b7122f73bcd531d704ffa8957d10e54607e783696b3005520f37"), looks := true }, kinds := [], alts := [], laidByText := true, laidKinds := [.data, .data, .data, .data, .sentinel, .sentinel, .pinned], laidTests := true, laidLooks := .later }
def FnPagesTextCardSaid : Prop := Claim7.holds Tryd.pinned (.plain (OpenSpec.ofChange fnPagesTextSpec)) fnPagesTextCard

/-- THE TIED CARD OF 'laws.FnExactReadPages'. -/
def fnExactReadPagesCard : Claim7 := { stood := { row := fnExactReadPagesRow, standIns := [], harness := (true, "b713f5337501b7122f73bcd531d704ffa8957d10e54607e783696b3005520f37"), looks := true }, kinds := [], alts := [], laidByText := true, laidKinds := [.data, .data, .data, .data, .sentinel, .sentinel, .pinned], laidTests := true, laidLooks := .later }
def FnExactReadPagesCardSaid : Prop := Claim7.holds Tryd.pinned (.plain (OpenSpec.ofChange fnExactReadPagesSpec)) fnExactReadPagesCard

/-- THE TIED CARD OF 'laws.FnReadPages'. -/
def fnReadPagesCard : Claim7 := { stood := { row := fnReadPagesRow, standIns := [], harness := (true, "b713f5337501b7122f73bcd531d704ffa8957d10e54607e783696b3005520f37"), looks := true }, kinds := [], alts := [], laidByText := true, laidKinds := [.data, .data, .data, .data, .sentinel, .sentinel, .pinned], laidTests := true, laidLooks := .later }
def FnReadPagesCardSaid : Prop := Claim7.holds Tryd.pinned (.plain (OpenSpec.ofChange fnReadPagesSpec)) fnReadPagesCard

/-- THE TIED CARD OF 'laws.FnExactIndexOf'. -/
def fnExactIndexOfCard : Claim7 := { stood := { row := fnExactIndexOfRow, standIns := [], harness := (true, "b713f5337501b7122f73bcd531d704ffa8957d10e54607e783696b3005520f37"), looks := true }, kinds := [], alts := [], laidByText := true, laidKinds := [.data, .data, .data], laidTests := true, laidLooks := .later }
def FnExactIndexOfCardSaid : Prop := Claim7.holds Tryd.pinned (.plain (OpenSpec.ofChange fnExactIndexOfSpec)) fnExactIndexOfCard

/-- THE TIED CARD OF 'laws.FnIndexOf'. -/
def fnIndexOfCard : Claim7 := { stood := { row := fnIndexOfRow, standIns := [], harness := (true, "b713f5337501b7122f73bcd531d704ffa8957d10e54607e783696b3005520f37"), looks := true }, kinds := [], alts := [], laidByText := true, laidKinds := [.data, .data, .data], laidTests := true, laidLooks := .later }
def FnIndexOfCardSaid : Prop := Claim7.holds Tryd.pinned (.plain (OpenSpec.ofChange fnIndexOfSpec)) fnIndexOfCard

/-- THE SECOND FORM's CARD OF 'laws.FnExactPageGrid'. -/
def fnExactPageGridUptoCard : Claim7 := { stood := { row := fnExactPageGridUptoRow, standIns := [], harness := (true, "b713f5337501b7122f73bcd531d704ffa8957d10e54607e783696b3005520f37"), looks := true }, kinds := [], alts := [], laidByText := true, laidKinds := [.data, .data, .data], laidTests := true, laidLooks := .later }
def FnExactPageGridUptoCardSaid : Prop := Claim7.holds Tryd.pinned (.plain (OpenSpec.upto fnExactPageGridSpec)) fnExactPageGridUptoCard

/-- THE SECOND FORM's CARD OF 'laws.FnPageGrid'. -/
def fnPageGridUptoCard : Claim7 := { stood := { row := fnPageGridUptoRow, standIns := [], harness := (true, "b713f5337501b7122f73bcd531d704ffa8957d10e54607e783696b3005520f37"), looks := true }, kinds := [], alts := [], laidByText := true, laidKinds := [.data, .data, .data, .data, .pinned], laidTests := true, laidLooks := .later }
def FnPageGridUptoCardSaid : Prop := Claim7.holds Tryd.pinned (.plain (OpenSpec.upto fnPageGridSpec)) fnPageGridUptoCard

/-- THE SECOND FORM's CARD OF 'laws.FnExactPagesText'. -/
def fnExactPagesTextUptoCard : Claim7 := { stood := { row := fnExactPagesTextUptoRow, standIns := [], harness := (true, "b713f5337501b7122f73bcd531d704ffa8957d10e54607e783696b3005520f37"), looks := true }, kinds := [], alts := [], laidByText := true, laidKinds := [.data, .data, .data], laidTests := true, laidLooks := .later }
def FnExactPagesTextUptoCardSaid : Prop := Claim7.holds Tryd.pinned (.plain (OpenSpec.upto fnExactPagesTextSpec)) fnExactPagesTextUptoCard

/-- THE SECOND FORM's CARD OF 'laws.FnPagesText'. -/
def fnPagesTextUptoCard : Claim7 := { stood := { row := fnPagesTextUptoRow, standIns := [], harness := (true, "b713f5337501b7122f73bcd531d704ffa8957d10e54607e783696b3005520f37"), looks := true }, kinds := [], alts := [], laidByText := true, laidKinds := [.data, .data, .data, .data, .sentinel, .sentinel, .pinned], laidTests := true, laidLooks := .later }
def FnPagesTextUptoCardSaid : Prop := Claim7.holds Tryd.pinned (.plain (OpenSpec.upto fnPagesTextSpec)) fnPagesTextUptoCard

/-- THE SECOND FORM's CARD OF 'laws.FnExactReadPages'. -/
def fnExactReadPagesUptoCard : Claim7 := { stood := { row := fnExactReadPagesUptoRow, standIns := [], harness := (true, "b713f5337501b7122f73bcd531d704ffa8957d10e54607e783696b3005520f37"), looks := true }, kinds := [], alts := [], laidByText := true, laidKinds := [.data, .data, .data, .data, .sentinel, .sentinel, .pinned], laidTests := true, laidLooks := .later }
def FnExactReadPagesUptoCardSaid : Prop := Claim7.holds Tryd.pinned (.plain (OpenSpec.upto fnExactReadPagesSpec)) fnExactReadPagesUptoCard

/-- THE SECOND FORM's CARD OF 'laws.FnReadPages'. -/
def fnReadPagesUptoCard : Claim7 := { stood := { row := fnReadPagesUptoRow, standIns := [], harness := (true, "b713f5337501b7122f73bcd531d704ffa8957d10e54607e783696b3005520f37"), looks := true }, kinds := [], alts := [], laidByText := true, laidKinds := [.data, .data, .data, .data, .sentinel, .sentinel, .pinned], laidTests := true, laidLooks := .later }
def FnReadPagesUptoCardSaid : Prop := Claim7.holds Tryd.pinned (.plain (OpenSpec.upto fnReadPagesSpec)) fnReadPagesUptoCard

/-- THE SECOND FORM's CARD OF 'laws.FnExactIndexOf'. -/
def fnExactIndexOfUptoCard : Claim7 := { stood := { row := fnExactIndexOfUptoRow, standIns := [], harness := (true, "b713f5337501b7122f73bcd531d704ffa8957d10e54607e783696b3005520f37"), looks := true }, kinds := [], alts := [], laidByText := true, laidKinds := [.data, .data, .data], laidTests := true, laidLooks := .later }
def FnExactIndexOfUptoCardSaid : Prop := Claim7.holds Tryd.pinned (.plain (OpenSpec.upto fnExactIndexOfSpec)) fnExactIndexOfUptoCard

/-- THE SECOND FORM's CARD OF 'laws.FnIndexOf'. -/
def fnIndexOfUptoCard : Claim7 := { stood := { row := fnIndexOfUptoRow, standIns := [], harness := (true, "b713f5337501b7122f73bcd531d704ffa8957d10e54607e783696b3005520f37"), looks := true }, kinds := [], alts := [], laidByText := true, laidKinds := [.data, .data, .data], laidTests := true, laidLooks := .later }
def FnIndexOfUptoCardSaid : Prop := Claim7.holds Tryd.pinned (.plain (OpenSpec.upto fnIndexOfSpec)) fnIndexOfUptoCard
end Rows
end Go.Proofs.YtpggpdbipajchaaDoor
