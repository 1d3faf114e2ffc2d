/-
  DERIVED. GIVEN WITH THE SEED: THE CARDS: each row of YtghhlakfbgcmkaaDoorRows.lean that lists a variable, with what it lists TIED to the program's text (the seventh form; the later family's looks); each row that meets fmt, with fmt's text TOLD by the authors' own Lean function (tested against real Go, not proved from fmt's source: count such statements apart). THE CARD IS WHAT COUNTS. Prove the row's statement (the work); the ties are given (YtghhlakfbgcmkaaDoorTie.lean); close each card by the builder's one call (the guide's Derived/Test/ToyasCard.lean, 'card_holds'). Laid BY PROGRAM, IN A SANDBOX (cutbox-door.mjs). By AI agents, Wed Nov 11 2026. No macro, syntax, notation, axiom, sorry.
-/
import Derived.Test.YtghhlakfbgcmkaaDoorRows
import GoSem.ClaimSeven
namespace Go.Proofs.YtghhlakfbgcmkaaDoor
namespace Rows

/-- THE TIED CARD OF 'laws.FnExactLabelPages'. -/
def fnExactLabelPagesCard : Claim7 := { stood := { row := fnExactLabelPagesRow, standIns := [], harness := (true, "3209f8fab9ca3d8dc89146e563c5bed7a609d3f317a185db631c171a31e3ace7"), looks := false }, kinds := [], alts := [], laidByText := true, laidKinds := [.data, .data, .data], laidTests := true, laidLooks := .later }
def FnExactLabelPagesCardSaid : Prop := Claim7.holds Tryd.pinned (.plain (OpenSpec.ofChange fnExactLabelPagesSpec)) fnExactLabelPagesCard

/-- THE TIED CARD OF 'laws.FnLabelPages'. -/
def fnLabelPagesCard : Claim7 := { stood := { row := fnLabelPagesRow, standIns := [], harness := (true, "3209f8fab9ca3d8dc89146e563c5bed7a609d3f317a185db631c171a31e3ace7"), looks := false }, kinds := [], alts := [], laidByText := true, laidKinds := [.data, .data, .data], laidTests := true, laidLooks := .later }
def FnLabelPagesCardSaid : Prop := Claim7.holds Tryd.pinned (.plain (OpenSpec.ofChange fnLabelPagesSpec)) fnLabelPagesCard

/-- THE TIED CARD OF 'laws.FnExactSettleLabels'. -/
def fnExactSettleLabelsCard : Claim7 := { stood := { row := fnExactSettleLabelsRow, standIns := [], harness := (true, "3209f8fab9ca3d8dc89146e563c5bed7a609d3f317a185db631c171a31e3ace7"), looks := false }, kinds := [], alts := [], laidByText := true, laidKinds := [.data, .data, .data], laidTests := true, laidLooks := .later }
def FnExactSettleLabelsCardSaid : Prop := Claim7.holds Tryd.pinned (.plain (OpenSpec.ofChange fnExactSettleLabelsSpec)) fnExactSettleLabelsCard

/-- THE TIED CARD OF 'laws.FnSettleLabels'. -/
def fnSettleLabelsCard : Claim7 := { stood := { row := fnSettleLabelsRow, standIns := [], harness := (true, "3209f8fab9ca3d8dc89146e563c5bed7a609d3f317a185db631c171a31e3ace7"), looks := false }, kinds := [], alts := [], laidByText := true, laidKinds := [.data, .data, .data], laidTests := true, laidLooks := .later }
def FnSettleLabelsCardSaid : Prop := Claim7.holds Tryd.pinned (.plain (OpenSpec.ofChange fnSettleLabelsSpec)) fnSettleLabelsCard

/-- THE TIED CARD OF 'laws.FnLabelsFew'. -/
def fnLabelsFewCard : Claim7 := { stood := { row := fnLabelsFewRow, standIns := [], harness := (true, "3209f8fab9ca3d8dc89146e563c5bed7a609d3f317a185db631c171a31e3ace7"), looks := false }, kinds := [], alts := [], laidByText := true, laidKinds := [.data, .data, .data], laidTests := true, laidLooks := .later }
def FnLabelsFewCardSaid : Prop := Claim7.holds Tryd.pinned (.plain (OpenSpec.ofChange fnLabelsFewSpec)) fnLabelsFewCard

/-- THE TIED CARD OF 'laws.FnLabelsRight'. -/
def fnLabelsRightCard : Claim7 := { stood := { row := fnLabelsRightRow, standIns := [], harness := (true, "3209f8fab9ca3d8dc89146e563c5bed7a609d3f317a185db631c171a31e3ace7"), looks := false }, kinds := [], alts := [], laidByText := true, laidKinds := [.data, .data, .data], laidTests := true, laidLooks := .later }
def FnLabelsRightCardSaid : Prop := Claim7.holds Tryd.pinned (.plain (OpenSpec.ofChange fnLabelsRightSpec)) fnLabelsRightCard

/-- THE TIED CARD OF 'laws.FnExactLabelsRight'. -/
def fnExactLabelsRightCard : Claim7 := { stood := { row := fnExactLabelsRightRow, standIns := [], harness := (true, "3209f8fab9ca3d8dc89146e563c5bed7a609d3f317a185db631c171a31e3ace7"), looks := false }, kinds := [], alts := [], laidByText := true, laidKinds := [.data, .data, .data], laidTests := true, laidLooks := .later }
def FnExactLabelsRightCardSaid : Prop := Claim7.holds Tryd.pinned (.plain (OpenSpec.ofChange fnExactLabelsRightSpec)) fnExactLabelsRightCard

/-- THE SECOND FORM's CARD OF 'laws.FnExactLabelPages'. -/
def fnExactLabelPagesUptoCard : Claim7 := { stood := { row := fnExactLabelPagesUptoRow, standIns := [], harness := (true, "3209f8fab9ca3d8dc89146e563c5bed7a609d3f317a185db631c171a31e3ace7"), looks := false }, kinds := [], alts := [], laidByText := true, laidKinds := [.data, .data, .data], laidTests := true, laidLooks := .later }
def FnExactLabelPagesUptoCardSaid : Prop := Claim7.holds Tryd.pinned (.plain (OpenSpec.upto fnExactLabelPagesSpec)) fnExactLabelPagesUptoCard

/-- THE SECOND FORM's CARD OF 'laws.FnLabelPages'. -/
def fnLabelPagesUptoCard : Claim7 := { stood := { row := fnLabelPagesUptoRow, standIns := [], harness := (true, "3209f8fab9ca3d8dc89146e563c5bed7a609d3f317a185db631c171a31e3ace7"), looks := false }, kinds := [], alts := [], laidByText := true, laidKinds := [.data, .data, .data], laidTests := true, laidLooks := .later }
def FnLabelPagesUptoCardSaid : Prop := Claim7.holds Tryd.pinned (.plain (OpenSpec.upto fnLabelPagesSpec)) fnLabelPagesUptoCard

/-- THE SECOND FORM's CARD OF 'laws.FnExactSettleLabels'. -/
def fnExactSettleLabelsUptoCard : Claim7 := { stood := { row := fnExactSettleLabelsUptoRow, standIns := [], harness := (true, "3209f8fab9ca3d8dc89146e563c5bed7a609d3f317a185db631c171a31e3ace7"), looks := false }, kinds := [], alts := [], laidByText := true, laidKinds := [.data, .data, .data], laidTests := true, laidLooks := .later }
def FnExactSettleLabelsUptoCardSaid : Prop := Claim7.holds Tryd.pinned (.plain (OpenSpec.upto fnExactSettleLabelsSpec)) fnExactSettleLabelsUptoCard

/-- THE SECOND FORM's CARD OF 'laws.FnSettleLabels'. -/
def fnSettleLabelsUptoCard : Claim7 := { stood := { row := fnSettleLabelsUptoRow, standIns := [], harness := (true, "3209f8fab9ca3d8dc89146e563c5bed7a609d3f317a185db631c171a31e3ace7"), looks := false }, kinds := [], alts := [], laidByText := true, laidKinds := [.data, .data, .data], laidTests := true, laidLooks := .later }
def FnSettleLabelsUptoCardSaid : Prop := Claim7.holds Tryd.pinned (.plain (OpenSpec.upto fnSettleLabelsSpec)) fnSettleLabelsUptoCard

/-- THE SECOND FORM's CARD OF 'laws.FnLabelsFew'. -/
def fnLabelsFewUptoCard : Claim7 := { stood := { row := fnLabelsFewUptoRow, standIns := [], harness := (true, "3209f8fab9ca3d8dc89146e563c5bed7a609d3f317a185db631c171a31e3ace7"), looks := false }, kinds := [], alts := [], laidByText := true, laidKinds := [.data, .data, .data], laidTests := true, laidLooks := .later }
def FnLabelsFewUptoCardSaid : Prop := Claim7.holds Tryd.pinned (.plain (OpenSpec.upto fnLabelsFewSpec)) fnLabelsFewUptoCard

/-- THE SECOND FORM's CARD OF 'laws.FnLabelsRight'. -/
def fnLabelsRightUptoCard : Claim7 := { stood := { row := fnLabelsRightUptoRow, standIns := [], harness := (true, "3209f8fab9ca3d8dc89146e563c5bed7a609d3f317a185db631c171a31e3ace7"), looks := false }, kinds := [], alts := [], laidByText := true, laidKinds := [.data, .data, .data], laidTests := true, laidLooks := .later }
def FnLabelsRightUptoCardSaid : Prop := Claim7.holds Tryd.pinned (.plain (OpenSpec.upto fnLabelsRightSpec)) fnLabelsRightUptoCard

/-- THE SECOND FORM's CARD OF 'laws.FnExactLabelsRight'. -/
def fnExactLabelsRightUptoCard : Claim7 := { stood := { row := fnExactLabelsRightUptoRow, standIns := [], harness := (true, "3209f8fab9ca3d8dc89146e563c5bed7a609d3f317a185db631c171a31e3ace7"), looks := false }, kinds := [], alts := [], laidByText := true, laidKinds := [.data, .data, .data], laidTests := true, laidLooks := .later }
def FnExactLabelsRightUptoCardSaid : Prop := Claim7.holds Tryd.pinned (.plain (OpenSpec.upto fnExactLabelsRightSpec)) fnExactLabelsRightUptoCard
end Rows
end Go.Proofs.YtghhlakfbgcmkaaDoor
