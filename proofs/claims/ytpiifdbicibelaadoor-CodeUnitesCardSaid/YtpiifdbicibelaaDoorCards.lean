/-
  DERIVED. GIVEN WITH THE SEED: THE CARDS: each row of YtpiifdbicibelaaDoorRows.lean that lists a variable, with what it lists TIED to the program's text (the seventh form; the later family's looks); each row that meets fmt, with fmt's text TOLD by the authors' own Lean function (tested against real Go, not proved from fmt's source: count such statements apart). THE CARD IS WHAT COUNTS. Prove the row's statement (the work); the ties are given (YtpiifdbicibelaaDoorTie.lean); close each card by the builder's one call (the guide's Derived/Test/ToyasCard.lean, 'card_holds'). Laid BY PROGRAM, IN A SANDBOX (cutbox-door.mjs). By AI agents, Wed Nov 11 2026. No macro, syntax, notation, axiom, sorry.
-/
import Derived.Test.YtpiifdbicibelaaDoorRows
import GoSem.ClaimSeven
namespace Go.Proofs.YtpiifdbicibelaaDoor
namespace Rows

/-- THE TIED CARD OF 'vellumlaw02.CodeEncodes'. -/
def codeEncodesCard : Claim7 := { stood := { row := codeEncodesRow, standIns := [], harness := (true, "409e20a6319c123f59629b35fea50f486835097bfbed967dc062cdc0fc9eff79"), looks := false }, kinds := [], alts := [], laidByText := true, laidKinds := [.data, .pinned], laidTests := true, laidLooks := .later }
def CodeEncodesCardSaid : Prop := Claim7.holds Tryd.pinned (.plain (OpenSpec.ofChange codeEncodesSpec)) codeEncodesCard

/-- THE TIED CARD OF 'vellumlaw02.CodeOrders'. -/
def codeOrdersCard : Claim7 := { stood := { row := codeOrdersRow, standIns := [], harness := (true, "409e20a6319c123f59629b35fea50f486835097bfbed967dc062cdc0fc9eff79"), looks := false }, kinds := [], alts := [], laidByText := true, laidKinds := [.data, .pinned], laidTests := true, laidLooks := .later }
def CodeOrdersCardSaid : Prop := Claim7.holds Tryd.pinned (.plain (OpenSpec.ofChange codeOrdersSpec)) codeOrdersCard

/-- THE TIED CARD OF 'vellumlaw02.CodeMeets'. -/
def codeMeetsCard : Claim7 := { stood := { row := codeMeetsRow, standIns := [], harness := (true, "409e20a6319c123f59629b35fea50f486835097bfbed967dc062cdc0fc9eff79"), looks := false }, kinds := [], alts := [], laidByText := true, laidKinds := [.data, .pinned], laidTests := true, laidLooks := .later }
def CodeMeetsCardSaid : Prop := Claim7.holds Tryd.pinned (.plain (OpenSpec.ofChange codeMeetsSpec)) codeMeetsCard

/-- THE TIED CARD OF 'vellumlaw02.CodeRanges'. -/
def codeRangesCard : Claim7 := { stood := { row := codeRangesRow, standIns := [], harness := (true, "409e20a6319c123f59629b35fea50f486835097bfbed967dc062cdc0fc9eff79"), looks := false }, kinds := [], alts := [], laidByText := true, laidKinds := [.data, .pinned], laidTests := true, laidLooks := .later }
def CodeRangesCardSaid : Prop := Claim7.holds Tryd.pinned (.plain (OpenSpec.ofChange codeRangesSpec)) codeRangesCard

/-- THE TIED CARD OF 'vellumlaw02.CodeBegins'. -/
def codeBeginsCard : Claim7 := { stood := { row := codeBeginsRow, standIns := [], harness := (true, "409e20a6319c123f59629b35fea50f486835097bfbed967dc062cdc0fc9eff79"), looks := false }, kinds := [], alts := [], laidByText := true, laidKinds := [.data, .pinned], laidTests := true, laidLooks := .later }
def CodeBeginsCardSaid : Prop := Claim7.holds Tryd.pinned (.plain (OpenSpec.ofChange codeBeginsSpec)) codeBeginsCard

/-- THE TIED CARD OF 'vellumlaw02.CodeDecodes'. -/
def codeDecodesCard : Claim7 := { stood := { row := codeDecodesRow, standIns := [], harness := (true, "409e20a6319c123f59629b35fea50f486835097bfbed967dc062cdc0fc9eff79"), looks := false }, kinds := [], alts := [], laidByText := true, laidKinds := [.data, .pinned], laidTests := true, laidLooks := .later }
def CodeDecodesCardSaid : Prop := Claim7.holds Tryd.pinned (.plain (OpenSpec.ofChange codeDecodesSpec)) codeDecodesCard

/-- THE TIED CARD OF 'vellumlaw02.CodeBack'. -/
def codeBackCard : Claim7 := { stood := { row := codeBackRow, standIns := [], harness := (true, "409e20a6319c123f59629b35fea50f486835097bfbed967dc062cdc0fc9eff79"), looks := false }, kinds := [], alts := [], laidByText := true, laidKinds := [.data, .pinned], laidTests := true, laidLooks := .later }
def CodeBackCardSaid : Prop := Claim7.holds Tryd.pinned (.plain (OpenSpec.ofChange codeBackSpec)) codeBackCard

/-- THE TIED CARD OF 'vellumlaw02.CodeUnites'. -/
def codeUnitesCard : Claim7 := { stood := { row := codeUnitesRow, standIns := [], harness := (true, "409e20a6319c123f59629b35fea50f486835097bfbed967dc062cdc0fc9eff79"), looks := false }, kinds := [], alts := [], laidByText := true, laidKinds := [.data, .pinned], laidTests := true, laidLooks := .later }
def CodeUnitesCardSaid : Prop := Claim7.holds Tryd.pinned (.plain (OpenSpec.ofChange codeUnitesSpec)) codeUnitesCard

/-- THE TIED CARD OF 'vellumlaw02.CodeWhole'. -/
def codeWholeCard : Claim7 := { stood := { row := codeWholeRow, standIns := [], harness := (true, "409e20a6319c123f59629b35fea50f486835097bfbed967dc062cdc0fc9eff79"), looks := false }, kinds := [], alts := [], laidByText := true, laidKinds := [.data, .pinned], laidTests := true, laidLooks := .later }
def CodeWholeCardSaid : Prop := Claim7.holds Tryd.pinned (.plain (OpenSpec.ofChange codeWholeSpec)) codeWholeCard

/-- THE TIED CARD OF 'vellumlaw02.CodeOwn'. -/
def codeOwnCard : Claim7 := { stood := { row := codeOwnRow, standIns := [], harness := (true, "409e20a6319c123f59629b35fea50f486835097bfbed967dc062cdc0fc9eff79"), looks := false }, kinds := [], alts := [], laidByText := true, laidKinds := [.data, .pinned], laidTests := true, laidLooks := .later }
def CodeOwnCardSaid : Prop := Claim7.holds Tryd.pinned (.plain (OpenSpec.ofChange codeOwnSpec)) codeOwnCard

/-- THE TIED CARD OF 'vellumlaw04.RowEncodes'. -/
def rowEncodesCard : Claim7 := { stood := { row := rowEncodesRow, standIns := [], harness := (true, "409e20a6319c123f59629b35fea50f486835097bfbed967dc062cdc0fc9eff79"), looks := false }, kinds := [], alts := [], laidByText := true, laidKinds := [.data, .pinned], laidTests := true, laidLooks := .later }
def RowEncodesCardSaid : Prop := Claim7.holds Tryd.pinned (.plain (OpenSpec.ofChange rowEncodesSpec)) rowEncodesCard

/-- THE TIED CARD OF 'vellumlaw04.RowChanges'. -/
def rowChangesCard : Claim7 := { stood := { row := rowChangesRow, standIns := [], harness := (true, "409e20a6319c123f59629b35fea50f486835097bfbed967dc062cdc0fc9eff79"), looks := false }, kinds := [], alts := [], laidByText := true, laidKinds := [.data, .pinned], laidTests := true, laidLooks := .later }
def RowChangesCardSaid : Prop := Claim7.holds Tryd.pinned (.plain (OpenSpec.ofChange rowChangesSpec)) rowChangesCard

/-- THE TIED CARD OF 'vellumlaw04.RowDecodes'. -/
def rowDecodesCard : Claim7 := { stood := { row := rowDecodesRow, standIns := [], harness := (true, "409e20a6319c123f59629b35fea50f486835097bfbed967dc062cdc0fc9eff79"), looks := false }, kinds := [], alts := [], laidByText := true, laidKinds := [.data, .pinned], laidTests := true, laidLooks := .later }
def RowDecodesCardSaid : Prop := Claim7.holds Tryd.pinned (.plain (OpenSpec.ofChange rowDecodesSpec)) rowDecodesCard

/-- THE TIED CARD OF 'vellumlaw04.RowBack'. -/
def rowBackCard : Claim7 := { stood := { row := rowBackRow, standIns := [], harness := (true, "409e20a6319c123f59629b35fea50f486835097bfbed967dc062cdc0fc9eff79"), looks := false }, kinds := [], alts := [], laidByText := true, laidKinds := [.data, .pinned], laidTests := true, laidLooks := .later }
def RowBackCardSaid : Prop := Claim7.holds Tryd.pinned (.plain (OpenSpec.ofChange rowBackSpec)) rowBackCard

/-- THE TIED CARD OF 'vellumlaw04.RowApplies'. -/
def rowAppliesCard : Claim7 := { stood := { row := rowAppliesRow, standIns := [], harness := (true, "409e20a6319c123f59629b35fea50f486835097bfbed967dc062cdc0fc9eff79"), looks := false }, kinds := [], alts := [], laidByText := true, laidKinds := [.data, .pinned], laidTests := true, laidLooks := .later }
def RowAppliesCardSaid : Prop := Claim7.holds Tryd.pinned (.plain (OpenSpec.ofChange rowAppliesSpec)) rowAppliesCard

/-- THE TIED CARD OF 'vellumlaw04.RowOwn'. -/
def rowOwnCard : Claim7 := { stood := { row := rowOwnRow, standIns := [], harness := (true, "409e20a6319c123f59629b35fea50f486835097bfbed967dc062cdc0fc9eff79"), looks := false }, kinds := [], alts := [], laidByText := true, laidKinds := [.data, .pinned], laidTests := true, laidLooks := .later }
def RowOwnCardSaid : Prop := Claim7.holds Tryd.pinned (.plain (OpenSpec.ofChange rowOwnSpec)) rowOwnCard

/-- THE TIED CARD OF 'vellumlaw04.RowTurns'. -/
def rowTurnsCard : Claim7 := { stood := { row := rowTurnsRow, standIns := [], harness := (true, "409e20a6319c123f59629b35fea50f486835097bfbed967dc062cdc0fc9eff79"), looks := false }, kinds := [], alts := [], laidByText := true, laidKinds := [.data, .pinned], laidTests := true, laidLooks := .later }
def RowTurnsCardSaid : Prop := Claim7.holds Tryd.pinned (.plain (OpenSpec.ofChange rowTurnsSpec)) rowTurnsCard

/-- THE TIED CARD OF 'vellumlaw04.RowKeys'. -/
def rowKeysCard : Claim7 := { stood := { row := rowKeysRow, standIns := [], harness := (true, "409e20a6319c123f59629b35fea50f486835097bfbed967dc062cdc0fc9eff79"), looks := false }, kinds := [], alts := [], laidByText := true, laidKinds := [.data, .pinned], laidTests := true, laidLooks := .later }
def RowKeysCardSaid : Prop := Claim7.holds Tryd.pinned (.plain (OpenSpec.ofChange rowKeysSpec)) rowKeysCard

/-- THE SECOND FORM's CARD OF 'vellumlaw02.CodeEncodes'. -/
def codeEncodesUptoCard : Claim7 := { stood := { row := codeEncodesUptoRow, standIns := [], harness := (true, "409e20a6319c123f59629b35fea50f486835097bfbed967dc062cdc0fc9eff79"), looks := false }, kinds := [], alts := [], laidByText := true, laidKinds := [.data, .pinned], laidTests := true, laidLooks := .later }
def CodeEncodesUptoCardSaid : Prop := Claim7.holds Tryd.pinned (.plain (OpenSpec.upto codeEncodesSpec)) codeEncodesUptoCard

/-- THE SECOND FORM's CARD OF 'vellumlaw02.CodeOrders'. -/
def codeOrdersUptoCard : Claim7 := { stood := { row := codeOrdersUptoRow, standIns := [], harness := (true, "409e20a6319c123f59629b35fea50f486835097bfbed967dc062cdc0fc9eff79"), looks := false }, kinds := [], alts := [], laidByText := true, laidKinds := [.data, .pinned], laidTests := true, laidLooks := .later }
def CodeOrdersUptoCardSaid : Prop := Claim7.holds Tryd.pinned (.plain (OpenSpec.upto codeOrdersSpec)) codeOrdersUptoCard

/-- THE SECOND FORM's CARD OF 'vellumlaw02.CodeMeets'. -/
def codeMeetsUptoCard : Claim7 := { stood := { row := codeMeetsUptoRow, standIns := [], harness := (true, "409e20a6319c123f59629b35fea50f486835097bfbed967dc062cdc0fc9eff79"), looks := false }, kinds := [], alts := [], laidByText := true, laidKinds := [.data, .pinned], laidTests := true, laidLooks := .later }
def CodeMeetsUptoCardSaid : Prop := Claim7.holds Tryd.pinned (.plain (OpenSpec.upto codeMeetsSpec)) codeMeetsUptoCard

/-- THE SECOND FORM's CARD OF 'vellumlaw02.CodeRanges'. -/
def codeRangesUptoCard : Claim7 := { stood := { row := codeRangesUptoRow, standIns := [], harness := (true, "409e20a6319c123f59629b35fea50f486835097bfbed967dc062cdc0fc9eff79"), looks := false }, kinds := [], alts := [], laidByText := true, laidKinds := [.data, .pinned], laidTests := true, laidLooks := .later }
def CodeRangesUptoCardSaid : Prop := Claim7.holds Tryd.pinned (.plain (OpenSpec.upto codeRangesSpec)) codeRangesUptoCard

/-- THE SECOND FORM's CARD OF 'vellumlaw02.CodeBegins'. -/
def codeBeginsUptoCard : Claim7 := { stood := { row := codeBeginsUptoRow, standIns := [], harness := (true, "409e20a6319c123f59629b35fea50f486835097bfbed967dc062cdc0fc9eff79"), looks := false }, kinds := [], alts := [], laidByText := true, laidKinds := [.data, .pinned], laidTests := true, laidLooks := .later }
def CodeBeginsUptoCardSaid : Prop := Claim7.holds Tryd.pinned (.plain (OpenSpec.upto codeBeginsSpec)) codeBeginsUptoCard

/-- THE SECOND FORM's CARD OF 'vellumlaw02.CodeDecodes'. -/
def codeDecodesUptoCard : Claim7 := { stood := { row := codeDecodesUptoRow, standIns := [], harness := (true, "409e20a6319c123f59629b35fea50f486835097bfbed967dc062cdc0fc9eff79"), looks := false }, kinds := [], alts := [], laidByText := true, laidKinds := [.data, .pinned], laidTests := true, laidLooks := .later }
def CodeDecodesUptoCardSaid : Prop := Claim7.holds Tryd.pinned (.plain (OpenSpec.upto codeDecodesSpec)) codeDecodesUptoCard

/-- THE SECOND FORM's CARD OF 'vellumlaw02.CodeBack'. -/
def codeBackUptoCard : Claim7 := { stood := { row := codeBackUptoRow, standIns := [], harness := (true, "409e20a6319c123f59629b35fea50f486835097bfbed967dc062cdc0fc9eff79"), looks := false }, kinds := [], alts := [], laidByText := true, laidKinds := [.data, .pinned], laidTests := true, laidLooks := .later }
def CodeBackUptoCardSaid : Prop := Claim7.holds Tryd.pinned (.plain (OpenSpec.upto codeBackSpec)) codeBackUptoCard

/-- THE SECOND FORM's CARD OF 'vellumlaw02.CodeUnites'. -/
def codeUnitesUptoCard : Claim7 := { stood := { row := codeUnitesUptoRow, standIns := [], harness := (true, "409e20a6319c123f59629b35fea50f486835097bfbed967dc062cdc0fc9eff79"), looks := false }, kinds := [], alts := [], laidByText := true, laidKinds := [.data, .pinned], laidTests := true, laidLooks := .later }
def CodeUnitesUptoCardSaid : Prop := Claim7.holds Tryd.pinned (.plain (OpenSpec.upto codeUnitesSpec)) codeUnitesUptoCard

/-- THE SECOND FORM's CARD OF 'vellumlaw02.CodeWhole'. -/
def codeWholeUptoCard : Claim7 := { stood := { row := codeWholeUptoRow, standIns := [], harness := (true, "409e20a6319c123f59629b35fea50f486835097bfbed967dc062cdc0fc9eff79"), looks := false }, kinds := [], alts := [], laidByText := true, laidKinds := [.data, .pinned], laidTests := true, laidLooks := .later }
def CodeWholeUptoCardSaid : Prop := Claim7.holds Tryd.pinned (.plain (OpenSpec.upto codeWholeSpec)) codeWholeUptoCard

/-- THE SECOND FORM's CARD OF 'vellumlaw02.CodeOwn'. -/
def codeOwnUptoCard : Claim7 := { stood := { row := codeOwnUptoRow, standIns := [], harness := (true, "409e20a6319c123f59629b35fea50f486835097bfbed967dc062cdc0fc9eff79"), looks := false }, kinds := [], alts := [], laidByText := true, laidKinds := [.data, .pinned], laidTests := true, laidLooks := .later }
def CodeOwnUptoCardSaid : Prop := Claim7.holds Tryd.pinned (.plain (OpenSpec.upto codeOwnSpec)) codeOwnUptoCard

/-- THE SECOND FORM's CARD OF 'vellumlaw04.RowEncodes'. -/
def rowEncodesUptoCard : Claim7 := { stood := { row := rowEncodesUptoRow, standIns := [], harness := (true, "409e20a6319c123f59629b35fea50f486835097bfbed967dc062cdc0fc9eff79"), looks := false }, kinds := [], alts := [], laidByText := true, laidKinds := [.data, .pinned], laidTests := true, laidLooks := .later }
def RowEncodesUptoCardSaid : Prop := Claim7.holds Tryd.pinned (.plain (OpenSpec.upto rowEncodesSpec)) rowEncodesUptoCard

/-- THE SECOND FORM's CARD OF 'vellumlaw04.RowChanges'. -/
def rowChangesUptoCard : Claim7 := { stood := { row := rowChangesUptoRow, standIns := [], harness := (true, "409e20a6319c123f59629b35fea50f486835097bfbed967dc062cdc0fc9eff79"), looks := false }, kinds := [], alts := [], laidByText := true, laidKinds := [.data, .pinned], laidTests := true, laidLooks := .later }
def RowChangesUptoCardSaid : Prop := Claim7.holds Tryd.pinned (.plain (OpenSpec.upto rowChangesSpec)) rowChangesUptoCard

/-- THE SECOND FORM's CARD OF 'vellumlaw04.RowDecodes'. -/
def rowDecodesUptoCard : Claim7 := { stood := { row := rowDecodesUptoRow, standIns := [], harness := (true, "409e20a6319c123f59629b35fea50f486835097bfbed967dc062cdc0fc9eff79"), looks := false }, kinds := [], alts := [], laidByText := true, laidKinds := [.data, .pinned], laidTests := true, laidLooks := .later }
def RowDecodesUptoCardSaid : Prop := Claim7.holds Tryd.pinned (.plain (OpenSpec.upto rowDecodesSpec)) rowDecodesUptoCard

/-- THE SECOND FORM's CARD OF 'vellumlaw04.RowBack'. -/
def rowBackUptoCard : Claim7 := { stood := { row := rowBackUptoRow, standIns := [], harness := (true, "409e20a6319c123f59629b35fea50f486835097bfbed967dc062cdc0fc9eff79"), looks := false }, kinds := [], alts := [], laidByText := true, laidKinds := [.data, .pinned], laidTests := true, laidLooks := .later }
def RowBackUptoCardSaid : Prop := Claim7.holds Tryd.pinned (.plain (OpenSpec.upto rowBackSpec)) rowBackUptoCard

/-- THE SECOND FORM's CARD OF 'vellumlaw04.RowApplies'. -/
def rowAppliesUptoCard : Claim7 := { stood := { row := rowAppliesUptoRow, standIns := [], harness := (true, "409e20a6319c123f59629b35fea50f486835097bfbed967dc062cdc0fc9eff79"), looks := false }, kinds := [], alts := [], laidByText := true, laidKinds := [.data, .pinned], laidTests := true, laidLooks := .later }
def RowAppliesUptoCardSaid : Prop := Claim7.holds Tryd.pinned (.plain (OpenSpec.upto rowAppliesSpec)) rowAppliesUptoCard

/-- THE SECOND FORM's CARD OF 'vellumlaw04.RowOwn'. -/
def rowOwnUptoCard : Claim7 := { stood := { row := rowOwnUptoRow, standIns := [], harness := (true, "409e20a6319c123f59629b35fea50f486835097bfbed967dc062cdc0fc9eff79"), looks := false }, kinds := [], alts := [], laidByText := true, laidKinds := [.data, .pinned], laidTests := true, laidLooks := .later }
def RowOwnUptoCardSaid : Prop := Claim7.holds Tryd.pinned (.plain (OpenSpec.upto rowOwnSpec)) rowOwnUptoCard

/-- THE SECOND FORM's CARD OF 'vellumlaw04.RowTurns'. -/
def rowTurnsUptoCard : Claim7 := { stood := { row := rowTurnsUptoRow, standIns := [], harness := (true, "409e20a6319c123f59629b35fea50f486835097bfbed967dc062cdc0fc9eff79"), looks := false }, kinds := [], alts := [], laidByText := true, laidKinds := [.data, .pinned], laidTests := true, laidLooks := .later }
def RowTurnsUptoCardSaid : Prop := Claim7.holds Tryd.pinned (.plain (OpenSpec.upto rowTurnsSpec)) rowTurnsUptoCard

/-- THE SECOND FORM's CARD OF 'vellumlaw04.RowKeys'. -/
def rowKeysUptoCard : Claim7 := { stood := { row := rowKeysUptoRow, standIns := [], harness := (true, "409e20a6319c123f59629b35fea50f486835097bfbed967dc062cdc0fc9eff79"), looks := false }, kinds := [], alts := [], laidByText := true, laidKinds := [.data, .pinned], laidTests := true, laidLooks := .later }
def RowKeysUptoCardSaid : Prop := Claim7.holds Tryd.pinned (.plain (OpenSpec.upto rowKeysSpec)) rowKeysUptoCard
end Rows
end Go.Proofs.YtpiifdbicibelaaDoor
