/-
  DERIVED. GIVEN WITH THE SEED: THE CARDS: each row of YtbhbkaonlillhaaGreatDoorRows.lean that lists a variable, with what it lists TIED to the program's text (the seventh form; the later family's looks); each row that meets fmt, with fmt's text TOLD by the authors' own Lean function (tested against real Go, not proved from fmt's source: count such statements apart). THE CARD IS WHAT COUNTS. Prove the row's statement (the work); the ties are given (YtbhbkaonlillhaaGreatDoorTie.lean); close each card by the builder's one call (the guide's Derived/Test/ToyasCard.lean, 'card_holds'). Laid BY PROGRAM, IN A SANDBOX (cutbox-door.mjs). By AI agents, Wed Nov 11 2026. No macro, syntax, notation, axiom, sorry.
-/
import Derived.Test.YtbhbkaonlillhaaGreatDoorRows
import GoSem.ClaimSeven
namespace Go.Proofs.YtbhbkaonlillhaaGreatDoor
namespace Rows

/-- THE TIED CARD OF 'laws.FnLogCuts'. -/
def fnLogCutsCard : Claim7 := { stood := { row := fnLogCutsRow, standIns := [], harness := (true, "c098dedf05992501ee9d2431a2b68abbc1fbd17807d13dd145cd22df0809d7c7"), looks := false }, kinds := [], alts := [], laidByText := true, laidKinds := [.data, .pinned], laidTests := true, laidLooks := .later }
def FnLogCutsCardSaid : Prop := Claim7.holds Tryz.pinned (.plain (OpenSpec.ofChange fnLogCutsSpec)) fnLogCutsCard

/-- THE TIED CARD OF 'laws.FnSchemaKept'. -/
def fnSchemaKeptCard : Claim7 := { stood := { row := fnSchemaKeptRow, standIns := [], harness := (true, "c098dedf05992501ee9d2431a2b68abbc1fbd17807d13dd145cd22df0809d7c7"), looks := false }, kinds := [], alts := [], laidByText := true, laidKinds := [.data, .pinned], laidTests := true, laidLooks := .later }
def FnSchemaKeptCardSaid : Prop := Claim7.holds Tryz.pinned (.plain (OpenSpec.ofChange fnSchemaKeptSpec)) fnSchemaKeptCard

/-- THE TIED CARD OF 'laws.FnQuotas'. -/
def fnQuotasCard : Claim7 := { stood := { row := fnQuotasRow, standIns := [], harness := (true, "c098dedf05992501ee9d2431a2b68abbc1fbd17807d13dd145cd22df0809d7c7"), looks := false }, kinds := [], alts := [], laidByText := true, laidKinds := [.data, .pinned], laidTests := true, laidLooks := .later }
def FnQuotasCardSaid : Prop := Claim7.holds Tryz.pinned (.plain (OpenSpec.ofChange fnQuotasSpec)) fnQuotasCard

/-- THE TIED CARD OF 'laws.FnExactGroupsAfter'. -/
def fnExactGroupsAfterCard : Claim7 := { stood := { row := fnExactGroupsAfterRow, standIns := [], harness := (true, "c098dedf05992501ee9d2431a2b68abbc1fbd17807d13dd145cd22df0809d7c7"), looks := false }, kinds := [], alts := [], laidByText := true, laidKinds := [.data, .pinned], laidTests := true, laidLooks := .later }
def FnExactGroupsAfterCardSaid : Prop := Claim7.holds Tryz.pinned (.plain (OpenSpec.ofChange fnExactGroupsAfterSpec)) fnExactGroupsAfterCard

/-- THE TIED CARD OF 'laws.FnMoved'. -/
def fnMovedCard : Claim7 := { stood := { row := fnMovedRow, standIns := [], harness := (true, "c098dedf05992501ee9d2431a2b68abbc1fbd17807d13dd145cd22df0809d7c7"), looks := false }, kinds := [], alts := [], laidByText := true, laidKinds := [.data, .pinned], laidTests := true, laidLooks := .later }
def FnMovedCardSaid : Prop := Claim7.holds Tryz.pinned (.plain (OpenSpec.ofChange fnMovedSpec)) fnMovedCard

/-- THE TIED CARD OF 'laws.FnFinds'. -/
def fnFindsCard : Claim7 := { stood := { row := fnFindsRow, standIns := [], harness := (true, "c098dedf05992501ee9d2431a2b68abbc1fbd17807d13dd145cd22df0809d7c7"), looks := false }, kinds := [], alts := [], laidByText := true, laidKinds := [.data, .pinned], laidTests := true, laidLooks := .later }
def FnFindsCardSaid : Prop := Claim7.holds Tryz.pinned (.plain (OpenSpec.ofChange fnFindsSpec)) fnFindsCard

/-- THE TIED CARD OF 'laws.FnExactApply'. -/
def fnExactApplyCard : Claim7 := { stood := { row := fnExactApplyRow, standIns := [], harness := (true, "c098dedf05992501ee9d2431a2b68abbc1fbd17807d13dd145cd22df0809d7c7"), looks := false }, kinds := [], alts := [], laidByText := true, laidKinds := [.data, .pinned], laidTests := true, laidLooks := .later }
def FnExactApplyCardSaid : Prop := Claim7.holds Tryz.pinned (.plain (OpenSpec.ofChange fnExactApplySpec)) fnExactApplyCard

/-- THE TIED CARD OF 'laws.FnExactApplyAll'. -/
def fnExactApplyAllCard : Claim7 := { stood := { row := fnExactApplyAllRow, standIns := [], harness := (true, "c098dedf05992501ee9d2431a2b68abbc1fbd17807d13dd145cd22df0809d7c7"), looks := false }, kinds := [], alts := [], laidByText := true, laidKinds := [.data, .pinned], laidTests := true, laidLooks := .later }
def FnExactApplyAllCardSaid : Prop := Claim7.holds Tryz.pinned (.plain (OpenSpec.ofChange fnExactApplyAllSpec)) fnExactApplyAllCard

/-- THE TIED CARD OF 'laws.FnAppliedAll'. -/
def fnAppliedAllCard : Claim7 := { stood := { row := fnAppliedAllRow, standIns := [], harness := (true, "c098dedf05992501ee9d2431a2b68abbc1fbd17807d13dd145cd22df0809d7c7"), looks := false }, kinds := [], alts := [], laidByText := true, laidKinds := [.data, .pinned], laidTests := true, laidLooks := .later }
def FnAppliedAllCardSaid : Prop := Claim7.holds Tryz.pinned (.plain (OpenSpec.ofChange fnAppliedAllSpec)) fnAppliedAllCard

/-- THE TIED CARD OF 'laws.FnLogs'. -/
def fnLogsCard : Claim7 := { stood := { row := fnLogsRow, standIns := [], harness := (true, "c098dedf05992501ee9d2431a2b68abbc1fbd17807d13dd145cd22df0809d7c7"), looks := false }, kinds := [], alts := [], laidByText := true, laidKinds := [.data, .pinned], laidTests := true, laidLooks := .later }
def FnLogsCardSaid : Prop := Claim7.holds Tryz.pinned (.plain (OpenSpec.ofChange fnLogsSpec)) fnLogsCard

/-- THE TIED CARD OF 'laws.FnApplied'. -/
def fnAppliedCard : Claim7 := { stood := { row := fnAppliedRow, standIns := [], harness := (true, "c098dedf05992501ee9d2431a2b68abbc1fbd17807d13dd145cd22df0809d7c7"), looks := false }, kinds := [], alts := [], laidByText := true, laidKinds := [.data, .pinned], laidTests := true, laidLooks := .later }
def FnAppliedCardSaid : Prop := Claim7.holds Tryz.pinned (.plain (OpenSpec.ofChange fnAppliedSpec)) fnAppliedCard

/-- THE TIED CARD OF 'laws.FnExactRecover'. -/
def fnExactRecoverCard : Claim7 := { stood := { row := fnExactRecoverRow, standIns := [], harness := (true, "c098dedf05992501ee9d2431a2b68abbc1fbd17807d13dd145cd22df0809d7c7"), looks := false }, kinds := [], alts := [], laidByText := true, laidKinds := [.data, .pinned], laidTests := true, laidLooks := .later }
def FnExactRecoverCardSaid : Prop := Claim7.holds Tryz.pinned (.plain (OpenSpec.ofChange fnExactRecoverSpec)) fnExactRecoverCard

/-- THE SECOND FORM's CARD OF 'laws.FnLogCuts'. -/
def fnLogCutsUptoCard : Claim7 := { stood := { row := fnLogCutsUptoRow, standIns := [], harness := (true, "c098dedf05992501ee9d2431a2b68abbc1fbd17807d13dd145cd22df0809d7c7"), looks := false }, kinds := [], alts := [], laidByText := true, laidKinds := [.data, .pinned], laidTests := true, laidLooks := .later }
def FnLogCutsUptoCardSaid : Prop := Claim7.holds Tryz.pinned (.plain (OpenSpec.upto fnLogCutsSpec)) fnLogCutsUptoCard

/-- THE SECOND FORM's CARD OF 'laws.FnSchemaKept'. -/
def fnSchemaKeptUptoCard : Claim7 := { stood := { row := fnSchemaKeptUptoRow, standIns := [], harness := (true, "c098dedf05992501ee9d2431a2b68abbc1fbd17807d13dd145cd22df0809d7c7"), looks := false }, kinds := [], alts := [], laidByText := true, laidKinds := [.data, .pinned], laidTests := true, laidLooks := .later }
def FnSchemaKeptUptoCardSaid : Prop := Claim7.holds Tryz.pinned (.plain (OpenSpec.upto fnSchemaKeptSpec)) fnSchemaKeptUptoCard

/-- THE SECOND FORM's CARD OF 'laws.FnQuotas'. -/
def fnQuotasUptoCard : Claim7 := { stood := { row := fnQuotasUptoRow, standIns := [], harness := (true, "c098dedf05992501ee9d2431a2b68abbc1fbd17807d13dd145cd22df0809d7c7"), looks := false }, kinds := [], alts := [], laidByText := true, laidKinds := [.data, .pinned], laidTests := true, laidLooks := .later }
def FnQuotasUptoCardSaid : Prop := Claim7.holds Tryz.pinned (.plain (OpenSpec.upto fnQuotasSpec)) fnQuotasUptoCard

/-- THE SECOND FORM's CARD OF 'laws.FnExactGroupsAfter'. -/
def fnExactGroupsAfterUptoCard : Claim7 := { stood := { row := fnExactGroupsAfterUptoRow, standIns := [], harness := (true, "c098dedf05992501ee9d2431a2b68abbc1fbd17807d13dd145cd22df0809d7c7"), looks := false }, kinds := [], alts := [], laidByText := true, laidKinds := [.data, .pinned], laidTests := true, laidLooks := .later }
def FnExactGroupsAfterUptoCardSaid : Prop := Claim7.holds Tryz.pinned (.plain (OpenSpec.upto fnExactGroupsAfterSpec)) fnExactGroupsAfterUptoCard

/-- THE SECOND FORM's CARD OF 'laws.FnMoved'. -/
def fnMovedUptoCard : Claim7 := { stood := { row := fnMovedUptoRow, standIns := [], harness := (true, "c098dedf05992501ee9d2431a2b68abbc1fbd17807d13dd145cd22df0809d7c7"), looks := false }, kinds := [], alts := [], laidByText := true, laidKinds := [.data, .pinned], laidTests := true, laidLooks := .later }
def FnMovedUptoCardSaid : Prop := Claim7.holds Tryz.pinned (.plain (OpenSpec.upto fnMovedSpec)) fnMovedUptoCard

/-- THE SECOND FORM's CARD OF 'laws.FnFinds'. -/
def fnFindsUptoCard : Claim7 := { stood := { row := fnFindsUptoRow, standIns := [], harness := (true, "c098dedf05992501ee9d2431a2b68abbc1fbd17807d13dd145cd22df0809d7c7"), looks := false }, kinds := [], alts := [], laidByText := true, laidKinds := [.data, .pinned], laidTests := true, laidLooks := .later }
def FnFindsUptoCardSaid : Prop := Claim7.holds Tryz.pinned (.plain (OpenSpec.upto fnFindsSpec)) fnFindsUptoCard

/-- THE SECOND FORM's CARD OF 'laws.FnExactApply'. -/
def fnExactApplyUptoCard : Claim7 := { stood := { row := fnExactApplyUptoRow, standIns := [], harness := (true, "c098dedf05992501ee9d2431a2b68abbc1fbd17807d13dd145cd22df0809d7c7"), looks := false }, kinds := [], alts := [], laidByText := true, laidKinds := [.data, .pinned], laidTests := true, laidLooks := .later }
def FnExactApplyUptoCardSaid : Prop := Claim7.holds Tryz.pinned (.plain (OpenSpec.upto fnExactApplySpec)) fnExactApplyUptoCard

/-- THE SECOND FORM's CARD OF 'laws.FnExactApplyAll'. -/
def fnExactApplyAllUptoCard : Claim7 := { stood := { row := fnExactApplyAllUptoRow, standIns := [], harness := (true, "c098dedf05992501ee9d2431a2b68abbc1fbd17807d13dd145cd22df0809d7c7"), looks := false }, kinds := [], alts := [], laidByText := true, laidKinds := [.data, .pinned], laidTests := true, laidLooks := .later }
def FnExactApplyAllUptoCardSaid : Prop := Claim7.holds Tryz.pinned (.plain (OpenSpec.upto fnExactApplyAllSpec)) fnExactApplyAllUptoCard

/-- THE SECOND FORM's CARD OF 'laws.FnAppliedAll'. -/
def fnAppliedAllUptoCard : Claim7 := { stood := { row := fnAppliedAllUptoRow, standIns := [], harness := (true, "c098dedf05992501ee9d2431a2b68abbc1fbd17807d13dd145cd22df0809d7c7"), looks := false }, kinds := [], alts := [], laidByText := true, laidKinds := [.data, .pinned], laidTests := true, laidLooks := .later }
def FnAppliedAllUptoCardSaid : Prop := Claim7.holds Tryz.pinned (.plain (OpenSpec.upto fnAppliedAllSpec)) fnAppliedAllUptoCard

/-- THE SECOND FORM's CARD OF 'laws.FnLogs'. -/
def fnLogsUptoCard : Claim7 := { stood := { row := fnLogsUptoRow, standIns := [], harness := (true, "c098dedf05992501ee9d2431a2b68abbc1fbd17807d13dd145cd22df0809d7c7"), looks := false }, kinds := [], alts := [], laidByText := true, laidKinds := [.data, .pinned], laidTests := true, laidLooks := .later }
def FnLogsUptoCardSaid : Prop := Claim7.holds Tryz.pinned (.plain (OpenSpec.upto fnLogsSpec)) fnLogsUptoCard

/-- THE SECOND FORM's CARD OF 'laws.FnApplied'. -/
def fnAppliedUptoCard : Claim7 := { stood := { row := fnAppliedUptoRow, standIns := [], harness := (true, "c098dedf05992501ee9d2431a2b68abbc1fbd17807d13dd145cd22df0809d7c7"), looks := false }, kinds := [], alts := [], laidByText := true, laidKinds := [.data, .pinned], laidTests := true, laidLooks := .later }
def FnAppliedUptoCardSaid : Prop := Claim7.holds Tryz.pinned (.plain (OpenSpec.upto fnAppliedSpec)) fnAppliedUptoCard

/-- THE SECOND FORM's CARD OF 'laws.FnExactRecover'. -/
def fnExactRecoverUptoCard : Claim7 := { stood := { row := fnExactRecoverUptoRow, standIns := [], harness := (true, "c098dedf05992501ee9d2431a2b68abbc1fbd17807d13dd145cd22df0809d7c7"), looks := false }, kinds := [], alts := [], laidByText := true, laidKinds := [.data, .pinned], laidTests := true, laidLooks := .later }
def FnExactRecoverUptoCardSaid : Prop := Claim7.holds Tryz.pinned (.plain (OpenSpec.upto fnExactRecoverSpec)) fnExactRecoverUptoCard
end Rows
end Go.Proofs.YtbhbkaonlillhaaGreatDoor
