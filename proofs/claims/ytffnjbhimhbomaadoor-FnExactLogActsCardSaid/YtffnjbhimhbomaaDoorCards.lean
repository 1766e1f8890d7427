/-
  DERIVED. GIVEN WITH THE SEED: THE CARDS: each row of YtffnjbhimhbomaaDoorRows.lean that lists a variable, with what it lists TIED to the program's text (the seventh form; the later family's looks); each row that meets fmt, with fmt's text TOLD by the authors' own Lean function (tested against real Go, not proved from fmt's source: count such statements apart). THE CARD IS WHAT COUNTS. Prove the row's statement (the work); the ties are given (YtffnjbhimhbomaaDoorTie.lean); close each card by the builder's one call (the guide's Derived/Test/ToyasCard.lean, 'card_holds'). Laid BY PROGRAM, IN A SANDBOX (cutbox-door.mjs). By AI agents, Wed Nov 11 2026. No macro, syntax, notation, axiom, sorry.
-/
import Derived.Test.YtffnjbhimhbomaaDoorRows
import GoSem.ClaimSeven
namespace Go.Proofs.YtffnjbhimhbomaaDoor
namespace Rows

/-- THE TIED CARD OF 'laws.FnExactSplitPath'. -/
def fnExactSplitPathCard : Claim7 := { stood := { row := fnExactSplitPathRow, standIns := [], harness := (true, "38242f14873f877fcbd3a87b0fca433b3505fe4da22ee2a424fe0dc58d9d1304"), looks := false }, kinds := [], alts := [], laidByText := true, laidKinds := [.data, .pinned], laidTests := true, laidLooks := .later }
def FnExactSplitPathCardSaid : Prop := Claim7.holds Tryd.pinned (.plain (OpenSpec.ofChange fnExactSplitPathSpec)) fnExactSplitPathCard

/-- THE TIED CARD OF 'laws.FnExactParentPath'. -/
def fnExactParentPathCard : Claim7 := { stood := { row := fnExactParentPathRow, standIns := [], harness := (true, "38242f14873f877fcbd3a87b0fca433b3505fe4da22ee2a424fe0dc58d9d1304"), looks := false }, kinds := [], alts := [], laidByText := true, laidKinds := [.data, .pinned], laidTests := true, laidLooks := .later }
def FnExactParentPathCardSaid : Prop := Claim7.holds Tryd.pinned (.plain (OpenSpec.ofChange fnExactParentPathSpec)) fnExactParentPathCard

/-- THE TIED CARD OF 'laws.FnExactEditOk'. -/
def fnExactEditOkCard : Claim7 := { stood := { row := fnExactEditOkRow, standIns := [], harness := (true, "38242f14873f877fcbd3a87b0fca433b3505fe4da22ee2a424fe0dc58d9d1304"), looks := false }, kinds := [], alts := [], laidByText := true, laidKinds := [.data, .pinned], laidTests := true, laidLooks := .later }
def FnExactEditOkCardSaid : Prop := Claim7.holds Tryd.pinned (.plain (OpenSpec.ofChange fnExactEditOkSpec)) fnExactEditOkCard

/-- THE TIED CARD OF 'laws.FnExactEditText'. -/
def fnExactEditTextCard : Claim7 := { stood := { row := fnExactEditTextRow, standIns := [], harness := (true, "38242f14873f877fcbd3a87b0fca433b3505fe4da22ee2a424fe0dc58d9d1304"), looks := false }, kinds := [], alts := [], laidByText := true, laidKinds := [.data, .pinned], laidTests := true, laidLooks := .later }
def FnExactEditTextCardSaid : Prop := Claim7.holds Tryd.pinned (.plain (OpenSpec.ofChange fnExactEditTextSpec)) fnExactEditTextCard

/-- THE TIED CARD OF 'laws.FnExactReadEdit'. -/
def fnExactReadEditCard : Claim7 := { stood := { row := fnExactReadEditRow, standIns := [], harness := (true, "38242f14873f877fcbd3a87b0fca433b3505fe4da22ee2a424fe0dc58d9d1304"), looks := false }, kinds := [], alts := [], laidByText := true, laidKinds := [.data, .pinned], laidTests := true, laidLooks := .later }
def FnExactReadEditCardSaid : Prop := Claim7.holds Tryd.pinned (.plain (OpenSpec.ofChange fnExactReadEditSpec)) fnExactReadEditCard

/-- THE TIED CARD OF 'laws.FnExactLogActs'. -/
def fnExactLogActsCard : Claim7 := { stood := { row := fnExactLogActsRow, standIns := [], harness := (true, "38242f14873f877fcbd3a87b0fca433b3505fe4da22ee2a424fe0dc58d9d1304"), looks := false }, kinds := [], alts := [], laidByText := true, laidKinds := [.data, .pinned], laidTests := true, laidLooks := .later }
def FnExactLogActsCardSaid : Prop := Claim7.holds Tryd.pinned (.plain (OpenSpec.ofChange fnExactLogActsSpec)) fnExactLogActsCard

/-- THE TIED CARD OF 'laws.FnExactReadLog'. -/
def fnExactReadLogCard : Claim7 := { stood := { row := fnExactReadLogRow, standIns := [], harness := (true, "38242f14873f877fcbd3a87b0fca433b3505fe4da22ee2a424fe0dc58d9d1304"), looks := false }, kinds := [], alts := [], laidByText := true, laidKinds := [.data, .pinned], laidTests := true, laidLooks := .later }
def FnExactReadLogCardSaid : Prop := Claim7.holds Tryd.pinned (.plain (OpenSpec.ofChange fnExactReadLogSpec)) fnExactReadLogCard

/-- THE SECOND FORM's CARD OF 'laws.FnExactSplitPath'. -/
def fnExactSplitPathUptoCard : Claim7 := { stood := { row := fnExactSplitPathUptoRow, standIns := [], harness := (true, "38242f14873f877fcbd3a87b0fca433b3505fe4da22ee2a424fe0dc58d9d1304"), looks := false }, kinds := [], alts := [], laidByText := true, laidKinds := [.data, .pinned], laidTests := true, laidLooks := .later }
def FnExactSplitPathUptoCardSaid : Prop := Claim7.holds Tryd.pinned (.plain (OpenSpec.upto fnExactSplitPathSpec)) fnExactSplitPathUptoCard

/-- THE SECOND FORM's CARD OF 'laws.FnExactParentPath'. -/
def fnExactParentPathUptoCard : Claim7 := { stood := { row := fnExactParentPathUptoRow, standIns := [], harness := (true, "38242f14873f877fcbd3a87b0fca433b3505fe4da22ee2a424fe0dc58d9d1304"), looks := false }, kinds := [], alts := [], laidByText := true, laidKinds := [.data, .pinned], laidTests := true, laidLooks := .later }
def FnExactParentPathUptoCardSaid : Prop := Claim7.holds Tryd.pinned (.plain (OpenSpec.upto fnExactParentPathSpec)) fnExactParentPathUptoCard

/-- THE SECOND FORM's CARD OF 'laws.FnExactEditOk'. -/
def fnExactEditOkUptoCard : Claim7 := { stood := { row := fnExactEditOkUptoRow, standIns := [], harness := (true, "38242f14873f877fcbd3a87b0fca433b3505fe4da22ee2a424fe0dc58d9d1304"), looks := false }, kinds := [], alts := [], laidByText := true, laidKinds := [.data, .pinned], laidTests := true, laidLooks := .later }
def FnExactEditOkUptoCardSaid : Prop := Claim7.holds Tryd.pinned (.plain (OpenSpec.upto fnExactEditOkSpec)) fnExactEditOkUptoCard

/-- THE SECOND FORM's CARD OF 'laws.FnExactEditText'. -/
def fnExactEditTextUptoCard : Claim7 := { stood := { row := fnExactEditTextUptoRow, standIns := [], harness := (true, "38242f14873f877fcbd3a87b0fca433b3505fe4da22ee2a424fe0dc58d9d1304"), looks := false }, kinds := [], alts := [], laidByText := true, laidKinds := [.data, .pinned], laidTests := true, laidLooks := .later }
def FnExactEditTextUptoCardSaid : Prop := Claim7.holds Tryd.pinned (.plain (OpenSpec.upto fnExactEditTextSpec)) fnExactEditTextUptoCard

/-- THE SECOND FORM's CARD OF 'laws.FnExactReadEdit'. -/
def fnExactReadEditUptoCard : Claim7 := { stood := { row := fnExactReadEditUptoRow, standIns := [], harness := (true, "38242f14873f877fcbd3a87b0fca433b3505fe4da22ee2a424fe0dc58d9d1304"), looks := false }, kinds := [], alts := [], laidByText := true, laidKinds := [.data, .pinned], laidTests := true, laidLooks := .later }
def FnExactReadEditUptoCardSaid : Prop := Claim7.holds Tryd.pinned (.plain (OpenSpec.upto fnExactReadEditSpec)) fnExactReadEditUptoCard

/-- THE SECOND FORM's CARD OF 'laws.FnExactLogActs'. -/
def fnExactLogActsUptoCard : Claim7 := { stood := { row := fnExactLogActsUptoRow, standIns := [], harness := (true, "38242f14873f877fcbd3a87b0fca433b3505fe4da22ee2a424fe0dc58d9d1304"), looks := false }, kinds := [], alts := [], laidByText := true, laidKinds := [.data, .pinned], laidTests := true, laidLooks := .later }
def FnExactLogActsUptoCardSaid : Prop := Claim7.holds Tryd.pinned (.plain (OpenSpec.upto fnExactLogActsSpec)) fnExactLogActsUptoCard

/-- THE SECOND FORM's CARD OF 'laws.FnExactReadLog'. -/
def fnExactReadLogUptoCard : Claim7 := { stood := { row := fnExactReadLogUptoRow, standIns := [], harness := (true, "38242f14873f877fcbd3a87b0fca433b3505fe4da22ee2a424fe0dc58d9d1304"), looks := false }, kinds := [], alts := [], laidByText := true, laidKinds := [.data, .pinned], laidTests := true, laidLooks := .later }
def FnExactReadLogUptoCardSaid : Prop := Claim7.holds Tryd.pinned (.plain (OpenSpec.upto fnExactReadLogSpec)) fnExactReadLogUptoCard
end Rows
end Go.Proofs.YtffnjbhimhbomaaDoor
