/-
  DERIVED. GIVEN WITH THE SEED: THE CARDS: each row of YtciieaidbiejmaaDoorRows.lean that lists a variable, with what it lists TIED to the program's text (the seventh form; the later family's looks); each row that meets fmt, with fmt's text TOLD by the authors' own Lean function (tested against real Go, not proved from fmt's source: count such statements apart). THE CARD IS WHAT COUNTS. Prove the row's statement (the work); the ties are given (YtciieaidbiejmaaDoorTie.lean); close each card by the builder's one call (the guide's Derived/Test/ToyasCard.lean, 'card_holds'). Laid BY PROGRAM, IN A SANDBOX (cutbox-door.mjs). By AI agents, Wed Nov 11 2026. No macro, syntax, notation, axiom, sorry.
-/
import Derived.Test.YtciieaidbiejmaaDoorRows
import GoSem.ClaimSeven
namespace Go.Proofs.YtciieaidbiejmaaDoor
namespace Rows

/-- THE TIED CARD OF 'laws.FnExactAskLine'. -/
def fnExactAskLineCard : Claim7 := { stood := { row := fnExactAskLineRow, standIns := [], harness := (true, "60a148868634384a79bf22eb806164cf14f870f9dc7b92f74d6a6953a609ad9b"), looks := true }, kinds := [], alts := [], laidByText := true, laidKinds := [.data, .data, .data], laidTests := true, laidLooks := .later }
def FnExactAskLineCardSaid : Prop := Claim7.holds Tryd.pinned (.plain (OpenSpec.ofChange fnExactAskLineSpec)) fnExactAskLineCard

/-- THE TIED CARD OF 'laws.FnExactActLine'. -/
def fnExactActLineCard : Claim7 := { stood := { row := fnExactActLineRow, standIns := [], harness := (true, "60a148868634384a79bf22eb806164cf14f870f9dc7b92f74d6a6953a609ad9b"), looks := true }, kinds := [], alts := [], laidByText := true, laidKinds := [.data, .data, .data], laidTests := true, laidLooks := .later }
def FnExactActLineCardSaid : Prop := Claim7.holds Tryd.pinned (.plain (OpenSpec.ofChange fnExactActLineSpec)) fnExactActLineCard

/-- THE TIED CARD OF 'laws.FnExactResultLine'. -/
def fnExactResultLineCard : Claim7 := { stood := { row := fnExactResultLineRow, standIns := [], harness := (true, "60a148868634384a79bf22eb806164cf14f870f9dc7b92f74d6a6953a609ad9b"), looks := true }, kinds := [], alts := [], laidByText := true, laidKinds := [.data, .data, .data], laidTests := true, laidLooks := .later }
def FnExactResultLineCardSaid : Prop := Claim7.holds Tryd.pinned (.plain (OpenSpec.ofChange fnExactResultLineSpec)) fnExactResultLineCard

/-- THE TIED CARD OF 'laws.FnExactWorldLines'. -/
def fnExactWorldLinesCard : Claim7 := { stood := { row := fnExactWorldLinesRow, standIns := [], harness := (true, "60a148868634384a79bf22eb806164cf14f870f9dc7b92f74d6a6953a609ad9b"), looks := true }, kinds := [], alts := [], laidByText := true, laidKinds := [.data, .data, .data], laidTests := true, laidLooks := .later }
def FnExactWorldLinesCardSaid : Prop := Claim7.holds Tryd.pinned (.plain (OpenSpec.ofChange fnExactWorldLinesSpec)) fnExactWorldLinesCard

/-- THE TIED CARD OF 'laws.FnExactReadGeo'. -/
def fnExactReadGeoCard : Claim7 := { stood := { row := fnExactReadGeoRow, standIns := [], harness := (true, "60a148868634384a79bf22eb806164cf14f870f9dc7b92f74d6a6953a609ad9b"), looks := true }, kinds := [], alts := [], laidByText := true, laidKinds := [.data, .data, .data, .data, .sentinel, .sentinel, .listed, .data, .pinned], laidTests := true, laidLooks := .later }
def FnExactReadGeoCardSaid : Prop := Claim7.holds Tryd.pinned (.plain (OpenSpec.ofChange fnExactReadGeoSpec)) fnExactReadGeoCard

/-- THE TIED CARD OF 'laws.FnExactReadAsk'. -/
def fnExactReadAskCard : Claim7 := { stood := { row := fnExactReadAskRow, standIns := [], harness := (true, "60a148868634384a79bf22eb806164cf14f870f9dc7b92f74d6a6953a609ad9b"), looks := true }, kinds := [], alts := [], laidByText := true, laidKinds := [.data, .data, .data, .data, .sentinel, .sentinel, .sentinel, .pinned], laidTests := true, laidLooks := .later }
def FnExactReadAskCardSaid : Prop := Claim7.holds Tryd.pinned (.plain (OpenSpec.ofChange fnExactReadAskSpec)) fnExactReadAskCard

/-- THE TIED CARD OF 'laws.FnReports'. -/
def fnReportsCard : Claim7 := { stood := { row := fnReportsRow, standIns := [], harness := (true, "60a148868634384a79bf22eb806164cf14f870f9dc7b92f74d6a6953a609ad9b"), looks := true }, kinds := [], alts := [], laidByText := true, laidKinds := [.data, .data, .data], laidTests := true, laidLooks := .later }
def FnReportsCardSaid : Prop := Claim7.holds Tryd.pinned (.plain (OpenSpec.ofChange fnReportsSpec)) fnReportsCard

/-- THE SECOND FORM's CARD OF 'laws.FnExactAskLine'. -/
def fnExactAskLineUptoCard : Claim7 := { stood := { row := fnExactAskLineUptoRow, standIns := [], harness := (true, "60a148868634384a79bf22eb806164cf14f870f9dc7b92f74d6a6953a609ad9b"), looks := true }, kinds := [], alts := [], laidByText := true, laidKinds := [.data, .data, .data], laidTests := true, laidLooks := .later }
def FnExactAskLineUptoCardSaid : Prop := Claim7.holds Tryd.pinned (.plain (OpenSpec.upto fnExactAskLineSpec)) fnExactAskLineUptoCard

/-- THE SECOND FORM's CARD OF 'laws.FnExactActLine'. -/
def fnExactActLineUptoCard : Claim7 := { stood := { row := fnExactActLineUptoRow, standIns := [], harness := (true, "60a148868634384a79bf22eb806164cf14f870f9dc7b92f74d6a6953a609ad9b"), looks := true }, kinds := [], alts := [], laidByText := true, laidKinds := [.data, .data, .data], laidTests := true, laidLooks := .later }
def FnExactActLineUptoCardSaid : Prop := Claim7.holds Tryd.pinned (.plain (OpenSpec.upto fnExactActLineSpec)) fnExactActLineUptoCard

/-- THE SECOND FORM's CARD OF 'laws.FnExactResultLine'. -/
def fnExactResultLineUptoCard : Claim7 := { stood := { row := fnExactResultLineUptoRow, standIns := [], harness := (true, "60a148868634384a79bf22eb806164cf14f870f9dc7b92f74d6a6953a609ad9b"), looks := true }, kinds := [], alts := [], laidByText := true, laidKinds := [.data, .data, .data], laidTests := true, laidLooks := .later }
def FnExactResultLineUptoCardSaid : Prop := Claim7.holds Tryd.pinned (.plain (OpenSpec.upto fnExactResultLineSpec)) fnExactResultLineUptoCard

/-- THE SECOND FORM's CARD OF 'laws.FnExactWorldLines'. -/
def fnExactWorldLinesUptoCard : Claim7 := { stood := { row := fnExactWorldLinesUptoRow, standIns := [], harness := (true, "60a148868634384a79bf22eb806164cf14f870f9dc7b92f74d6a6953a609ad9b"), looks := true }, kinds := [], alts := [], laidByText := true, laidKinds := [.data, .data, .data], laidTests := true, laidLooks := .later }
def FnExactWorldLinesUptoCardSaid : Prop := Claim7.holds Tryd.pinned (.plain (OpenSpec.upto fnExactWorldLinesSpec)) fnExactWorldLinesUptoCard

/-- THE SECOND FORM's CARD OF 'laws.FnExactReadGeo'. -/
def fnExactReadGeoUptoCard : Claim7 := { stood := { row := fnExactReadGeoUptoRow, standIns := [], harness := (true, "60a148868634384a79bf22eb806164cf14f870f9dc7b92f74d6a6953a609ad9b"), looks := true }, kinds := [], alts := [], laidByText := true, laidKinds := [.data, .data, .data, .data, .sentinel, .sentinel, .listed, .data, .pinned], laidTests := true, laidLooks := .later }
def FnExactReadGeoUptoCardSaid : Prop := Claim7.holds Tryd.pinned (.plain (OpenSpec.upto fnExactReadGeoSpec)) fnExactReadGeoUptoCard

/-- THE SECOND FORM's CARD OF 'laws.FnExactReadAsk'. -/
def fnExactReadAskUptoCard : Claim7 := { stood := { row := fnExactReadAskUptoRow, standIns := [], harness := (true, "60a148868634384a79bf22eb806164cf14f870f9dc7b92f74d6a6953a609ad9b"), looks := true }, kinds := [], alts := [], laidByText := true, laidKinds := [.data, .data, .data, .data, .sentinel, .sentinel, .sentinel, .pinned], laidTests := true, laidLooks := .later }
def FnExactReadAskUptoCardSaid : Prop := Claim7.holds Tryd.pinned (.plain (OpenSpec.upto fnExactReadAskSpec)) fnExactReadAskUptoCard

/-- THE SECOND FORM's CARD OF 'laws.FnReports'. -/
def fnReportsUptoCard : Claim7 := { stood := { row := fnReportsUptoRow, standIns := [], harness := (true, "60a148868634384a79bf22eb806164cf14f870f9dc7b92f74d6a6953a609ad9b"), looks := true }, kinds := [], alts := [], laidByText := true, laidKinds := [.data, .data, .data], laidTests := true, laidLooks := .later }
def FnReportsUptoCardSaid : Prop := Claim7.holds Tryd.pinned (.plain (OpenSpec.upto fnReportsSpec)) fnReportsUptoCard
end Rows
end Go.Proofs.YtciieaidbiejmaaDoor
