/-
  DERIVED. GIVEN WITH THE SEED: THE CARDS: each row of YtlpghmopabihoaaDoorRows.lean that lists a variable, with what it lists TIED to the program's text (the seventh form; the later family's looks); each row that meets fmt, with fmt's text TOLD by the authors' own Lean function (tested against real Go, not proved from fmt's source: count such statements apart). THE CARD IS WHAT COUNTS. Prove the row's statement (the work); the ties are given (YtlpghmopabihoaaDoorTie.lean); close each card by the builder's one call (the guide's Derived/Test/ToyasCard.lean, 'card_holds'). Laid BY PROGRAM, IN A SANDBOX (cutbox-door.mjs). By AI agents, Wed Nov 11 2026. No macro, syntax, notation, axiom, sorry.
-/
import Derived.Test.YtlpghmopabihoaaDoorRows
import GoSem.ClaimSeven
namespace Go.Proofs.YtlpghmopabihoaaDoor
namespace Rows

/-- THE TIED CARD OF 'laws.FnExactViewLines'. -/
def fnExactViewLinesCard : Claim7 := { stood := { row := fnExactViewLinesRow, standIns := [], harness := (true, "1d9bfd94fc83735df255aba23d8aaa3187f31a0051fddf18bbaff946bc42b165"), looks := false }, kinds := [], alts := [], laidByText := true, laidKinds := [.data, .data, .data], laidTests := true, laidLooks := .later }
def FnExactViewLinesCardSaid : Prop := Claim7.holds Tryd.pinned (.plain (OpenSpec.ofChange fnExactViewLinesSpec)) fnExactViewLinesCard

/-- THE TIED CARD OF 'laws.FnExactAskLine'. -/
def fnExactAskLineCard : Claim7 := { stood := { row := fnExactAskLineRow, standIns := [], harness := (true, "1d9bfd94fc83735df255aba23d8aaa3187f31a0051fddf18bbaff946bc42b165"), looks := false }, kinds := [], alts := [], laidByText := true, laidKinds := [.data, .data, .data], laidTests := true, laidLooks := .later }
def FnExactAskLineCardSaid : Prop := Claim7.holds Tryd.pinned (.plain (OpenSpec.ofChange fnExactAskLineSpec)) fnExactAskLineCard

/-- THE TIED CARD OF 'laws.FnExactActLine'. -/
def fnExactActLineCard : Claim7 := { stood := { row := fnExactActLineRow, standIns := [], harness := (true, "1d9bfd94fc83735df255aba23d8aaa3187f31a0051fddf18bbaff946bc42b165"), looks := false }, kinds := [], alts := [], laidByText := true, laidKinds := [.data, .data, .data], laidTests := true, laidLooks := .later }
def FnExactActLineCardSaid : Prop := Claim7.holds Tryd.pinned (.plain (OpenSpec.ofChange fnExactActLineSpec)) fnExactActLineCard

/-- THE TIED CARD OF 'laws.FnExactResultLine'. -/
def fnExactResultLineCard : Claim7 := { stood := { row := fnExactResultLineRow, standIns := [], harness := (true, "1d9bfd94fc83735df255aba23d8aaa3187f31a0051fddf18bbaff946bc42b165"), looks := false }, kinds := [], alts := [], laidByText := true, laidKinds := [.data, .data, .data], laidTests := true, laidLooks := .later }
def FnExactResultLineCardSaid : Prop := Claim7.holds Tryd.pinned (.plain (OpenSpec.ofChange fnExactResultLineSpec)) fnExactResultLineCard

/-- THE SECOND FORM's CARD OF 'laws.FnExactViewLines'. -/
def fnExactViewLinesUptoCard : Claim7 := { stood := { row := fnExactViewLinesUptoRow, standIns := [], harness := (true, "1d9bfd94fc83735df255aba23d8aaa3187f31a0051fddf18bbaff946bc42b165"), looks := false }, kinds := [], alts := [], laidByText := true, laidKinds := [.data, .data, .data], laidTests := true, laidLooks := .later }
def FnExactViewLinesUptoCardSaid : Prop := Claim7.holds Tryd.pinned (.plain (OpenSpec.upto fnExactViewLinesSpec)) fnExactViewLinesUptoCard

/-- THE SECOND FORM's CARD OF 'laws.FnExactAskLine'. -/
def fnExactAskLineUptoCard : Claim7 := { stood := { row := fnExactAskLineUptoRow, standIns := [], harness := (true, "1d9bfd94fc83735df255aba23d8aaa3187f31a0051fddf18bbaff946bc42b165"), looks := false }, kinds := [], alts := [], laidByText := true, laidKinds := [.data, .data, .data], laidTests := true, laidLooks := .later }
def FnExactAskLineUptoCardSaid : Prop := Claim7.holds Tryd.pinned (.plain (OpenSpec.upto fnExactAskLineSpec)) fnExactAskLineUptoCard

/-- THE SECOND FORM's CARD OF 'laws.FnExactActLine'. -/
def fnExactActLineUptoCard : Claim7 := { stood := { row := fnExactActLineUptoRow, standIns := [], harness := (true, "1d9bfd94fc83735df255aba23d8aaa3187f31a0051fddf18bbaff946bc42b165"), looks := false }, kinds := [], alts := [], laidByText := true, laidKinds := [.data, .data, .data], laidTests := true, laidLooks := .later }
def FnExactActLineUptoCardSaid : Prop := Claim7.holds Tryd.pinned (.plain (OpenSpec.upto fnExactActLineSpec)) fnExactActLineUptoCard

/-- THE SECOND FORM's CARD OF 'laws.FnExactResultLine'. -/
def fnExactResultLineUptoCard : Claim7 := { stood := { row := fnExactResultLineUptoRow, standIns := [], harness := (true, "1d9bfd94fc83735df255aba23d8aaa3187f31a0051fddf18bbaff946bc42b165"), looks := false }, kinds := [], alts := [], laidByText := true, laidKinds := [.data, .data, .data], laidTests := true, laidLooks := .later }
def FnExactResultLineUptoCardSaid : Prop := Claim7.holds Tryd.pinned (.plain (OpenSpec.upto fnExactResultLineSpec)) fnExactResultLineUptoCard
end Rows
end Go.Proofs.YtlpghmopabihoaaDoor
