/-
  DERIVED. GIVEN WITH THE SEED: THE CARDS: each row of YtklghegofjigoaaDoorRows.lean that lists a variable, with what it lists TIED to the program's text (the seventh form; the later family's looks); each row that meets fmt, with fmt's text TOLD by the authors' own Lean function (tested against real Go, not proved from fmt's source: count such statements apart). THE CARD IS WHAT COUNTS. Prove the row's statement (the work); the ties are given (YtklghegofjigoaaDoorTie.lean); close each card by the builder's one call (the guide's Derived/Test/ToyasCard.lean, 'card_holds'). Laid BY PROGRAM, IN A SANDBOX (cutbox-door.mjs). By AI agents, Wed Nov 11 2026. No macro, syntax, notation, axiom, sorry.
-/
import Derived.Test.YtklghegofjigoaaDoorRows
import GoSem.ClaimSeven
namespace Go.Proofs.YtklghegofjigoaaDoor
namespace Rows

/-- THE TIED CARD OF 'laws.FnExactGeoLine'. -/
def fnExactGeoLineCard : Claim7 := { stood := { row := fnExactGeoLineRow, standIns := [], harness := (true, "324fb995784f9e8fee4a05fd49a96c32bd07210bbd60ab9aab9d20ff1d8fb686"), looks := false }, kinds := [], alts := [], laidByText := true, laidKinds := [.data, .data, .data], laidTests := true, laidLooks := .later }
def FnExactGeoLineCardSaid : Prop := Claim7.holds Tryd.pinned (.plain (OpenSpec.ofChange fnExactGeoLineSpec)) fnExactGeoLineCard

/-- THE SECOND FORM's CARD OF 'laws.FnExactGeoLine'. -/
def fnExactGeoLineUptoCard : Claim7 := { stood := { row := fnExactGeoLineUptoRow, standIns := [], harness := (true, "324fb995784f9e8fee4a05fd49a96c32bd07210bbd60ab9aab9d20ff1d8fb686"), looks := false }, kinds := [], alts := [], laidByText := true, laidKinds := [.data, .data, .data], laidTests := true, laidLooks := .later }
def FnExactGeoLineUptoCardSaid : Prop := Claim7.holds Tryd.pinned (.plain (OpenSpec.upto fnExactGeoLineSpec)) fnExactGeoLineUptoCard
end Rows
end Go.Proofs.YtklghegofjigoaaDoor
