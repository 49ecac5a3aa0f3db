/-
  No cell of these rows narrows 'for every input' (looked for: loops, veiled, ifaces, maps, wideKeys, modest, calm, conditions, laid).
  DERIVED. THE GIVEN ROWS OF THIS SEAT. 7 by the template 'for every input the law returns true; each argument reads behind the call as it read before'; 0 by the template 'total and deterministic' (their statements: YtconffflmbakgaaTotals.lean).
  GIVEN WITH THE SEED: the statements are not yours to turn. If you find one false, say at which input.
  Laid BY PROGRAM, IN A SANDBOX (cutbox-rows.mjs): the forced cells as the released guide's own fill.sh prints them over the translation 0068f3e6ad96d68f… (all of the seat's roots in one cut). By AI agents, Wed Nov 11 2026. No macro, syntax, notation, axiom, sorry.
-/
import Derived.Test.YtconffflmbakgaaChecked
import GoSem.Claim
import GoSem.ClaimJoined
import GoSem.ClaimMapViews
import Derived.JoinedTies
import Derived.KernelRfl
namespace Go.Proofs.Ytconffflmbakgaa
/- THE CELL 'sum', in the pinned program and in every row, IS THE sha256 OF THE DUMP (.gsa) THAT YtconffflmbakgaaProg.lean LOADS. Nothing in Lean hashes anything: it is a label: what it is worth is what the hold of that sum in a sandbox is worth. -/
noncomputable def Try.pinned : Pinned := { name := "ytconffflmbakgaa", sum := "0068f3e6ad96d68ff11c7f1ca396262279c8b9ca4f8f06a5a5c002d1a9ffa317", checked := Try.checked }
namespace Rows
def none {H : Type} : Left H := { results := [], args := [] }

/-- 'laws.FnExactMaskedWord': WHATEVER THE INPUT: true; the input reads as it did. -/
def fnExactMaskedWordSpec : ChangeSpec := { name := "fnExactMaskedWord", fn := fun _ => fun
  | [d1, d2, d3] => { results := [.lit (.bool true)], args := [d1, d2, d3] }
  | _ => none }
def fnExactMaskedWordRow : OpenClaim := { program := "ytconffflmbakgaa", sum := "0068f3e6ad96d68ff11c7f1ca396262279c8b9ca4f8f06a5a5c002d1a9ffa317", func := "loop.example/g00969/laws.FnExactMaskedWord", spec := "fnExactMaskedWord", inPlace := ["internal/abi.NoEscape", "internal/bytealg.MakeNoZero"], unfollowed := true, recurses := true, apart := false }
def FnExactMaskedWordSaid : Prop := fnExactMaskedWordRow.holds Try.pinned (OpenSpec.ofChange fnExactMaskedWordSpec)

/-- ITS FALSE NEIGHBOUR: 'it returns false'. Refute it at one input. -/
def fnExactMaskedWordWrong : ChangeSpec := { name := "fnExactMaskedWord", fn := fun _ => fun
  | [d1, d2, d3] => { results := [.lit (.bool false)], args := [d1, d2, d3] }
  | _ => none }
def FnExactMaskedWordWrongFalsely : Prop := fnExactMaskedWordRow.holds Try.pinned (OpenSpec.ofChange fnExactMaskedWordWrong)

/-- 'laws.FnExactSystemOk': WHATEVER THE INPUT: true; the input reads as it did. -/
def fnExactSystemOkSpec : ChangeSpec := { name := "fnExactSystemOk", fn := fun _ => fun
  | [d] => { results := [.lit (.bool true)], args := [d] }
  | _ => none }
def fnExactSystemOkRow : OpenClaim := { program := "ytconffflmbakgaa", sum := "0068f3e6ad96d68ff11c7f1ca396262279c8b9ca4f8f06a5a5c002d1a9ffa317", func := "loop.example/g00969/laws.FnExactSystemOk", spec := "fnExactSystemOk", unfollowed := true, recurses := true, apart := false }
def FnExactSystemOkSaid : Prop := fnExactSystemOkRow.holds Try.pinned (OpenSpec.ofChange fnExactSystemOkSpec)

/-- ITS FALSE NEIGHBOUR: 'it returns false'. Refute it at one input. -/
def fnExactSystemOkWrong : ChangeSpec := { name := "fnExactSystemOk", fn := fun _ => fun
  | [d] => { results := [.lit (.bool false)], args := [d] }
  | _ => none }
def FnExactSystemOkWrongFalsely : Prop := fnExactSystemOkRow.holds Try.pinned (OpenSpec.ofChange fnExactSystemOkWrong)

/-- 'laws.FnExactOneOf': WHATEVER THE INPUT: true; the input reads as it did. -/
def fnExactOneOfSpec : ChangeSpec := { name := "fnExactOneOf", fn := fun _ => fun
  | [d1, d2] => { results := [.lit (.bool true)], args := [d1, d2] }
  | _ => none }
def fnExactOneOfRow : OpenClaim := { program := "ytconffflmbakgaa", sum := "0068f3e6ad96d68ff11c7f1ca396262279c8b9ca4f8f06a5a5c002d1a9ffa317", func := "loop.example/g00969/laws.FnExactOneOf", spec := "fnExactOneOf", apart := false }
def FnExactOneOfSaid : Prop := fnExactOneOfRow.holds Try.pinned (OpenSpec.ofChange fnExactOneOfSpec)

/-- ITS FALSE NEIGHBOUR: 'it returns false'. Refute it at one input. -/
def fnExactOneOfWrong : ChangeSpec := { name := "fnExactOneOf", fn := fun _ => fun
  | [d1, d2] => { results := [.lit (.bool false)], args := [d1, d2] }
  | _ => none }
def FnExactOneOfWrongFalsely : Prop := fnExactOneOfRow.holds Try.pinned (OpenSpec.ofChange fnExactOneOfWrong)

/-- 'laws.FnExactSameResults': WHATEVER THE INPUT: true; the input reads as it did. -/
def fnExactSameResultsSpec : ChangeSpec := { name := "fnExactSameResults", fn := fun _ => fun
  | [d1, d2] => { results := [.lit (.bool true)], args := [d1, d2] }
  | _ => none }
def fnExactSameResultsRow : OpenClaim := { program := "ytconffflmbakgaa", sum := "0068f3e6ad96d68ff11c7f1ca396262279c8b9ca4f8f06a5a5c002d1a9ffa317", func := "loop.example/g00969/laws.FnExactSameResults", spec := "fnExactSameResults", unfollowed := true, recurses := true, apart := false }
def FnExactSameResultsSaid : Prop := fnExactSameResultsRow.holds Try.pinned (OpenSpec.ofChange fnExactSameResultsSpec)

/-- ITS FALSE NEIGHBOUR: 'it returns false'. Refute it at one input. -/
def fnExactSameResultsWrong : ChangeSpec := { name := "fnExactSameResults", fn := fun _ => fun
  | [d1, d2] => { results := [.lit (.bool false)], args := [d1, d2] }
  | _ => none }
def FnExactSameResultsWrongFalsely : Prop := fnExactSameResultsRow.holds Try.pinned (OpenSpec.ofChange fnExactSameResultsWrong)

/-- 'laws.FnExactSameActs': WHATEVER THE INPUT: true; the input reads as it did. -/
def fnExactSameActsSpec : ChangeSpec := { name := "fnExactSameActs", fn := fun _ => fun
  | [d1, d2, d3] => { results := [.lit (.bool true)], args := [d1, d2, d3] }
  | _ => none }
def fnExactSameActsRow : OpenClaim := { program := "ytconffflmbakgaa", sum := "0068f3e6ad96d68ff11c7f1ca396262279c8b9ca4f8f06a5a5c002d1a9ffa317", func := "loop.example/g00969/laws.FnExactSameActs", spec := "fnExactSameActs", unfollowed := true, recurses := true, apart := false }
def FnExactSameActsSaid : Prop := fnExactSameActsRow.holds Try.pinned (OpenSpec.ofChange fnExactSameActsSpec)

/-- ITS FALSE NEIGHBOUR: 'it returns false'. Refute it at one input. -/
def fnExactSameActsWrong : ChangeSpec := { name := "fnExactSameActs", fn := fun _ => fun
  | [d1, d2, d3] => { results := [.lit (.bool false)], args := [d1, d2, d3] }
  | _ => none }
def FnExactSameActsWrongFalsely : Prop := fnExactSameActsRow.holds Try.pinned (OpenSpec.ofChange fnExactSameActsWrong)

/-- 'laws.FnExactIdleIn': WHATEVER THE INPUT: true; the input reads as it did. -/
def fnExactIdleInSpec : ChangeSpec := { name := "fnExactIdleIn", fn := fun _ => fun
  | [d] => { results := [.lit (.bool true)], args := [d] }
  | _ => none }
def fnExactIdleInRow : OpenClaim := { program := "ytconffflmbakgaa", sum := "0068f3e6ad96d68ff11c7f1ca396262279c8b9ca4f8f06a5a5c002d1a9ffa317", func := "loop.example/g00969/laws.FnExactIdleIn", spec := "fnExactIdleIn", apart := false }
def FnExactIdleInSaid : Prop := fnExactIdleInRow.holds Try.pinned (OpenSpec.ofChange fnExactIdleInSpec)

/-- ITS FALSE NEIGHBOUR: 'it returns false'. Refute it at one input. -/
def fnExactIdleInWrong : ChangeSpec := { name := "fnExactIdleIn", fn := fun _ => fun
  | [d] => { results := [.lit (.bool false)], args := [d] }
  | _ => none }
def FnExactIdleInWrongFalsely : Prop := fnExactIdleInRow.holds Try.pinned (OpenSpec.ofChange fnExactIdleInWrong)

/-- 'laws.FnExactMaskedImage': WHATEVER THE INPUT: true; the input reads as it did. -/
def fnExactMaskedImageSpec : ChangeSpec := { name := "fnExactMaskedImage", fn := fun _ => fun
  | [d1, d2] => { results := [.lit (.bool true)], args := [d1, d2] }
  | _ => none }
def fnExactMaskedImageRow : OpenClaim := { program := "ytconffflmbakgaa", sum := "0068f3e6ad96d68ff11c7f1ca396262279c8b9ca4f8f06a5a5c002d1a9ffa317", func := "loop.example/g00969/laws.FnExactMaskedImage", spec := "fnExactMaskedImage", inPlace := ["internal/abi.NoEscape", "internal/bytealg.MakeNoZero"], unfollowed := true, recurses := true, apart := false }
def FnExactMaskedImageSaid : Prop := fnExactMaskedImageRow.holds Try.pinned (OpenSpec.ofChange fnExactMaskedImageSpec)

/-- ITS FALSE NEIGHBOUR: 'it returns false'. Refute it at one input. -/
def fnExactMaskedImageWrong : ChangeSpec := { name := "fnExactMaskedImage", fn := fun _ => fun
  | [d1, d2] => { results := [.lit (.bool false)], args := [d1, d2] }
  | _ => none }
def FnExactMaskedImageWrongFalsely : Prop := fnExactMaskedImageRow.holds Try.pinned (OpenSpec.ofChange fnExactMaskedImageWrong)

/- THE SECOND FORM. 'bulk': how many values and letters a reading holds, each counted each time it is reached (what is shared counts as often as it is met; a slice's spare places count too). A statement '..UptoSaid' is the law's where the arguments, and the package variables that the reading takes, are together of bulk at most 1048576: NARROWER than '..Said'. Prove '..Said' where nothing that the law and all that it calls make is longer than what came in: it says more and counts as full. Else prove '..UptoSaid'. A law counts once. -/
mutual
def uptoBulk {H : Type} : DataW H → Nat
  | .lit (.string bytes) => bytes.length + 1
  | .lit _ => 1
  | .nil => 1
  | .ptr d => uptoBulk d + 1
  | .slice elems spare => uptoBulkAll elems + uptoBulkAll spare + 1
  | .agg parts => uptoBulkAll parts + 1
  | .iface _ d => uptoBulk d + 1
  | .map entries => uptoBulkEntries entries + 1
  | .held _ => 1
def uptoBulkAll {H : Type} : List (DataW H) → Nat
  | [] => 0
  | d :: r => uptoBulk d + uptoBulkAll r
def uptoBulkEntries {H : Type} : List (Lit × DataW H) → Nat
  | [] => 0
  | x :: r => uptoBulkEntry x + uptoBulkEntries r
def uptoBulkEntry {H : Type} : Lit × DataW H → Nat
  | (.string bytes, d) => bytes.length + uptoBulk d + 1
  | (_, d) => uptoBulk d + 1
 end
def uptoSmall : (H : Type) → List (DataW H) → Bool := fun _ ds => decide (uptoBulkAll ds ≤ 1048576)
def OpenSpec.upto (s : _root_.Go.ChangeSpec) : _root_.Go.OpenSpec := { _root_.Go.OpenSpec.ofChange s with cond := some uptoSmall }

/-- 'laws.FnExactMaskedWord', WHERE WHAT IT READS IS OF BULK AT MOST 1048576: true; the input reads as it did. -/
def fnExactMaskedWordUptoRow : OpenClaim := { program := "ytconffflmbakgaa", sum := "0068f3e6ad96d68ff11c7f1ca396262279c8b9ca4f8f06a5a5c002d1a9ffa317", func := "loop.example/g00969/laws.FnExactMaskedWord", spec := "fnExactMaskedWord", inPlace := ["internal/abi.NoEscape", "internal/bytealg.MakeNoZero"], unfollowed := true, recurses := true, apart := false, narrowed := true }
def FnExactMaskedWordUptoSaid : Prop := fnExactMaskedWordUptoRow.holds Try.pinned (OpenSpec.upto fnExactMaskedWordSpec)

/-- 'laws.FnExactSystemOk', WHERE WHAT IT READS IS OF BULK AT MOST 1048576: true; the input reads as it did. -/
def fnExactSystemOkUptoRow : OpenClaim := { program := "ytconffflmbakgaa", sum := "0068f3e6ad96d68ff11c7f1ca396262279c8b9ca4f8f06a5a5c002d1a9ffa317", func := "loop.example/g00969/laws.FnExactSystemOk", spec := "fnExactSystemOk", unfollowed := true, recurses := true, apart := false, narrowed := true }
def FnExactSystemOkUptoSaid : Prop := fnExactSystemOkUptoRow.holds Try.pinned (OpenSpec.upto fnExactSystemOkSpec)

/-- 'laws.FnExactOneOf', WHERE WHAT IT READS IS OF BULK AT MOST 1048576: true; the input reads as it did. -/
def fnExactOneOfUptoRow : OpenClaim := { program := "ytconffflmbakgaa", sum := "0068f3e6ad96d68ff11c7f1ca396262279c8b9ca4f8f06a5a5c002d1a9ffa317", func := "loop.example/g00969/laws.FnExactOneOf", spec := "fnExactOneOf", apart := false, narrowed := true }
def FnExactOneOfUptoSaid : Prop := fnExactOneOfUptoRow.holds Try.pinned (OpenSpec.upto fnExactOneOfSpec)

/-- 'laws.FnExactSameResults', WHERE WHAT IT READS IS OF BULK AT MOST 1048576: true; the input reads as it did. -/
def fnExactSameResultsUptoRow : OpenClaim := { program := "ytconffflmbakgaa", sum := "0068f3e6ad96d68ff11c7f1ca396262279c8b9ca4f8f06a5a5c002d1a9ffa317", func := "loop.example/g00969/laws.FnExactSameResults", spec := "fnExactSameResults", unfollowed := true, recurses := true, apart := false, narrowed := true }
def FnExactSameResultsUptoSaid : Prop := fnExactSameResultsUptoRow.holds Try.pinned (OpenSpec.upto fnExactSameResultsSpec)

/-- 'laws.FnExactSameActs', WHERE WHAT IT READS IS OF BULK AT MOST 1048576: true; the input reads as it did. -/
def fnExactSameActsUptoRow : OpenClaim := { program := "ytconffflmbakgaa", sum := "0068f3e6ad96d68ff11c7f1ca396262279c8b9ca4f8f06a5a5c002d1a9ffa317", func := "loop.example/g00969/laws.FnExactSameActs", spec := "fnExactSameActs", unfollowed := true, recurses := true, apart := false, narrowed := true }
def FnExactSameActsUptoSaid : Prop := fnExactSameActsUptoRow.holds Try.pinned (OpenSpec.upto fnExactSameActsSpec)

/-- 'laws.FnExactIdleIn', WHERE WHAT IT READS IS OF BULK AT MOST 1048576: true; the input reads as it did. -/
def fnExactIdleInUptoRow : OpenClaim := { program := "ytconffflmbakgaa", sum := "0068f3e6ad96d68ff11c7f1ca396262279c8b9ca4f8f06a5a5c002d1a9ffa317", func := "loop.example/g00969/laws.FnExactIdleIn", spec := "fnExactIdleIn", apart := false, narrowed := true }
def FnExactIdleInUptoSaid : Prop := fnExactIdleInUptoRow.holds Try.pinned (OpenSpec.upto fnExactIdleInSpec)

/-- 'laws.FnExactMaskedImage', WHERE WHAT IT READS IS OF BULK AT MOST 1048576: true; the input reads as it did. -/
def fnExactMaskedImageUptoRow : OpenClaim := { program := "ytconffflmbakgaa", sum := "0068f3e6ad96d68ff11c7f1ca396262279c8b9ca4f8f06a5a5c002d1a9ffa317", func := "loop.example/g00969/laws.FnExactMaskedImage", spec := "fnExactMaskedImage", inPlace := ["internal/abi.NoEscape", "internal/bytealg.MakeNoZero"], unfollowed := true, recurses := true, apart := false, narrowed := true }
def FnExactMaskedImageUptoSaid : Prop := fnExactMaskedImageUptoRow.holds Try.pinned (OpenSpec.upto fnExactMaskedImageSpec)

end Rows
end Go.Proofs.Ytconffflmbakgaa
