/-
  No cell of these rows narrows 'for every input' (looked for: loops, veiled, ifaces, maps, wideKeys, modest, calm, conditions, laid).
  DERIVED. THE GIVEN ROWS OF THIS SEAT. 8 by the template 'for every input the law returns true; each argument reads behind the call as it read before'; 0 by the template 'total and deterministic' (their statements: YtlpghmopabihoaaTotals.lean).
  GIVEN WITH THE SEED: the statements are not yours to turn. If you find one false, say at which input.
  Laid BY PROGRAM, IN A SANDBOX (cutbox-rows.mjs): the forced cells as the released guide's own fill.sh prints them over the translation 2a419d040654dee8… (all of the seat's roots in one cut). By AI agents, Wed Nov 11 2026. No macro, syntax, notation, axiom, sorry.
-/
import Derived.Test.YtlpghmopabihoaaChecked
import GoSem.Claim
import GoSem.ClaimJoined
import GoSem.ClaimMapViews
import Derived.JoinedTies
import Derived.KernelRfl
namespace Go.Proofs.Ytlpghmopabihoaa
/- THE CELL 'sum', in the pinned program and in every row, IS THE sha256 OF THE DUMP (.gsa) THAT YtlpghmopabihoaaProg.lean LOADS. Nothing in Lean hashes anything: it is a label: what it is worth is what the hold of that sum in a sandbox is worth. -/
noncomputable def Try.pinned : Pinned := { name := "ytlpghmopabihoaa", sum := "2a419d040654dee8231af790b8da779e5725b9f869229edb034d465c3d2556a9", checked := Try.checked }
namespace Rows
def none {H : Type} : Left H := { results := [], args := [] }

/-- 'laws.FnExactAsksOf': WHATEVER THE INPUT: true; the input reads as it did. -/
def fnExactAsksOfSpec : ChangeSpec := { name := "fnExactAsksOf", fn := fun _ => fun
  | [d1, d2, d3] => { results := [.lit (.bool true)], args := [d1, d2, d3] }
  | _ => none }
def fnExactAsksOfRow : OpenClaim := { program := "ytlpghmopabihoaa", sum := "2a419d040654dee8231af790b8da779e5725b9f869229edb034d465c3d2556a9", func := "loop.example/g00969/laws.FnExactAsksOf", spec := "fnExactAsksOf", apart := false }
def FnExactAsksOfSaid : Prop := fnExactAsksOfRow.holds Try.pinned (OpenSpec.ofChange fnExactAsksOfSpec)

/-- ITS FALSE NEIGHBOUR: 'it returns false'. Refute it at one input. -/
def fnExactAsksOfWrong : ChangeSpec := { name := "fnExactAsksOf", fn := fun _ => fun
  | [d1, d2, d3] => { results := [.lit (.bool false)], args := [d1, d2, d3] }
  | _ => none }
def FnExactAsksOfWrongFalsely : Prop := fnExactAsksOfRow.holds Try.pinned (OpenSpec.ofChange fnExactAsksOfWrong)

/-- 'laws.FnShapes': WHATEVER THE INPUT: true; the input reads as it did. -/
def fnShapesSpec : ChangeSpec := { name := "fnShapes", fn := fun _ => fun
  | [d] => { results := [.lit (.bool true)], args := [d] }
  | _ => none }
def fnShapesRow : OpenClaim := { program := "ytlpghmopabihoaa", sum := "2a419d040654dee8231af790b8da779e5725b9f869229edb034d465c3d2556a9", func := "loop.example/g00969/laws.FnShapes", spec := "fnShapes", inPlace := ["internal/abi.NoEscape", "internal/bytealg.MakeNoZero"], unfollowed := true, recurses := true, apart := false }
def FnShapesSaid : Prop := fnShapesRow.holds Try.pinned (OpenSpec.ofChange fnShapesSpec)

/-- ITS FALSE NEIGHBOUR: 'it returns false'. Refute it at one input. -/
def fnShapesWrong : ChangeSpec := { name := "fnShapes", fn := fun _ => fun
  | [d] => { results := [.lit (.bool false)], args := [d] }
  | _ => none }
def FnShapesWrongFalsely : Prop := fnShapesRow.holds Try.pinned (OpenSpec.ofChange fnShapesWrong)

/-- 'laws.FnUnsure': WHATEVER THE INPUT: true; the input reads as it did. -/
def fnUnsureSpec : ChangeSpec := { name := "fnUnsure", fn := fun _ => fun
  | [d] => { results := [.lit (.bool true)], args := [d] }
  | _ => none }
def fnUnsureRow : OpenClaim := { program := "ytlpghmopabihoaa", sum := "2a419d040654dee8231af790b8da779e5725b9f869229edb034d465c3d2556a9", func := "loop.example/g00969/laws.FnUnsure", spec := "fnUnsure", inPlace := ["internal/abi.NoEscape", "internal/bytealg.MakeNoZero"], unfollowed := true, recurses := true, apart := false }
def FnUnsureSaid : Prop := fnUnsureRow.holds Try.pinned (OpenSpec.ofChange fnUnsureSpec)

/-- ITS FALSE NEIGHBOUR: 'it returns false'. Refute it at one input. -/
def fnUnsureWrong : ChangeSpec := { name := "fnUnsure", fn := fun _ => fun
  | [d] => { results := [.lit (.bool false)], args := [d] }
  | _ => none }
def FnUnsureWrongFalsely : Prop := fnUnsureRow.holds Try.pinned (OpenSpec.ofChange fnUnsureWrong)

/-- 'laws.FnExactRunStep': WHATEVER THE INPUT: true; the input reads as it did. -/
def fnExactRunStepSpec : ChangeSpec := { name := "fnExactRunStep", fn := fun _ => fun
  | [d1, d2] => { results := [.lit (.bool true)], args := [d1, d2] }
  | _ => none }
def fnExactRunStepRow : OpenClaim := { program := "ytlpghmopabihoaa", sum := "2a419d040654dee8231af790b8da779e5725b9f869229edb034d465c3d2556a9", func := "loop.example/g00969/laws.FnExactRunStep", spec := "fnExactRunStep", inPlace := ["slices.overlaps[loop.example/g00969/impl.Cell]"], unfollowed := true, recurses := true, apart := false }
def FnExactRunStepSaid : Prop := fnExactRunStepRow.holds Try.pinned (OpenSpec.ofChange fnExactRunStepSpec)

/-- ITS FALSE NEIGHBOUR: 'it returns false'. Refute it at one input. -/
def fnExactRunStepWrong : ChangeSpec := { name := "fnExactRunStep", fn := fun _ => fun
  | [d1, d2] => { results := [.lit (.bool false)], args := [d1, d2] }
  | _ => none }
def FnExactRunStepWrongFalsely : Prop := fnExactRunStepRow.holds Try.pinned (OpenSpec.ofChange fnExactRunStepWrong)

/-- 'laws.FnExactLinesOf': WHATEVER THE INPUT: true; the input reads as it did. -/
def fnExactLinesOfSpec : ChangeSpec := { name := "fnExactLinesOf", fn := fun _ => fun
  | [d] => { results := [.lit (.bool true)], args := [d] }
  | _ => none }
def fnExactLinesOfRow : OpenClaim := { program := "ytlpghmopabihoaa", sum := "2a419d040654dee8231af790b8da779e5725b9f869229edb034d465c3d2556a9", func := "loop.example/g00969/laws.FnExactLinesOf", spec := "fnExactLinesOf", recurses := true, apart := false }
def FnExactLinesOfSaid : Prop := fnExactLinesOfRow.holds Try.pinned (OpenSpec.ofChange fnExactLinesOfSpec)

/-- ITS FALSE NEIGHBOUR: 'it returns false'. Refute it at one input. -/
def fnExactLinesOfWrong : ChangeSpec := { name := "fnExactLinesOf", fn := fun _ => fun
  | [d] => { results := [.lit (.bool false)], args := [d] }
  | _ => none }
def FnExactLinesOfWrongFalsely : Prop := fnExactLinesOfRow.holds Try.pinned (OpenSpec.ofChange fnExactLinesOfWrong)

/-- 'laws.FnQuota': WHATEVER THE INPUT: true; the input reads as it did. -/
def fnQuotaSpec : ChangeSpec := { name := "fnQuota", fn := fun _ => fun
  | [d] => { results := [.lit (.bool true)], args := [d] }
  | _ => none }
def fnQuotaRow : OpenClaim := { program := "ytlpghmopabihoaa", sum := "2a419d040654dee8231af790b8da779e5725b9f869229edb034d465c3d2556a9", func := "loop.example/g00969/laws.FnQuota", spec := "fnQuota", apart := false }
def FnQuotaSaid : Prop := fnQuotaRow.holds Try.pinned (OpenSpec.ofChange fnQuotaSpec)

/-- ITS FALSE NEIGHBOUR: 'it returns false'. Refute it at one input. -/
def fnQuotaWrong : ChangeSpec := { name := "fnQuota", fn := fun _ => fun
  | [d] => { results := [.lit (.bool false)], args := [d] }
  | _ => none }
def FnQuotaWrongFalsely : Prop := fnQuotaRow.holds Try.pinned (OpenSpec.ofChange fnQuotaWrong)

/-- 'laws.FnExactRunSteps': WHATEVER THE INPUT: true; the input reads as it did. -/
def fnExactRunStepsSpec : ChangeSpec := { name := "fnExactRunSteps", fn := fun _ => fun
  | [d1, d2] => { results := [.lit (.bool true)], args := [d1, d2] }
  | _ => none }
def fnExactRunStepsRow : OpenClaim := { program := "ytlpghmopabihoaa", sum := "2a419d040654dee8231af790b8da779e5725b9f869229edb034d465c3d2556a9", func := "loop.example/g00969/laws.FnExactRunSteps", spec := "fnExactRunSteps", inPlace := ["slices.overlaps[loop.example/g00969/impl.Cell]"], unfollowed := true, recurses := true, apart := false }
def FnExactRunStepsSaid : Prop := fnExactRunStepsRow.holds Try.pinned (OpenSpec.ofChange fnExactRunStepsSpec)

/-- ITS FALSE NEIGHBOUR: 'it returns false'. Refute it at one input. -/
def fnExactRunStepsWrong : ChangeSpec := { name := "fnExactRunSteps", fn := fun _ => fun
  | [d1, d2] => { results := [.lit (.bool false)], args := [d1, d2] }
  | _ => none }
def FnExactRunStepsWrongFalsely : Prop := fnExactRunStepsRow.holds Try.pinned (OpenSpec.ofChange fnExactRunStepsWrong)

/-- 'laws.FnExactDurable': WHATEVER THE INPUT: true; the input reads as it did. -/
def fnExactDurableSpec : ChangeSpec := { name := "fnExactDurable", fn := fun _ => fun
  | [d] => { results := [.lit (.bool true)], args := [d] }
  | _ => none }
def fnExactDurableRow : OpenClaim := { program := "ytlpghmopabihoaa", sum := "2a419d040654dee8231af790b8da779e5725b9f869229edb034d465c3d2556a9", func := "loop.example/g00969/laws.FnExactDurable", spec := "fnExactDurable", recurses := true, apart := false }
def FnExactDurableSaid : Prop := fnExactDurableRow.holds Try.pinned (OpenSpec.ofChange fnExactDurableSpec)

/-- ITS FALSE NEIGHBOUR: 'it returns false'. Refute it at one input. -/
def fnExactDurableWrong : ChangeSpec := { name := "fnExactDurable", fn := fun _ => fun
  | [d] => { results := [.lit (.bool false)], args := [d] }
  | _ => none }
def FnExactDurableWrongFalsely : Prop := fnExactDurableRow.holds Try.pinned (OpenSpec.ofChange fnExactDurableWrong)

/- THE SECOND FORM. 'bulk': how many values and letters a reading holds, each counted each time it is reached (what is shared counts as often as it is met; a slice's spare places count too). A statement '..UptoSaid' is the law's where the arguments, and the package variables that the reading takes, are together of bulk at most 1048576: NARROWER than '..Said'. Prove '..Said' where nothing that the law and all that it calls make is longer than what came in: it says more and counts as full. Else prove '..UptoSaid'. A law counts once. -/
mutual
def uptoBulk {H : Type} : DataW H → Nat
  | .lit (.string bytes) => bytes.length + 1
  | .lit _ => 1
  | .nil => 1
  | .ptr d => uptoBulk d + 1
  | .slice elems spare => uptoBulkAll elems + uptoBulkAll spare + 1
  | .agg parts => uptoBulkAll parts + 1
  | .iface _ d => uptoBulk d + 1
  | .map entries => uptoBulkEntries entries + 1
  | .held _ => 1
def uptoBulkAll {H : Type} : List (DataW H) → Nat
  | [] => 0
  | d :: r => uptoBulk d + uptoBulkAll r
def uptoBulkEntries {H : Type} : List (Lit × DataW H) → Nat
  | [] => 0
  | x :: r => uptoBulkEntry x + uptoBulkEntries r
def uptoBulkEntry {H : Type} : Lit × DataW H → Nat
  | (.string bytes, d) => bytes.length + uptoBulk d + 1
  | (_, d) => uptoBulk d + 1
 end
def uptoSmall : (H : Type) → List (DataW H) → Bool := fun _ ds => decide (uptoBulkAll ds ≤ 1048576)
def OpenSpec.upto (s : _root_.Go.ChangeSpec) : _root_.Go.OpenSpec := { _root_.Go.OpenSpec.ofChange s with cond := some uptoSmall }

/-- 'laws.FnExactAsksOf', WHERE WHAT IT READS IS OF BULK AT MOST 1048576: true; the input reads as it did. -/
def fnExactAsksOfUptoRow : OpenClaim := { program := "ytlpghmopabihoaa", sum := "2a419d040654dee8231af790b8da779e5725b9f869229edb034d465c3d2556a9", func := "loop.example/g00969/laws.FnExactAsksOf", spec := "fnExactAsksOf", apart := false, narrowed := true }
def FnExactAsksOfUptoSaid : Prop := fnExactAsksOfUptoRow.holds Try.pinned (OpenSpec.upto fnExactAsksOfSpec)

/-- 'laws.FnShapes', WHERE WHAT IT READS IS OF BULK AT MOST 1048576: true; the input reads as it did. -/
def fnShapesUptoRow : OpenClaim := { program := "ytlpghmopabihoaa", sum := "2a419d040654dee8231af790b8da779e5725b9f869229edb034d465c3d2556a9", func := "loop.example/g00969/laws.FnShapes", spec := "fnShapes", inPlace := ["internal/abi.NoEscape", "internal/bytealg.MakeNoZero"], unfollowed := true, recurses := true, apart := false, narrowed := true }
def FnShapesUptoSaid : Prop := fnShapesUptoRow.holds Try.pinned (OpenSpec.upto fnShapesSpec)

/-- 'laws.FnUnsure', WHERE WHAT IT READS IS OF BULK AT MOST 1048576: true; the input reads as it did. -/
def fnUnsureUptoRow : OpenClaim := { program := "ytlpghmopabihoaa", sum := "2a419d040654dee8231af790b8da779e5725b9f869229edb034d465c3d2556a9", func := "loop.example/g00969/laws.FnUnsure", spec := "fnUnsure", inPlace := ["internal/abi.NoEscape", "internal/bytealg.MakeNoZero"], unfollowed := true, recurses := true, apart := false, narrowed := true }
def FnUnsureUptoSaid : Prop := fnUnsureUptoRow.holds Try.pinned (OpenSpec.upto fnUnsureSpec)

/-- 'laws.FnExactRunStep', WHERE WHAT IT READS IS OF BULK AT MOST 1048576: true; the input reads as it did. -/
def fnExactRunStepUptoRow : OpenClaim := { program := "ytlpghmopabihoaa", sum := "2a419d040654dee8231af790b8da779e5725b9f869229edb034d465c3d2556a9", func := "loop.example/g00969/laws.FnExactRunStep", spec := "fnExactRunStep", inPlace := ["slices.overlaps[loop.example/g00969/impl.Cell]"], unfollowed := true, recurses := true, apart := false, narrowed := true }
def FnExactRunStepUptoSaid : Prop := fnExactRunStepUptoRow.holds Try.pinned (OpenSpec.upto fnExactRunStepSpec)

/-- 'laws.FnExactLinesOf', WHERE WHAT IT READS IS OF BULK AT MOST 1048576: true; the input reads as it did. -/
def fnExactLinesOfUptoRow : OpenClaim := { program := "ytlpghmopabihoaa", sum := "2a419d040654dee8231af790b8da779e5725b9f869229edb034d465c3d2556a9", func := "loop.example/g00969/laws.FnExactLinesOf", spec := "fnExactLinesOf", recurses := true, apart := false, narrowed := true }
def FnExactLinesOfUptoSaid : Prop := fnExactLinesOfUptoRow.holds Try.pinned (OpenSpec.upto fnExactLinesOfSpec)

/-- 'laws.FnQuota', WHERE WHAT IT READS IS OF BULK AT MOST 1048576: true; the input reads as it did. -/
def fnQuotaUptoRow : OpenClaim := { program := "ytlpghmopabihoaa", sum := "2a419d040654dee8231af790b8da779e5725b9f869229edb034d465c3d2556a9", func := "loop.example/g00969/laws.FnQuota", spec := "fnQuota", apart := false, narrowed := true }
def FnQuotaUptoSaid : Prop := fnQuotaUptoRow.holds Try.pinned (OpenSpec.upto fnQuotaSpec)

/-- 'laws.FnExactRunSteps', WHERE WHAT IT READS IS OF BULK AT MOST 1048576: true; the input reads as it did. -/
def fnExactRunStepsUptoRow : OpenClaim := { program := "ytlpghmopabihoaa", sum := "2a419d040654dee8231af790b8da779e5725b9f869229edb034d465c3d2556a9", func := "loop.example/g00969/laws.FnExactRunSteps", spec := "fnExactRunSteps", inPlace := ["slices.overlaps[loop.example/g00969/impl.Cell]"], unfollowed := true, recurses := true, apart := false, narrowed := true }
def FnExactRunStepsUptoSaid : Prop := fnExactRunStepsUptoRow.holds Try.pinned (OpenSpec.upto fnExactRunStepsSpec)

/-- 'laws.FnExactDurable', WHERE WHAT IT READS IS OF BULK AT MOST 1048576: true; the input reads as it did. -/
def fnExactDurableUptoRow : OpenClaim := { program := "ytlpghmopabihoaa", sum := "2a419d040654dee8231af790b8da779e5725b9f869229edb034d465c3d2556a9", func := "loop.example/g00969/laws.FnExactDurable", spec := "fnExactDurable", recurses := true, apart := false, narrowed := true }
def FnExactDurableUptoSaid : Prop := fnExactDurableUptoRow.holds Try.pinned (OpenSpec.upto fnExactDurableSpec)

end Rows
end Go.Proofs.Ytlpghmopabihoaa
