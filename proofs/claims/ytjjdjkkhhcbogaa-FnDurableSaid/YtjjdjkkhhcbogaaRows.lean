/-
  No cell of these rows narrows 'for every input' (looked for: loops, veiled, ifaces, maps, wideKeys, modest, calm, conditions, laid).
  DERIVED. THE GIVEN ROWS OF THIS SEAT. 6 by the template 'for every input the law returns true; each argument reads behind the call as it read before'; 0 by the template 'total and deterministic' (their statements: YtjjdjkkhhcbogaaTotals.lean).
  GIVEN WITH THE SEED: the statements are not yours to turn. If you find one false, say at which input.
  Laid BY PROGRAM, IN A SANDBOX (cutbox-rows.mjs): the forced cells as the released guide's own fill.sh prints them over the translation 06c31ae7ed87ec49… (all of the seat's roots in one cut). By AI agents, Wed Nov 11 2026. No macro, syntax, notation, axiom, sorry.
-/
import Derived.Test.YtjjdjkkhhcbogaaChecked
import GoSem.Claim
import GoSem.ClaimJoined
import GoSem.ClaimMapViews
import Derived.JoinedTies
import Derived.KernelRfl
namespace Go.Proofs.Ytjjdjkkhhcbogaa
/- THE CELL 'sum', in the pinned program and in every row, IS THE sha256 OF THE DUMP (.gsa) THAT YtjjdjkkhhcbogaaProg.lean LOADS. Nothing in Lean hashes anything: it is a label: what it is worth is what the hold of that sum in a sandbox is worth. -/
noncomputable def Try.pinned : Pinned := { name := "ytjjdjkkhhcbogaa", sum := "06c31ae7ed87ec49e36163af04c4bb319ef31355351a17104774f9d209202b2f", checked := Try.checked }
namespace Rows
def none {H : Type} : Left H := { results := [], args := [] }

/-- 'laws.FnExactRunStep': WHATEVER THE INPUT: true; the input reads as it did. -/
def fnExactRunStepSpec : ChangeSpec := { name := "fnExactRunStep", fn := fun _ => fun
  | [d1, d2] => { results := [.lit (.bool true)], args := [d1, d2] }
  | _ => none }
def fnExactRunStepRow : OpenClaim := { program := "ytjjdjkkhhcbogaa", sum := "06c31ae7ed87ec49e36163af04c4bb319ef31355351a17104774f9d209202b2f", func := "loop.example/g00969/laws.FnExactRunStep", spec := "fnExactRunStep", inPlace := ["slices.overlaps[loop.example/g00969/impl.Cell]"], unfollowed := true, recurses := true, apart := false }
def FnExactRunStepSaid : Prop := fnExactRunStepRow.holds Try.pinned (OpenSpec.ofChange fnExactRunStepSpec)

/-- ITS FALSE NEIGHBOUR: 'it returns false'. Refute it at one input. -/
def fnExactRunStepWrong : ChangeSpec := { name := "fnExactRunStep", fn := fun _ => fun
  | [d1, d2] => { results := [.lit (.bool false)], args := [d1, d2] }
  | _ => none }
def FnExactRunStepWrongFalsely : Prop := fnExactRunStepRow.holds Try.pinned (OpenSpec.ofChange fnExactRunStepWrong)

/-- 'laws.FnExactRunSteps': WHATEVER THE INPUT: true; the input reads as it did. -/
def fnExactRunStepsSpec : ChangeSpec := { name := "fnExactRunSteps", fn := fun _ => fun
  | [d1, d2] => { results := [.lit (.bool true)], args := [d1, d2] }
  | _ => none }
def fnExactRunStepsRow : OpenClaim := { program := "ytjjdjkkhhcbogaa", sum := "06c31ae7ed87ec49e36163af04c4bb319ef31355351a17104774f9d209202b2f", func := "loop.example/g00969/laws.FnExactRunSteps", spec := "fnExactRunSteps", inPlace := ["slices.overlaps[loop.example/g00969/impl.Cell]"], unfollowed := true, recurses := true, apart := false }
def FnExactRunStepsSaid : Prop := fnExactRunStepsRow.holds Try.pinned (OpenSpec.ofChange fnExactRunStepsSpec)

/-- ITS FALSE NEIGHBOUR: 'it returns false'. Refute it at one input. -/
def fnExactRunStepsWrong : ChangeSpec := { name := "fnExactRunSteps", fn := fun _ => fun
  | [d1, d2] => { results := [.lit (.bool false)], args := [d1, d2] }
  | _ => none }
def FnExactRunStepsWrongFalsely : Prop := fnExactRunStepsRow.holds Try.pinned (OpenSpec.ofChange fnExactRunStepsWrong)

/-- 'laws.FnStores': WHATEVER THE INPUT: true; the input reads as it did. -/
def fnStoresSpec : ChangeSpec := { name := "fnStores", fn := fun _ => fun
  | [d] => { results := [.lit (.bool true)], args := [d] }
  | _ => none }
def fnStoresRow : OpenClaim := { program := "ytjjdjkkhhcbogaa", sum := "06c31ae7ed87ec49e36163af04c4bb319ef31355351a17104774f9d209202b2f", func := "loop.example/g00969/laws.FnStores", spec := "fnStores", inPlace := ["slices.overlaps[loop.example/g00969/impl.Cell]", "internal/abi.NoEscape", "internal/bytealg.MakeNoZero"], unfollowed := true, recurses := true, apart := false }
def FnStoresSaid : Prop := fnStoresRow.holds Try.pinned (OpenSpec.ofChange fnStoresSpec)

/-- ITS FALSE NEIGHBOUR: 'it returns false'. Refute it at one input. -/
def fnStoresWrong : ChangeSpec := { name := "fnStores", fn := fun _ => fun
  | [d] => { results := [.lit (.bool false)], args := [d] }
  | _ => none }
def FnStoresWrongFalsely : Prop := fnStoresRow.holds Try.pinned (OpenSpec.ofChange fnStoresWrong)

/-- 'laws.FnDurable': WHATEVER THE INPUT: true; the input reads as it did. -/
def fnDurableSpec : ChangeSpec := { name := "fnDurable", fn := fun _ => fun
  | [d] => { results := [.lit (.bool true)], args := [d] }
  | _ => none }
def fnDurableRow : OpenClaim := { program := "ytjjdjkkhhcbogaa", sum := "06c31ae7ed87ec49e36163af04c4bb319ef31355351a17104774f9d209202b2f", func := "loop.example/g00969/laws.FnDurable", spec := "fnDurable", inPlace := ["slices.overlaps[loop.example/g00969/impl.Cell]"], unfollowed := true, recurses := true, apart := false }
def FnDurableSaid : Prop := fnDurableRow.holds Try.pinned (OpenSpec.ofChange fnDurableSpec)

/-- ITS FALSE NEIGHBOUR: 'it returns false'. Refute it at one input. -/
def fnDurableWrong : ChangeSpec := { name := "fnDurable", fn := fun _ => fun
  | [d] => { results := [.lit (.bool false)], args := [d] }
  | _ => none }
def FnDurableWrongFalsely : Prop := fnDurableRow.holds Try.pinned (OpenSpec.ofChange fnDurableWrong)

/-- 'laws.FnExactToldTo': WHATEVER THE INPUT: true; the input reads as it did. -/
def fnExactToldToSpec : ChangeSpec := { name := "fnExactToldTo", fn := fun _ => fun
  | [d1, d2] => { results := [.lit (.bool true)], args := [d1, d2] }
  | _ => none }
def fnExactToldToRow : OpenClaim := { program := "ytjjdjkkhhcbogaa", sum := "06c31ae7ed87ec49e36163af04c4bb319ef31355351a17104774f9d209202b2f", func := "loop.example/g00969/laws.FnExactToldTo", spec := "fnExactToldTo", apart := false }
def FnExactToldToSaid : Prop := fnExactToldToRow.holds Try.pinned (OpenSpec.ofChange fnExactToldToSpec)

/-- ITS FALSE NEIGHBOUR: 'it returns false'. Refute it at one input. -/
def fnExactToldToWrong : ChangeSpec := { name := "fnExactToldTo", fn := fun _ => fun
  | [d1, d2] => { results := [.lit (.bool false)], args := [d1, d2] }
  | _ => none }
def FnExactToldToWrongFalsely : Prop := fnExactToldToRow.holds Try.pinned (OpenSpec.ofChange fnExactToldToWrong)

/-- 'laws.FnExactIdleIn': WHATEVER THE INPUT: true; the input reads as it did. -/
def fnExactIdleInSpec : ChangeSpec := { name := "fnExactIdleIn", fn := fun _ => fun
  | [d] => { results := [.lit (.bool true)], args := [d] }
  | _ => none }
def fnExactIdleInRow : OpenClaim := { program := "ytjjdjkkhhcbogaa", sum := "06c31ae7ed87ec49e36163af04c4bb319ef31355351a17104774f9d209202b2f", func := "loop.example/g00969/laws.FnExactIdleIn", spec := "fnExactIdleIn", apart := false }
def FnExactIdleInSaid : Prop := fnExactIdleInRow.holds Try.pinned (OpenSpec.ofChange fnExactIdleInSpec)

/-- ITS FALSE NEIGHBOUR: 'it returns false'. Refute it at one input. -/
def fnExactIdleInWrong : ChangeSpec := { name := "fnExactIdleIn", fn := fun _ => fun
  | [d] => { results := [.lit (.bool false)], args := [d] }
  | _ => none }
def FnExactIdleInWrongFalsely : Prop := fnExactIdleInRow.holds Try.pinned (OpenSpec.ofChange fnExactIdleInWrong)

/- THE SECOND FORM. 'bulk': how many values and letters a reading holds, each counted each time it is reached (what is shared counts as often as it is met; a slice's spare places count too). A statement '..UptoSaid' is the law's where the arguments, and the package variables that the reading takes, are together of bulk at most 1048576: NARROWER than '..Said'. Prove '..Said' where nothing that the law and all that it calls make is longer than what came in: it says more and counts as full. Else prove '..UptoSaid'. A law counts once. -/
mutual
def uptoBulk {H : Type} : DataW H → Nat
  | .lit (.string bytes) => bytes.length + 1
  | .lit _ => 1
  | .nil => 1
  | .ptr d => uptoBulk d + 1
  | .slice elems spare => uptoBulkAll elems + uptoBulkAll spare + 1
  | .agg parts => uptoBulkAll parts + 1
  | .iface _ d => uptoBulk d + 1
  | .map entries => uptoBulkEntries entries + 1
  | .held _ => 1
def uptoBulkAll {H : Type} : List (DataW H) → Nat
  | [] => 0
  | d :: r => uptoBulk d + uptoBulkAll r
def uptoBulkEntries {H : Type} : List (Lit × DataW H) → Nat
  | [] => 0
  | x :: r => uptoBulkEntry x + uptoBulkEntries r
def uptoBulkEntry {H : Type} : Lit × DataW H → Nat
  | (.string bytes, d) => bytes.length + uptoBulk d + 1
  | (_, d) => uptoBulk d + 1
 end
def uptoSmall : (H : Type) → List (DataW H) → Bool := fun _ ds => decide (uptoBulkAll ds ≤ 1048576)
def OpenSpec.upto (s : _root_.Go.ChangeSpec) : _root_.Go.OpenSpec := { _root_.Go.OpenSpec.ofChange s with cond := some uptoSmall }

/-- 'laws.FnExactRunStep', WHERE WHAT IT READS IS OF BULK AT MOST 1048576: true; the input reads as it did. -/
def fnExactRunStepUptoRow : OpenClaim := { program := "ytjjdjkkhhcbogaa", sum := "06c31ae7ed87ec49e36163af04c4bb319ef31355351a17104774f9d209202b2f", func := "loop.example/g00969/laws.FnExactRunStep", spec := "fnExactRunStep", inPlace := ["slices.overlaps[loop.example/g00969/impl.Cell]"], unfollowed := true, recurses := true, apart := false, narrowed := true }
def FnExactRunStepUptoSaid : Prop := fnExactRunStepUptoRow.holds Try.pinned (OpenSpec.upto fnExactRunStepSpec)

/-- 'laws.FnExactRunSteps', WHERE WHAT IT READS IS OF BULK AT MOST 1048576: true; the input reads as it did. -/
def fnExactRunStepsUptoRow : OpenClaim := { program := "ytjjdjkkhhcbogaa", sum := "06c31ae7ed87ec49e36163af04c4bb319ef31355351a17104774f9d209202b2f", func := "loop.example/g00969/laws.FnExactRunSteps", spec := "fnExactRunSteps", inPlace := ["slices.overlaps[loop.example/g00969/impl.Cell]"], unfollowed := true, recurses := true, apart := false, narrowed := true }
def FnExactRunStepsUptoSaid : Prop := fnExactRunStepsUptoRow.holds Try.pinned (OpenSpec.upto fnExactRunStepsSpec)

/-- 'laws.FnStores', WHERE WHAT IT READS IS OF BULK AT MOST 1048576: true; the input reads as it did. -/
def fnStoresUptoRow : OpenClaim := { program := "ytjjdjkkhhcbogaa", sum := "06c31ae7ed87ec49e36163af04c4bb319ef31355351a17104774f9d209202b2f", func := "loop.example/g00969/laws.FnStores", spec := "fnStores", inPlace := ["slices.overlaps[loop.example/g00969/impl.Cell]", "internal/abi.NoEscape", "internal/bytealg.MakeNoZero"], unfollowed := true, recurses := true, apart := false, narrowed := true }
def FnStoresUptoSaid : Prop := fnStoresUptoRow.holds Try.pinned (OpenSpec.upto fnStoresSpec)

/-- 'laws.FnDurable', WHERE WHAT IT READS IS OF BULK AT MOST 1048576: true; the input reads as it did. -/
def fnDurableUptoRow : OpenClaim := { program := "ytjjdjkkhhcbogaa", sum := "06c31ae7ed87ec49e36163af04c4bb319ef31355351a17104774f9d209202b2f", func := "loop.example/g00969/laws.FnDurable", spec := "fnDurable", inPlace := ["slices.overlaps[loop.example/g00969/impl.Cell]"], unfollowed := true, recurses := true, apart := false, narrowed := true }
def FnDurableUptoSaid : Prop := fnDurableUptoRow.holds Try.pinned (OpenSpec.upto fnDurableSpec)

/-- 'laws.FnExactToldTo', WHERE WHAT IT READS IS OF BULK AT MOST 1048576: true; the input reads as it did. -/
def fnExactToldToUptoRow : OpenClaim := { program := "ytjjdjkkhhcbogaa", sum := "06c31ae7ed87ec49e36163af04c4bb319ef31355351a17104774f9d209202b2f", func := "loop.example/g00969/laws.FnExactToldTo", spec := "fnExactToldTo", apart := false, narrowed := true }
def FnExactToldToUptoSaid : Prop := fnExactToldToUptoRow.holds Try.pinned (OpenSpec.upto fnExactToldToSpec)

/-- 'laws.FnExactIdleIn', WHERE WHAT IT READS IS OF BULK AT MOST 1048576: true; the input reads as it did. -/
def fnExactIdleInUptoRow : OpenClaim := { program := "ytjjdjkkhhcbogaa", sum := "06c31ae7ed87ec49e36163af04c4bb319ef31355351a17104774f9d209202b2f", func := "loop.example/g00969/laws.FnExactIdleIn", spec := "fnExactIdleIn", apart := false, narrowed := true }
def FnExactIdleInUptoSaid : Prop := fnExactIdleInUptoRow.holds Try.pinned (OpenSpec.upto fnExactIdleInSpec)

end Rows
end Go.Proofs.Ytjjdjkkhhcbogaa
