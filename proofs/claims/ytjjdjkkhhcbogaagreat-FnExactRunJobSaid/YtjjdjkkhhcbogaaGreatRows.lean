/-
  No cell of these rows narrows 'for every input' (looked for: loops, veiled, ifaces, maps, wideKeys, modest, calm, conditions, laid).
  DERIVED. THE GIVEN ROWS OF THIS SEAT. 6 by the template 'for every input the law returns true; each argument reads behind the call as it read before'; 0 by the template 'total and deterministic' (their statements: YtjjdjkkhhcbogaaGreatTotals.lean).
  GIVEN WITH THE SEED: the statements are not yours to turn. If you find one false, say at which input.
  Laid BY PROGRAM, IN A SANDBOX (cutbox-rows.mjs): the forced cells as the released guide's own fill.sh prints them over the translation fdddf47d0188724d… (all of the seat's roots in one cut). By AI agents, Wed Nov 11 2026. No macro, syntax, notation, axiom, sorry.
-/
import Derived.Test.YtjjdjkkhhcbogaaGreatChecked
import GoSem.Claim
import GoSem.ClaimJoined
import GoSem.ClaimMapViews
import Derived.JoinedTies
import Derived.KernelRfl
namespace Go.Proofs.YtjjdjkkhhcbogaaGreat
/- THE CELL 'sum', in the pinned program and in every row, IS THE sha256 OF THE DUMP (.gsa) THAT YtjjdjkkhhcbogaaGreatProg.lean LOADS. Nothing in Lean hashes anything: it is a label: what it is worth is what the hold of that sum in a sandbox is worth. -/
noncomputable def Tryz.pinned : Pinned := { name := "ytjjdjkkhhcbogaagreat", sum := "fdddf47d0188724d6121d21d89d2b7b31d47a91cb00153641c326b4926fc1eb1", checked := Tryz.checked }
namespace Rows
def none {H : Type} : Left H := { results := [], args := [] }

/-- 'laws.FnExactScrubSteps': WHATEVER THE INPUT: true; the input reads as it did. -/
def fnExactScrubStepsSpec : ChangeSpec := { name := "fnExactScrubSteps", fn := fun _ => fun
  | [d1, d2, d3] => { results := [.lit (.bool true)], args := [d1, d2, d3] }
  | _ => none }
def fnExactScrubStepsRow : OpenClaim := { program := "ytjjdjkkhhcbogaagreat", sum := "fdddf47d0188724d6121d21d89d2b7b31d47a91cb00153641c326b4926fc1eb1", func := "loop.example/g00969/laws.FnExactScrubSteps", spec := "fnExactScrubSteps", inPlace := ["internal/abi.NoEscape", "internal/bytealg.MakeNoZero"], unfollowed := true, recurses := true, apart := false }
def FnExactScrubStepsSaid : Prop := fnExactScrubStepsRow.holds Tryz.pinned (OpenSpec.ofChange fnExactScrubStepsSpec)

/-- ITS FALSE NEIGHBOUR: 'it returns false'. Refute it at one input. -/
def fnExactScrubStepsWrong : ChangeSpec := { name := "fnExactScrubSteps", fn := fun _ => fun
  | [d1, d2, d3] => { results := [.lit (.bool false)], args := [d1, d2, d3] }
  | _ => none }
def FnExactScrubStepsWrongFalsely : Prop := fnExactScrubStepsRow.holds Tryz.pinned (OpenSpec.ofChange fnExactScrubStepsWrong)

/-- 'laws.FnExactFormatMemory': WHATEVER THE INPUT: true; the input reads as it did. -/
def fnExactFormatMemorySpec : ChangeSpec := { name := "fnExactFormatMemory", fn := fun _ => fun
  | [d] => { results := [.lit (.bool true)], args := [d] }
  | _ => none }
def fnExactFormatMemoryRow : OpenClaim := { program := "ytjjdjkkhhcbogaagreat", sum := "fdddf47d0188724d6121d21d89d2b7b31d47a91cb00153641c326b4926fc1eb1", func := "loop.example/g00969/laws.FnExactFormatMemory", spec := "fnExactFormatMemory", inPlace := ["internal/abi.NoEscape", "internal/bytealg.MakeNoZero", "slices.overlaps[loop.example/g00969/impl.Cell]"], unfollowed := true, recurses := true, apart := false }
def FnExactFormatMemorySaid : Prop := fnExactFormatMemoryRow.holds Tryz.pinned (OpenSpec.ofChange fnExactFormatMemorySpec)

/-- ITS FALSE NEIGHBOUR: 'it returns false'. Refute it at one input. -/
def fnExactFormatMemoryWrong : ChangeSpec := { name := "fnExactFormatMemory", fn := fun _ => fun
  | [d] => { results := [.lit (.bool false)], args := [d] }
  | _ => none }
def FnExactFormatMemoryWrongFalsely : Prop := fnExactFormatMemoryRow.holds Tryz.pinned (OpenSpec.ofChange fnExactFormatMemoryWrong)

/-- 'laws.FnExactSystemNew': WHATEVER THE INPUT: true; the input reads as it did. -/
def fnExactSystemNewSpec : ChangeSpec := { name := "fnExactSystemNew", fn := fun _ => fun
  | [d] => { results := [.lit (.bool true)], args := [d] }
  | _ => none }
def fnExactSystemNewRow : OpenClaim := { program := "ytjjdjkkhhcbogaagreat", sum := "fdddf47d0188724d6121d21d89d2b7b31d47a91cb00153641c326b4926fc1eb1", func := "loop.example/g00969/laws.FnExactSystemNew", spec := "fnExactSystemNew", inPlace := ["internal/abi.NoEscape", "internal/bytealg.MakeNoZero", "slices.overlaps[loop.example/g00969/impl.Cell]"], unfollowed := true, recurses := true, apart := false }
def FnExactSystemNewSaid : Prop := fnExactSystemNewRow.holds Tryz.pinned (OpenSpec.ofChange fnExactSystemNewSpec)

/-- ITS FALSE NEIGHBOUR: 'it returns false'. Refute it at one input. -/
def fnExactSystemNewWrong : ChangeSpec := { name := "fnExactSystemNew", fn := fun _ => fun
  | [d] => { results := [.lit (.bool false)], args := [d] }
  | _ => none }
def FnExactSystemNewWrongFalsely : Prop := fnExactSystemNewRow.holds Tryz.pinned (OpenSpec.ofChange fnExactSystemNewWrong)

/-- 'laws.FnExactWorldNew': WHATEVER THE INPUT: true; the input reads as it did. -/
def fnExactWorldNewSpec : ChangeSpec := { name := "fnExactWorldNew", fn := fun _ => fun
  | [d] => { results := [.lit (.bool true)], args := [d] }
  | _ => none }
def fnExactWorldNewRow : OpenClaim := { program := "ytjjdjkkhhcbogaagreat", sum := "fdddf47d0188724d6121d21d89d2b7b31d47a91cb00153641c326b4926fc1eb1", func := "loop.example/g00969/laws.FnExactWorldNew", spec := "fnExactWorldNew", inPlace := ["internal/abi.NoEscape", "internal/bytealg.MakeNoZero", "slices.overlaps[loop.example/g00969/impl.Cell]"], unfollowed := true, recurses := true, apart := false }
def FnExactWorldNewSaid : Prop := fnExactWorldNewRow.holds Tryz.pinned (OpenSpec.ofChange fnExactWorldNewSpec)

/-- ITS FALSE NEIGHBOUR: 'it returns false'. Refute it at one input. -/
def fnExactWorldNewWrong : ChangeSpec := { name := "fnExactWorldNew", fn := fun _ => fun
  | [d] => { results := [.lit (.bool false)], args := [d] }
  | _ => none }
def FnExactWorldNewWrongFalsely : Prop := fnExactWorldNewRow.holds Tryz.pinned (OpenSpec.ofChange fnExactWorldNewWrong)

/-- 'laws.FnExactStepJob': WHATEVER THE INPUT: true; the input reads as it did. -/
def fnExactStepJobSpec : ChangeSpec := { name := "fnExactStepJob", fn := fun _ => fun
  | [d1, d2] => { results := [.lit (.bool true)], args := [d1, d2] }
  | _ => none }
def fnExactStepJobRow : OpenClaim := { program := "ytjjdjkkhhcbogaagreat", sum := "fdddf47d0188724d6121d21d89d2b7b31d47a91cb00153641c326b4926fc1eb1", func := "loop.example/g00969/laws.FnExactStepJob", spec := "fnExactStepJob", inPlace := ["slices.overlaps[loop.example/g00969/impl.Cell]"], unfollowed := true, recurses := true, apart := false }
def FnExactStepJobSaid : Prop := fnExactStepJobRow.holds Tryz.pinned (OpenSpec.ofChange fnExactStepJobSpec)

/-- ITS FALSE NEIGHBOUR: 'it returns false'. Refute it at one input. -/
def fnExactStepJobWrong : ChangeSpec := { name := "fnExactStepJob", fn := fun _ => fun
  | [d1, d2] => { results := [.lit (.bool false)], args := [d1, d2] }
  | _ => none }
def FnExactStepJobWrongFalsely : Prop := fnExactStepJobRow.holds Tryz.pinned (OpenSpec.ofChange fnExactStepJobWrong)

/-- 'laws.FnExactRunJob': WHATEVER THE INPUT: true; the input reads as it did. -/
def fnExactRunJobSpec : ChangeSpec := { name := "fnExactRunJob", fn := fun _ => fun
  | [d1, d2] => { results := [.lit (.bool true)], args := [d1, d2] }
  | _ => none }
def fnExactRunJobRow : OpenClaim := { program := "ytjjdjkkhhcbogaagreat", sum := "fdddf47d0188724d6121d21d89d2b7b31d47a91cb00153641c326b4926fc1eb1", func := "loop.example/g00969/laws.FnExactRunJob", spec := "fnExactRunJob", inPlace := ["slices.overlaps[loop.example/g00969/impl.Cell]"], unfollowed := true, recurses := true, apart := false }
def FnExactRunJobSaid : Prop := fnExactRunJobRow.holds Tryz.pinned (OpenSpec.ofChange fnExactRunJobSpec)

/-- ITS FALSE NEIGHBOUR: 'it returns false'. Refute it at one input. -/
def fnExactRunJobWrong : ChangeSpec := { name := "fnExactRunJob", fn := fun _ => fun
  | [d1, d2] => { results := [.lit (.bool false)], args := [d1, d2] }
  | _ => none }
def FnExactRunJobWrongFalsely : Prop := fnExactRunJobRow.holds Tryz.pinned (OpenSpec.ofChange fnExactRunJobWrong)

/- THE SECOND FORM. 'bulk': how many values and letters a reading holds, each counted each time it is reached (what is shared counts as often as it is met; a slice's spare places count too). A statement '..UptoSaid' is the law's where the arguments, and the package variables that the reading takes, are together of bulk at most 1048576: NARROWER than '..Said'. Prove '..Said' where nothing that the law and all that it calls make is longer than what came in: it says more and counts as full. Else prove '..UptoSaid'. A law counts once. -/
mutual
def uptoBulk {H : Type} : DataW H → Nat
  | .lit (.string bytes) => bytes.length + 1
  | .lit _ => 1
  | .nil => 1
  | .ptr d => uptoBulk d + 1
  | .slice elems spare => uptoBulkAll elems + uptoBulkAll spare + 1
  | .agg parts => uptoBulkAll parts + 1
  | .iface _ d => uptoBulk d + 1
  | .map entries => uptoBulkEntries entries + 1
  | .held _ => 1
def uptoBulkAll {H : Type} : List (DataW H) → Nat
  | [] => 0
  | d :: r => uptoBulk d + uptoBulkAll r
def uptoBulkEntries {H : Type} : List (Lit × DataW H) → Nat
  | [] => 0
  | x :: r => uptoBulkEntry x + uptoBulkEntries r
def uptoBulkEntry {H : Type} : Lit × DataW H → Nat
  | (.string bytes, d) => bytes.length + uptoBulk d + 1
  | (_, d) => uptoBulk d + 1
 end
def uptoSmall : (H : Type) → List (DataW H) → Bool := fun _ ds => decide (uptoBulkAll ds ≤ 1048576)
def OpenSpec.upto (s : _root_.Go.ChangeSpec) : _root_.Go.OpenSpec := { _root_.Go.OpenSpec.ofChange s with cond := some uptoSmall }

/-- 'laws.FnExactScrubSteps', WHERE WHAT IT READS IS OF BULK AT MOST 1048576: true; the input reads as it did. -/
def fnExactScrubStepsUptoRow : OpenClaim := { program := "ytjjdjkkhhcbogaagreat", sum := "fdddf47d0188724d6121d21d89d2b7b31d47a91cb00153641c326b4926fc1eb1", func := "loop.example/g00969/laws.FnExactScrubSteps", spec := "fnExactScrubSteps", inPlace := ["internal/abi.NoEscape", "internal/bytealg.MakeNoZero"], unfollowed := true, recurses := true, apart := false, narrowed := true }
def FnExactScrubStepsUptoSaid : Prop := fnExactScrubStepsUptoRow.holds Tryz.pinned (OpenSpec.upto fnExactScrubStepsSpec)

/-- 'laws.FnExactFormatMemory', WHERE WHAT IT READS IS OF BULK AT MOST 1048576: true; the input reads as it did. -/
def fnExactFormatMemoryUptoRow : OpenClaim := { program := "ytjjdjkkhhcbogaagreat", sum := "fdddf47d0188724d6121d21d89d2b7b31d47a91cb00153641c326b4926fc1eb1", func := "loop.example/g00969/laws.FnExactFormatMemory", spec := "fnExactFormatMemory", inPlace := ["internal/abi.NoEscape", "internal/bytealg.MakeNoZero", "slices.overlaps[loop.example/g00969/impl.Cell]"], unfollowed := true, recurses := true, apart := false, narrowed := true }
def FnExactFormatMemoryUptoSaid : Prop := fnExactFormatMemoryUptoRow.holds Tryz.pinned (OpenSpec.upto fnExactFormatMemorySpec)

/-- 'laws.FnExactSystemNew', WHERE WHAT IT READS IS OF BULK AT MOST 1048576: true; the input reads as it did. -/
def fnExactSystemNewUptoRow : OpenClaim := { program := "ytjjdjkkhhcbogaagreat", sum := "fdddf47d0188724d6121d21d89d2b7b31d47a91cb00153641c326b4926fc1eb1", func := "loop.example/g00969/laws.FnExactSystemNew", spec := "fnExactSystemNew", inPlace := ["internal/abi.NoEscape", "internal/bytealg.MakeNoZero", "slices.overlaps[loop.example/g00969/impl.Cell]"], unfollowed := true, recurses := true, apart := false, narrowed := true }
def FnExactSystemNewUptoSaid : Prop := fnExactSystemNewUptoRow.holds Tryz.pinned (OpenSpec.upto fnExactSystemNewSpec)

/-- 'laws.FnExactWorldNew', WHERE WHAT IT READS IS OF BULK AT MOST 1048576: true; the input reads as it did. -/
def fnExactWorldNewUptoRow : OpenClaim := { program := "ytjjdjkkhhcbogaagreat", sum := "fdddf47d0188724d6121d21d89d2b7b31d47a91cb00153641c326b4926fc1eb1", func := "loop.example/g00969/laws.FnExactWorldNew", spec := "fnExactWorldNew", inPlace := ["internal/abi.NoEscape", "internal/bytealg.MakeNoZero", "slices.overlaps[loop.example/g00969/impl.Cell]"], unfollowed := true, recurses := true, apart := false, narrowed := true }
def FnExactWorldNewUptoSaid : Prop := fnExactWorldNewUptoRow.holds Tryz.pinned (OpenSpec.upto fnExactWorldNewSpec)

/-- 'laws.FnExactStepJob', WHERE WHAT IT READS IS OF BULK AT MOST 1048576: true; the input reads as it did. -/
def fnExactStepJobUptoRow : OpenClaim := { program := "ytjjdjkkhhcbogaagreat", sum := "fdddf47d0188724d6121d21d89d2b7b31d47a91cb00153641c326b4926fc1eb1", func := "loop.example/g00969/laws.FnExactStepJob", spec := "fnExactStepJob", inPlace := ["slices.overlaps[loop.example/g00969/impl.Cell]"], unfollowed := true, recurses := true, apart := false, narrowed := true }
def FnExactStepJobUptoSaid : Prop := fnExactStepJobUptoRow.holds Tryz.pinned (OpenSpec.upto fnExactStepJobSpec)

/-- 'laws.FnExactRunJob', WHERE WHAT IT READS IS OF BULK AT MOST 1048576: true; the input reads as it did. -/
def fnExactRunJobUptoRow : OpenClaim := { program := "ytjjdjkkhhcbogaagreat", sum := "fdddf47d0188724d6121d21d89d2b7b31d47a91cb00153641c326b4926fc1eb1", func := "loop.example/g00969/laws.FnExactRunJob", spec := "fnExactRunJob", inPlace := ["slices.overlaps[loop.example/g00969/impl.Cell]"], unfollowed := true, recurses := true, apart := false, narrowed := true }
def FnExactRunJobUptoSaid : Prop := fnExactRunJobUptoRow.holds Tryz.pinned (OpenSpec.upto fnExactRunJobSpec)

end Rows
end Go.Proofs.YtjjdjkkhhcbogaaGreat
