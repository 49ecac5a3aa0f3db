/-
  No cell of these rows narrows 'for every input' (looked for: loops, veiled, ifaces, maps, wideKeys, modest, calm, conditions, laid).
  DERIVED. THE GIVEN ROWS OF THIS SEAT. 11 by the template 'for every input the law returns true; each argument reads behind the call as it read before'; 0 by the template 'total and deterministic' (their statements: YtklghegofjigoaaTotals.lean).
  GIVEN WITH THE SEED: the statements are not yours to turn. If you find one false, say at which input.
  Laid BY PROGRAM, IN A SANDBOX (cutbox-rows.mjs): the forced cells as the released guide's own fill.sh prints them over the translation b23a18ba7aa94eb4… (all of the seat's roots in one cut). By AI agents, Wed Nov 11 2026. No macro, syntax, notation, axiom, sorry.
-/
import Derived.Test.YtklghegofjigoaaChecked
import GoSem.Claim
import GoSem.ClaimJoined
import GoSem.ClaimMapViews
import Derived.JoinedTies
import Derived.KernelRfl
namespace Go.Proofs.Ytklghegofjigoaa
/- THE CELL 'sum', in the pinned program and in every row, IS THE sha256 OF THE DUMP (.gsa) THAT YtklghegofjigoaaProg.lean LOADS. Nothing in Lean hashes anything: it is a label: what it is worth is what the hold of that sum in a sandbox is worth. -/
noncomputable def Try.pinned : Pinned := { name := "ytklghegofjigoaa", sum := "b23a18ba7aa94eb48c1a4b6187429e0e7f94773e9cba955d2ff2aaa71f6e4b2b", checked := Try.checked }
namespace Rows
def none {H : Type} : Left H := { results := [], args := [] }

/-- 'laws.FnWoven': WHATEVER THE INPUT: true; the input reads as it did. -/
def fnWovenSpec : ChangeSpec := { name := "fnWoven", fn := fun _ => fun
  | [d] => { results := [.lit (.bool true)], args := [d] }
  | _ => none }
def fnWovenRow : OpenClaim := { program := "ytklghegofjigoaa", sum := "b23a18ba7aa94eb48c1a4b6187429e0e7f94773e9cba955d2ff2aaa71f6e4b2b", func := "loop.example/g00969/laws.FnWoven", spec := "fnWoven", apart := false }
def FnWovenSaid : Prop := fnWovenRow.holds Try.pinned (OpenSpec.ofChange fnWovenSpec)

/-- ITS FALSE NEIGHBOUR: 'it returns false'. Refute it at one input. -/
def fnWovenWrong : ChangeSpec := { name := "fnWoven", fn := fun _ => fun
  | [d] => { results := [.lit (.bool false)], args := [d] }
  | _ => none }
def FnWovenWrongFalsely : Prop := fnWovenRow.holds Try.pinned (OpenSpec.ofChange fnWovenWrong)

/-- 'laws.FnExactMaskRec': WHATEVER THE INPUT: true; the input reads as it did. -/
def fnExactMaskRecSpec : ChangeSpec := { name := "fnExactMaskRec", fn := fun _ => fun
  | [d] => { results := [.lit (.bool true)], args := [d] }
  | _ => none }
def fnExactMaskRecRow : OpenClaim := { program := "ytklghegofjigoaa", sum := "b23a18ba7aa94eb48c1a4b6187429e0e7f94773e9cba955d2ff2aaa71f6e4b2b", func := "loop.example/g00969/laws.FnExactMaskRec", spec := "fnExactMaskRec", inPlace := ["internal/abi.NoEscape", "internal/bytealg.MakeNoZero"], apart := false }
def FnExactMaskRecSaid : Prop := fnExactMaskRecRow.holds Try.pinned (OpenSpec.ofChange fnExactMaskRecSpec)

/-- ITS FALSE NEIGHBOUR: 'it returns false'. Refute it at one input. -/
def fnExactMaskRecWrong : ChangeSpec := { name := "fnExactMaskRec", fn := fun _ => fun
  | [d] => { results := [.lit (.bool false)], args := [d] }
  | _ => none }
def FnExactMaskRecWrongFalsely : Prop := fnExactMaskRecRow.holds Try.pinned (OpenSpec.ofChange fnExactMaskRecWrong)

/-- 'laws.FnExactOnlyOf': WHATEVER THE INPUT: true; the input reads as it did. -/
def fnExactOnlyOfSpec : ChangeSpec := { name := "fnExactOnlyOf", fn := fun _ => fun
  | [d1, d2] => { results := [.lit (.bool true)], args := [d1, d2] }
  | _ => none }
def fnExactOnlyOfRow : OpenClaim := { program := "ytklghegofjigoaa", sum := "b23a18ba7aa94eb48c1a4b6187429e0e7f94773e9cba955d2ff2aaa71f6e4b2b", func := "loop.example/g00969/laws.FnExactOnlyOf", spec := "fnExactOnlyOf", apart := false }
def FnExactOnlyOfSaid : Prop := fnExactOnlyOfRow.holds Try.pinned (OpenSpec.ofChange fnExactOnlyOfSpec)

/-- ITS FALSE NEIGHBOUR: 'it returns false'. Refute it at one input. -/
def fnExactOnlyOfWrong : ChangeSpec := { name := "fnExactOnlyOf", fn := fun _ => fun
  | [d1, d2] => { results := [.lit (.bool false)], args := [d1, d2] }
  | _ => none }
def FnExactOnlyOfWrongFalsely : Prop := fnExactOnlyOfRow.holds Try.pinned (OpenSpec.ofChange fnExactOnlyOfWrong)

/-- 'laws.FnExactAddressWord': WHATEVER THE INPUT: true; the input reads as it did. -/
def fnExactAddressWordSpec : ChangeSpec := { name := "fnExactAddressWord", fn := fun _ => fun
  | [d] => { results := [.lit (.bool true)], args := [d] }
  | _ => none }
def fnExactAddressWordRow : OpenClaim := { program := "ytklghegofjigoaa", sum := "b23a18ba7aa94eb48c1a4b6187429e0e7f94773e9cba955d2ff2aaa71f6e4b2b", func := "loop.example/g00969/laws.FnExactAddressWord", spec := "fnExactAddressWord", inPlace := ["internal/abi.NoEscape", "internal/bytealg.MakeNoZero"], apart := false }
def FnExactAddressWordSaid : Prop := fnExactAddressWordRow.holds Try.pinned (OpenSpec.ofChange fnExactAddressWordSpec)

/-- ITS FALSE NEIGHBOUR: 'it returns false'. Refute it at one input. -/
def fnExactAddressWordWrong : ChangeSpec := { name := "fnExactAddressWord", fn := fun _ => fun
  | [d] => { results := [.lit (.bool false)], args := [d] }
  | _ => none }
def FnExactAddressWordWrongFalsely : Prop := fnExactAddressWordRow.holds Try.pinned (OpenSpec.ofChange fnExactAddressWordWrong)

/-- 'laws.FnExactFallenMemory': WHATEVER THE INPUT: true; the input reads as it did. -/
def fnExactFallenMemorySpec : ChangeSpec := { name := "fnExactFallenMemory", fn := fun _ => fun
  | [d1, d2] => { results := [.lit (.bool true)], args := [d1, d2] }
  | _ => none }
def fnExactFallenMemoryRow : OpenClaim := { program := "ytklghegofjigoaa", sum := "b23a18ba7aa94eb48c1a4b6187429e0e7f94773e9cba955d2ff2aaa71f6e4b2b", func := "loop.example/g00969/laws.FnExactFallenMemory", spec := "fnExactFallenMemory", unfollowed := true, recurses := true, apart := false }
def FnExactFallenMemorySaid : Prop := fnExactFallenMemoryRow.holds Try.pinned (OpenSpec.ofChange fnExactFallenMemorySpec)

/-- ITS FALSE NEIGHBOUR: 'it returns false'. Refute it at one input. -/
def fnExactFallenMemoryWrong : ChangeSpec := { name := "fnExactFallenMemory", fn := fun _ => fun
  | [d1, d2] => { results := [.lit (.bool false)], args := [d1, d2] }
  | _ => none }
def FnExactFallenMemoryWrongFalsely : Prop := fnExactFallenMemoryRow.holds Try.pinned (OpenSpec.ofChange fnExactFallenMemoryWrong)

/-- 'laws.FnExactCodesTo': WHATEVER THE INPUT: true; the input reads as it did. -/
def fnExactCodesToSpec : ChangeSpec := { name := "fnExactCodesTo", fn := fun _ => fun
  | [d1, d2] => { results := [.lit (.bool true)], args := [d1, d2] }
  | _ => none }
def fnExactCodesToRow : OpenClaim := { program := "ytklghegofjigoaa", sum := "b23a18ba7aa94eb48c1a4b6187429e0e7f94773e9cba955d2ff2aaa71f6e4b2b", func := "loop.example/g00969/laws.FnExactCodesTo", spec := "fnExactCodesTo", apart := false }
def FnExactCodesToSaid : Prop := fnExactCodesToRow.holds Try.pinned (OpenSpec.ofChange fnExactCodesToSpec)

/-- ITS FALSE NEIGHBOUR: 'it returns false'. Refute it at one input. -/
def fnExactCodesToWrong : ChangeSpec := { name := "fnExactCodesTo", fn := fun _ => fun
  | [d1, d2] => { results := [.lit (.bool false)], args := [d1, d2] }
  | _ => none }
def FnExactCodesToWrongFalsely : Prop := fnExactCodesToRow.holds Try.pinned (OpenSpec.ofChange fnExactCodesToWrong)

/-- 'laws.FnExactWoven': WHATEVER THE INPUT: true; the input reads as it did. -/
def fnExactWovenSpec : ChangeSpec := { name := "fnExactWoven", fn := fun _ => fun
  | [d1, d2, d3] => { results := [.lit (.bool true)], args := [d1, d2, d3] }
  | _ => none }
def fnExactWovenRow : OpenClaim := { program := "ytklghegofjigoaa", sum := "b23a18ba7aa94eb48c1a4b6187429e0e7f94773e9cba955d2ff2aaa71f6e4b2b", func := "loop.example/g00969/laws.FnExactWoven", spec := "fnExactWoven", apart := false }
def FnExactWovenSaid : Prop := fnExactWovenRow.holds Try.pinned (OpenSpec.ofChange fnExactWovenSpec)

/-- ITS FALSE NEIGHBOUR: 'it returns false'. Refute it at one input. -/
def fnExactWovenWrong : ChangeSpec := { name := "fnExactWoven", fn := fun _ => fun
  | [d1, d2, d3] => { results := [.lit (.bool false)], args := [d1, d2, d3] }
  | _ => none }
def FnExactWovenWrongFalsely : Prop := fnExactWovenRow.holds Try.pinned (OpenSpec.ofChange fnExactWovenWrong)

/-- 'laws.FnExactReadAddress': WHATEVER THE INPUT: true; the input reads as it did. -/
def fnExactReadAddressSpec : ChangeSpec := { name := "fnExactReadAddress", fn := fun _ => fun
  | [d] => { results := [.lit (.bool true)], args := [d] }
  | _ => none }
def fnExactReadAddressRow : OpenClaim := { program := "ytklghegofjigoaa", sum := "b23a18ba7aa94eb48c1a4b6187429e0e7f94773e9cba955d2ff2aaa71f6e4b2b", func := "loop.example/g00969/laws.FnExactReadAddress", spec := "fnExactReadAddress", inPlace := ["internal/abi.NoEscape", "internal/bytealg.MakeNoZero"], apart := false }
def FnExactReadAddressSaid : Prop := fnExactReadAddressRow.holds Try.pinned (OpenSpec.ofChange fnExactReadAddressSpec)

/-- ITS FALSE NEIGHBOUR: 'it returns false'. Refute it at one input. -/
def fnExactReadAddressWrong : ChangeSpec := { name := "fnExactReadAddress", fn := fun _ => fun
  | [d] => { results := [.lit (.bool false)], args := [d] }
  | _ => none }
def FnExactReadAddressWrongFalsely : Prop := fnExactReadAddressRow.holds Try.pinned (OpenSpec.ofChange fnExactReadAddressWrong)

/-- 'laws.FnExactToldTo': WHATEVER THE INPUT: true; the input reads as it did. -/
def fnExactToldToSpec : ChangeSpec := { name := "fnExactToldTo", fn := fun _ => fun
  | [d1, d2] => { results := [.lit (.bool true)], args := [d1, d2] }
  | _ => none }
def fnExactToldToRow : OpenClaim := { program := "ytklghegofjigoaa", sum := "b23a18ba7aa94eb48c1a4b6187429e0e7f94773e9cba955d2ff2aaa71f6e4b2b", func := "loop.example/g00969/laws.FnExactToldTo", spec := "fnExactToldTo", apart := false }
def FnExactToldToSaid : Prop := fnExactToldToRow.holds Try.pinned (OpenSpec.ofChange fnExactToldToSpec)

/-- ITS FALSE NEIGHBOUR: 'it returns false'. Refute it at one input. -/
def fnExactToldToWrong : ChangeSpec := { name := "fnExactToldTo", fn := fun _ => fun
  | [d1, d2] => { results := [.lit (.bool false)], args := [d1, d2] }
  | _ => none }
def FnExactToldToWrongFalsely : Prop := fnExactToldToRow.holds Try.pinned (OpenSpec.ofChange fnExactToldToWrong)

/-- 'laws.FnExactJournalText': WHATEVER THE INPUT: true; the input reads as it did. -/
def fnExactJournalTextSpec : ChangeSpec := { name := "fnExactJournalText", fn := fun _ => fun
  | [d] => { results := [.lit (.bool true)], args := [d] }
  | _ => none }
def fnExactJournalTextRow : OpenClaim := { program := "ytklghegofjigoaa", sum := "b23a18ba7aa94eb48c1a4b6187429e0e7f94773e9cba955d2ff2aaa71f6e4b2b", func := "loop.example/g00969/laws.FnExactJournalText", spec := "fnExactJournalText", inPlace := ["internal/abi.NoEscape", "internal/bytealg.MakeNoZero"], apart := false }
def FnExactJournalTextSaid : Prop := fnExactJournalTextRow.holds Try.pinned (OpenSpec.ofChange fnExactJournalTextSpec)

/-- ITS FALSE NEIGHBOUR: 'it returns false'. Refute it at one input. -/
def fnExactJournalTextWrong : ChangeSpec := { name := "fnExactJournalText", fn := fun _ => fun
  | [d] => { results := [.lit (.bool false)], args := [d] }
  | _ => none }
def FnExactJournalTextWrongFalsely : Prop := fnExactJournalTextRow.holds Try.pinned (OpenSpec.ofChange fnExactJournalTextWrong)

/-- 'laws.FnExactCommitStep': WHATEVER THE INPUT: true; the input reads as it did. -/
def fnExactCommitStepSpec : ChangeSpec := { name := "fnExactCommitStep", fn := fun _ => fun
  | [d1, d2, d3] => { results := [.lit (.bool true)], args := [d1, d2, d3] }
  | _ => none }
def fnExactCommitStepRow : OpenClaim := { program := "ytklghegofjigoaa", sum := "b23a18ba7aa94eb48c1a4b6187429e0e7f94773e9cba955d2ff2aaa71f6e4b2b", func := "loop.example/g00969/laws.FnExactCommitStep", spec := "fnExactCommitStep", inPlace := ["internal/abi.NoEscape", "internal/bytealg.MakeNoZero"], apart := false }
def FnExactCommitStepSaid : Prop := fnExactCommitStepRow.holds Try.pinned (OpenSpec.ofChange fnExactCommitStepSpec)

/-- ITS FALSE NEIGHBOUR: 'it returns false'. Refute it at one input. -/
def fnExactCommitStepWrong : ChangeSpec := { name := "fnExactCommitStep", fn := fun _ => fun
  | [d1, d2, d3] => { results := [.lit (.bool false)], args := [d1, d2, d3] }
  | _ => none }
def FnExactCommitStepWrongFalsely : Prop := fnExactCommitStepRow.holds Try.pinned (OpenSpec.ofChange fnExactCommitStepWrong)

/- THE SECOND FORM. 'bulk': how many values and letters a reading holds, each counted each time it is reached (what is shared counts as often as it is met; a slice's spare places count too). A statement '..UptoSaid' is the law's where the arguments, and the package variables that the reading takes, are together of bulk at most 1048576: NARROWER than '..Said'. Prove '..Said' where nothing that the law and all that it calls make is longer than what came in: it says more and counts as full. Else prove '..UptoSaid'. A law counts once. -/
mutual
def uptoBulk {H : Type} : DataW H → Nat
  | .lit (.string bytes) => bytes.length + 1
  | .lit _ => 1
  | .nil => 1
  | .ptr d => uptoBulk d + 1
  | .slice elems spare => uptoBulkAll elems + uptoBulkAll spare + 1
  | .agg parts => uptoBulkAll parts + 1
  | .iface _ d => uptoBulk d + 1
  | .map entries => uptoBulkEntries entries + 1
  | .held _ => 1
def uptoBulkAll {H : Type} : List (DataW H) → Nat
  | [] => 0
  | d :: r => uptoBulk d + uptoBulkAll r
def uptoBulkEntries {H : Type} : List (Lit × DataW H) → Nat
  | [] => 0
  | x :: r => uptoBulkEntry x + uptoBulkEntries r
def uptoBulkEntry {H : Type} : Lit × DataW H → Nat
  | (.string bytes, d) => bytes.length + uptoBulk d + 1
  | (_, d) => uptoBulk d + 1
 end
def uptoSmall : (H : Type) → List (DataW H) → Bool := fun _ ds => decide (uptoBulkAll ds ≤ 1048576)
def OpenSpec.upto (s : _root_.Go.ChangeSpec) : _root_.Go.OpenSpec := { _root_.Go.OpenSpec.ofChange s with cond := some uptoSmall }

/-- 'laws.FnWoven', WHERE WHAT IT READS IS OF BULK AT MOST 1048576: true; the input reads as it did. -/
def fnWovenUptoRow : OpenClaim := { program := "ytklghegofjigoaa", sum := "b23a18ba7aa94eb48c1a4b6187429e0e7f94773e9cba955d2ff2aaa71f6e4b2b", func := "loop.example/g00969/laws.FnWoven", spec := "fnWoven", apart := false, narrowed := true }
def FnWovenUptoSaid : Prop := fnWovenUptoRow.holds Try.pinned (OpenSpec.upto fnWovenSpec)

/-- 'laws.FnExactMaskRec', WHERE WHAT IT READS IS OF BULK AT MOST 1048576: true; the input reads as it did. -/
def fnExactMaskRecUptoRow : OpenClaim := { program := "ytklghegofjigoaa", sum := "b23a18ba7aa94eb48c1a4b6187429e0e7f94773e9cba955d2ff2aaa71f6e4b2b", func := "loop.example/g00969/laws.FnExactMaskRec", spec := "fnExactMaskRec", inPlace := ["internal/abi.NoEscape", "internal/bytealg.MakeNoZero"], apart := false, narrowed := true }
def FnExactMaskRecUptoSaid : Prop := fnExactMaskRecUptoRow.holds Try.pinned (OpenSpec.upto fnExactMaskRecSpec)

/-- 'laws.FnExactOnlyOf', WHERE WHAT IT READS IS OF BULK AT MOST 1048576: true; the input reads as it did. -/
def fnExactOnlyOfUptoRow : OpenClaim := { program := "ytklghegofjigoaa", sum := "b23a18ba7aa94eb48c1a4b6187429e0e7f94773e9cba955d2ff2aaa71f6e4b2b", func := "loop.example/g00969/laws.FnExactOnlyOf", spec := "fnExactOnlyOf", apart := false, narrowed := true }
def FnExactOnlyOfUptoSaid : Prop := fnExactOnlyOfUptoRow.holds Try.pinned (OpenSpec.upto fnExactOnlyOfSpec)

/-- 'laws.FnExactAddressWord', WHERE WHAT IT READS IS OF BULK AT MOST 1048576: true; the input reads as it did. -/
def fnExactAddressWordUptoRow : OpenClaim := { program := "ytklghegofjigoaa", sum := "b23a18ba7aa94eb48c1a4b6187429e0e7f94773e9cba955d2ff2aaa71f6e4b2b", func := "loop.example/g00969/laws.FnExactAddressWord", spec := "fnExactAddressWord", inPlace := ["internal/abi.NoEscape", "internal/bytealg.MakeNoZero"], apart := false, narrowed := true }
def FnExactAddressWordUptoSaid : Prop := fnExactAddressWordUptoRow.holds Try.pinned (OpenSpec.upto fnExactAddressWordSpec)

/-- 'laws.FnExactFallenMemory', WHERE WHAT IT READS IS OF BULK AT MOST 1048576: true; the input reads as it did. -/
def fnExactFallenMemoryUptoRow : OpenClaim := { program := "ytklghegofjigoaa", sum := "b23a18ba7aa94eb48c1a4b6187429e0e7f94773e9cba955d2ff2aaa71f6e4b2b", func := "loop.example/g00969/laws.FnExactFallenMemory", spec := "fnExactFallenMemory", unfollowed := true, recurses := true, apart := false, narrowed := true }
def FnExactFallenMemoryUptoSaid : Prop := fnExactFallenMemoryUptoRow.holds Try.pinned (OpenSpec.upto fnExactFallenMemorySpec)

/-- 'laws.FnExactCodesTo', WHERE WHAT IT READS IS OF BULK AT MOST 1048576: true; the input reads as it did. -/
def fnExactCodesToUptoRow : OpenClaim := { program := "ytklghegofjigoaa", sum := "b23a18ba7aa94eb48c1a4b6187429e0e7f94773e9cba955d2ff2aaa71f6e4b2b", func := "loop.example/g00969/laws.FnExactCodesTo", spec := "fnExactCodesTo", apart := false, narrowed := true }
def FnExactCodesToUptoSaid : Prop := fnExactCodesToUptoRow.holds Try.pinned (OpenSpec.upto fnExactCodesToSpec)

/-- 'laws.FnExactWoven', WHERE WHAT IT READS IS OF BULK AT MOST 1048576: true; the input reads as it did. -/
def fnExactWovenUptoRow : OpenClaim := { program := "ytklghegofjigoaa", sum := "b23a18ba7aa94eb48c1a4b6187429e0e7f94773e9cba955d2ff2aaa71f6e4b2b", func := "loop.example/g00969/laws.FnExactWoven", spec := "fnExactWoven", apart := false, narrowed := true }
def FnExactWovenUptoSaid : Prop := fnExactWovenUptoRow.holds Try.pinned (OpenSpec.upto fnExactWovenSpec)

/-- 'laws.FnExactReadAddress', WHERE WHAT IT READS IS OF BULK AT MOST 1048576: true; the input reads as it did. -/
def fnExactReadAddressUptoRow : OpenClaim := { program := "ytklghegofjigoaa", sum := "b23a18ba7aa94eb48c1a4b6187429e0e7f94773e9cba955d2ff2aaa71f6e4b2b", func := "loop.example/g00969/laws.FnExactReadAddress", spec := "fnExactReadAddress", inPlace := ["internal/abi.NoEscape", "internal/bytealg.MakeNoZero"], apart := false, narrowed := true }
def FnExactReadAddressUptoSaid : Prop := fnExactReadAddressUptoRow.holds Try.pinned (OpenSpec.upto fnExactReadAddressSpec)

/-- 'laws.FnExactToldTo', WHERE WHAT IT READS IS OF BULK AT MOST 1048576: true; the input reads as it did. -/
def fnExactToldToUptoRow : OpenClaim := { program := "ytklghegofjigoaa", sum := "b23a18ba7aa94eb48c1a4b6187429e0e7f94773e9cba955d2ff2aaa71f6e4b2b", func := "loop.example/g00969/laws.FnExactToldTo", spec := "fnExactToldTo", apart := false, narrowed := true }
def FnExactToldToUptoSaid : Prop := fnExactToldToUptoRow.holds Try.pinned (OpenSpec.upto fnExactToldToSpec)

/-- 'laws.FnExactJournalText', WHERE WHAT IT READS IS OF BULK AT MOST 1048576: true; the input reads as it did. -/
def fnExactJournalTextUptoRow : OpenClaim := { program := "ytklghegofjigoaa", sum := "b23a18ba7aa94eb48c1a4b6187429e0e7f94773e9cba955d2ff2aaa71f6e4b2b", func := "loop.example/g00969/laws.FnExactJournalText", spec := "fnExactJournalText", inPlace := ["internal/abi.NoEscape", "internal/bytealg.MakeNoZero"], apart := false, narrowed := true }
def FnExactJournalTextUptoSaid : Prop := fnExactJournalTextUptoRow.holds Try.pinned (OpenSpec.upto fnExactJournalTextSpec)

/-- 'laws.FnExactCommitStep', WHERE WHAT IT READS IS OF BULK AT MOST 1048576: true; the input reads as it did. -/
def fnExactCommitStepUptoRow : OpenClaim := { program := "ytklghegofjigoaa", sum := "b23a18ba7aa94eb48c1a4b6187429e0e7f94773e9cba955d2ff2aaa71f6e4b2b", func := "loop.example/g00969/laws.FnExactCommitStep", spec := "fnExactCommitStep", inPlace := ["internal/abi.NoEscape", "internal/bytealg.MakeNoZero"], apart := false, narrowed := true }
def FnExactCommitStepUptoSaid : Prop := fnExactCommitStepUptoRow.holds Try.pinned (OpenSpec.upto fnExactCommitStepSpec)

end Rows
end Go.Proofs.Ytklghegofjigoaa
