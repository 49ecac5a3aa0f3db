/-
  No cell of these rows narrows 'for every input' (looked for: loops, veiled, ifaces, maps, wideKeys, modest, calm, conditions, laid).
  DERIVED. THE GIVEN ROWS OF THIS SEAT. 12 by the template 'for every input the law returns true; each argument reads behind the call as it read before'; 0 by the template 'total and deterministic' (their statements: YtakelegiamdmaaaTotals.lean).
  GIVEN WITH THE SEED: the statements are not yours to turn. If you find one false, say at which input.
  Laid BY PROGRAM, IN A SANDBOX (cutbox-rows.mjs): the forced cells as the released guide's own fill.sh prints them over the translation 93e2e2a9477e9bd4… (all of the seat's roots in one cut). By AI agents, Wed Nov 11 2026. No macro, syntax, notation, axiom, sorry.
-/
import Derived.Test.YtakelegiamdmaaaChecked
import GoSem.Claim
import GoSem.ClaimJoined
import GoSem.ClaimMapViews
import Derived.JoinedTies
import Derived.KernelRfl
namespace Go.Proofs.Ytakelegiamdmaaa
/- THE CELL 'sum', in the pinned program and in every row, IS THE sha256 OF THE DUMP (.gsa) THAT YtakelegiamdmaaaProg.lean LOADS. Nothing in Lean hashes anything: it is a label: what it is worth is what the hold of that sum in a sandbox is worth. -/
noncomputable def Try.pinned : Pinned := { name := "ytakelegiamdmaaa", sum := "93e2e2a9477e9bd4c90782b7bea33d6086845e5a69dbd25c3e615ff54dd88019", checked := Try.checked }
namespace Rows
def none {H : Type} : Left H := { results := [], args := [] }

/-- 'laws.FnExactSameShape': WHATEVER THE INPUT: true; the input reads as it did. -/
def fnExactSameShapeSpec : ChangeSpec := { name := "fnExactSameShape", fn := fun _ => fun
  | [d1, d2] => { results := [.lit (.bool true)], args := [d1, d2] }
  | _ => none }
def fnExactSameShapeRow : OpenClaim := { program := "ytakelegiamdmaaa", sum := "93e2e2a9477e9bd4c90782b7bea33d6086845e5a69dbd25c3e615ff54dd88019", func := "loop.example/g00969/laws.FnExactSameShape", spec := "fnExactSameShape", apart := false }
def FnExactSameShapeSaid : Prop := fnExactSameShapeRow.holds Try.pinned (OpenSpec.ofChange fnExactSameShapeSpec)

/-- ITS FALSE NEIGHBOUR: 'it returns false'. Refute it at one input. -/
def fnExactSameShapeWrong : ChangeSpec := { name := "fnExactSameShape", fn := fun _ => fun
  | [d1, d2] => { results := [.lit (.bool false)], args := [d1, d2] }
  | _ => none }
def FnExactSameShapeWrongFalsely : Prop := fnExactSameShapeRow.holds Try.pinned (OpenSpec.ofChange fnExactSameShapeWrong)

/-- 'laws.FnExactActOk': WHATEVER THE INPUT: true; the input reads as it did. -/
def fnExactActOkSpec : ChangeSpec := { name := "fnExactActOk", fn := fun _ => fun
  | [d] => { results := [.lit (.bool true)], args := [d] }
  | _ => none }
def fnExactActOkRow : OpenClaim := { program := "ytakelegiamdmaaa", sum := "93e2e2a9477e9bd4c90782b7bea33d6086845e5a69dbd25c3e615ff54dd88019", func := "loop.example/g00969/laws.FnExactActOk", spec := "fnExactActOk", apart := false }
def FnExactActOkSaid : Prop := fnExactActOkRow.holds Try.pinned (OpenSpec.ofChange fnExactActOkSpec)

/-- ITS FALSE NEIGHBOUR: 'it returns false'. Refute it at one input. -/
def fnExactActOkWrong : ChangeSpec := { name := "fnExactActOk", fn := fun _ => fun
  | [d] => { results := [.lit (.bool false)], args := [d] }
  | _ => none }
def FnExactActOkWrongFalsely : Prop := fnExactActOkRow.holds Try.pinned (OpenSpec.ofChange fnExactActOkWrong)

/-- 'laws.FnExactFencesIn': WHATEVER THE INPUT: true; the input reads as it did. -/
def fnExactFencesInSpec : ChangeSpec := { name := "fnExactFencesIn", fn := fun _ => fun
  | [d] => { results := [.lit (.bool true)], args := [d] }
  | _ => none }
def fnExactFencesInRow : OpenClaim := { program := "ytakelegiamdmaaa", sum := "93e2e2a9477e9bd4c90782b7bea33d6086845e5a69dbd25c3e615ff54dd88019", func := "loop.example/g00969/laws.FnExactFencesIn", spec := "fnExactFencesIn", apart := false }
def FnExactFencesInSaid : Prop := fnExactFencesInRow.holds Try.pinned (OpenSpec.ofChange fnExactFencesInSpec)

/-- ITS FALSE NEIGHBOUR: 'it returns false'. Refute it at one input. -/
def fnExactFencesInWrong : ChangeSpec := { name := "fnExactFencesIn", fn := fun _ => fun
  | [d] => { results := [.lit (.bool false)], args := [d] }
  | _ => none }
def FnExactFencesInWrongFalsely : Prop := fnExactFencesInRow.holds Try.pinned (OpenSpec.ofChange fnExactFencesInWrong)

/-- 'laws.FnExactSameResult': WHATEVER THE INPUT: true; the input reads as it did. -/
def fnExactSameResultSpec : ChangeSpec := { name := "fnExactSameResult", fn := fun _ => fun
  | [d1, d2] => { results := [.lit (.bool true)], args := [d1, d2] }
  | _ => none }
def fnExactSameResultRow : OpenClaim := { program := "ytakelegiamdmaaa", sum := "93e2e2a9477e9bd4c90782b7bea33d6086845e5a69dbd25c3e615ff54dd88019", func := "loop.example/g00969/laws.FnExactSameResult", spec := "fnExactSameResult", apart := false }
def FnExactSameResultSaid : Prop := fnExactSameResultRow.holds Try.pinned (OpenSpec.ofChange fnExactSameResultSpec)

/-- ITS FALSE NEIGHBOUR: 'it returns false'. Refute it at one input. -/
def fnExactSameResultWrong : ChangeSpec := { name := "fnExactSameResult", fn := fun _ => fun
  | [d1, d2] => { results := [.lit (.bool false)], args := [d1, d2] }
  | _ => none }
def FnExactSameResultWrongFalsely : Prop := fnExactSameResultRow.holds Try.pinned (OpenSpec.ofChange fnExactSameResultWrong)

/-- 'laws.FnExactSameMemory': WHATEVER THE INPUT: true; the input reads as it did. -/
def fnExactSameMemorySpec : ChangeSpec := { name := "fnExactSameMemory", fn := fun _ => fun
  | [d1, d2] => { results := [.lit (.bool true)], args := [d1, d2] }
  | _ => none }
def fnExactSameMemoryRow : OpenClaim := { program := "ytakelegiamdmaaa", sum := "93e2e2a9477e9bd4c90782b7bea33d6086845e5a69dbd25c3e615ff54dd88019", func := "loop.example/g00969/laws.FnExactSameMemory", spec := "fnExactSameMemory", apart := false }
def FnExactSameMemorySaid : Prop := fnExactSameMemoryRow.holds Try.pinned (OpenSpec.ofChange fnExactSameMemorySpec)

/-- ITS FALSE NEIGHBOUR: 'it returns false'. Refute it at one input. -/
def fnExactSameMemoryWrong : ChangeSpec := { name := "fnExactSameMemory", fn := fun _ => fun
  | [d1, d2] => { results := [.lit (.bool false)], args := [d1, d2] }
  | _ => none }
def FnExactSameMemoryWrongFalsely : Prop := fnExactSameMemoryRow.holds Try.pinned (OpenSpec.ofChange fnExactSameMemoryWrong)

/-- 'laws.FnExactFreeItems': WHATEVER THE INPUT: true; the input reads as it did. -/
def fnExactFreeItemsSpec : ChangeSpec := { name := "fnExactFreeItems", fn := fun _ => fun
  | [d1, d2] => { results := [.lit (.bool true)], args := [d1, d2] }
  | _ => none }
def fnExactFreeItemsRow : OpenClaim := { program := "ytakelegiamdmaaa", sum := "93e2e2a9477e9bd4c90782b7bea33d6086845e5a69dbd25c3e615ff54dd88019", func := "loop.example/g00969/laws.FnExactFreeItems", spec := "fnExactFreeItems", apart := false }
def FnExactFreeItemsSaid : Prop := fnExactFreeItemsRow.holds Try.pinned (OpenSpec.ofChange fnExactFreeItemsSpec)

/-- ITS FALSE NEIGHBOUR: 'it returns false'. Refute it at one input. -/
def fnExactFreeItemsWrong : ChangeSpec := { name := "fnExactFreeItems", fn := fun _ => fun
  | [d1, d2] => { results := [.lit (.bool false)], args := [d1, d2] }
  | _ => none }
def FnExactFreeItemsWrongFalsely : Prop := fnExactFreeItemsRow.holds Try.pinned (OpenSpec.ofChange fnExactFreeItemsWrong)

/-- 'laws.FnExactAsksIn': WHATEVER THE INPUT: true; the input reads as it did. -/
def fnExactAsksInSpec : ChangeSpec := { name := "fnExactAsksIn", fn := fun _ => fun
  | [d] => { results := [.lit (.bool true)], args := [d] }
  | _ => none }
def fnExactAsksInRow : OpenClaim := { program := "ytakelegiamdmaaa", sum := "93e2e2a9477e9bd4c90782b7bea33d6086845e5a69dbd25c3e615ff54dd88019", func := "loop.example/g00969/laws.FnExactAsksIn", spec := "fnExactAsksIn", apart := false }
def FnExactAsksInSaid : Prop := fnExactAsksInRow.holds Try.pinned (OpenSpec.ofChange fnExactAsksInSpec)

/-- ITS FALSE NEIGHBOUR: 'it returns false'. Refute it at one input. -/
def fnExactAsksInWrong : ChangeSpec := { name := "fnExactAsksIn", fn := fun _ => fun
  | [d] => { results := [.lit (.bool false)], args := [d] }
  | _ => none }
def FnExactAsksInWrongFalsely : Prop := fnExactAsksInRow.holds Try.pinned (OpenSpec.ofChange fnExactAsksInWrong)

/-- 'laws.FnExactStoresIn': WHATEVER THE INPUT: true; the input reads as it did. -/
def fnExactStoresInSpec : ChangeSpec := { name := "fnExactStoresIn", fn := fun _ => fun
  | [d] => { results := [.lit (.bool true)], args := [d] }
  | _ => none }
def fnExactStoresInRow : OpenClaim := { program := "ytakelegiamdmaaa", sum := "93e2e2a9477e9bd4c90782b7bea33d6086845e5a69dbd25c3e615ff54dd88019", func := "loop.example/g00969/laws.FnExactStoresIn", spec := "fnExactStoresIn", apart := false }
def FnExactStoresInSaid : Prop := fnExactStoresInRow.holds Try.pinned (OpenSpec.ofChange fnExactStoresInSpec)

/-- ITS FALSE NEIGHBOUR: 'it returns false'. Refute it at one input. -/
def fnExactStoresInWrong : ChangeSpec := { name := "fnExactStoresIn", fn := fun _ => fun
  | [d] => { results := [.lit (.bool false)], args := [d] }
  | _ => none }
def FnExactStoresInWrongFalsely : Prop := fnExactStoresInRow.holds Try.pinned (OpenSpec.ofChange fnExactStoresInWrong)

/-- 'laws.FnExactDoneIn': WHATEVER THE INPUT: true; the input reads as it did. -/
def fnExactDoneInSpec : ChangeSpec := { name := "fnExactDoneIn", fn := fun _ => fun
  | [d] => { results := [.lit (.bool true)], args := [d] }
  | _ => none }
def fnExactDoneInRow : OpenClaim := { program := "ytakelegiamdmaaa", sum := "93e2e2a9477e9bd4c90782b7bea33d6086845e5a69dbd25c3e615ff54dd88019", func := "loop.example/g00969/laws.FnExactDoneIn", spec := "fnExactDoneIn", apart := false }
def FnExactDoneInSaid : Prop := fnExactDoneInRow.holds Try.pinned (OpenSpec.ofChange fnExactDoneInSpec)

/-- ITS FALSE NEIGHBOUR: 'it returns false'. Refute it at one input. -/
def fnExactDoneInWrong : ChangeSpec := { name := "fnExactDoneIn", fn := fun _ => fun
  | [d] => { results := [.lit (.bool false)], args := [d] }
  | _ => none }
def FnExactDoneInWrongFalsely : Prop := fnExactDoneInRow.holds Try.pinned (OpenSpec.ofChange fnExactDoneInWrong)

/-- 'laws.FnExactFreePages': WHATEVER THE INPUT: true; the input reads as it did. -/
def fnExactFreePagesSpec : ChangeSpec := { name := "fnExactFreePages", fn := fun _ => fun
  | [d1, d2] => { results := [.lit (.bool true)], args := [d1, d2] }
  | _ => none }
def fnExactFreePagesRow : OpenClaim := { program := "ytakelegiamdmaaa", sum := "93e2e2a9477e9bd4c90782b7bea33d6086845e5a69dbd25c3e615ff54dd88019", func := "loop.example/g00969/laws.FnExactFreePages", spec := "fnExactFreePages", apart := false }
def FnExactFreePagesSaid : Prop := fnExactFreePagesRow.holds Try.pinned (OpenSpec.ofChange fnExactFreePagesSpec)

/-- ITS FALSE NEIGHBOUR: 'it returns false'. Refute it at one input. -/
def fnExactFreePagesWrong : ChangeSpec := { name := "fnExactFreePages", fn := fun _ => fun
  | [d1, d2] => { results := [.lit (.bool false)], args := [d1, d2] }
  | _ => none }
def FnExactFreePagesWrongFalsely : Prop := fnExactFreePagesRow.holds Try.pinned (OpenSpec.ofChange fnExactFreePagesWrong)

/-- 'laws.FnExactSameResults': WHATEVER THE INPUT: true; the input reads as it did. -/
def fnExactSameResultsSpec : ChangeSpec := { name := "fnExactSameResults", fn := fun _ => fun
  | [d1, d2] => { results := [.lit (.bool true)], args := [d1, d2] }
  | _ => none }
def fnExactSameResultsRow : OpenClaim := { program := "ytakelegiamdmaaa", sum := "93e2e2a9477e9bd4c90782b7bea33d6086845e5a69dbd25c3e615ff54dd88019", func := "loop.example/g00969/laws.FnExactSameResults", spec := "fnExactSameResults", unfollowed := true, recurses := true, apart := false }
def FnExactSameResultsSaid : Prop := fnExactSameResultsRow.holds Try.pinned (OpenSpec.ofChange fnExactSameResultsSpec)

/-- ITS FALSE NEIGHBOUR: 'it returns false'. Refute it at one input. -/
def fnExactSameResultsWrong : ChangeSpec := { name := "fnExactSameResults", fn := fun _ => fun
  | [d1, d2] => { results := [.lit (.bool false)], args := [d1, d2] }
  | _ => none }
def FnExactSameResultsWrongFalsely : Prop := fnExactSameResultsRow.holds Try.pinned (OpenSpec.ofChange fnExactSameResultsWrong)

/-- 'laws.FnExactSameActs': WHATEVER THE INPUT: true; the input reads as it did. -/
def fnExactSameActsSpec : ChangeSpec := { name := "fnExactSameActs", fn := fun _ => fun
  | [d1, d2, d3] => { results := [.lit (.bool true)], args := [d1, d2, d3] }
  | _ => none }
def fnExactSameActsRow : OpenClaim := { program := "ytakelegiamdmaaa", sum := "93e2e2a9477e9bd4c90782b7bea33d6086845e5a69dbd25c3e615ff54dd88019", func := "loop.example/g00969/laws.FnExactSameActs", spec := "fnExactSameActs", unfollowed := true, recurses := true, apart := false }
def FnExactSameActsSaid : Prop := fnExactSameActsRow.holds Try.pinned (OpenSpec.ofChange fnExactSameActsSpec)

/-- ITS FALSE NEIGHBOUR: 'it returns false'. Refute it at one input. -/
def fnExactSameActsWrong : ChangeSpec := { name := "fnExactSameActs", fn := fun _ => fun
  | [d1, d2, d3] => { results := [.lit (.bool false)], args := [d1, d2, d3] }
  | _ => none }
def FnExactSameActsWrongFalsely : Prop := fnExactSameActsRow.holds Try.pinned (OpenSpec.ofChange fnExactSameActsWrong)

/- THE SECOND FORM. 'bulk': how many values and letters a reading holds, each counted each time it is reached (what is shared counts as often as it is met; a slice's spare places count too). A statement '..UptoSaid' is the law's where the arguments, and the package variables that the reading takes, are together of bulk at most 1048576: NARROWER than '..Said'. Prove '..Said' where nothing that the law and all that it calls make is longer than what came in: it says more and counts as full. Else prove '..UptoSaid'. A law counts once. -/
mutual
def uptoBulk {H : Type} : DataW H → Nat
  | .lit (.string bytes) => bytes.length + 1
  | .lit _ => 1
  | .nil => 1
  | .ptr d => uptoBulk d + 1
  | .slice elems spare => uptoBulkAll elems + uptoBulkAll spare + 1
  | .agg parts => uptoBulkAll parts + 1
  | .iface _ d => uptoBulk d + 1
  | .map entries => uptoBulkEntries entries + 1
  | .held _ => 1
def uptoBulkAll {H : Type} : List (DataW H) → Nat
  | [] => 0
  | d :: r => uptoBulk d + uptoBulkAll r
def uptoBulkEntries {H : Type} : List (Lit × DataW H) → Nat
  | [] => 0
  | x :: r => uptoBulkEntry x + uptoBulkEntries r
def uptoBulkEntry {H : Type} : Lit × DataW H → Nat
  | (.string bytes, d) => bytes.length + uptoBulk d + 1
  | (_, d) => uptoBulk d + 1
 end
def uptoSmall : (H : Type) → List (DataW H) → Bool := fun _ ds => decide (uptoBulkAll ds ≤ 1048576)
def OpenSpec.upto (s : _root_.Go.ChangeSpec) : _root_.Go.OpenSpec := { _root_.Go.OpenSpec.ofChange s with cond := some uptoSmall }

/-- 'laws.FnExactSameShape', WHERE WHAT IT READS IS OF BULK AT MOST 1048576: true; the input reads as it did. -/
def fnExactSameShapeUptoRow : OpenClaim := { program := "ytakelegiamdmaaa", sum := "93e2e2a9477e9bd4c90782b7bea33d6086845e5a69dbd25c3e615ff54dd88019", func := "loop.example/g00969/laws.FnExactSameShape", spec := "fnExactSameShape", apart := false, narrowed := true }
def FnExactSameShapeUptoSaid : Prop := fnExactSameShapeUptoRow.holds Try.pinned (OpenSpec.upto fnExactSameShapeSpec)

/-- 'laws.FnExactActOk', WHERE WHAT IT READS IS OF BULK AT MOST 1048576: true; the input reads as it did. -/
def fnExactActOkUptoRow : OpenClaim := { program := "ytakelegiamdmaaa", sum := "93e2e2a9477e9bd4c90782b7bea33d6086845e5a69dbd25c3e615ff54dd88019", func := "loop.example/g00969/laws.FnExactActOk", spec := "fnExactActOk", apart := false, narrowed := true }
def FnExactActOkUptoSaid : Prop := fnExactActOkUptoRow.holds Try.pinned (OpenSpec.upto fnExactActOkSpec)

/-- 'laws.FnExactFencesIn', WHERE WHAT IT READS IS OF BULK AT MOST 1048576: true; the input reads as it did. -/
def fnExactFencesInUptoRow : OpenClaim := { program := "ytakelegiamdmaaa", sum := "93e2e2a9477e9bd4c90782b7bea33d6086845e5a69dbd25c3e615ff54dd88019", func := "loop.example/g00969/laws.FnExactFencesIn", spec := "fnExactFencesIn", apart := false, narrowed := true }
def FnExactFencesInUptoSaid : Prop := fnExactFencesInUptoRow.holds Try.pinned (OpenSpec.upto fnExactFencesInSpec)

/-- 'laws.FnExactSameResult', WHERE WHAT IT READS IS OF BULK AT MOST 1048576: true; the input reads as it did. -/
def fnExactSameResultUptoRow : OpenClaim := { program := "ytakelegiamdmaaa", sum := "93e2e2a9477e9bd4c90782b7bea33d6086845e5a69dbd25c3e615ff54dd88019", func := "loop.example/g00969/laws.FnExactSameResult", spec := "fnExactSameResult", apart := false, narrowed := true }
def FnExactSameResultUptoSaid : Prop := fnExactSameResultUptoRow.holds Try.pinned (OpenSpec.upto fnExactSameResultSpec)

/-- 'laws.FnExactSameMemory', WHERE WHAT IT READS IS OF BULK AT MOST 1048576: true; the input reads as it did. -/
def fnExactSameMemoryUptoRow : OpenClaim := { program := "ytakelegiamdmaaa", sum := "93e2e2a9477e9bd4c90782b7bea33d6086845e5a69dbd25c3e615ff54dd88019", func := "loop.example/g00969/laws.FnExactSameMemory", spec := "fnExactSameMemory", apart := false, narrowed := true }
def FnExactSameMemoryUptoSaid : Prop := fnExactSameMemoryUptoRow.holds Try.pinned (OpenSpec.upto fnExactSameMemorySpec)

/-- 'laws.FnExactFreeItems', WHERE WHAT IT READS IS OF BULK AT MOST 1048576: true; the input reads as it did. -/
def fnExactFreeItemsUptoRow : OpenClaim := { program := "ytakelegiamdmaaa", sum := "93e2e2a9477e9bd4c90782b7bea33d6086845e5a69dbd25c3e615ff54dd88019", func := "loop.example/g00969/laws.FnExactFreeItems", spec := "fnExactFreeItems", apart := false, narrowed := true }
def FnExactFreeItemsUptoSaid : Prop := fnExactFreeItemsUptoRow.holds Try.pinned (OpenSpec.upto fnExactFreeItemsSpec)

/-- 'laws.FnExactAsksIn', WHERE WHAT IT READS IS OF BULK AT MOST 1048576: true; the input reads as it did. -/
def fnExactAsksInUptoRow : OpenClaim := { program := "ytakelegiamdmaaa", sum := "93e2e2a9477e9bd4c90782b7bea33d6086845e5a69dbd25c3e615ff54dd88019", func := "loop.example/g00969/laws.FnExactAsksIn", spec := "fnExactAsksIn", apart := false, narrowed := true }
def FnExactAsksInUptoSaid : Prop := fnExactAsksInUptoRow.holds Try.pinned (OpenSpec.upto fnExactAsksInSpec)

/-- 'laws.FnExactStoresIn', WHERE WHAT IT READS IS OF BULK AT MOST 1048576: true; the input reads as it did. -/
def fnExactStoresInUptoRow : OpenClaim := { program := "ytakelegiamdmaaa", sum := "93e2e2a9477e9bd4c90782b7bea33d6086845e5a69dbd25c3e615ff54dd88019", func := "loop.example/g00969/laws.FnExactStoresIn", spec := "fnExactStoresIn", apart := false, narrowed := true }
def FnExactStoresInUptoSaid : Prop := fnExactStoresInUptoRow.holds Try.pinned (OpenSpec.upto fnExactStoresInSpec)

/-- 'laws.FnExactDoneIn', WHERE WHAT IT READS IS OF BULK AT MOST 1048576: true; the input reads as it did. -/
def fnExactDoneInUptoRow : OpenClaim := { program := "ytakelegiamdmaaa", sum := "93e2e2a9477e9bd4c90782b7bea33d6086845e5a69dbd25c3e615ff54dd88019", func := "loop.example/g00969/laws.FnExactDoneIn", spec := "fnExactDoneIn", apart := false, narrowed := true }
def FnExactDoneInUptoSaid : Prop := fnExactDoneInUptoRow.holds Try.pinned (OpenSpec.upto fnExactDoneInSpec)

/-- 'laws.FnExactFreePages', WHERE WHAT IT READS IS OF BULK AT MOST 1048576: true; the input reads as it did. -/
def fnExactFreePagesUptoRow : OpenClaim := { program := "ytakelegiamdmaaa", sum := "93e2e2a9477e9bd4c90782b7bea33d6086845e5a69dbd25c3e615ff54dd88019", func := "loop.example/g00969/laws.FnExactFreePages", spec := "fnExactFreePages", apart := false, narrowed := true }
def FnExactFreePagesUptoSaid : Prop := fnExactFreePagesUptoRow.holds Try.pinned (OpenSpec.upto fnExactFreePagesSpec)

/-- 'laws.FnExactSameResults', WHERE WHAT IT READS IS OF BULK AT MOST 1048576: true; the input reads as it did. -/
def fnExactSameResultsUptoRow : OpenClaim := { program := "ytakelegiamdmaaa", sum := "93e2e2a9477e9bd4c90782b7bea33d6086845e5a69dbd25c3e615ff54dd88019", func := "loop.example/g00969/laws.FnExactSameResults", spec := "fnExactSameResults", unfollowed := true, recurses := true, apart := false, narrowed := true }
def FnExactSameResultsUptoSaid : Prop := fnExactSameResultsUptoRow.holds Try.pinned (OpenSpec.upto fnExactSameResultsSpec)

/-- 'laws.FnExactSameActs', WHERE WHAT IT READS IS OF BULK AT MOST 1048576: true; the input reads as it did. -/
def fnExactSameActsUptoRow : OpenClaim := { program := "ytakelegiamdmaaa", sum := "93e2e2a9477e9bd4c90782b7bea33d6086845e5a69dbd25c3e615ff54dd88019", func := "loop.example/g00969/laws.FnExactSameActs", spec := "fnExactSameActs", unfollowed := true, recurses := true, apart := false, narrowed := true }
def FnExactSameActsUptoSaid : Prop := fnExactSameActsUptoRow.holds Try.pinned (OpenSpec.upto fnExactSameActsSpec)

end Rows
end Go.Proofs.Ytakelegiamdmaaa
