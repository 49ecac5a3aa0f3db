/-
  FnExactWorldLines, for every input: the law returns true and its arguments read afterwards as before. No condition; the package variables that the row lists hold what it says (the card ties that to the program text).
-/
import Derived.Test.YtciieaidbiejmaaDoorRows
import Derived.Test.YtciieaidbiejmaaDoorCards
import Derived.Test.YtciieaidbiejmaaDoorTie
import Derived.LaidMore
import Derived.SevenTiedAt
import Derived.Stop.Joined
import Derived.Test.YtciieaidbiejmaaDoorRFnExactWorldLines
import Derived.WalkKit
import Derived.ProofKit
import Derived.OpenShut
import Derived.ShutString
import Derived.ChangeOld
import Derived.Below
import Derived.SizedLaws
import Derived.Carry
namespace Go.Proofs.YtciieaidbiejmaaDoor.fnExactWorldLines
open Go.ChangeShapes Go.WideShapes Go.ChangeAt Go.RowKit
open Go.Proofs.YtciieaidbiejmaaDoor.DM
set_option linter.unusedVariables false
set_option linter.unusedSimpArgs false
theorem p1 : joinedFacts Tryd.prog 6 Tryd.f6 Rows.fnExactWorldLinesSpec Rows.fnExactWorldLinesRow = true := by kernel_rfl
theorem p2 : Tryd.f6.isWrapper Tryd.prog Rows.fnExactWorldLinesRow.wrapper Rows.fnExactWorldLinesRow.mainSum := by unfold Func.isWrapper; first | (rw [if_pos (by decide +kernel)]; kernel_rfl) | (rw [if_neg (by decide +kernel)]; exact ⟨rfl, rfl⟩)
theorem p3 : Tryd.f6.isInstance Tryd.prog Rows.fnExactWorldLinesRow.origin Rows.fnExactWorldLinesRow.targs := (of_decide_eq_true (by kernel_rfl))
theorem p4 : Tryd.pinned.checked.prog.funcNamed Rows.fnExactWorldLinesRow.func = some 6 := by kernel_rfl
theorem over : Rows.fnExactWorldLinesRow.holds Tryd.pinned (OpenSpec.ofChange Rows.fnExactWorldLinesSpec) :=
  OpenClaim.holds_of_wide 6 Tryd.f6 rfl rfl rfl rfl rfl rfl rfl ⟨rfl, rfl, rfl, rfl, rfl⟩ rfl rfl rfl rfl rfl p4 Tryd.func6 p1 p3 p2
    (fun os started H enc _ => lifted os started H enc)
theorem card_holds : Rows.FnExactWorldLinesCardSaid :=
  Claim7.holds_tied_plain_at .later [] [.data, .data, .data] true (true, "60a148868634384a79bf22eb806164cf14f870f9dc7b92f74d6a6953a609ad9b") true
    over (fun _ h => by cases h) (by kernel_rfl) (fun _ h => by cases h) fnExactWorldLines_row_tie rfl ⟨rfl, rfl⟩ (by kernel_rfl) rfl
    (fun f fn hf hfn => by
      obtain rfl : f = 6 := Option.some.inj ((show Tryd.prog.funcNamed Rows.fnExactWorldLinesRow.func = some 6 by kernel_rfl).symm.trans hf) |>.symm
      obtain rfl : fn = Tryd.f6 := (Option.some.inj (Tryd.func6.symm.trans hfn)).symm
      exact ⟨by kernel_rfl, fun j t ht => by
        have ht : Tryd.f6.params[j]? = some t := ht
        rw [Tryd.params6] at ht
        have hm : t ∈ [57] := by simpa using Array.mem_of_getElem? ht
        have hall : ([57].all fun u => !Tryd.prog.wantsStandIn u) = true := by kernel_rfl
        exact (show Tryd.prog.wantsStandIn t = false by simpa using List.all_eq_true.1 hall t hm)⟩)
    (by kernel_rfl)
theorem proved : Rows.FnExactWorldLinesCardSaid := card_holds
end Go.Proofs.YtciieaidbiejmaaDoor.fnExactWorldLines
namespace Go.Proofs.YtciieaidbiejmaaDoor
/-- The row, under a short name, for the claim. -/
theorem fnExactWorldLines_holds : Rows.FnExactWorldLinesCardSaid := fnExactWorldLines.proved
end Go.Proofs.YtciieaidbiejmaaDoor
#print axioms Go.Proofs.YtciieaidbiejmaaDoor.fnExactWorldLines_holds
