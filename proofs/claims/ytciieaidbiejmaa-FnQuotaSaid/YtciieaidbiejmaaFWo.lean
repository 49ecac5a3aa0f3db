/-
  How a row of bytes, an argument of a law, stands as a row that is only read.
-/
import Derived.Test.YtciieaidbiejmaaFOpen
import Derived.Test.YtciieaidbiejmaaFW1
namespace Go.Proofs.Ytciieaidbiejmaa.DM
set_option linter.unusedVariables false
set_option linter.unusedSimpArgs false
theorem opens_u8 {P : Program} {t : TypeId} (ht : P.underlying t = some (.int .u8)) : Opens P t (Row.r (α := UInt8)) (Row.ok 281474976710656) := by
  intro H enc w base spare held fuel cs x h _
  obtain ⟨n, rfl, -, hw⟩ := DataW.trod_int ht h
  simp [Lit.wf, IntKind.min, IntKind.max, IntKind.bits, IntKind.signed] at hw
  refine ⟨UInt8.ofNat n.toNat, ?_, trivial⟩
  have e : ((UInt8.ofNat n.toNat).toNat : Int) = n := by simp [UInt8.toNat_ofNat']; omega
  show RoL w _ [.sc (.int .u8 _)]
  rw [e]
  exact .one (.sc _ rfl)
end Go.Proofs.Ytciieaidbiejmaa.DM
