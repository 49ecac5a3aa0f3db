/-
  FnQuota, for every input: the law returns true and its arguments read afterwards as before. No condition.
-/
import Derived.Test.YtciieaidbiejmaaRows
import Derived.Test.YtciieaidbiejmaaFOpen
import Derived.Test.YtciieaidbiejmaaFWo
import Derived.Test.YtciieaidbiejmaaFQ8
import Derived.WalkKit
import Derived.ProofKit
import Derived.OpenShut
import Derived.ShutString
import Derived.ChangeOld
import Derived.Below
import Derived.SizedLaws
import Derived.Carry
namespace Go.Proofs.Ytciieaidbiejmaa.fnQuota
open Go.ChangeShapes Go.WideShapes Go.ChangeAt Go.RowKit
open Go.Proofs.Ytciieaidbiejmaa.DM
set_option linter.unusedVariables false
set_option linter.unusedSimpArgs false
theorem own : ownKnob Try.prog.godebug = none := by kernel_rfl
theorem laidOut : laidOutB Try.prog = true := by kernel_rfl
set_option maxRecDepth 100000 in
theorem lifted (os : Os) (started : os.Started) (H : Type) (enc : TypeId × Value → H) :
    ReturnsInHanded {} Try.checked os 3 .any (Rows.fnQuotaSpec.pre6 enc Try.prog Try.f3 Rows.fnQuotaRow.domain false) (Rows.fnQuotaSpec.post enc Try.prog Try.f3 false true false false) := by
  refine returnsInHanded_of_change_sized (C := Try.checked) own started (by kernel_rfl) Try.func3
    (ChangeSpec.witness6 (enc := enc) (C := Try.checked) false ⟨#[], #[.slice none 0 0], []⟩ 8 (by kernel_rfl) (by kernel_rfl) (by kernel_rfl) (by kernel_rfl)) ?_
  intro W base args ds gs before hval0 hW hcnd hsz0 _
  have hsz : (DataW.weightsEach Try.prog (Try.f3.params.toList ++ Rows.fnQuotaSpec.plain.varTypes Try.prog) (ds ++ gs)).all (· ≤ reachBytes) = true := hsz0
  have hval : ∀ (j : Nat) t v, Try.f3.params[j]? = some t → args[j]? = some v → Value.okWide Try.prog W .any base t v := hval0
  have hW' := hW
  obtain ⟨p, q, hA0, hV, rfl, hfz, hnd⟩ := hW
  have hA : DataW.TrodAll enc Try.prog W 0 (fun _ => true) true Try.f3.params.toList args.toList ds p := hA0
  rw [Try.params3] at hA hval hsz
  obtain ⟨v0, vs0, d0, ds0, p0, q0, hargs, rfl, rfl, h0, r0⟩ := trodAll_cons hA
  obtain ⟨rfl, rfl, rfl⟩ := trodAll_nil r0
  obtain rfl : args = #[v0] := by cases args; simp_all
  obtain ⟨rfl, rfl⟩ := trodVars_none hV
  have lt0 : ∀ x ∈ p0, x.block < W.heap.size := by obtain ⟨m, hm⟩ := h0; exact DataW.trod_lt m _ _ _ hm
  obtain ⟨A0, len0, cap0, rfl⟩ := okWide_slice Try.underlying22 (hval 0 22 v0 rfl rfl)
  obtain ⟨x0, K0, w0⟩ := opens_arg (opens_slice (B := 1) Try.underlying22 (by kernel_rfl) (by kernel_rfl) (by decide) (opens_u8 Try.underlying5)) hsz (j := 0) rfl rfl h0
  have hS := FnQuota_spec x0 (by have := w0.1; omega)
  refine (hS.law W (vals := [.slice A0 len0 cap0]) rfl (fun i pa hp => ?_) (fun i pa v hp hv => ?_)).mono ?_
  · rcases i with _ | i
    · simp at hp; subst hp; exact ⟨rfl, fun k => by simp [argG, PC.gh]; try (split <;> first | rfl | (rename_i h; rcases k with _ | _ | _ | _ | _ | _ | _ | _ | _ | _ | _ | _ | _ | _ | _ | _ | _ | _ | _ | _ | k <;> simp at h <;> subst h <;> rfl))⟩
    simp at hp
  · rcases i with _ | i
    · simp at hp hv; subst hp; subst hv; exact arg_one (by simp [Value.cells]) K0
    simp at hp
  · intro e W' he
    obtain ⟨he, g1, g2, g3, g4, g5⟩ := he
    have bel : Below W.heap.size W W' := ⟨g3, g5, g4, g2, g1⟩
    subst he
    exact ⟨_, rfl, _, _, _, [], _, [], hW', trodAll_mk1 (shut_bool Try.underlying4 _), (trodAll_cons_mk (Below.trod laidOut (by kernel_rfl) (of_decide_eq_true (by kernel_rfl)) h0 bel lt0) trodAll_mk0), rfl, bel.frame _, fun h => by cases h⟩
theorem over : Rows.fnQuotaRow.holds Try.pinned (OpenSpec.ofChange Rows.fnQuotaSpec) :=
  OpenClaim.holds_of_wide 3 Try.f3 rfl rfl rfl rfl rfl rfl rfl ⟨rfl, rfl, rfl, rfl, rfl⟩ rfl rfl rfl rfl rfl (by kernel_rfl) Try.func3 (by kernel_rfl)
    (of_decide_eq_true (by kernel_rfl)) (by unfold Func.isWrapper; first | (rw [if_pos (by decide +kernel)]; kernel_rfl) | (rw [if_neg (by decide +kernel)]; exact ⟨rfl, rfl⟩))
    (fun os started H enc _ => lifted os started H enc)
theorem proved : Rows.FnQuotaSaid := over
end Go.Proofs.Ytciieaidbiejmaa.fnQuota
namespace Go.Proofs.Ytciieaidbiejmaa
/-- The row, under a short name, for the claim. -/
theorem fnQuota_holds : Rows.FnQuotaSaid := fnQuota.proved
end Go.Proofs.Ytciieaidbiejmaa
#print axioms Go.Proofs.Ytciieaidbiejmaa.fnQuota_holds
