/-
  FnExactRunStep, for every input: the law returns true and its arguments read afterwards as before. No condition.
-/
import Derived.Test.YtjjdjkkhhcbogaaRows
import Derived.Test.YtjjdjkkhhcbogaaFOpen
import Derived.Test.YtjjdjkkhhcbogaaLRunStep
import Derived.WalkKit
import Derived.ProofKit
import Derived.OpenShut
import Derived.ShutString
import Derived.ChangeOld
import Derived.Below
import Derived.SizedLaws
import Derived.Carry
namespace Go.Proofs.Ytjjdjkkhhcbogaa.fnExactRunStep
open Go.ChangeShapes Go.WideShapes Go.ChangeAt Go.RowKit
open Go.Proofs.Ytjjdjkkhhcbogaa.DM
set_option linter.unusedVariables false
set_option linter.unusedSimpArgs false
theorem own : ownKnob Try.prog.godebug = none := by kernel_rfl
theorem laidOut : laidOutB Try.prog = true := by kernel_rfl
set_option maxRecDepth 100000 in
theorem lifted (os : Os) (started : os.Started) (H : Type) (enc : TypeId × Value → H) :
    ReturnsInHanded {} Try.checked os 3 .any (Rows.fnExactRunStepSpec.pre6 enc Try.prog Try.f3 Rows.fnExactRunStepRow.domain false) (Rows.fnExactRunStepSpec.post enc Try.prog Try.f3 false true false false) := by
  refine returnsInHanded_of_change_sized (C := Try.checked) own started (by kernel_rfl) Try.func3
    (ChangeSpec.witness6 (enc := enc) (C := Try.checked) false ⟨#[], #[.agg #[.string ByteArray.empty, .slice none 0 0], .agg #[.int .i64 0, .int .i64 0, .string ByteArray.empty]], []⟩ 8 (by kernel_rfl) (by kernel_rfl) (by kernel_rfl) (by kernel_rfl)) ?_
  intro W base args ds gs before hval0 hW hcnd hsz0 _
  have hsz : (DataW.weightsEach Try.prog (Try.f3.params.toList ++ Rows.fnExactRunStepSpec.plain.varTypes Try.prog) (ds ++ gs)).all (· ≤ reachBytes) = true := hsz0
  have hval : ∀ (j : Nat) t v, Try.f3.params[j]? = some t → args[j]? = some v → Value.okWide Try.prog W .any base t v := hval0
  have hW' := hW
  obtain ⟨p, q, hA0, hV, rfl, hfz, hnd⟩ := hW
  have hA : DataW.TrodAll enc Try.prog W 0 (fun _ => true) true Try.f3.params.toList args.toList ds p := hA0
  rw [Try.params3] at hA hval hsz
  obtain ⟨v0, vs0, d0, ds0, p0, q0, hargs, rfl, rfl, h0, r0⟩ := trodAll_cons hA
  obtain ⟨v1, vs1, d1, ds1, p1, q1, rfl, rfl, rfl, h1, r1⟩ := trodAll_cons r0
  obtain ⟨rfl, rfl, rfl⟩ := trodAll_nil r1
  obtain rfl : args = #[v0, v1] := by cases args; simp_all
  obtain ⟨rfl, rfl⟩ := trodVars_none hV
  have lt0 : ∀ x ∈ p0, x.block < W.heap.size := by obtain ⟨m, hm⟩ := h0; exact DataW.trod_lt m _ _ _ hm
  have lt1 : ∀ x ∈ p1, x.block < W.heap.size := by obtain ⟨m, hm⟩ := h1; exact DataW.trod_lt m _ _ _ hm
  obtain ⟨cs0, rfl, -⟩ := okWide_struct Try.underlying24 (hval 0 24 v0 rfl rfl)
  obtain ⟨x0, K0, w0⟩ := opens_arg (opens_iso (r' := DM.Memory.r) (wf' := DM.Row.ok 281474976710656) (fun (p : ByteArray × (List DM.Cell)) => (⟨p.1, p.2⟩ : DM.Memory)) (fun _ => rfl) (fun p (h : p.1.size ≤ 281474976710656 ∧ okL 281474976710656 p.2) => ⟨h.1, h.2⟩) (opens_struct (z := 2) Try.underlying24 (by kernel_rfl) (at_cons (z := 1) (opens_string Try.underlying9) rfl (by kernel_rfl) (at_last (z := 1) (opens_slice (B := 32) Try.underlying22 (by kernel_rfl) (by kernel_rfl) (by decide) (opens_iso (r' := DM.Cell.r) (wf' := DM.Row.ok 281474976710656) (fun (p : Int × ByteArray × Bool) => (⟨p.1, p.2.1, p.2.2⟩ : DM.Cell)) (fun _ => rfl) (fun p (h : IntOk p.1 ∧ p.2.1.size ≤ 281474976710656 ∧ True) => ⟨h.1, h.2.1⟩) (opens_struct (z := 3) Try.underlying151 (by kernel_rfl) (at_cons (z := 1) (opens_int Try.underlying3) rfl (by kernel_rfl) (at_cons (z := 1) (opens_string Try.underlying9) rfl (by kernel_rfl) (at_last (z := 1) (opens_bool Try.underlying4) rfl (by kernel_rfl))))))) rfl (by kernel_rfl))))) hsz (j := 0) rfl rfl h0
  obtain ⟨cs1, rfl, -⟩ := okWide_struct Try.underlying26 (hval 1 26 v1 rfl rfl)
  obtain ⟨x1, K1, w1⟩ := opens_arg (opens_iso (r' := DM.Step.r) (wf' := DM.Row.ok 281474976710656) (fun (p : Int × Int × ByteArray) => (⟨p.1, p.2.1, p.2.2⟩ : DM.Step)) (fun _ => rfl) (fun p (h : IntOk p.1 ∧ IntOk p.2.1 ∧ p.2.2.size ≤ 281474976710656) => ⟨h.1, h.2.1, h.2.2⟩) (opens_struct (z := 3) Try.underlying26 (by kernel_rfl) (at_cons (z := 1) (opens_int Try.underlying3) rfl (by kernel_rfl) (at_cons (z := 1) (opens_int Try.underlying3) rfl (by kernel_rfl) (at_last (z := 1) (opens_string Try.underlying9) rfl (by kernel_rfl)))))) hsz (j := 1) rfl rfl h1
  have hS := FnExactRunStep_spec x0 x1 w0 w1
  refine (hS.law W (vals := [.agg cs0, .agg cs1]) rfl (fun i pa hp => ?_) (fun i pa v hp hv => ?_)).mono ?_
  · rcases i with _ | i
    · simp at hp; subst hp; exact ⟨rfl, fun k => by simp [argG, PC.gh]; try (split <;> first | rfl | (rename_i h; rcases k with _ | _ | _ | _ | _ | _ | _ | _ | _ | _ | _ | _ | _ | _ | _ | _ | _ | _ | _ | _ | k <;> simp at h <;> subst h <;> rfl))⟩
    rcases i with _ | i
    · simp at hp; subst hp; exact ⟨rfl, fun k => by simp [argG, PC.gh]; try (split <;> first | rfl | (rename_i h; rcases k with _ | _ | _ | _ | _ | _ | _ | _ | _ | _ | _ | _ | _ | _ | _ | _ | _ | _ | _ | _ | k <;> simp at h <;> subst h <;> rfl))⟩
    simp at hp
  · rcases i with _ | i
    · simp at hp hv; subst hp; subst hv; exact arg_agg 0 (by simpa [Value.cells] using K0)
    rcases i with _ | i
    · simp at hp hv; subst hp; subst hv; exact arg_agg 1 (by simpa [Value.cells] using K1)
    simp at hp
  · intro e W' he
    obtain ⟨he, g1, g2, g3, g4, g5⟩ := he
    have bel : Below W.heap.size W W' := ⟨g3, g5, g4, g2, g1⟩
    subst he
    exact ⟨_, rfl, _, _, _, [], _, [], hW', trodAll_mk1 (shut_bool Try.underlying4 _), (trodAll_cons_mk (Below.trod laidOut (by kernel_rfl) (of_decide_eq_true (by kernel_rfl)) h0 bel lt0) (trodAll_cons_mk (Below.trod laidOut (by kernel_rfl) (of_decide_eq_true (by kernel_rfl)) h1 bel lt1) trodAll_mk0)), rfl, bel.frame _, fun h => by cases h⟩
theorem over : Rows.fnExactRunStepRow.holds Try.pinned (OpenSpec.ofChange Rows.fnExactRunStepSpec) :=
  OpenClaim.holds_of_wide 3 Try.f3 rfl rfl rfl rfl rfl rfl rfl ⟨rfl, rfl, rfl, rfl, rfl⟩ rfl rfl rfl rfl rfl (by kernel_rfl) Try.func3 (by kernel_rfl)
    (of_decide_eq_true (by kernel_rfl)) (by unfold Func.isWrapper; first | (rw [if_pos (by decide +kernel)]; kernel_rfl) | (rw [if_neg (by decide +kernel)]; exact ⟨rfl, rfl⟩))
    (fun os started H enc _ => lifted os started H enc)
theorem proved : Rows.FnExactRunStepSaid := over
end Go.Proofs.Ytjjdjkkhhcbogaa.fnExactRunStep
namespace Go.Proofs.Ytjjdjkkhhcbogaa
/-- The row, under a short name, for the claim. -/
theorem fnExactRunStep_holds : Rows.FnExactRunStepSaid := fnExactRunStep.proved
end Go.Proofs.Ytjjdjkkhhcbogaa
#print axioms Go.Proofs.Ytjjdjkkhhcbogaa.fnExactRunStep_holds
