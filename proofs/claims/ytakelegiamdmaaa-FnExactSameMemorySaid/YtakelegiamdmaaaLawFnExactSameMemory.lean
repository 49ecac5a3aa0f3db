/-
  FnExactSameMemory, for every input: the law returns true and its arguments read afterwards as before. No condition.
-/
import Derived.Test.YtakelegiamdmaaaRows
import Derived.Test.YtakelegiamdmaaaPureFnExactSameMemory
import Derived.WalkKit
import Derived.ProofKit
import Derived.OpenShut
import Derived.ShutString
import Derived.ChangeOld
import Derived.Below
import Derived.SizedLaws
import Derived.Carry
namespace Go.Proofs.Ytakelegiamdmaaa.fnExactSameMemory
open Go.ChangeShapes Go.WideShapes Go.ChangeAt Go.RowKit
open Go.Proofs.Ytakelegiamdmaaa.Opens Go.Proofs.YtakelegiamdmaaaW.PrintWords Go.Proofs.Ytakelegiamdmaaa.PFnExactSameMemory
set_option linter.unusedVariables false
theorem own : ownKnob Try.prog.godebug = none := by kernel_rfl
theorem laidOut : laidOutB Try.prog = true := by kernel_rfl
set_option maxRecDepth 100000 in
theorem lifted (os : Os) (started : os.Started) (H : Type) (enc : TypeId × Value → H) :
    ReturnsInHanded {} Try.checked os 7 .any (Rows.fnExactSameMemorySpec.pre6 enc Try.prog Try.f7 Rows.fnExactSameMemoryRow.domain false) (Rows.fnExactSameMemorySpec.post enc Try.prog Try.f7 false true false false) := by
  refine returnsInHanded_of_change_sized (C := Try.checked) own started (by kernel_rfl) Try.func7
    (ChangeSpec.witness6 (enc := enc) (C := Try.checked) false ⟨#[], #[.agg #[.string ByteArray.empty, .slice none 0 0], .agg #[.string ByteArray.empty, .slice none 0 0]], []⟩ 8 (by kernel_rfl) (by kernel_rfl) (by kernel_rfl) (by kernel_rfl)) ?_
  intro W base args ds gs before hval0 hW hcnd hsz0 _
  have hsz : (DataW.weightsEach Try.prog (Try.f7.params.toList ++ Rows.fnExactSameMemorySpec.plain.varTypes Try.prog) (ds ++ gs)).all (· ≤ reachBytes) = true := hsz0
  have hval : ∀ (j : Nat) t v, Try.f7.params[j]? = some t → args[j]? = some v → Value.okWide Try.prog W .any base t v := hval0
  have hW' := hW
  obtain ⟨p, q, hA0, hV, rfl, hfz, hnd⟩ := hW
  have hA : DataW.TrodAll enc Try.prog W 0 (fun _ => true) true Try.f7.params.toList args.toList ds p := hA0
  rw [Try.params7] at hA hval hsz
  obtain ⟨v0, vs0, d0, ds0, p0, q0, hargs, rfl, rfl, h0, r0⟩ := trodAll_cons hA
  obtain ⟨v1, vs1, d1, ds1, p1, q1, rfl, rfl, rfl, h1, r1⟩ := trodAll_cons r0
  obtain ⟨rfl, rfl, rfl⟩ := trodAll_nil r1
  obtain rfl : args = #[v0, v1] := by cases args; simp_all
  obtain ⟨rfl, rfl⟩ := trodVars_none hV
  have lt0 : ∀ x ∈ p0, x.block < W.heap.size := by obtain ⟨m, hm⟩ := h0; exact DataW.trod_lt m _ _ _ hm
  have lt1 : ∀ x ∈ p1, x.block < W.heap.size := by obtain ⟨m, hm⟩ := h1; exact DataW.trod_lt m _ _ _ hm
  obtain ⟨cs0, rfl, -⟩ := okWide_struct Try.underlying54 (hval 0 54 v0 rfl rfl)
  obtain ⟨x0, K0, w0⟩ := opens_arg (opens_struct Try.underlying54 (by kernel_rfl) (at_cons (opens_string Try.underlying9) rfl (by kernel_rfl) (at_last (opens_slice (B := 32) Try.underlying52 (by kernel_rfl) (by kernel_rfl) opens140) rfl (by kernel_rfl)))) hsz (j := 0) rfl rfl h0
  obtain ⟨a0_0, l0_1⟩ := x0
  obtain ⟨_, _, E0, rfl, ⟨A0_1, c0_1, rfl, hc0_1, hr0_1⟩⟩ := K0
  obtain rfl := agg_of (l := [.string a0_0, .slice A0_1 l0_1.length c0_1]) E0
  obtain ⟨y0_0, y0_1⟩ := w0
  obtain ⟨cs1, rfl, -⟩ := okWide_struct Try.underlying54 (hval 1 54 v1 rfl rfl)
  obtain ⟨x1, K1, w1⟩ := opens_arg (opens_struct Try.underlying54 (by kernel_rfl) (at_cons (opens_string Try.underlying9) rfl (by kernel_rfl) (at_last (opens_slice (B := 32) Try.underlying52 (by kernel_rfl) (by kernel_rfl) opens140) rfl (by kernel_rfl)))) hsz (j := 1) rfl rfl h1
  obtain ⟨a1_0, l1_1⟩ := x1
  obtain ⟨_, _, E1, rfl, ⟨A1_1, c1_1, rfl, hc1_1, hr1_1⟩⟩ := K1
  obtain rfl := agg_of (l := [.string a1_0, .slice A1_1 l1_1.length c1_1]) E1
  obtain ⟨y1_0, y1_1⟩ := w1
  have HP := Go.Proofs.Ytakelegiamdmaaa.Pure.FnExactSameMemory a0_0 l0_1 a1_0 l1_1 y0_0 y0_1 y1_0 y1_1
  obtain ⟨k, HP⟩ := HP
  refine (laws_FnExactSameMemory.calls (k := k) (r := true) (w := W) (hr0_1 := hr0_1) (hc0_1 := hc0_1) (hr1_1 := hr1_1) (hc1_1 := hc1_1) (h := HP)).mono fun e W' ⟨he, bel0⟩ => ?_
  have bel : Below W.heap.size W W' := by first | exact bel0 | exact bel0.below
  subst he
  exact ⟨_, rfl, _, _, _, [], _, [], hW', trodAll_mk1 (shut_bool Try.underlying4 _), (trodAll_cons_mk (Below.trod laidOut (by kernel_rfl) (of_decide_eq_true (by kernel_rfl)) h0 bel lt0) (trodAll_cons_mk (Below.trod laidOut (by kernel_rfl) (of_decide_eq_true (by kernel_rfl)) h1 bel lt1) trodAll_mk0)), rfl, bel.frame _, fun h => by cases h⟩
theorem over : Rows.fnExactSameMemoryRow.holds Try.pinned (OpenSpec.ofChange Rows.fnExactSameMemorySpec) :=
  OpenClaim.holds_of_wide 7 Try.f7 rfl rfl rfl rfl rfl rfl rfl ⟨rfl, rfl, rfl, rfl, rfl⟩ rfl rfl rfl rfl rfl (by kernel_rfl) Try.func7 (by kernel_rfl)
    (of_decide_eq_true (by kernel_rfl)) (by unfold Func.isWrapper; first | (rw [if_pos (by decide +kernel)]; kernel_rfl) | (rw [if_neg (by decide +kernel)]; exact ⟨rfl, rfl⟩))
    (fun os started H enc _ => lifted os started H enc)
theorem proved : Rows.FnExactSameMemorySaid := over
end Go.Proofs.Ytakelegiamdmaaa.fnExactSameMemory
namespace Go.Proofs.Ytakelegiamdmaaa
/-- The row, under a short name, for the claim. -/
theorem fnExactSameMemory_holds : Rows.FnExactSameMemorySaid := fnExactSameMemory.proved
end Go.Proofs.Ytakelegiamdmaaa
#print axioms Go.Proofs.Ytakelegiamdmaaa.fnExactSameMemory_holds
