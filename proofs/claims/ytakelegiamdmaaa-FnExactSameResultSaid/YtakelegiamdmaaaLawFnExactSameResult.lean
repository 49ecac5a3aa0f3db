/-
  FnExactSameResult, for every input: the law returns true and its arguments read afterwards as before. No condition.
-/
import Derived.Test.YtakelegiamdmaaaRows
import Derived.Test.YtakelegiamdmaaaPureFnExactSameResult
import Derived.WalkKit
import Derived.ProofKit
import Derived.OpenShut
import Derived.ShutString
import Derived.ChangeOld
import Derived.Below
import Derived.SizedLaws
import Derived.Carry
namespace Go.Proofs.Ytakelegiamdmaaa.fnExactSameResult
open Go.ChangeShapes Go.WideShapes Go.ChangeAt Go.RowKit
open Go.Proofs.Ytakelegiamdmaaa.Opens Go.Proofs.YtakelegiamdmaaaW.PrintWords Go.Proofs.Ytakelegiamdmaaa.QFnExactSameResult
set_option linter.unusedVariables false
theorem own : ownKnob Try.prog.godebug = none := by kernel_rfl
theorem laidOut : laidOutB Try.prog = true := by kernel_rfl
set_option maxRecDepth 100000 in
theorem lifted (os : Os) (started : os.Started) (H : Type) (enc : TypeId × Value → H) :
    ReturnsInHanded {} Try.checked os 6 .any (Rows.fnExactSameResultSpec.pre6 enc Try.prog Try.f6 Rows.fnExactSameResultRow.domain false) (Rows.fnExactSameResultSpec.post enc Try.prog Try.f6 false true false false) := by
  refine returnsInHanded_of_change_sized (C := Try.checked) own started (by kernel_rfl) Try.func6
    (ChangeSpec.witness6 (enc := enc) (C := Try.checked) false ⟨#[], #[.agg #[.int .i64 0, .string ByteArray.empty, .int .i64 0, .bool false, .slice none 0 0], .agg #[.int .i64 0, .string ByteArray.empty, .int .i64 0, .bool false, .slice none 0 0]], []⟩ 8 (by kernel_rfl) (by kernel_rfl) (by kernel_rfl) (by kernel_rfl)) ?_
  intro W base args ds gs before hval0 hW hcnd hsz0 _
  have hsz : (DataW.weightsEach Try.prog (Try.f6.params.toList ++ Rows.fnExactSameResultSpec.plain.varTypes Try.prog) (ds ++ gs)).all (· ≤ reachBytes) = true := hsz0
  have hval : ∀ (j : Nat) t v, Try.f6.params[j]? = some t → args[j]? = some v → Value.okWide Try.prog W .any base t v := hval0
  have hW' := hW
  obtain ⟨p, q, hA0, hV, rfl, hfz, hnd⟩ := hW
  have hA : DataW.TrodAll enc Try.prog W 0 (fun _ => true) true Try.f6.params.toList args.toList ds p := hA0
  rw [Try.params6] at hA hval hsz
  obtain ⟨v0, vs0, d0, ds0, p0, q0, hargs, rfl, rfl, h0, r0⟩ := trodAll_cons hA
  obtain ⟨v1, vs1, d1, ds1, p1, q1, rfl, rfl, rfl, h1, r1⟩ := trodAll_cons r0
  obtain ⟨rfl, rfl, rfl⟩ := trodAll_nil r1
  obtain rfl : args = #[v0, v1] := by cases args; simp_all
  obtain ⟨rfl, rfl⟩ := trodVars_none hV
  have lt0 : ∀ x ∈ p0, x.block < W.heap.size := by obtain ⟨m, hm⟩ := h0; exact DataW.trod_lt m _ _ _ hm
  have lt1 : ∀ x ∈ p1, x.block < W.heap.size := by obtain ⟨m, hm⟩ := h1; exact DataW.trod_lt m _ _ _ hm
  obtain ⟨cs0, rfl, -⟩ := okWide_struct Try.underlying46 (hval 0 46 v0 rfl rfl)
  obtain ⟨x0, K0, w0⟩ := opens_arg (opens_struct Try.underlying46 (by kernel_rfl) (at_cons (opens_int Try.underlying3) rfl (by kernel_rfl) (at_cons (opens_string Try.underlying9) rfl (by kernel_rfl) (at_cons (opens_int Try.underlying3) rfl (by kernel_rfl) (at_cons (opens_bool Try.underlying4) rfl (by kernel_rfl) (at_last (opens_slice (B := 16) Try.underlying44 (by kernel_rfl) (by kernel_rfl) (opens_string Try.underlying9)) rfl (by kernel_rfl))))))) hsz (j := 0) rfl rfl h0
  obtain ⟨a0_0, a0_1, a0_2, a0_3, l0_4⟩ := x0
  obtain ⟨_, _, E0, rfl, ⟨_, _, rfl, rfl, ⟨_, _, rfl, rfl, ⟨_, _, rfl, rfl, ⟨A0_4, c0_4, rfl, hc0_4, hr0_4⟩⟩⟩⟩⟩ := K0
  obtain rfl := agg_of (l := [.int .i64 a0_0, .string a0_1, .int .i64 a0_2, .bool a0_3, .slice A0_4 l0_4.length c0_4]) E0
  obtain ⟨y0_0, y0_1, y0_2, y0_3, y0_4⟩ := w0
  obtain ⟨cs1, rfl, -⟩ := okWide_struct Try.underlying46 (hval 1 46 v1 rfl rfl)
  obtain ⟨x1, K1, w1⟩ := opens_arg (opens_struct Try.underlying46 (by kernel_rfl) (at_cons (opens_int Try.underlying3) rfl (by kernel_rfl) (at_cons (opens_string Try.underlying9) rfl (by kernel_rfl) (at_cons (opens_int Try.underlying3) rfl (by kernel_rfl) (at_cons (opens_bool Try.underlying4) rfl (by kernel_rfl) (at_last (opens_slice (B := 16) Try.underlying44 (by kernel_rfl) (by kernel_rfl) (opens_string Try.underlying9)) rfl (by kernel_rfl))))))) hsz (j := 1) rfl rfl h1
  obtain ⟨a1_0, a1_1, a1_2, a1_3, l1_4⟩ := x1
  obtain ⟨_, _, E1, rfl, ⟨_, _, rfl, rfl, ⟨_, _, rfl, rfl, ⟨_, _, rfl, rfl, ⟨A1_4, c1_4, rfl, hc1_4, hr1_4⟩⟩⟩⟩⟩ := K1
  obtain rfl := agg_of (l := [.int .i64 a1_0, .string a1_1, .int .i64 a1_2, .bool a1_3, .slice A1_4 l1_4.length c1_4]) E1
  obtain ⟨y1_0, y1_1, y1_2, y1_3, y1_4⟩ := w1
  have HP := Go.Proofs.Ytakelegiamdmaaa.Pure.FnExactSameResult a0_0 a0_1 a0_2 a0_3 l0_4 a1_0 a1_1 a1_2 a1_3 l1_4 y0_0 y0_1 y0_2 y0_4 y1_0 y1_1 y1_2 y1_4
  obtain ⟨k, HP⟩ := HP
  refine (laws_FnExactSameResult.calls (k := k) (r := true) (w := W) (hr0_4 := hr0_4) (hc0_4 := hc0_4) (hr1_4 := hr1_4) (hc1_4 := hc1_4) (h := HP)).mono fun e W' ⟨he, bel0⟩ => ?_
  have bel : Below W.heap.size W W' := by first | exact bel0 | exact bel0.below
  subst he
  exact ⟨_, rfl, _, _, _, [], _, [], hW', trodAll_mk1 (shut_bool Try.underlying4 _), (trodAll_cons_mk (Below.trod laidOut (by kernel_rfl) (of_decide_eq_true (by kernel_rfl)) h0 bel lt0) (trodAll_cons_mk (Below.trod laidOut (by kernel_rfl) (of_decide_eq_true (by kernel_rfl)) h1 bel lt1) trodAll_mk0)), rfl, bel.frame _, fun h => by cases h⟩
theorem over : Rows.fnExactSameResultRow.holds Try.pinned (OpenSpec.ofChange Rows.fnExactSameResultSpec) :=
  OpenClaim.holds_of_wide 6 Try.f6 rfl rfl rfl rfl rfl rfl rfl ⟨rfl, rfl, rfl, rfl, rfl⟩ rfl rfl rfl rfl rfl (by kernel_rfl) Try.func6 (by kernel_rfl)
    (of_decide_eq_true (by kernel_rfl)) (by unfold Func.isWrapper; first | (rw [if_pos (by decide +kernel)]; kernel_rfl) | (rw [if_neg (by decide +kernel)]; exact ⟨rfl, rfl⟩))
    (fun os started H enc _ => lifted os started H enc)
theorem proved : Rows.FnExactSameResultSaid := over
end Go.Proofs.Ytakelegiamdmaaa.fnExactSameResult
namespace Go.Proofs.Ytakelegiamdmaaa
/-- The row, under a short name, for the claim. -/
theorem fnExactSameResult_holds : Rows.FnExactSameResultSaid := fnExactSameResult.proved
end Go.Proofs.Ytakelegiamdmaaa
#print axioms Go.Proofs.Ytakelegiamdmaaa.fnExactSameResult_holds
