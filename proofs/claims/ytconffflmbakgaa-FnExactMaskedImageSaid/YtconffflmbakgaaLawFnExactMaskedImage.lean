/-
  FnExactMaskedImage, for every input: the law returns true and its arguments read afterwards as before. No condition.
-/
import Derived.Test.YtconffflmbakgaaRows
import Derived.Test.YtconffflmbakgaaPureFnExactMaskedImage
import Derived.WalkKit
import Derived.ProofKit
import Derived.OpenShut
import Derived.ShutString
import Derived.ChangeOld
import Derived.Below
import Derived.SizedLaws
import Derived.Carry
namespace Go.Proofs.Ytconffflmbakgaa.fnExactMaskedImage
open Go.ChangeShapes Go.WideShapes Go.ChangeAt Go.RowKit
open Go.Proofs.Ytconffflmbakgaa.Opens Go.Proofs.YtconffflmbakgaaW.PrintWords Go.Proofs.Ytconffflmbakgaa.QFnExactMaskedImage
set_option linter.unusedVariables false
set_option linter.unusedSimpArgs false
theorem own : ownKnob Try.prog.godebug = none := by kernel_rfl
theorem laidOut : laidOutB Try.prog = true := by kernel_rfl
set_option maxRecDepth 100000 in
theorem lifted (os : Os) (started : os.Started) (H : Type) (enc : TypeId × Value → H) :
    ReturnsInHanded {} Try.checked os 9 .any (Rows.fnExactMaskedImageSpec.pre6 enc Try.prog Try.f9 Rows.fnExactMaskedImageRow.domain false) (Rows.fnExactMaskedImageSpec.post enc Try.prog Try.f9 false true false false) := by
  refine returnsInHanded_of_change_sized (C := Try.checked) own started (by kernel_rfl) Try.func9
    (ChangeSpec.witness6 (enc := enc) (C := Try.checked) false ⟨#[], #[.agg #[.string ByteArray.empty, .slice none 0 0], .agg #[.int .i64 0, .int .i64 0, .int .i64 0, .int .i64 0]], []⟩ 8 (by kernel_rfl) (by kernel_rfl) (by kernel_rfl) (by kernel_rfl)) ?_
  intro W base args ds gs before hval0 hW hcnd hsz0 _
  have hsz : (DataW.weightsEach Try.prog (Try.f9.params.toList ++ Rows.fnExactMaskedImageSpec.plain.varTypes Try.prog) (ds ++ gs)).all (· ≤ reachBytes) = true := hsz0
  have hval : ∀ (j : Nat) t v, Try.f9.params[j]? = some t → args[j]? = some v → Value.okWide Try.prog W .any base t v := hval0
  have hW' := hW
  obtain ⟨p, q, hA0, hV, rfl, hfz, hnd⟩ := hW
  have hA : DataW.TrodAll enc Try.prog W 0 (fun _ => true) true Try.f9.params.toList args.toList ds p := hA0
  rw [Try.params9] at hA hval hsz
  obtain ⟨v0, vs0, d0, ds0, p0, q0, hargs, rfl, rfl, h0, r0⟩ := trodAll_cons hA
  obtain ⟨v1, vs1, d1, ds1, p1, q1, rfl, rfl, rfl, h1, r1⟩ := trodAll_cons r0
  obtain ⟨rfl, rfl, rfl⟩ := trodAll_nil r1
  obtain rfl : args = #[v0, v1] := by cases args; simp_all
  obtain ⟨rfl, rfl⟩ := trodVars_none hV
  have lt0 : ∀ x ∈ p0, x.block < W.heap.size := by obtain ⟨m, hm⟩ := h0; exact DataW.trod_lt m _ _ _ hm
  have lt1 : ∀ x ∈ p1, x.block < W.heap.size := by obtain ⟨m, hm⟩ := h1; exact DataW.trod_lt m _ _ _ hm
  obtain ⟨cs0, rfl, -⟩ := okWide_struct Try.underlying26 (hval 0 26 v0 rfl rfl)
  obtain ⟨x0, K0, w0⟩ := opens_arg (opens_struct Try.underlying26 (by kernel_rfl) (at_cons (opens_string Try.underlying9) rfl (by kernel_rfl) (at_last (opens_slice (B := 32) Try.underlying24 (by kernel_rfl) (by kernel_rfl) opens149) rfl (by kernel_rfl)))) hsz (j := 0) rfl rfl h0
  obtain ⟨a0_0, l0_1⟩ := x0
  obtain ⟨_, _, E0, rfl, ⟨A0_1, c0_1, rfl, hc0_1, hr0_1⟩⟩ := K0
  obtain rfl := agg_of (l := [.string a0_0, .slice A0_1 l0_1.length c0_1]) E0
  obtain ⟨y0_0, y0_1⟩ := w0
  obtain ⟨cs1, rfl, -⟩ := okWide_struct Try.underlying23 (hval 1 23 v1 rfl rfl)
  obtain ⟨x1, K1, w1⟩ := opens_arg (opens_struct Try.underlying23 (by kernel_rfl) (at_cons (opens_int Try.underlying3) rfl (by kernel_rfl) (at_cons (opens_int Try.underlying3) rfl (by kernel_rfl) (at_cons (opens_int Try.underlying3) rfl (by kernel_rfl) (at_last (opens_int Try.underlying3) rfl (by kernel_rfl)))))) hsz (j := 1) rfl rfl h1
  obtain ⟨a1_0, a1_1, a1_2, a1_3⟩ := x1
  obtain ⟨_, _, E1, rfl, ⟨_, _, rfl, rfl, ⟨_, _, rfl, rfl, rfl⟩⟩⟩ := K1
  obtain rfl := agg_of (l := [.int .i64 a1_0, .int .i64 a1_1, .int .i64 a1_2, .int .i64 a1_3]) E1
  obtain ⟨y1_0, y1_1, y1_2, y1_3⟩ := w1
  have HP := Go.Proofs.Ytconffflmbakgaa.Pure.FnExactMaskedImage a0_0 l0_1 a1_0 a1_1 a1_2 a1_3 y0_0 y0_1 y1_0 y1_1 y1_2 y1_3
  obtain ⟨k, HP⟩ := HP
  refine (laws_FnExactMaskedImage.calls (k := k) (r := true) (w := W) (hr0_1 := hr0_1) (hc0_1 := hc0_1) (h := HP)).mono fun e W' ⟨he, bel0⟩ => ?_
  have bel : Below W.heap.size W W' := by first | exact bel0 | exact bel0.below
  subst he
  exact ⟨_, rfl, _, _, _, [], _, [], hW', trodAll_mk1 (shut_bool Try.underlying4 _), (trodAll_cons_mk (Below.trod laidOut (by kernel_rfl) (of_decide_eq_true (by kernel_rfl)) h0 bel lt0) (trodAll_cons_mk (Below.trod laidOut (by kernel_rfl) (of_decide_eq_true (by kernel_rfl)) h1 bel lt1) trodAll_mk0)), rfl, bel.frame _, fun h => by cases h⟩
theorem over : Rows.fnExactMaskedImageRow.holds Try.pinned (OpenSpec.ofChange Rows.fnExactMaskedImageSpec) :=
  OpenClaim.holds_of_wide 9 Try.f9 rfl rfl rfl rfl rfl rfl rfl ⟨rfl, rfl, rfl, rfl, rfl⟩ rfl rfl rfl rfl rfl (by kernel_rfl) Try.func9 (by kernel_rfl)
    (of_decide_eq_true (by kernel_rfl)) (by unfold Func.isWrapper; first | (rw [if_pos (by decide +kernel)]; kernel_rfl) | (rw [if_neg (by decide +kernel)]; exact ⟨rfl, rfl⟩))
    (fun os started H enc _ => lifted os started H enc)
theorem proved : Rows.FnExactMaskedImageSaid := over
end Go.Proofs.Ytconffflmbakgaa.fnExactMaskedImage
namespace Go.Proofs.Ytconffflmbakgaa
/-- The row, under a short name, for the claim. -/
theorem fnExactMaskedImage_holds : Rows.FnExactMaskedImageSaid := fnExactMaskedImage.proved
end Go.Proofs.Ytconffflmbakgaa
#print axioms Go.Proofs.Ytconffflmbakgaa.fnExactMaskedImage_holds
