/-
  FnExactMaskedWord, for every input: the law returns true and its arguments read afterwards as before. No condition.
-/
import Derived.Test.YtconffflmbakgaaRows
import Derived.Test.YtconffflmbakgaaPureFnExactMaskedWord
import Derived.WalkKit
import Derived.ProofKit
import Derived.OpenShut
import Derived.ShutString
import Derived.ChangeOld
import Derived.Below
import Derived.SizedLaws
import Derived.Carry
namespace Go.Proofs.Ytconffflmbakgaa.fnExactMaskedWord
open Go.ChangeShapes Go.WideShapes Go.ChangeAt Go.RowKit
open Go.Proofs.Ytconffflmbakgaa.Opens Go.Proofs.YtconffflmbakgaaW.PrintWords Go.Proofs.Ytconffflmbakgaa.QFnExactMaskedWord
set_option linter.unusedVariables false
set_option linter.unusedSimpArgs false
theorem own : ownKnob Try.prog.godebug = none := by kernel_rfl
theorem laidOut : laidOutB Try.prog = true := by kernel_rfl
set_option maxRecDepth 100000 in
theorem lifted (os : Os) (started : os.Started) (H : Type) (enc : TypeId × Value → H) :
    ReturnsInHanded {} Try.checked os 3 .any (Rows.fnExactMaskedWordSpec.pre6 enc Try.prog Try.f3 Rows.fnExactMaskedWordRow.domain false) (Rows.fnExactMaskedWordSpec.post enc Try.prog Try.f3 false true false false) := by
  refine returnsInHanded_of_change_sized (C := Try.checked) own started (by kernel_rfl) Try.func3
    (ChangeSpec.witness6 (enc := enc) (C := Try.checked) false ⟨#[], #[.agg #[.int .i64 0, .int .i64 0, .int .i64 0, .int .i64 0], .int .i64 0, .agg #[.string ByteArray.empty, .slice none 0 0]], []⟩ 8 (by kernel_rfl) (by kernel_rfl) (by kernel_rfl) (by kernel_rfl)) ?_
  intro W base args ds gs before hval0 hW hcnd hsz0 _
  have hsz : (DataW.weightsEach Try.prog (Try.f3.params.toList ++ Rows.fnExactMaskedWordSpec.plain.varTypes Try.prog) (ds ++ gs)).all (· ≤ reachBytes) = true := hsz0
  have hval : ∀ (j : Nat) t v, Try.f3.params[j]? = some t → args[j]? = some v → Value.okWide Try.prog W .any base t v := hval0
  have hW' := hW
  obtain ⟨p, q, hA0, hV, rfl, hfz, hnd⟩ := hW
  have hA : DataW.TrodAll enc Try.prog W 0 (fun _ => true) true Try.f3.params.toList args.toList ds p := hA0
  rw [Try.params3] at hA hval hsz
  obtain ⟨v0, vs0, d0, ds0, p0, q0, hargs, rfl, rfl, h0, r0⟩ := trodAll_cons hA
  obtain ⟨v1, vs1, d1, ds1, p1, q1, rfl, rfl, rfl, h1, r1⟩ := trodAll_cons r0
  obtain ⟨v2, vs2, d2, ds2, p2, q2, rfl, rfl, rfl, h2, r2⟩ := trodAll_cons r1
  obtain ⟨rfl, rfl, rfl⟩ := trodAll_nil r2
  obtain rfl : args = #[v0, v1, v2] := by cases args; simp_all
  obtain ⟨rfl, rfl⟩ := trodVars_none hV
  have lt0 : ∀ x ∈ p0, x.block < W.heap.size := by obtain ⟨m, hm⟩ := h0; exact DataW.trod_lt m _ _ _ hm
  have lt1 : ∀ x ∈ p1, x.block < W.heap.size := by obtain ⟨m, hm⟩ := h1; exact DataW.trod_lt m _ _ _ hm
  have lt2 : ∀ x ∈ p2, x.block < W.heap.size := by obtain ⟨m, hm⟩ := h2; exact DataW.trod_lt m _ _ _ hm
  obtain ⟨cs0, rfl, -⟩ := okWide_struct Try.underlying23 (hval 0 23 v0 rfl rfl)
  obtain ⟨x0, K0, w0⟩ := opens_arg (opens_struct Try.underlying23 (by kernel_rfl) (at_cons (opens_int Try.underlying3) rfl (by kernel_rfl) (at_cons (opens_int Try.underlying3) rfl (by kernel_rfl) (at_cons (opens_int Try.underlying3) rfl (by kernel_rfl) (at_last (opens_int Try.underlying3) rfl (by kernel_rfl)))))) hsz (j := 0) rfl rfl h0
  obtain ⟨a0_0, a0_1, a0_2, a0_3⟩ := x0
  obtain ⟨_, _, E0, rfl, ⟨_, _, rfl, rfl, ⟨_, _, rfl, rfl, rfl⟩⟩⟩ := K0
  obtain rfl := agg_of (l := [.int .i64 a0_0, .int .i64 a0_1, .int .i64 a0_2, .int .i64 a0_3]) E0
  obtain ⟨y0_0, y0_1, y0_2, y0_3⟩ := w0
  obtain ⟨n1, rfl⟩ := okWide_int Try.underlying3 (hval 1 3 v1 rfl rfl)
  obtain ⟨x1, K1, w1⟩ := opens_arg (opens_int Try.underlying3) hsz (j := 1) rfl rfl h1
  have E1 : (_ : List Value) = _ := K1
  simp only [Value.cells, List.cons.injEq, Value.int.injEq, and_true, true_and] at E1
  obtain rfl := E1
  have y1 := w1
  obtain ⟨cs2, rfl, -⟩ := okWide_struct Try.underlying26 (hval 2 26 v2 rfl rfl)
  obtain ⟨x2, K2, w2⟩ := opens_arg (opens_struct Try.underlying26 (by kernel_rfl) (at_cons (opens_string Try.underlying9) rfl (by kernel_rfl) (at_last (opens_slice (B := 32) Try.underlying24 (by kernel_rfl) (by kernel_rfl) opens149) rfl (by kernel_rfl)))) hsz (j := 2) rfl rfl h2
  obtain ⟨a2_0, l2_1⟩ := x2
  obtain ⟨_, _, E2, rfl, ⟨A2_1, c2_1, rfl, hc2_1, hr2_1⟩⟩ := K2
  obtain rfl := agg_of (l := [.string a2_0, .slice A2_1 l2_1.length c2_1]) E2
  obtain ⟨y2_0, y2_1⟩ := w2
  have HP := Go.Proofs.Ytconffflmbakgaa.Pure.FnExactMaskedWord a0_0 a0_1 a0_2 a0_3 n1 a2_0 l2_1 y0_0 y0_1 y0_2 y0_3 y1 y2_0 y2_1
  obtain ⟨k, HP⟩ := HP
  refine (laws_FnExactMaskedWord.calls (k := k) (r := true) (w := W) (hr2_1 := hr2_1) (hc2_1 := hc2_1) (h := HP)).mono fun e W' ⟨he, bel0⟩ => ?_
  have bel : Below W.heap.size W W' := by first | exact bel0 | exact bel0.below
  subst he
  exact ⟨_, rfl, _, _, _, [], _, [], hW', trodAll_mk1 (shut_bool Try.underlying4 _), (trodAll_cons_mk (Below.trod laidOut (by kernel_rfl) (of_decide_eq_true (by kernel_rfl)) h0 bel lt0) (trodAll_cons_mk (Below.trod laidOut (by kernel_rfl) (of_decide_eq_true (by kernel_rfl)) h1 bel lt1) (trodAll_cons_mk (Below.trod laidOut (by kernel_rfl) (of_decide_eq_true (by kernel_rfl)) h2 bel lt2) trodAll_mk0))), rfl, bel.frame _, fun h => by cases h⟩
theorem over : Rows.fnExactMaskedWordRow.holds Try.pinned (OpenSpec.ofChange Rows.fnExactMaskedWordSpec) :=
  OpenClaim.holds_of_wide 3 Try.f3 rfl rfl rfl rfl rfl rfl rfl ⟨rfl, rfl, rfl, rfl, rfl⟩ rfl rfl rfl rfl rfl (by kernel_rfl) Try.func3 (by kernel_rfl)
    (of_decide_eq_true (by kernel_rfl)) (by unfold Func.isWrapper; first | (rw [if_pos (by decide +kernel)]; kernel_rfl) | (rw [if_neg (by decide +kernel)]; exact ⟨rfl, rfl⟩))
    (fun os started H enc _ => lifted os started H enc)
theorem proved : Rows.FnExactMaskedWordSaid := over
end Go.Proofs.Ytconffflmbakgaa.fnExactMaskedWord
namespace Go.Proofs.Ytconffflmbakgaa
/-- The row, under a short name, for the claim. -/
theorem fnExactMaskedWord_holds : Rows.FnExactMaskedWordSaid := fnExactMaskedWord.proved
end Go.Proofs.Ytconffflmbakgaa
#print axioms Go.Proofs.Ytconffflmbakgaa.fnExactMaskedWord_holds
