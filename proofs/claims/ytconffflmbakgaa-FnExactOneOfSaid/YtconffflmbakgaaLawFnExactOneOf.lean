/-
  FnExactOneOf, for every input: the law returns true and its arguments read afterwards as before. No condition.
-/
import Derived.Test.YtconffflmbakgaaRows
import Derived.Test.YtconffflmbakgaaPureFnExactOneOf
import Derived.WalkKit
import Derived.ProofKit
import Derived.OpenShut
import Derived.ShutString
import Derived.ChangeOld
import Derived.Below
import Derived.SizedLaws
import Derived.Carry
namespace Go.Proofs.Ytconffflmbakgaa.fnExactOneOf
open Go.ChangeShapes Go.WideShapes Go.ChangeAt Go.RowKit
open Go.Proofs.Ytconffflmbakgaa.Opens Go.Proofs.YtconffflmbakgaaW.PrintWords Go.Proofs.Ytconffflmbakgaa.QFnExactOneOf
set_option linter.unusedVariables false
set_option linter.unusedSimpArgs false
theorem own : ownKnob Try.prog.godebug = none := by kernel_rfl
theorem laidOut : laidOutB Try.prog = true := by kernel_rfl
set_option maxRecDepth 100000 in
theorem lifted (os : Os) (started : os.Started) (H : Type) (enc : TypeId × Value → H) :
    ReturnsInHanded {} Try.checked os 5 .any (Rows.fnExactOneOfSpec.pre6 enc Try.prog Try.f5 Rows.fnExactOneOfRow.domain false) (Rows.fnExactOneOfSpec.post enc Try.prog Try.f5 false true false false) := by
  refine returnsInHanded_of_change_sized (C := Try.checked) own started (by kernel_rfl) Try.func5
    (ChangeSpec.witness6 (enc := enc) (C := Try.checked) false ⟨#[], #[.agg #[.int .i64 0, .int .i64 0, .int .i64 0, .int .i64 0, .string ByteArray.empty, .slice none 0 0, .slice none 0 0, .slice none 0 0, .slice none 0 0, .slice none 0 0, .int .i64 0], .agg #[.int .i64 0, .int .i64 0, .int .i64 0, .int .i64 0, .string ByteArray.empty, .slice none 0 0, .slice none 0 0, .slice none 0 0, .slice none 0 0, .slice none 0 0, .int .i64 0]], []⟩ 8 (by kernel_rfl) (by kernel_rfl) (by kernel_rfl) (by kernel_rfl)) ?_
  intro W base args ds gs before hval0 hW hcnd hsz0 _
  have hsz : (DataW.weightsEach Try.prog (Try.f5.params.toList ++ Rows.fnExactOneOfSpec.plain.varTypes Try.prog) (ds ++ gs)).all (· ≤ reachBytes) = true := hsz0
  have hval : ∀ (j : Nat) t v, Try.f5.params[j]? = some t → args[j]? = some v → Value.okWide Try.prog W .any base t v := hval0
  have hW' := hW
  obtain ⟨p, q, hA0, hV, rfl, hfz, hnd⟩ := hW
  have hA : DataW.TrodAll enc Try.prog W 0 (fun _ => true) true Try.f5.params.toList args.toList ds p := hA0
  rw [Try.params5] at hA hval hsz
  obtain ⟨v0, vs0, d0, ds0, p0, q0, hargs, rfl, rfl, h0, r0⟩ := trodAll_cons hA
  obtain ⟨v1, vs1, d1, ds1, p1, q1, rfl, rfl, rfl, h1, r1⟩ := trodAll_cons r0
  obtain ⟨rfl, rfl, rfl⟩ := trodAll_nil r1
  obtain rfl : args = #[v0, v1] := by cases args; simp_all
  obtain ⟨rfl, rfl⟩ := trodVars_none hV
  have lt0 : ∀ x ∈ p0, x.block < W.heap.size := by obtain ⟨m, hm⟩ := h0; exact DataW.trod_lt m _ _ _ hm
  have lt1 : ∀ x ∈ p1, x.block < W.heap.size := by obtain ⟨m, hm⟩ := h1; exact DataW.trod_lt m _ _ _ hm
  obtain ⟨cs0, rfl, -⟩ := okWide_struct Try.underlying52 (hval 0 52 v0 rfl rfl)
  obtain ⟨x0, K0, w0⟩ := opens_arg (opens_struct Try.underlying52 (by kernel_rfl) (at_cons (opens_struct Try.underlying40 (by kernel_rfl) (at_cons (opens_struct Try.underlying23 (by kernel_rfl) (at_cons (opens_int Try.underlying3) rfl (by kernel_rfl) (at_cons (opens_int Try.underlying3) rfl (by kernel_rfl) (at_cons (opens_int Try.underlying3) rfl (by kernel_rfl) (at_last (opens_int Try.underlying3) rfl (by kernel_rfl)))))) rfl (by kernel_rfl) (at_cons (opens_struct Try.underlying26 (by kernel_rfl) (at_cons (opens_string Try.underlying9) rfl (by kernel_rfl) (at_last (opens_slice (B := 32) Try.underlying24 (by kernel_rfl) (by kernel_rfl) opens149) rfl (by kernel_rfl)))) rfl (by kernel_rfl) (at_cons (opens_slice (B := 200) Try.underlying37 (by kernel_rfl) (by kernel_rfl) opens161) rfl (by kernel_rfl) (at_last (opens_slice (B := 48) Try.underlying38 (by kernel_rfl) (by kernel_rfl) opens164) rfl (by kernel_rfl)))))) rfl (by kernel_rfl) (at_cons (opens_slice (B := 24) Try.underlying50 (by kernel_rfl) (by kernel_rfl) opens174) rfl (by kernel_rfl) (at_cons (opens_slice (B := 24) Try.underlying50 (by kernel_rfl) (by kernel_rfl) opens174) rfl (by kernel_rfl) (at_last (opens_int Try.underlying3) rfl (by kernel_rfl)))))) hsz (j := 0) rfl rfl h0
  obtain ⟨⟨⟨a0_0, a0_1, a0_2, a0_3⟩, ⟨a0_4, l0_5⟩, l0_6, l0_7⟩, l0_8, l0_9, a0_10⟩ := x0
  obtain ⟨_, _, E0, ⟨_, _, rfl, ⟨_, _, rfl, rfl, ⟨_, _, rfl, rfl, ⟨_, _, rfl, rfl, rfl⟩⟩⟩, ⟨_, _, rfl, ⟨_, _, rfl, rfl, ⟨A0_5, c0_5, rfl, hc0_5, hr0_5⟩⟩, ⟨_, _, rfl, ⟨A0_6, c0_6, rfl, hc0_6, hr0_6⟩, ⟨A0_7, c0_7, rfl, hc0_7, hr0_7⟩⟩⟩⟩, ⟨_, _, rfl, ⟨A0_8, c0_8, rfl, hc0_8, hr0_8⟩, ⟨_, _, rfl, ⟨A0_9, c0_9, rfl, hc0_9, hr0_9⟩, rfl⟩⟩⟩ := K0
  obtain rfl := agg_of (l := [.int .i64 a0_0, .int .i64 a0_1, .int .i64 a0_2, .int .i64 a0_3, .string a0_4, .slice A0_5 l0_5.length c0_5, .slice A0_6 l0_6.length c0_6, .slice A0_7 l0_7.length c0_7, .slice A0_8 l0_8.length c0_8, .slice A0_9 l0_9.length c0_9, .int .i64 a0_10]) E0
  obtain ⟨⟨⟨y0_0, y0_1, y0_2, y0_3⟩, ⟨y0_4, y0_5⟩, y0_6, y0_7⟩, y0_8, y0_9, y0_10⟩ := w0
  obtain ⟨cs1, rfl, -⟩ := okWide_struct Try.underlying52 (hval 1 52 v1 rfl rfl)
  obtain ⟨x1, K1, w1⟩ := opens_arg (opens_struct Try.underlying52 (by kernel_rfl) (at_cons (opens_struct Try.underlying40 (by kernel_rfl) (at_cons (opens_struct Try.underlying23 (by kernel_rfl) (at_cons (opens_int Try.underlying3) rfl (by kernel_rfl) (at_cons (opens_int Try.underlying3) rfl (by kernel_rfl) (at_cons (opens_int Try.underlying3) rfl (by kernel_rfl) (at_last (opens_int Try.underlying3) rfl (by kernel_rfl)))))) rfl (by kernel_rfl) (at_cons (opens_struct Try.underlying26 (by kernel_rfl) (at_cons (opens_string Try.underlying9) rfl (by kernel_rfl) (at_last (opens_slice (B := 32) Try.underlying24 (by kernel_rfl) (by kernel_rfl) opens149) rfl (by kernel_rfl)))) rfl (by kernel_rfl) (at_cons (opens_slice (B := 200) Try.underlying37 (by kernel_rfl) (by kernel_rfl) opens161) rfl (by kernel_rfl) (at_last (opens_slice (B := 48) Try.underlying38 (by kernel_rfl) (by kernel_rfl) opens164) rfl (by kernel_rfl)))))) rfl (by kernel_rfl) (at_cons (opens_slice (B := 24) Try.underlying50 (by kernel_rfl) (by kernel_rfl) opens174) rfl (by kernel_rfl) (at_cons (opens_slice (B := 24) Try.underlying50 (by kernel_rfl) (by kernel_rfl) opens174) rfl (by kernel_rfl) (at_last (opens_int Try.underlying3) rfl (by kernel_rfl)))))) hsz (j := 1) rfl rfl h1
  obtain ⟨⟨⟨a1_0, a1_1, a1_2, a1_3⟩, ⟨a1_4, l1_5⟩, l1_6, l1_7⟩, l1_8, l1_9, a1_10⟩ := x1
  obtain ⟨_, _, E1, ⟨_, _, rfl, ⟨_, _, rfl, rfl, ⟨_, _, rfl, rfl, ⟨_, _, rfl, rfl, rfl⟩⟩⟩, ⟨_, _, rfl, ⟨_, _, rfl, rfl, ⟨A1_5, c1_5, rfl, hc1_5, hr1_5⟩⟩, ⟨_, _, rfl, ⟨A1_6, c1_6, rfl, hc1_6, hr1_6⟩, ⟨A1_7, c1_7, rfl, hc1_7, hr1_7⟩⟩⟩⟩, ⟨_, _, rfl, ⟨A1_8, c1_8, rfl, hc1_8, hr1_8⟩, ⟨_, _, rfl, ⟨A1_9, c1_9, rfl, hc1_9, hr1_9⟩, rfl⟩⟩⟩ := K1
  obtain rfl := agg_of (l := [.int .i64 a1_0, .int .i64 a1_1, .int .i64 a1_2, .int .i64 a1_3, .string a1_4, .slice A1_5 l1_5.length c1_5, .slice A1_6 l1_6.length c1_6, .slice A1_7 l1_7.length c1_7, .slice A1_8 l1_8.length c1_8, .slice A1_9 l1_9.length c1_9, .int .i64 a1_10]) E1
  obtain ⟨⟨⟨y1_0, y1_1, y1_2, y1_3⟩, ⟨y1_4, y1_5⟩, y1_6, y1_7⟩, y1_8, y1_9, y1_10⟩ := w1
  have HP := Go.Proofs.Ytconffflmbakgaa.Pure.FnExactOneOf a0_0 a0_1 a0_2 a0_3 a0_4 l0_5 l0_6 l0_7 l0_8 l0_9 a0_10 a1_0 a1_1 a1_2 a1_3 a1_4 l1_5 l1_6 l1_7 l1_8 l1_9 a1_10 y0_0 y0_1 y0_2 y0_3 y0_4 y0_5 y0_6 y0_7 y0_8 y0_9 y0_10 y1_0 y1_1 y1_2 y1_3 y1_4 y1_5 y1_6 y1_7 y1_8 y1_9 y1_10
  obtain ⟨k, HP⟩ := HP
  refine (laws_FnExactOneOf.calls (k := k) (r := true) (w := W) (hr0_5 := hr0_5) (hc0_5 := hc0_5) (hr0_6 := hr0_6) (hc0_6 := hc0_6) (hr0_7 := hr0_7) (hc0_7 := hc0_7) (hr0_8 := hr0_8) (hc0_8 := hc0_8) (hr0_9 := hr0_9) (hc0_9 := hc0_9) (hr1_5 := hr1_5) (hc1_5 := hc1_5) (hr1_6 := hr1_6) (hc1_6 := hc1_6) (hr1_7 := hr1_7) (hc1_7 := hc1_7) (hr1_8 := hr1_8) (hc1_8 := hc1_8) (hr1_9 := hr1_9) (hc1_9 := hc1_9) (h := HP)).mono fun e W' ⟨he, bel0⟩ => ?_
  have bel : Below W.heap.size W W' := by first | exact bel0 | exact bel0.below
  subst he
  exact ⟨_, rfl, _, _, _, [], _, [], hW', trodAll_mk1 (shut_bool Try.underlying4 _), (trodAll_cons_mk (Below.trod laidOut (by kernel_rfl) (of_decide_eq_true (by kernel_rfl)) h0 bel lt0) (trodAll_cons_mk (Below.trod laidOut (by kernel_rfl) (of_decide_eq_true (by kernel_rfl)) h1 bel lt1) trodAll_mk0)), rfl, bel.frame _, fun h => by cases h⟩
theorem over : Rows.fnExactOneOfRow.holds Try.pinned (OpenSpec.ofChange Rows.fnExactOneOfSpec) :=
  OpenClaim.holds_of_wide 5 Try.f5 rfl rfl rfl rfl rfl rfl rfl ⟨rfl, rfl, rfl, rfl, rfl⟩ rfl rfl rfl rfl rfl (by kernel_rfl) Try.func5 (by kernel_rfl)
    (of_decide_eq_true (by kernel_rfl)) (by unfold Func.isWrapper; first | (rw [if_pos (by decide +kernel)]; kernel_rfl) | (rw [if_neg (by decide +kernel)]; exact ⟨rfl, rfl⟩))
    (fun os started H enc _ => lifted os started H enc)
theorem proved : Rows.FnExactOneOfSaid := over
end Go.Proofs.Ytconffflmbakgaa.fnExactOneOf
namespace Go.Proofs.Ytconffflmbakgaa
/-- The row, under a short name, for the claim. -/
theorem fnExactOneOf_holds : Rows.FnExactOneOfSaid := fnExactOneOf.proved
end Go.Proofs.Ytconffflmbakgaa
#print axioms Go.Proofs.Ytconffflmbakgaa.fnExactOneOf_holds
