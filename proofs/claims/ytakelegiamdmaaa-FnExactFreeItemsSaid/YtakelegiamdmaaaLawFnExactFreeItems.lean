/-
  FnExactFreeItems, for every input: the law returns true and its arguments read afterwards as before. No condition.
-/
import Derived.Test.YtakelegiamdmaaaRows
import Derived.Test.YtakelegiamdmaaaPureFnExactFreeItems
import Derived.WalkKit
import Derived.ProofKit
import Derived.OpenShut
import Derived.ShutString
import Derived.ChangeOld
import Derived.Below
import Derived.SizedLaws
import Derived.Carry
namespace Go.Proofs.Ytakelegiamdmaaa.fnExactFreeItems
open Go.ChangeShapes Go.WideShapes Go.ChangeAt Go.RowKit
open Go.Proofs.Ytakelegiamdmaaa.Opens Go.Proofs.YtakelegiamdmaaaW.PrintWords Go.Proofs.Ytakelegiamdmaaa.PFnExactFreeItems
set_option linter.unusedVariables false
theorem own : ownKnob Try.prog.godebug = none := by kernel_rfl
theorem laidOut : laidOutB Try.prog = true := by kernel_rfl
set_option maxRecDepth 100000 in
theorem lifted (os : Os) (started : os.Started) (H : Type) (enc : TypeId × Value → H) :
    ReturnsInHanded {} Try.checked os 8 .any (Rows.fnExactFreeItemsSpec.pre6 enc Try.prog Try.f8 Rows.fnExactFreeItemsRow.domain false) (Rows.fnExactFreeItemsSpec.post enc Try.prog Try.f8 false true false false) := by
  refine returnsInHanded_of_change_sized (C := Try.checked) own started (by kernel_rfl) Try.func8
    (ChangeSpec.witness6 (enc := enc) (C := Try.checked) false ⟨#[], #[.agg #[.int .i64 0, .int .i64 0, .int .i64 0, .int .i64 0], .agg #[.slice none 0 0]], []⟩ 8 (by kernel_rfl) (by kernel_rfl) (by kernel_rfl) (by kernel_rfl)) ?_
  intro W base args ds gs before hval0 hW hcnd hsz0 _
  have hsz : (DataW.weightsEach Try.prog (Try.f8.params.toList ++ Rows.fnExactFreeItemsSpec.plain.varTypes Try.prog) (ds ++ gs)).all (· ≤ reachBytes) = true := hsz0
  have hval : ∀ (j : Nat) t v, Try.f8.params[j]? = some t → args[j]? = some v → Value.okWide Try.prog W .any base t v := hval0
  have hW' := hW
  obtain ⟨p, q, hA0, hV, rfl, hfz, hnd⟩ := hW
  have hA : DataW.TrodAll enc Try.prog W 0 (fun _ => true) true Try.f8.params.toList args.toList ds p := hA0
  rw [Try.params8] at hA hval hsz
  obtain ⟨v0, vs0, d0, ds0, p0, q0, hargs, rfl, rfl, h0, r0⟩ := trodAll_cons hA
  obtain ⟨v1, vs1, d1, ds1, p1, q1, rfl, rfl, rfl, h1, r1⟩ := trodAll_cons r0
  obtain ⟨rfl, rfl, rfl⟩ := trodAll_nil r1
  obtain rfl : args = #[v0, v1] := by cases args; simp_all
  obtain ⟨rfl, rfl⟩ := trodVars_none hV
  have lt0 : ∀ x ∈ p0, x.block < W.heap.size := by obtain ⟨m, hm⟩ := h0; exact DataW.trod_lt m _ _ _ hm
  have lt1 : ∀ x ∈ p1, x.block < W.heap.size := by obtain ⟨m, hm⟩ := h1; exact DataW.trod_lt m _ _ _ hm
  obtain ⟨cs0, rfl, -⟩ := okWide_struct Try.underlying63 (hval 0 63 v0 rfl rfl)
  obtain ⟨x0, K0, w0⟩ := opens_arg (opens_struct Try.underlying63 (by kernel_rfl) (at_cons (opens_int Try.underlying3) rfl (by kernel_rfl) (at_cons (opens_int Try.underlying3) rfl (by kernel_rfl) (at_cons (opens_int Try.underlying3) rfl (by kernel_rfl) (at_last (opens_int Try.underlying3) rfl (by kernel_rfl)))))) hsz (j := 0) rfl rfl h0
  obtain ⟨a0_0, a0_1, a0_2, a0_3⟩ := x0
  obtain ⟨_, _, E0, rfl, ⟨_, _, rfl, rfl, ⟨_, _, rfl, rfl, rfl⟩⟩⟩ := K0
  obtain rfl := agg_of (l := [.int .i64 a0_0, .int .i64 a0_1, .int .i64 a0_2, .int .i64 a0_3]) E0
  obtain ⟨y0_0, y0_1, y0_2, y0_3⟩ := w0
  obtain ⟨cs1, rfl, -⟩ := okWide_struct Try.underlying66 (hval 1 66 v1 rfl rfl)
  obtain ⟨l1_0, K1, w1⟩ := opens_arg (opens_struct Try.underlying66 (by kernel_rfl) (at_last (opens_slice (B := 40) Try.underlying64 (by kernel_rfl) (by kernel_rfl) opens145) rfl (by kernel_rfl))) hsz (j := 1) rfl rfl h1
  obtain ⟨A1_0, c1_0, E1, hc1_0, hr1_0⟩ := K1
  obtain rfl := agg_of (l := [.slice A1_0 l1_0.length c1_0]) E1
  have y1_0 := w1
  have HP := Go.Proofs.Ytakelegiamdmaaa.Pure.FnExactFreeItems a0_0 a0_1 a0_2 a0_3 l1_0 y0_0 y0_1 y0_2 y0_3 y1_0
  obtain ⟨k, HP⟩ := HP
  refine (laws_FnExactFreeItems.calls (k := k) (r := true) (w := W) (hr1_0 := hr1_0) (hc1_0 := hc1_0) (h := HP)).mono fun e W' ⟨he, bel0⟩ => ?_
  have bel : Below W.heap.size W W' := by first | exact bel0 | exact bel0.below
  subst he
  exact ⟨_, rfl, _, _, _, [], _, [], hW', trodAll_mk1 (shut_bool Try.underlying4 _), (trodAll_cons_mk (Below.trod laidOut (by kernel_rfl) (of_decide_eq_true (by kernel_rfl)) h0 bel lt0) (trodAll_cons_mk (Below.trod laidOut (by kernel_rfl) (of_decide_eq_true (by kernel_rfl)) h1 bel lt1) trodAll_mk0)), rfl, bel.frame _, fun h => by cases h⟩
theorem over : Rows.fnExactFreeItemsRow.holds Try.pinned (OpenSpec.ofChange Rows.fnExactFreeItemsSpec) :=
  OpenClaim.holds_of_wide 8 Try.f8 rfl rfl rfl rfl rfl rfl rfl ⟨rfl, rfl, rfl, rfl, rfl⟩ rfl rfl rfl rfl rfl (by kernel_rfl) Try.func8 (by kernel_rfl)
    (of_decide_eq_true (by kernel_rfl)) (by unfold Func.isWrapper; first | (rw [if_pos (by decide +kernel)]; kernel_rfl) | (rw [if_neg (by decide +kernel)]; exact ⟨rfl, rfl⟩))
    (fun os started H enc _ => lifted os started H enc)
theorem proved : Rows.FnExactFreeItemsSaid := over
end Go.Proofs.Ytakelegiamdmaaa.fnExactFreeItems
namespace Go.Proofs.Ytakelegiamdmaaa
/-- The row, under a short name, for the claim. -/
theorem fnExactFreeItems_holds : Rows.FnExactFreeItemsSaid := fnExactFreeItems.proved
end Go.Proofs.Ytakelegiamdmaaa
#print axioms Go.Proofs.Ytakelegiamdmaaa.fnExactFreeItems_holds
