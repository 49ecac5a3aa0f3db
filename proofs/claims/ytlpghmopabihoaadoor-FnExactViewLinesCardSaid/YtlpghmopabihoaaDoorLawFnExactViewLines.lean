/-
  FnExactViewLines, for every input: the law returns true and its arguments read afterwards as before. No condition; the package variables that the row lists hold what it says (the card ties that to the program text).
-/
import Derived.Test.YtlpghmopabihoaaDoorRows
import Derived.Test.YtlpghmopabihoaaDoorCards
import Derived.Test.YtlpghmopabihoaaDoorTie
import Derived.Test.YtlpghmopabihoaaDoorPureFnExactViewLines
import Derived.LaidMore
import Derived.SevenTiedAt
import Derived.Stop.Joined
import Derived.WalkKit
import Derived.ProofKit
import Derived.OpenShut
import Derived.ShutString
import Derived.ChangeOld
import Derived.Below
import Derived.SizedLaws
import Derived.Carry
namespace Go.Proofs.YtlpghmopabihoaaDoor.fnExactViewLines
open Go.ChangeShapes Go.WideShapes Go.ChangeAt Go.RowKit
open Go.Proofs.YtlpghmopabihoaaDoor.Opens Go.Proofs.YtlpghmopabihoaaDoorW.PrintWords Go.Proofs.YtlpghmopabihoaaDoor.QFnExactViewLines
set_option linter.unusedVariables false
set_option linter.unusedSimpArgs false
theorem own : ownKnob Tryd.prog.godebug = none := by kernel_rfl
theorem laidOut : laidOutB Tryd.prog = true := by kernel_rfl
theorem door_met (os : Os) (args : Array Value) : laidMetH Tryd.prog Rows.fnExactViewLinesRow.laid ((World.doorLaid Tryd.prog 24 os).forCall (fun _ _ => 0) ⟨#[], args, []⟩).memory :=
  laidMetH_of_parts3 (fuel := 8) (laidMet_of_run' 8 (by kernel_rfl) (by kernel_rfl)) (by kernel_rfl) (by kernel_rfl)
set_option maxRecDepth 100000 in
theorem lifted (os : Os) (started : os.Started) (H : Type) (enc : TypeId × Value → H) :
    ReturnsInHanded {} Tryd.checked os 3 .any (fun w args => (Rows.fnExactViewLinesSpec.pre enc Tryd.prog Tryd.f3 [] false w args ∧ laidMetH Tryd.prog Rows.fnExactViewLinesRow.laid w) ∧ sizedMet enc Tryd.prog Tryd.f3 (OpenSpec.ofChange Rows.fnExactViewLinesSpec) false w args) (Rows.fnExactViewLinesSpec.post enc Tryd.prog Tryd.f3 false true false false) := by
  refine returnsInHanded_of_change_and (C := Tryd.checked) (X := (fun w _ => laidMetH Tryd.prog Rows.fnExactViewLinesRow.laid w)) (fun _ _ _ hh h => h.of_heap hh) own started (by kernel_rfl) Tryd.func3
    (ChangeSpec.witness_shaped (enc := enc) (C := Tryd.checked) (os := os) (X := (fun w _ => laidMetH Tryd.prog Rows.fnExactViewLinesRow.laid w)) false (World.doorLaid Tryd.prog 24 os) #[.agg #[.slice none 0 0]] 8 rfl (World.shaped_of_RefB (by kernel_rfl) (by kernel_rfl)) (by kernel_rfl) (by kernel_rfl) (by kernel_rfl) (door_met os _)) ?_
  intro W base args ds gs before hval0 hW hcnd hsz0 hL _
  have hsz : (DataW.weightsEach Tryd.prog (Tryd.f3.params.toList ++ Rows.fnExactViewLinesSpec.plain.varTypes Tryd.prog) (ds ++ gs)).all (· ≤ reachBytes) = true := hsz0
  have hval : ∀ (j : Nat) t v, Tryd.f3.params[j]? = some t → args[j]? = some v → Value.okWide Tryd.prog W .any base t v := hval0
  have hW' := hW
  obtain ⟨p, q, hA0, hV, rfl, hfz, hnd⟩ := hW
  have hA : DataW.TrodAll enc Tryd.prog W 0 (fun _ => true) true Tryd.f3.params.toList args.toList ds p := hA0
  rw [Tryd.params3] at hA hval hsz
  obtain ⟨v0, vs0, d0, ds0, p0, q0, hargs, rfl, rfl, h0, r0⟩ := trodAll_cons hA
  obtain ⟨rfl, rfl, rfl⟩ := trodAll_nil r0
  obtain rfl : args = #[v0] := by cases args; simp_all
  obtain ⟨rfl, rfl⟩ := trodVars_none hV
  have lt0 : ∀ x ∈ p0, x.block < W.heap.size := by obtain ⟨m, hm⟩ := h0; exact DataW.trod_lt m _ _ _ hm
  obtain ⟨cs0, rfl, -⟩ := okWide_struct Tryd.underlying24 (hval 0 24 v0 rfl rfl)
  obtain ⟨l0_0, K0, w0⟩ := opens_arg (opens_struct Tryd.underlying24 (by kernel_rfl) (at_last (opens_slice (B := 40) Tryd.underlying22 (by kernel_rfl) (by kernel_rfl) opens80) rfl (by kernel_rfl))) hsz (j := 0) rfl rfl h0
  obtain ⟨A0_0, c0_0, E0, hc0_0, hr0_0⟩ := K0
  obtain rfl := agg_of (l := [.slice A0_0 l0_0.length c0_0]) E0
  have y0_0 := w0
  have HP := Go.Proofs.YtlpghmopabihoaaDoor.Pure.FnExactViewLines l0_0 y0_0
  obtain ⟨k, HP⟩ := HP
  have htab : TabW W := by
    have h := hL
    rw [MakeChecks.laidMetH_plain _ _ _ (by kernel_rfl)] at h
    obtain ⟨ps, ⟨g0, t0, cs0, f0, p0_, q0_, hg0, ht0, hv0, hd0, ⟨g1, t1, cs1, f1, p1_, q1_, hg1, ht1, hv1, hd1, ⟨g2, t2, cs2, f2, p2_, q2_, hg2, ht2, hv2, hd2, _, _⟩, _⟩, _⟩, _⟩ := h
    obtain rfl := Option.some.inj ((show Tryd.prog.globalNamed "internal/strconv.uint64pow10" = some 1 by kernel_rfl).symm.trans hg2)
    obtain rfl := Option.some.inj ((show (Tryd.prog.globals[1]?).map (·.type) = some 112 by kernel_rfl).symm.trans ht2)
    have e_ := Lib.cells_of_tab (k := .u64) (zs := Lib.pow10Tab) Tryd.underlying112 Tryd.underlying105 (by kernel_rfl) (by kernel_rfl) hd2
    unfold TabW Lib.TabIs
    rw [hv2, ← e_]
  refine (laws_FnExactViewLines.calls (k := k) (r := true) (w := W) (hr0_0 := hr0_0) (hc0_0 := hc0_0) (h := HP) (hT := htab)).mono fun e W' ⟨he, bel0⟩ => ?_
  have bel : Below W.heap.size W W' := by first | exact bel0 | exact bel0.below
  subst he
  exact ⟨_, rfl, _, _, _, [], _, [], hW', trodAll_mk1 (shut_bool Tryd.underlying4 _), (trodAll_cons_mk (Below.trod laidOut (by kernel_rfl) (of_decide_eq_true (by kernel_rfl)) h0 bel lt0) trodAll_mk0), rfl, bel.frame _, fun h => by cases h⟩
theorem over : Rows.fnExactViewLinesRow.holds Tryd.pinned (OpenSpec.ofChange Rows.fnExactViewLinesSpec) :=
  OpenClaim.holds_of_wide 3 Tryd.f3 rfl rfl rfl rfl rfl rfl rfl ⟨rfl, rfl, rfl, rfl, rfl⟩ rfl rfl rfl rfl rfl (by kernel_rfl) Tryd.func3 (by kernel_rfl)
    (of_decide_eq_true (by kernel_rfl)) (by unfold Func.isWrapper; first | (rw [if_pos (by decide +kernel)]; kernel_rfl) | (rw [if_neg (by decide +kernel)]; exact ⟨rfl, rfl⟩))
    (fun os started H enc _ => lifted os started H enc)
theorem card_holds : Rows.FnExactViewLinesCardSaid :=
  Claim7.holds_tied_plain_at .later [] [.data, .data, .data] true (true, "1d9bfd94fc83735df255aba23d8aaa3187f31a0051fddf18bbaff946bc42b165") false
    over (fun _ h => by cases h) (by kernel_rfl) (fun _ h => by cases h) fnExactViewLines_row_tie rfl ⟨rfl, rfl⟩ (by kernel_rfl) rfl
    (fun f fn hf hfn => by
      obtain rfl : f = 3 := Option.some.inj ((show Tryd.prog.funcNamed Rows.fnExactViewLinesRow.func = some 3 by kernel_rfl).symm.trans hf) |>.symm
      obtain rfl : fn = Tryd.f3 := (Option.some.inj (Tryd.func3.symm.trans hfn)).symm
      exact ⟨by kernel_rfl, fun j t ht => by
        have ht : Tryd.f3.params[j]? = some t := ht
        rw [Tryd.params3] at ht
        have hm : t ∈ [24] := by simpa using Array.mem_of_getElem? ht
        have hall : ([24].all fun u => !Tryd.prog.wantsStandIn u) = true := by kernel_rfl
        exact (show Tryd.prog.wantsStandIn t = false by simpa using List.all_eq_true.1 hall t hm)⟩)
    (by kernel_rfl)
theorem proved : Rows.FnExactViewLinesCardSaid := card_holds
end Go.Proofs.YtlpghmopabihoaaDoor.fnExactViewLines
namespace Go.Proofs.YtlpghmopabihoaaDoor
/-- The row, under a short name, for the claim. -/
theorem fnExactViewLines_holds : Rows.FnExactViewLinesCardSaid := fnExactViewLines.proved
end Go.Proofs.YtlpghmopabihoaaDoor
#print axioms Go.Proofs.YtlpghmopabihoaaDoor.fnExactViewLines_holds
