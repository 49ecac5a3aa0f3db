/-
  FnExactResultLine, for every input: the law returns true and its arguments read afterwards as before. No condition; the package variables that the row lists hold what it says (the card ties that to the program text).
-/
import Derived.Test.YtciieaidbiejmaaDoorRows
import Derived.Test.YtciieaidbiejmaaDoorCards
import Derived.Test.YtciieaidbiejmaaDoorTie
import Derived.LaidMore
import Derived.SevenTiedAt
import Derived.Stop.Joined
import Derived.Test.YtciieaidbiejmaaDoorFOpen
import Derived.Test.YtciieaidbiejmaaDoorLResultLine
import Derived.WalkKit
import Derived.ProofKit
import Derived.OpenShut
import Derived.ShutString
import Derived.ChangeOld
import Derived.Below
import Derived.SizedLaws
import Derived.Carry
namespace Go.Proofs.YtciieaidbiejmaaDoor.fnExactResultLine
open Go.ChangeShapes Go.WideShapes Go.ChangeAt Go.RowKit
open Go.Proofs.YtciieaidbiejmaaDoor.DM
set_option linter.unusedVariables false
set_option linter.unusedSimpArgs false
theorem own : ownKnob Tryd.prog.godebug = none := by kernel_rfl
theorem laidOut : laidOutB Tryd.prog = true := by kernel_rfl
theorem door_met (os : Os) (args : Array Value) : laidMetH Tryd.prog Rows.fnExactResultLineRow.laid ((World.doorLaid Tryd.prog 24 os).forCall (fun _ _ => 0) ⟨#[], args, []⟩).memory :=
  laidMetH_of_parts3 (fuel := 8) (laidMet_of_run' 8 (by kernel_rfl) (by kernel_rfl)) (by kernel_rfl) (by kernel_rfl)
set_option maxRecDepth 100000 in
theorem lifted (os : Os) (started : os.Started) (H : Type) (enc : TypeId × Value → H) :
    ReturnsInHanded {} Tryd.checked os 5 .any (fun w args => (Rows.fnExactResultLineSpec.pre enc Tryd.prog Tryd.f5 [] false w args ∧ laidMetH Tryd.prog Rows.fnExactResultLineRow.laid w) ∧ sizedMet enc Tryd.prog Tryd.f5 (OpenSpec.ofChange Rows.fnExactResultLineSpec) false w args) (Rows.fnExactResultLineSpec.post enc Tryd.prog Tryd.f5 false true false false) := by
  refine returnsInHanded_of_change_and (C := Tryd.checked) (X := (fun w _ => laidMetH Tryd.prog Rows.fnExactResultLineRow.laid w)) (fun _ _ _ hh h => h.of_heap hh) own started (by kernel_rfl) Tryd.func5
    (ChangeSpec.witness_shaped (enc := enc) (C := Tryd.checked) (os := os) (X := (fun w _ => laidMetH Tryd.prog Rows.fnExactResultLineRow.laid w)) false (World.doorLaid Tryd.prog 24 os) #[.agg #[.int .i64 0, .string ByteArray.empty, .int .i64 0, .bool false, .slice none 0 0]] 8 rfl (World.shaped_of_RefB (by kernel_rfl) (by kernel_rfl)) (by kernel_rfl) (by kernel_rfl) (by kernel_rfl) (door_met os _)) ?_
  intro W base args ds gs before hval0 hW hcnd hsz0 hL _
  have hsz : (DataW.weightsEach Tryd.prog (Tryd.f5.params.toList ++ Rows.fnExactResultLineSpec.plain.varTypes Tryd.prog) (ds ++ gs)).all (· ≤ reachBytes) = true := hsz0
  have hval : ∀ (j : Nat) t v, Tryd.f5.params[j]? = some t → args[j]? = some v → Value.okWide Tryd.prog W .any base t v := hval0
  have hW' := hW
  obtain ⟨p, q, hA0, hV, rfl, hfz, hnd⟩ := hW
  have hA : DataW.TrodAll enc Tryd.prog W 0 (fun _ => true) true Tryd.f5.params.toList args.toList ds p := hA0
  rw [Tryd.params5] at hA hval hsz
  obtain ⟨v0, vs0, d0, ds0, p0, q0, hargs, rfl, rfl, h0, r0⟩ := trodAll_cons hA
  obtain ⟨rfl, rfl, rfl⟩ := trodAll_nil r0
  obtain rfl : args = #[v0] := by cases args; simp_all
  obtain ⟨rfl, rfl⟩ := trodVars_none hV
  have lt0 : ∀ x ∈ p0, x.block < W.heap.size := by obtain ⟨m, hm⟩ := h0; exact DataW.trod_lt m _ _ _ hm
  obtain ⟨cs0, rfl, -⟩ := okWide_struct Tryd.underlying39 (hval 0 39 v0 rfl rfl)
  obtain ⟨x0, K0, w0⟩ := opens_arg (opens_iso (r' := DM.Result.r) (wf' := DM.Row.ok 281474976710656) (fun (p : Int × ByteArray × Int × Bool × (List ByteArray)) => (⟨p.1, p.2.1, p.2.2.1, p.2.2.2.1, p.2.2.2.2⟩ : DM.Result)) (fun _ => rfl) (fun p (h : IntOk p.1 ∧ p.2.1.size ≤ 281474976710656 ∧ IntOk p.2.2.1 ∧ True ∧ okL 281474976710656 p.2.2.2.2) => ⟨h.1, h.2.1, h.2.2.1, h.2.2.2.2⟩) (opens_struct (z := 5) Tryd.underlying39 (by kernel_rfl) (at_cons (z := 1) (opens_int Tryd.underlying3) rfl (by kernel_rfl) (at_cons (z := 1) (opens_string Tryd.underlying9) rfl (by kernel_rfl) (at_cons (z := 1) (opens_int Tryd.underlying3) rfl (by kernel_rfl) (at_cons (z := 1) (opens_bool Tryd.underlying4) rfl (by kernel_rfl) (at_last (z := 1) (opens_slice (B := 16) Tryd.underlying37 (by kernel_rfl) (by kernel_rfl) (by decide) (opens_string Tryd.underlying9)) rfl (by kernel_rfl)))))))) hsz (j := 0) rfl rfl h0
  have hS := FnExactResultLine_spec x0 w0
  have htab : tabP W := by
    have h := hL
    rw [MakeChecks.laidMetH_plain _ _ _ (by kernel_rfl)] at h
    obtain ⟨ps, ⟨g0, t0, cs0, f0, p0_, q0_, hg0, ht0, hv0, hd0, ⟨g1, t1, cs1, f1, p1_, q1_, hg1, ht1, hv1, hd1, ⟨g2, t2, cs2, f2, p2_, q2_, hg2, ht2, hv2, hd2, _, _⟩, _⟩, _⟩, _⟩ := h
    obtain rfl := Option.some.inj ((show Tryd.prog.globalNamed "internal/strconv.uint64pow10" = some 6 by kernel_rfl).symm.trans hg2)
    obtain rfl := Option.some.inj ((show (Tryd.prog.globals[6]?).map (·.type) = some 303 by kernel_rfl).symm.trans ht2)
    have e_ := Lib.cells_of_tab (k := .u64) (zs := Lib.pow10Tab) Tryd.underlying303 Tryd.underlying268 (by kernel_rfl) (by kernel_rfl) hd2
    unfold tabP Lib.TabIs
    rw [hv2, ← e_]
  refine (hS.law W (vals := [.agg cs0]) rfl (fun i pa hp => ?_) (fun i pa v hp hv => ?_) htab).mono ?_
  · rcases i with _ | i
    · simp at hp; subst hp; exact ⟨rfl, fun k => by simp [argG, PC.gh]; try (split <;> first | rfl | (rename_i h; rcases k with _ | _ | _ | _ | _ | _ | _ | _ | _ | _ | _ | _ | _ | _ | _ | _ | _ | _ | _ | _ | k <;> simp at h <;> subst h <;> rfl))⟩
    simp at hp
  · rcases i with _ | i
    · simp at hp hv; subst hp; subst hv; exact arg_agg 0 (by simpa [Value.cells] using K0)
    simp at hp
  · intro e W' he
    obtain ⟨he, g1, g2, g3, g4, g5⟩ := he
    have bel : Below W.heap.size W W' := ⟨g3, g5, g4, g2, g1⟩
    subst he
    exact ⟨_, rfl, _, _, _, [], _, [], hW', trodAll_mk1 (shut_bool Tryd.underlying4 _), (trodAll_cons_mk (Below.trod laidOut (by kernel_rfl) (of_decide_eq_true (by kernel_rfl)) h0 bel lt0) trodAll_mk0), rfl, bel.frame _, fun h => by cases h⟩
theorem over : Rows.fnExactResultLineRow.holds Tryd.pinned (OpenSpec.ofChange Rows.fnExactResultLineSpec) :=
  OpenClaim.holds_of_wide 5 Tryd.f5 rfl rfl rfl rfl rfl rfl rfl ⟨rfl, rfl, rfl, rfl, rfl⟩ rfl rfl rfl rfl rfl (by kernel_rfl) Tryd.func5 (by kernel_rfl)
    (of_decide_eq_true (by kernel_rfl)) (by unfold Func.isWrapper; first | (rw [if_pos (by decide +kernel)]; kernel_rfl) | (rw [if_neg (by decide +kernel)]; exact ⟨rfl, rfl⟩))
    (fun os started H enc _ => lifted os started H enc)
theorem card_holds : Rows.FnExactResultLineCardSaid :=
  Claim7.holds_tied_plain_at .later [] [.data, .data, .data] true (true, "60a148868634384a79bf22eb806164cf14f870f9dc7b92f74d6a6953a609ad9b") true
    over (fun _ h => by cases h) (by kernel_rfl) (fun _ h => by cases h) fnExactResultLine_row_tie rfl ⟨rfl, rfl⟩ (by kernel_rfl) rfl
    (fun f fn hf hfn => by
      obtain rfl : f = 5 := Option.some.inj ((show Tryd.prog.funcNamed Rows.fnExactResultLineRow.func = some 5 by kernel_rfl).symm.trans hf) |>.symm
      obtain rfl : fn = Tryd.f5 := (Option.some.inj (Tryd.func5.symm.trans hfn)).symm
      exact ⟨by kernel_rfl, fun j t ht => by
        have ht : Tryd.f5.params[j]? = some t := ht
        rw [Tryd.params5] at ht
        have hm : t ∈ [39] := by simpa using Array.mem_of_getElem? ht
        have hall : ([39].all fun u => !Tryd.prog.wantsStandIn u) = true := by kernel_rfl
        exact (show Tryd.prog.wantsStandIn t = false by simpa using List.all_eq_true.1 hall t hm)⟩)
    (by kernel_rfl)
theorem proved : Rows.FnExactResultLineCardSaid := card_holds
end Go.Proofs.YtciieaidbiejmaaDoor.fnExactResultLine
namespace Go.Proofs.YtciieaidbiejmaaDoor
/-- The row, under a short name, for the claim. -/
theorem fnExactResultLine_holds : Rows.FnExactResultLineCardSaid := fnExactResultLine.proved
end Go.Proofs.YtciieaidbiejmaaDoor
#print axioms Go.Proofs.YtciieaidbiejmaaDoor.fnExactResultLine_holds
