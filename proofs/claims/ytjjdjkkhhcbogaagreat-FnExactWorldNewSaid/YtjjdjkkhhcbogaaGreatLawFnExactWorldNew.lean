/-
  FnExactWorldNew, for every input: the law returns true and its arguments read afterwards as before. No condition.
-/
import Derived.Test.YtjjdjkkhhcbogaaGreatRows
import Derived.Test.YtjjdjkkhhcbogaaGreatFOpen
import Derived.Test.YtjjdjkkhhcbogaaGreatLWorldNew
import Derived.WalkKit
import Derived.ProofKit
import Derived.OpenShut
import Derived.ShutString
import Derived.ChangeOld
import Derived.Below
import Derived.SizedLaws
import Derived.Carry
namespace Go.Proofs.YtjjdjkkhhcbogaaGreat.fnExactWorldNew
open Go.ChangeShapes Go.WideShapes Go.ChangeAt Go.RowKit
open Go.Proofs.YtjjdjkkhhcbogaaGreat.DM
set_option linter.unusedVariables false
set_option linter.unusedSimpArgs false
theorem own : ownKnob Tryz.prog.godebug = none := by kernel_rfl
theorem laidOut : laidOutB Tryz.prog = true := by kernel_rfl
set_option maxRecDepth 100000 in
theorem lifted (os : Os) (started : os.Started) (H : Type) (enc : TypeId × Value → H) :
    ReturnsInHanded {} Tryz.checked os 6 .any (Rows.fnExactWorldNewSpec.pre6 enc Tryz.prog Tryz.f6 Rows.fnExactWorldNewRow.domain false) (Rows.fnExactWorldNewSpec.post enc Tryz.prog Tryz.f6 false true false false) := by
  refine returnsInHanded_of_change_sized (C := Tryz.checked) own started (by kernel_rfl) Tryz.func6
    (ChangeSpec.witness6 (enc := enc) (C := Tryz.checked) false ⟨#[], #[.agg #[.int .i64 0, .int .i64 0, .int .i64 0, .int .i64 0]], []⟩ 8 (by kernel_rfl) (by kernel_rfl) (by kernel_rfl) (by kernel_rfl)) ?_
  intro W base args ds gs before hval0 hW hcnd hsz0 _
  have hsz : (DataW.weightsEach Tryz.prog (Tryz.f6.params.toList ++ Rows.fnExactWorldNewSpec.plain.varTypes Tryz.prog) (ds ++ gs)).all (· ≤ reachBytes) = true := hsz0
  have hval : ∀ (j : Nat) t v, Tryz.f6.params[j]? = some t → args[j]? = some v → Value.okWide Tryz.prog W .any base t v := hval0
  have hW' := hW
  obtain ⟨p, q, hA0, hV, rfl, hfz, hnd⟩ := hW
  have hA : DataW.TrodAll enc Tryz.prog W 0 (fun _ => true) true Tryz.f6.params.toList args.toList ds p := hA0
  rw [Tryz.params6] at hA hval hsz
  obtain ⟨v0, vs0, d0, ds0, p0, q0, hargs, rfl, rfl, h0, r0⟩ := trodAll_cons hA
  obtain ⟨rfl, rfl, rfl⟩ := trodAll_nil r0
  obtain rfl : args = #[v0] := by cases args; simp_all
  obtain ⟨rfl, rfl⟩ := trodVars_none hV
  have lt0 : ∀ x ∈ p0, x.block < W.heap.size := by obtain ⟨m, hm⟩ := h0; exact DataW.trod_lt m _ _ _ hm
  obtain ⟨cs0, rfl, -⟩ := okWide_struct Tryz.underlying23 (hval 0 23 v0 rfl rfl)
  obtain ⟨x0, K0, w0⟩ := opens_arg (opens_iso (r' := DM.Geo.r) (wf' := DM.Row.ok 281474976710656) (fun (p : Int × Int × Int × Int) => (⟨p.1, p.2.1, p.2.2.1, p.2.2.2⟩ : DM.Geo)) (fun _ => rfl) (fun p (h : IntOk p.1 ∧ IntOk p.2.1 ∧ IntOk p.2.2.1 ∧ IntOk p.2.2.2) => ⟨h.1, h.2.1, h.2.2.1, h.2.2.2⟩) (opens_struct (z := 4) Tryz.underlying23 (by kernel_rfl) (at_cons (z := 1) (opens_int Tryz.underlying3) rfl (by kernel_rfl) (at_cons (z := 1) (opens_int Tryz.underlying3) rfl (by kernel_rfl) (at_cons (z := 1) (opens_int Tryz.underlying3) rfl (by kernel_rfl) (at_last (z := 1) (opens_int Tryz.underlying3) rfl (by kernel_rfl))))))) hsz (j := 0) rfl rfl h0
  have hS := FnExactWorldNew_spec x0 
  refine (hS.law W (vals := [.agg cs0]) rfl (fun i pa hp => ?_) (fun i pa v hp hv => ?_)).mono ?_
  · rcases i with _ | i
    · simp at hp; subst hp; exact ⟨rfl, fun k => by simp [argG, PC.gh]; try (split <;> first | rfl | (rename_i h; rcases k with _ | _ | _ | _ | _ | _ | _ | _ | _ | _ | _ | _ | _ | _ | _ | _ | _ | _ | _ | _ | k <;> simp at h <;> subst h <;> rfl))⟩
    simp at hp
  · rcases i with _ | i
    · simp at hp hv; subst hp; subst hv; exact arg_agg 0 (by simpa [Value.cells] using K0)
    simp at hp
  · intro e W' he
    obtain ⟨he, g1, g2, g3, g4, g5⟩ := he
    have bel : Below W.heap.size W W' := ⟨g3, g5, g4, g2, g1⟩
    subst he
    exact ⟨_, rfl, _, _, _, [], _, [], hW', trodAll_mk1 (shut_bool Tryz.underlying4 _), (trodAll_cons_mk (Below.trod laidOut (by kernel_rfl) (of_decide_eq_true (by kernel_rfl)) h0 bel lt0) trodAll_mk0), rfl, bel.frame _, fun h => by cases h⟩
theorem over : Rows.fnExactWorldNewRow.holds Tryz.pinned (OpenSpec.ofChange Rows.fnExactWorldNewSpec) :=
  OpenClaim.holds_of_wide 6 Tryz.f6 rfl rfl rfl rfl rfl rfl rfl ⟨rfl, rfl, rfl, rfl, rfl⟩ rfl rfl rfl rfl rfl (by kernel_rfl) Tryz.func6 (by kernel_rfl)
    (of_decide_eq_true (by kernel_rfl)) (by unfold Func.isWrapper; first | (rw [if_pos (by decide +kernel)]; kernel_rfl) | (rw [if_neg (by decide +kernel)]; exact ⟨rfl, rfl⟩))
    (fun os started H enc _ => lifted os started H enc)
theorem proved : Rows.FnExactWorldNewSaid := over
end Go.Proofs.YtjjdjkkhhcbogaaGreat.fnExactWorldNew
namespace Go.Proofs.YtjjdjkkhhcbogaaGreat
/-- The row, under a short name, for the claim. -/
theorem fnExactWorldNew_holds : Rows.FnExactWorldNewSaid := fnExactWorldNew.proved
end Go.Proofs.YtjjdjkkhhcbogaaGreat
#print axioms Go.Proofs.YtjjdjkkhhcbogaaGreat.fnExactWorldNew_holds
