/-
  FnExactIdleIn, for every input: the law returns true and its arguments read afterwards as before. No condition.
-/
import Derived.Test.YtjjdjkkhhcbogaaRows
import Derived.Test.YtjjdjkkhhcbogaaFOpen
import Derived.Test.YtjjdjkkhhcbogaaLIdleIn
import Derived.WalkKit
import Derived.ProofKit
import Derived.OpenShut
import Derived.ShutString
import Derived.ChangeOld
import Derived.Below
import Derived.SizedLaws
import Derived.Carry
namespace Go.Proofs.Ytjjdjkkhhcbogaa.fnExactIdleIn
open Go.ChangeShapes Go.WideShapes Go.ChangeAt Go.RowKit
open Go.Proofs.Ytjjdjkkhhcbogaa.DM
set_option linter.unusedVariables false
set_option linter.unusedSimpArgs false
theorem own : ownKnob Try.prog.godebug = none := by kernel_rfl
theorem laidOut : laidOutB Try.prog = true := by kernel_rfl
set_option maxRecDepth 100000 in
theorem lifted (os : Os) (started : os.Started) (H : Type) (enc : TypeId × Value → H) :
    ReturnsInHanded {} Try.checked os 8 .any (Rows.fnExactIdleInSpec.pre6 enc Try.prog Try.f8 Rows.fnExactIdleInRow.domain false) (Rows.fnExactIdleInSpec.post enc Try.prog Try.f8 false true false false) := by
  refine returnsInHanded_of_change_sized (C := Try.checked) own started (by kernel_rfl) Try.func8
    (ChangeSpec.witness6 (enc := enc) (C := Try.checked) false ⟨#[], #[.agg #[.int .i64 0, .int .i64 0, .int .i64 0, .int .i64 0, .string ByteArray.empty, .slice none 0 0, .slice none 0 0, .slice none 0 0]], []⟩ 8 (by kernel_rfl) (by kernel_rfl) (by kernel_rfl) (by kernel_rfl)) ?_
  intro W base args ds gs before hval0 hW hcnd hsz0 _
  have hsz : (DataW.weightsEach Try.prog (Try.f8.params.toList ++ Rows.fnExactIdleInSpec.plain.varTypes Try.prog) (ds ++ gs)).all (· ≤ reachBytes) = true := hsz0
  have hval : ∀ (j : Nat) t v, Try.f8.params[j]? = some t → args[j]? = some v → Value.okWide Try.prog W .any base t v := hval0
  have hW' := hW
  obtain ⟨p, q, hA0, hV, rfl, hfz, hnd⟩ := hW
  have hA : DataW.TrodAll enc Try.prog W 0 (fun _ => true) true Try.f8.params.toList args.toList ds p := hA0
  rw [Try.params8] at hA hval hsz
  obtain ⟨v0, vs0, d0, ds0, p0, q0, hargs, rfl, rfl, h0, r0⟩ := trodAll_cons hA
  obtain ⟨rfl, rfl, rfl⟩ := trodAll_nil r0
  obtain rfl : args = #[v0] := by cases args; simp_all
  obtain ⟨rfl, rfl⟩ := trodVars_none hV
  have lt0 : ∀ x ∈ p0, x.block < W.heap.size := by obtain ⟨m, hm⟩ := h0; exact DataW.trod_lt m _ _ _ hm
  obtain ⟨cs0, rfl, -⟩ := okWide_struct Try.underlying82 (hval 0 82 v0 rfl rfl)
  obtain ⟨x0, K0, w0⟩ := opens_arg (opens_iso (r' := DM.System.r) (wf' := DM.Row.ok 281474976710656) (fun (p : DM.Geo × DM.Memory × (List DM.Job) × (List DM.Sealing)) => (⟨p.1, p.2.1, p.2.2.1, p.2.2.2⟩ : DM.System)) (fun _ => rfl) (fun p (h : DM.Row.ok 281474976710656 p.1 ∧ DM.Row.ok 281474976710656 p.2.1 ∧ okL 281474976710656 p.2.2.1 ∧ okL 281474976710656 p.2.2.2) => ⟨h.1, h.2.1, h.2.2.1, h.2.2.2⟩) (opens_struct (z := 8) Try.underlying82 (by kernel_rfl) (at_cons (z := 4) (opens_iso (r' := DM.Geo.r) (wf' := DM.Row.ok 281474976710656) (fun (p : Int × Int × Int × Int) => (⟨p.1, p.2.1, p.2.2.1, p.2.2.2⟩ : DM.Geo)) (fun _ => rfl) (fun p (h : IntOk p.1 ∧ IntOk p.2.1 ∧ IntOk p.2.2.1 ∧ IntOk p.2.2.2) => ⟨h.1, h.2.1, h.2.2.1, h.2.2.2⟩) (opens_struct (z := 4) Try.underlying78 (by kernel_rfl) (at_cons (z := 1) (opens_int Try.underlying3) rfl (by kernel_rfl) (at_cons (z := 1) (opens_int Try.underlying3) rfl (by kernel_rfl) (at_cons (z := 1) (opens_int Try.underlying3) rfl (by kernel_rfl) (at_last (z := 1) (opens_int Try.underlying3) rfl (by kernel_rfl))))))) rfl (by kernel_rfl) (at_cons (z := 2) (opens_iso (r' := DM.Memory.r) (wf' := DM.Row.ok 281474976710656) (fun (p : ByteArray × (List DM.Cell)) => (⟨p.1, p.2⟩ : DM.Memory)) (fun _ => rfl) (fun p (h : p.1.size ≤ 281474976710656 ∧ okL 281474976710656 p.2) => ⟨h.1, h.2⟩) (opens_struct (z := 2) Try.underlying24 (by kernel_rfl) (at_cons (z := 1) (opens_string Try.underlying9) rfl (by kernel_rfl) (at_last (z := 1) (opens_slice (B := 32) Try.underlying22 (by kernel_rfl) (by kernel_rfl) (by decide) (opens_iso (r' := DM.Cell.r) (wf' := DM.Row.ok 281474976710656) (fun (p : Int × ByteArray × Bool) => (⟨p.1, p.2.1, p.2.2⟩ : DM.Cell)) (fun _ => rfl) (fun p (h : IntOk p.1 ∧ p.2.1.size ≤ 281474976710656 ∧ True) => ⟨h.1, h.2.1⟩) (opens_struct (z := 3) Try.underlying151 (by kernel_rfl) (at_cons (z := 1) (opens_int Try.underlying3) rfl (by kernel_rfl) (at_cons (z := 1) (opens_string Try.underlying9) rfl (by kernel_rfl) (at_last (z := 1) (opens_bool Try.underlying4) rfl (by kernel_rfl))))))) rfl (by kernel_rfl))))) rfl (by kernel_rfl) (at_cons (z := 1) (opens_slice (B := 200) Try.underlying79 (by kernel_rfl) (by kernel_rfl) (by decide) (opens_iso (r' := DM.Job.r) (wf' := DM.Row.ok 281474976710656) (fun (p : DM.Ask × DM.Result × (List DM.Step) × (List DM.Sealing) × Int × Bool × Bool) => (⟨p.1, p.2.1, p.2.2.1, p.2.2.2.1, p.2.2.2.2.1, p.2.2.2.2.2.1, p.2.2.2.2.2.2⟩ : DM.Job)) (fun _ => rfl) (fun p (h : DM.Row.ok 281474976710656 p.1 ∧ DM.Row.ok 281474976710656 p.2.1 ∧ okL 281474976710656 p.2.2.1 ∧ okL 281474976710656 p.2.2.2.1 ∧ IntOk p.2.2.2.2.1 ∧ True ∧ True) => ⟨h.1, h.2.1, h.2.2.1, h.2.2.2.1, h.2.2.2.2.1⟩) (opens_struct (z := 16) Try.underlying175 (by kernel_rfl) (at_cons (z := 6) (opens_iso (r' := DM.Ask.r) (wf' := DM.Row.ok 281474976710656) (fun (p : Int × ByteArray × ByteArray × Int × Int × ByteArray) => (⟨p.1, p.2.1, p.2.2.1, p.2.2.2.1, p.2.2.2.2.1, p.2.2.2.2.2⟩ : DM.Ask)) (fun _ => rfl) (fun p (h : IntOk p.1 ∧ p.2.1.size ≤ 281474976710656 ∧ p.2.2.1.size ≤ 281474976710656 ∧ IntOk p.2.2.2.1 ∧ IntOk p.2.2.2.2.1 ∧ p.2.2.2.2.2.size ≤ 281474976710656) => ⟨h.1, h.2.1, h.2.2.1, h.2.2.2.1, h.2.2.2.2.1, h.2.2.2.2.2⟩) (opens_struct (z := 6) Try.underlying173 (by kernel_rfl) (at_cons (z := 1) (opens_int Try.underlying3) rfl (by kernel_rfl) (at_cons (z := 1) (opens_string Try.underlying9) rfl (by kernel_rfl) (at_cons (z := 1) (opens_string Try.underlying9) rfl (by kernel_rfl) (at_cons (z := 1) (opens_int Try.underlying3) rfl (by kernel_rfl) (at_cons (z := 1) (opens_int Try.underlying3) rfl (by kernel_rfl) (at_last (z := 1) (opens_string Try.underlying9) rfl (by kernel_rfl))))))))) rfl (by kernel_rfl) (at_cons (z := 5) (opens_iso (r' := DM.Result.r) (wf' := DM.Row.ok 281474976710656) (fun (p : Int × ByteArray × Int × Bool × (List ByteArray)) => (⟨p.1, p.2.1, p.2.2.1, p.2.2.2.1, p.2.2.2.2⟩ : DM.Result)) (fun _ => rfl) (fun p (h : IntOk p.1 ∧ p.2.1.size ≤ 281474976710656 ∧ IntOk p.2.2.1 ∧ True ∧ okL 281474976710656 p.2.2.2.2) => ⟨h.1, h.2.1, h.2.2.1, h.2.2.2.2⟩) (opens_struct (z := 5) Try.underlying125 (by kernel_rfl) (at_cons (z := 1) (opens_int Try.underlying3) rfl (by kernel_rfl) (at_cons (z := 1) (opens_string Try.underlying9) rfl (by kernel_rfl) (at_cons (z := 1) (opens_int Try.underlying3) rfl (by kernel_rfl) (at_cons (z := 1) (opens_bool Try.underlying4) rfl (by kernel_rfl) (at_last (z := 1) (opens_slice (B := 16) Try.underlying123 (by kernel_rfl) (by kernel_rfl) (by decide) (opens_string Try.underlying9)) rfl (by kernel_rfl)))))))) rfl (by kernel_rfl) (at_cons (z := 1) (opens_slice (B := 32) Try.underlying39 (by kernel_rfl) (by kernel_rfl) (by decide) (opens_iso (r' := DM.Step.r) (wf' := DM.Row.ok 281474976710656) (fun (p : Int × Int × ByteArray) => (⟨p.1, p.2.1, p.2.2⟩ : DM.Step)) (fun _ => rfl) (fun p (h : IntOk p.1 ∧ IntOk p.2.1 ∧ p.2.2.size ≤ 281474976710656) => ⟨h.1, h.2.1, h.2.2⟩) (opens_struct (z := 3) Try.underlying26 (by kernel_rfl) (at_cons (z := 1) (opens_int Try.underlying3) rfl (by kernel_rfl) (at_cons (z := 1) (opens_int Try.underlying3) rfl (by kernel_rfl) (at_last (z := 1) (opens_string Try.underlying9) rfl (by kernel_rfl))))))) rfl (by kernel_rfl) (at_cons (z := 1) (opens_slice (B := 48) Try.underlying80 (by kernel_rfl) (by kernel_rfl) (by decide) (opens_iso (r' := DM.Sealing.r) (wf' := DM.Row.ok 281474976710656) (fun (p : ByteArray × ByteArray × ByteArray) => (⟨p.1, p.2.1, p.2.2⟩ : DM.Sealing)) (fun _ => rfl) (fun p (h : p.1.size ≤ 281474976710656 ∧ p.2.1.size ≤ 281474976710656 ∧ p.2.2.size ≤ 281474976710656) => ⟨h.1, h.2.1, h.2.2⟩) (opens_struct (z := 3) Try.underlying178 (by kernel_rfl) (at_cons (z := 1) (opens_string Try.underlying9) rfl (by kernel_rfl) (at_cons (z := 1) (opens_string Try.underlying9) rfl (by kernel_rfl) (at_last (z := 1) (opens_string Try.underlying9) rfl (by kernel_rfl))))))) rfl (by kernel_rfl) (at_cons (z := 1) (opens_int Try.underlying3) rfl (by kernel_rfl) (at_cons (z := 1) (opens_bool Try.underlying4) rfl (by kernel_rfl) (at_last (z := 1) (opens_bool Try.underlying4) rfl (by kernel_rfl))))))))))) rfl (by kernel_rfl) (at_last (z := 1) (opens_slice (B := 48) Try.underlying80 (by kernel_rfl) (by kernel_rfl) (by decide) (opens_iso (r' := DM.Sealing.r) (wf' := DM.Row.ok 281474976710656) (fun (p : ByteArray × ByteArray × ByteArray) => (⟨p.1, p.2.1, p.2.2⟩ : DM.Sealing)) (fun _ => rfl) (fun p (h : p.1.size ≤ 281474976710656 ∧ p.2.1.size ≤ 281474976710656 ∧ p.2.2.size ≤ 281474976710656) => ⟨h.1, h.2.1, h.2.2⟩) (opens_struct (z := 3) Try.underlying178 (by kernel_rfl) (at_cons (z := 1) (opens_string Try.underlying9) rfl (by kernel_rfl) (at_cons (z := 1) (opens_string Try.underlying9) rfl (by kernel_rfl) (at_last (z := 1) (opens_string Try.underlying9) rfl (by kernel_rfl))))))) rfl (by kernel_rfl))))))) hsz (j := 0) rfl rfl h0
  have hS := FnExactIdleIn_spec x0 w0
  refine (hS.law W (vals := [.agg cs0]) rfl (fun i pa hp => ?_) (fun i pa v hp hv => ?_)).mono ?_
  · rcases i with _ | i
    · simp at hp; subst hp; exact ⟨rfl, fun k => by simp [argG, PC.gh]; try (split <;> first | rfl | (rename_i h; rcases k with _ | _ | _ | _ | _ | _ | _ | _ | _ | _ | _ | _ | _ | _ | _ | _ | _ | _ | _ | _ | k <;> simp at h <;> subst h <;> rfl))⟩
    simp at hp
  · rcases i with _ | i
    · simp at hp hv; subst hp; subst hv; exact arg_agg 0 (by simpa [Value.cells] using K0)
    simp at hp
  · intro e W' he
    obtain ⟨he, g1, g2, g3, g4, g5⟩ := he
    have bel : Below W.heap.size W W' := ⟨g3, g5, g4, g2, g1⟩
    subst he
    exact ⟨_, rfl, _, _, _, [], _, [], hW', trodAll_mk1 (shut_bool Try.underlying4 _), (trodAll_cons_mk (Below.trod laidOut (by kernel_rfl) (of_decide_eq_true (by kernel_rfl)) h0 bel lt0) trodAll_mk0), rfl, bel.frame _, fun h => by cases h⟩
theorem over : Rows.fnExactIdleInRow.holds Try.pinned (OpenSpec.ofChange Rows.fnExactIdleInSpec) :=
  OpenClaim.holds_of_wide 8 Try.f8 rfl rfl rfl rfl rfl rfl rfl ⟨rfl, rfl, rfl, rfl, rfl⟩ rfl rfl rfl rfl rfl (by kernel_rfl) Try.func8 (by kernel_rfl)
    (of_decide_eq_true (by kernel_rfl)) (by unfold Func.isWrapper; first | (rw [if_pos (by decide +kernel)]; kernel_rfl) | (rw [if_neg (by decide +kernel)]; exact ⟨rfl, rfl⟩))
    (fun os started H enc _ => lifted os started H enc)
theorem proved : Rows.FnExactIdleInSaid := over
end Go.Proofs.Ytjjdjkkhhcbogaa.fnExactIdleIn
namespace Go.Proofs.Ytjjdjkkhhcbogaa
/-- The row, under a short name, for the claim. -/
theorem fnExactIdleIn_holds : Rows.FnExactIdleInSaid := fnExactIdleIn.proved
end Go.Proofs.Ytjjdjkkhhcbogaa
#print axioms Go.Proofs.Ytjjdjkkhhcbogaa.fnExactIdleIn_holds
