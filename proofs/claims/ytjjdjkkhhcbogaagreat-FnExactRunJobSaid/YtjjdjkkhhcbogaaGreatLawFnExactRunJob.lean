/-
  FnExactRunJob, for every input: the law returns true and its arguments read afterwards as before. No condition.
-/
import Derived.Test.YtjjdjkkhhcbogaaGreatRows
import Derived.Test.YtjjdjkkhhcbogaaGreatFOpen
import Derived.Test.YtjjdjkkhhcbogaaGreatLRunJob
import Derived.WalkKit
import Derived.ProofKit
import Derived.OpenShut
import Derived.ShutString
import Derived.ChangeOld
import Derived.Below
import Derived.SizedLaws
import Derived.Carry
namespace Go.Proofs.YtjjdjkkhhcbogaaGreat.fnExactRunJob
open Go.ChangeShapes Go.WideShapes Go.ChangeAt Go.RowKit
open Go.Proofs.YtjjdjkkhhcbogaaGreat.DM
set_option linter.unusedVariables false
set_option linter.unusedSimpArgs false
theorem own : ownKnob Tryz.prog.godebug = none := by kernel_rfl
theorem laidOut : laidOutB Tryz.prog = true := by kernel_rfl
set_option maxRecDepth 100000 in
theorem lifted (os : Os) (started : os.Started) (H : Type) (enc : TypeId × Value → H) :
    ReturnsInHanded {} Tryz.checked os 8 .any (Rows.fnExactRunJobSpec.pre6 enc Tryz.prog Tryz.f8 Rows.fnExactRunJobRow.domain false) (Rows.fnExactRunJobSpec.post enc Tryz.prog Tryz.f8 false true false false) := by
  refine returnsInHanded_of_change_sized (C := Tryz.checked) own started (by kernel_rfl) Tryz.func8
    (ChangeSpec.witness6 (enc := enc) (C := Tryz.checked) false ⟨#[], #[.agg #[.int .i64 0, .int .i64 0, .int .i64 0, .int .i64 0, .string ByteArray.empty, .slice none 0 0, .slice none 0 0, .slice none 0 0], .int .i64 0], []⟩ 8 (by kernel_rfl) (by kernel_rfl) (by kernel_rfl) (by kernel_rfl)) ?_
  intro W base args ds gs before hval0 hW hcnd hsz0 _
  have hsz : (DataW.weightsEach Tryz.prog (Tryz.f8.params.toList ++ Rows.fnExactRunJobSpec.plain.varTypes Tryz.prog) (ds ++ gs)).all (· ≤ reachBytes) = true := hsz0
  have hval : ∀ (j : Nat) t v, Tryz.f8.params[j]? = some t → args[j]? = some v → Value.okWide Tryz.prog W .any base t v := hval0
  have hW' := hW
  obtain ⟨p, q, hA0, hV, rfl, hfz, hnd⟩ := hW
  have hA : DataW.TrodAll enc Tryz.prog W 0 (fun _ => true) true Tryz.f8.params.toList args.toList ds p := hA0
  rw [Tryz.params8] at hA hval hsz
  obtain ⟨v0, vs0, d0, ds0, p0, q0, hargs, rfl, rfl, h0, r0⟩ := trodAll_cons hA
  obtain ⟨v1, vs1, d1, ds1, p1, q1, rfl, rfl, rfl, h1, r1⟩ := trodAll_cons r0
  obtain ⟨rfl, rfl, rfl⟩ := trodAll_nil r1
  obtain rfl : args = #[v0, v1] := by cases args; simp_all
  obtain ⟨rfl, rfl⟩ := trodVars_none hV
  have lt0 : ∀ x ∈ p0, x.block < W.heap.size := by obtain ⟨m, hm⟩ := h0; exact DataW.trod_lt m _ _ _ hm
  have lt1 : ∀ x ∈ p1, x.block < W.heap.size := by obtain ⟨m, hm⟩ := h1; exact DataW.trod_lt m _ _ _ hm
  obtain ⟨cs0, rfl, -⟩ := okWide_struct Tryz.underlying70 (hval 0 70 v0 rfl rfl)
  obtain ⟨x0, K0, w0⟩ := opens_arg (opens_iso (r' := DM.System.r) (wf' := DM.Row.ok 281474976710656) (fun (p : DM.Geo × DM.Memory × (List DM.Job) × (List DM.Sealing)) => (⟨p.1, p.2.1, p.2.2.1, p.2.2.2⟩ : DM.System)) (fun _ => rfl) (fun p (h : DM.Row.ok 281474976710656 p.1 ∧ DM.Row.ok 281474976710656 p.2.1 ∧ okL 281474976710656 p.2.2.1 ∧ okL 281474976710656 p.2.2.2) => ⟨h.1, h.2.1, h.2.2.1, h.2.2.2⟩) (opens_struct (z := 8) Tryz.underlying70 (by kernel_rfl) (at_cons (z := 4) (opens_iso (r' := DM.Geo.r) (wf' := DM.Row.ok 281474976710656) (fun (p : Int × Int × Int × Int) => (⟨p.1, p.2.1, p.2.2.1, p.2.2.2⟩ : DM.Geo)) (fun _ => rfl) (fun p (h : IntOk p.1 ∧ IntOk p.2.1 ∧ IntOk p.2.2.1 ∧ IntOk p.2.2.2) => ⟨h.1, h.2.1, h.2.2.1, h.2.2.2⟩) (opens_struct (z := 4) Tryz.underlying23 (by kernel_rfl) (at_cons (z := 1) (opens_int Tryz.underlying3) rfl (by kernel_rfl) (at_cons (z := 1) (opens_int Tryz.underlying3) rfl (by kernel_rfl) (at_cons (z := 1) (opens_int Tryz.underlying3) rfl (by kernel_rfl) (at_last (z := 1) (opens_int Tryz.underlying3) rfl (by kernel_rfl))))))) rfl (by kernel_rfl) (at_cons (z := 2) (opens_iso (r' := DM.Memory.r) (wf' := DM.Row.ok 281474976710656) (fun (p : ByteArray × (List DM.Cell)) => (⟨p.1, p.2⟩ : DM.Memory)) (fun _ => rfl) (fun p (h : p.1.size ≤ 281474976710656 ∧ okL 281474976710656 p.2) => ⟨h.1, h.2⟩) (opens_struct (z := 2) Tryz.underlying66 (by kernel_rfl) (at_cons (z := 1) (opens_string Tryz.underlying9) rfl (by kernel_rfl) (at_last (z := 1) (opens_slice (B := 32) Tryz.underlying64 (by kernel_rfl) (by kernel_rfl) (by decide) (opens_iso (r' := DM.Cell.r) (wf' := DM.Row.ok 281474976710656) (fun (p : Int × ByteArray × Bool) => (⟨p.1, p.2.1, p.2.2⟩ : DM.Cell)) (fun _ => rfl) (fun p (h : IntOk p.1 ∧ p.2.1.size ≤ 281474976710656 ∧ True) => ⟨h.1, h.2.1⟩) (opens_struct (z := 3) Tryz.underlying238 (by kernel_rfl) (at_cons (z := 1) (opens_int Tryz.underlying3) rfl (by kernel_rfl) (at_cons (z := 1) (opens_string Tryz.underlying9) rfl (by kernel_rfl) (at_last (z := 1) (opens_bool Tryz.underlying4) rfl (by kernel_rfl))))))) rfl (by kernel_rfl))))) rfl (by kernel_rfl) (at_cons (z := 1) (opens_slice (B := 200) Tryz.underlying67 (by kernel_rfl) (by kernel_rfl) (by decide) (opens_iso (r' := DM.Job.r) (wf' := DM.Row.ok 281474976710656) (fun (p : DM.Ask × DM.Result × (List DM.Step) × (List DM.Sealing) × Int × Bool × Bool) => (⟨p.1, p.2.1, p.2.2.1, p.2.2.2.1, p.2.2.2.2.1, p.2.2.2.2.2.1, p.2.2.2.2.2.2⟩ : DM.Job)) (fun _ => rfl) (fun p (h : DM.Row.ok 281474976710656 p.1 ∧ DM.Row.ok 281474976710656 p.2.1 ∧ okL 281474976710656 p.2.2.1 ∧ okL 281474976710656 p.2.2.2.1 ∧ IntOk p.2.2.2.2.1 ∧ True ∧ True) => ⟨h.1, h.2.1, h.2.2.1, h.2.2.2.1, h.2.2.2.2.1⟩) (opens_struct (z := 16) Tryz.underlying187 (by kernel_rfl) (at_cons (z := 6) (opens_iso (r' := DM.Ask.r) (wf' := DM.Row.ok 281474976710656) (fun (p : Int × ByteArray × ByteArray × Int × Int × ByteArray) => (⟨p.1, p.2.1, p.2.2.1, p.2.2.2.1, p.2.2.2.2.1, p.2.2.2.2.2⟩ : DM.Ask)) (fun _ => rfl) (fun p (h : IntOk p.1 ∧ p.2.1.size ≤ 281474976710656 ∧ p.2.2.1.size ≤ 281474976710656 ∧ IntOk p.2.2.2.1 ∧ IntOk p.2.2.2.2.1 ∧ p.2.2.2.2.2.size ≤ 281474976710656) => ⟨h.1, h.2.1, h.2.2.1, h.2.2.2.1, h.2.2.2.2.1, h.2.2.2.2.2⟩) (opens_struct (z := 6) Tryz.underlying183 (by kernel_rfl) (at_cons (z := 1) (opens_int Tryz.underlying3) rfl (by kernel_rfl) (at_cons (z := 1) (opens_string Tryz.underlying9) rfl (by kernel_rfl) (at_cons (z := 1) (opens_string Tryz.underlying9) rfl (by kernel_rfl) (at_cons (z := 1) (opens_int Tryz.underlying3) rfl (by kernel_rfl) (at_cons (z := 1) (opens_int Tryz.underlying3) rfl (by kernel_rfl) (at_last (z := 1) (opens_string Tryz.underlying9) rfl (by kernel_rfl))))))))) rfl (by kernel_rfl) (at_cons (z := 5) (opens_iso (r' := DM.Result.r) (wf' := DM.Row.ok 281474976710656) (fun (p : Int × ByteArray × Int × Bool × (List ByteArray)) => (⟨p.1, p.2.1, p.2.2.1, p.2.2.2.1, p.2.2.2.2⟩ : DM.Result)) (fun _ => rfl) (fun p (h : IntOk p.1 ∧ p.2.1.size ≤ 281474976710656 ∧ IntOk p.2.2.1 ∧ True ∧ okL 281474976710656 p.2.2.2.2) => ⟨h.1, h.2.1, h.2.2.1, h.2.2.2.2⟩) (opens_struct (z := 5) Tryz.underlying184 (by kernel_rfl) (at_cons (z := 1) (opens_int Tryz.underlying3) rfl (by kernel_rfl) (at_cons (z := 1) (opens_string Tryz.underlying9) rfl (by kernel_rfl) (at_cons (z := 1) (opens_int Tryz.underlying3) rfl (by kernel_rfl) (at_cons (z := 1) (opens_bool Tryz.underlying4) rfl (by kernel_rfl) (at_last (z := 1) (opens_slice (B := 16) Tryz.underlying72 (by kernel_rfl) (by kernel_rfl) (by decide) (opens_string Tryz.underlying9)) rfl (by kernel_rfl)))))))) rfl (by kernel_rfl) (at_cons (z := 1) (opens_slice (B := 32) Tryz.underlying185 (by kernel_rfl) (by kernel_rfl) (by decide) (opens_iso (r' := DM.Step.r) (wf' := DM.Row.ok 281474976710656) (fun (p : Int × Int × ByteArray) => (⟨p.1, p.2.1, p.2.2⟩ : DM.Step)) (fun _ => rfl) (fun p (h : IntOk p.1 ∧ IntOk p.2.1 ∧ p.2.2.size ≤ 281474976710656) => ⟨h.1, h.2.1, h.2.2⟩) (opens_struct (z := 3) Tryz.underlying278 (by kernel_rfl) (at_cons (z := 1) (opens_int Tryz.underlying3) rfl (by kernel_rfl) (at_cons (z := 1) (opens_int Tryz.underlying3) rfl (by kernel_rfl) (at_last (z := 1) (opens_string Tryz.underlying9) rfl (by kernel_rfl))))))) rfl (by kernel_rfl) (at_cons (z := 1) (opens_slice (B := 48) Tryz.underlying68 (by kernel_rfl) (by kernel_rfl) (by decide) (opens_iso (r' := DM.Sealing.r) (wf' := DM.Row.ok 281474976710656) (fun (p : ByteArray × ByteArray × ByteArray) => (⟨p.1, p.2.1, p.2.2⟩ : DM.Sealing)) (fun _ => rfl) (fun p (h : p.1.size ≤ 281474976710656 ∧ p.2.1.size ≤ 281474976710656 ∧ p.2.2.size ≤ 281474976710656) => ⟨h.1, h.2.1, h.2.2⟩) (opens_struct (z := 3) Tryz.underlying189 (by kernel_rfl) (at_cons (z := 1) (opens_string Tryz.underlying9) rfl (by kernel_rfl) (at_cons (z := 1) (opens_string Tryz.underlying9) rfl (by kernel_rfl) (at_last (z := 1) (opens_string Tryz.underlying9) rfl (by kernel_rfl))))))) rfl (by kernel_rfl) (at_cons (z := 1) (opens_int Tryz.underlying3) rfl (by kernel_rfl) (at_cons (z := 1) (opens_bool Tryz.underlying4) rfl (by kernel_rfl) (at_last (z := 1) (opens_bool Tryz.underlying4) rfl (by kernel_rfl))))))))))) rfl (by kernel_rfl) (at_last (z := 1) (opens_slice (B := 48) Tryz.underlying68 (by kernel_rfl) (by kernel_rfl) (by decide) (opens_iso (r' := DM.Sealing.r) (wf' := DM.Row.ok 281474976710656) (fun (p : ByteArray × ByteArray × ByteArray) => (⟨p.1, p.2.1, p.2.2⟩ : DM.Sealing)) (fun _ => rfl) (fun p (h : p.1.size ≤ 281474976710656 ∧ p.2.1.size ≤ 281474976710656 ∧ p.2.2.size ≤ 281474976710656) => ⟨h.1, h.2.1, h.2.2⟩) (opens_struct (z := 3) Tryz.underlying189 (by kernel_rfl) (at_cons (z := 1) (opens_string Tryz.underlying9) rfl (by kernel_rfl) (at_cons (z := 1) (opens_string Tryz.underlying9) rfl (by kernel_rfl) (at_last (z := 1) (opens_string Tryz.underlying9) rfl (by kernel_rfl))))))) rfl (by kernel_rfl))))))) hsz (j := 0) rfl rfl h0
  obtain ⟨n1, rfl⟩ := okWide_int Tryz.underlying3 (hval 1 3 v1 rfl rfl)
  obtain ⟨x1, K1, w1⟩ := opens_arg (opens_int Tryz.underlying3) hsz (j := 1) rfl rfl h1
  have hS := FnExactRunJob_spec x0 x1 w0
  refine (hS.law W (vals := [.agg cs0, .int .i64 n1]) rfl (fun i pa hp => ?_) (fun i pa v hp hv => ?_)).mono ?_
  · rcases i with _ | i
    · simp at hp; subst hp; exact ⟨rfl, fun k => by simp [argG, PC.gh]; try (split <;> first | rfl | (rename_i h; rcases k with _ | _ | _ | _ | _ | _ | _ | _ | _ | _ | _ | _ | _ | _ | _ | _ | _ | _ | _ | _ | k <;> simp at h <;> subst h <;> rfl))⟩
    rcases i with _ | i
    · simp at hp; subst hp; exact ⟨rfl, fun k => by simp [argG, PC.gh]; try (split <;> first | rfl | (rename_i h; rcases k with _ | _ | _ | _ | _ | _ | _ | _ | _ | _ | _ | _ | _ | _ | _ | _ | _ | _ | _ | _ | k <;> simp at h <;> subst h <;> rfl))⟩
    simp at hp
  · rcases i with _ | i
    · simp at hp hv; subst hp; subst hv; exact arg_agg 0 (by simpa [Value.cells] using K0)
    rcases i with _ | i
    · simp at hp hv; subst hp; subst hv; exact arg_one (by simp [Value.cells]) K1
    simp at hp
  · intro e W' he
    obtain ⟨he, g1, g2, g3, g4, g5⟩ := he
    have bel : Below W.heap.size W W' := ⟨g3, g5, g4, g2, g1⟩
    subst he
    exact ⟨_, rfl, _, _, _, [], _, [], hW', trodAll_mk1 (shut_bool Tryz.underlying4 _), (trodAll_cons_mk (Below.trod laidOut (by kernel_rfl) (of_decide_eq_true (by kernel_rfl)) h0 bel lt0) (trodAll_cons_mk (Below.trod laidOut (by kernel_rfl) (of_decide_eq_true (by kernel_rfl)) h1 bel lt1) trodAll_mk0)), rfl, bel.frame _, fun h => by cases h⟩
theorem over : Rows.fnExactRunJobRow.holds Tryz.pinned (OpenSpec.ofChange Rows.fnExactRunJobSpec) :=
  OpenClaim.holds_of_wide 8 Tryz.f8 rfl rfl rfl rfl rfl rfl rfl ⟨rfl, rfl, rfl, rfl, rfl⟩ rfl rfl rfl rfl rfl (by kernel_rfl) Tryz.func8 (by kernel_rfl)
    (of_decide_eq_true (by kernel_rfl)) (by unfold Func.isWrapper; first | (rw [if_pos (by decide +kernel)]; kernel_rfl) | (rw [if_neg (by decide +kernel)]; exact ⟨rfl, rfl⟩))
    (fun os started H enc _ => lifted os started H enc)
theorem proved : Rows.FnExactRunJobSaid := over
end Go.Proofs.YtjjdjkkhhcbogaaGreat.fnExactRunJob
namespace Go.Proofs.YtjjdjkkhhcbogaaGreat
/-- The row, under a short name, for the claim. -/
theorem fnExactRunJob_holds : Rows.FnExactRunJobSaid := fnExactRunJob.proved
end Go.Proofs.YtjjdjkkhhcbogaaGreat
#print axioms Go.Proofs.YtjjdjkkhhcbogaaGreat.fnExactRunJob_holds
