/-
  FnExactScrubSteps, for every input: the law returns true and its arguments read afterwards as before. No condition.
-/
import Derived.Test.YtjjdjkkhhcbogaaGreatRows
import Derived.Test.YtjjdjkkhhcbogaaGreatFOpen
import Derived.Test.YtjjdjkkhhcbogaaGreatLScrub
import Derived.WalkKit
import Derived.ProofKit
import Derived.OpenShut
import Derived.ShutString
import Derived.ChangeOld
import Derived.Below
import Derived.SizedLaws
import Derived.Carry
namespace Go.Proofs.YtjjdjkkhhcbogaaGreat.fnExactScrubSteps
open Go.ChangeShapes Go.WideShapes Go.ChangeAt Go.RowKit
open Go.Proofs.YtjjdjkkhhcbogaaGreat.DM
set_option linter.unusedVariables false
set_option linter.unusedSimpArgs false
theorem own : ownKnob Tryz.prog.godebug = none := by kernel_rfl
theorem laidOut : laidOutB Tryz.prog = true := by kernel_rfl
set_option maxRecDepth 100000 in
theorem lifted (os : Os) (started : os.Started) (H : Type) (enc : TypeId × Value → H) :
    ReturnsInHanded {} Tryz.checked os 3 .any (Rows.fnExactScrubStepsSpec.pre6 enc Tryz.prog Tryz.f3 Rows.fnExactScrubStepsRow.domain false) (Rows.fnExactScrubStepsSpec.post enc Tryz.prog Tryz.f3 false true false false) := by
  refine returnsInHanded_of_change_sized (C := Tryz.checked) own started (by kernel_rfl) Tryz.func3
    (ChangeSpec.witness6 (enc := enc) (C := Tryz.checked) false ⟨#[], #[.agg #[.int .i64 0, .int .i64 0, .int .i64 0, .int .i64 0], .int .i64 0, .agg #[.int .i64 0, .slice none 0 0, .slice none 0 0]], []⟩ 8 (by kernel_rfl) (by kernel_rfl) (by kernel_rfl) (by kernel_rfl)) ?_
  intro W base args ds gs before hval0 hW hcnd hsz0 _
  have hsz : (DataW.weightsEach Tryz.prog (Tryz.f3.params.toList ++ Rows.fnExactScrubStepsSpec.plain.varTypes Tryz.prog) (ds ++ gs)).all (· ≤ reachBytes) = true := hsz0
  have hval : ∀ (j : Nat) t v, Tryz.f3.params[j]? = some t → args[j]? = some v → Value.okWide Tryz.prog W .any base t v := hval0
  have hW' := hW
  obtain ⟨p, q, hA0, hV, rfl, hfz, hnd⟩ := hW
  have hA : DataW.TrodAll enc Tryz.prog W 0 (fun _ => true) true Tryz.f3.params.toList args.toList ds p := hA0
  rw [Tryz.params3] at hA hval hsz
  obtain ⟨v0, vs0, d0, ds0, p0, q0, hargs, rfl, rfl, h0, r0⟩ := trodAll_cons hA
  obtain ⟨v1, vs1, d1, ds1, p1, q1, rfl, rfl, rfl, h1, r1⟩ := trodAll_cons r0
  obtain ⟨v2, vs2, d2, ds2, p2, q2, rfl, rfl, rfl, h2, r2⟩ := trodAll_cons r1
  obtain ⟨rfl, rfl, rfl⟩ := trodAll_nil r2
  obtain rfl : args = #[v0, v1, v2] := by cases args; simp_all
  obtain ⟨rfl, rfl⟩ := trodVars_none hV
  have lt0 : ∀ x ∈ p0, x.block < W.heap.size := by obtain ⟨m, hm⟩ := h0; exact DataW.trod_lt m _ _ _ hm
  have lt1 : ∀ x ∈ p1, x.block < W.heap.size := by obtain ⟨m, hm⟩ := h1; exact DataW.trod_lt m _ _ _ hm
  have lt2 : ∀ x ∈ p2, x.block < W.heap.size := by obtain ⟨m, hm⟩ := h2; exact DataW.trod_lt m _ _ _ hm
  obtain ⟨cs0, rfl, -⟩ := okWide_struct Tryz.underlying23 (hval 0 23 v0 rfl rfl)
  obtain ⟨x0, K0, w0⟩ := opens_arg (opens_iso (r' := DM.Geo.r) (wf' := DM.Row.ok 281474976710656) (fun (p : Int × Int × Int × Int) => (⟨p.1, p.2.1, p.2.2.1, p.2.2.2⟩ : DM.Geo)) (fun _ => rfl) (fun p (h : IntOk p.1 ∧ IntOk p.2.1 ∧ IntOk p.2.2.1 ∧ IntOk p.2.2.2) => ⟨h.1, h.2.1, h.2.2.1, h.2.2.2⟩) (opens_struct (z := 4) Tryz.underlying23 (by kernel_rfl) (at_cons (z := 1) (opens_int Tryz.underlying3) rfl (by kernel_rfl) (at_cons (z := 1) (opens_int Tryz.underlying3) rfl (by kernel_rfl) (at_cons (z := 1) (opens_int Tryz.underlying3) rfl (by kernel_rfl) (at_last (z := 1) (opens_int Tryz.underlying3) rfl (by kernel_rfl))))))) hsz (j := 0) rfl rfl h0
  obtain ⟨n1, rfl⟩ := okWide_int Tryz.underlying3 (hval 1 3 v1 rfl rfl)
  obtain ⟨x1, K1, w1⟩ := opens_arg (opens_int Tryz.underlying3) hsz (j := 1) rfl rfl h1
  obtain ⟨cs2, rfl, -⟩ := okWide_struct Tryz.underlying27 (hval 2 27 v2 rfl rfl)
  obtain ⟨x2, K2, w2⟩ := opens_arg (opens_iso (r' := DM.Part.r) (wf' := DM.Row.ok 281474976710656) (fun (p : Int × (List Int) × (List DM.Inode)) => (⟨p.1, p.2.1, p.2.2⟩ : DM.Part)) (fun _ => rfl) (fun p (h : IntOk p.1 ∧ okL 281474976710656 p.2.1 ∧ okL 281474976710656 p.2.2) => ⟨h.1, h.2.1, h.2.2⟩) (opens_struct (z := 3) Tryz.underlying27 (by kernel_rfl) (at_cons (z := 1) (opens_int Tryz.underlying3) rfl (by kernel_rfl) (at_cons (z := 1) (opens_slice (B := 8) Tryz.underlying24 (by kernel_rfl) (by kernel_rfl) (by decide) (opens_int Tryz.underlying3)) rfl (by kernel_rfl) (at_last (z := 1) (opens_slice (B := 88) Tryz.underlying25 (by kernel_rfl) (by kernel_rfl) (by decide) (opens_iso (r' := DM.Inode.r) (wf' := DM.Row.ok 281474976710656) (fun (p : Int × Int × Int × ByteArray × (List DM.Rec) × (List DM.Entry)) => (⟨p.1, p.2.1, p.2.2.1, p.2.2.2.1, p.2.2.2.2.1, p.2.2.2.2.2⟩ : DM.Inode)) (fun _ => rfl) (fun p (h : IntOk p.1 ∧ IntOk p.2.1 ∧ IntOk p.2.2.1 ∧ p.2.2.2.1.size ≤ 281474976710656 ∧ okL 281474976710656 p.2.2.2.2.1 ∧ okL 281474976710656 p.2.2.2.2.2) => ⟨h.1, h.2.1, h.2.2.1, h.2.2.2.1, h.2.2.2.2.1, h.2.2.2.2.2⟩) (opens_struct (z := 6) Tryz.underlying147 (by kernel_rfl) (at_cons (z := 1) (opens_int Tryz.underlying3) rfl (by kernel_rfl) (at_cons (z := 1) (opens_int Tryz.underlying3) rfl (by kernel_rfl) (at_cons (z := 1) (opens_int Tryz.underlying3) rfl (by kernel_rfl) (at_cons (z := 1) (opens_string Tryz.underlying9) rfl (by kernel_rfl) (at_cons (z := 1) (opens_slice (B := 32) Tryz.underlying144 (by kernel_rfl) (by kernel_rfl) (by decide) (opens_iso (r' := DM.Rec.r) (wf' := DM.Row.ok 281474976710656) (fun (p : Int × Int × ByteArray) => (⟨p.1, p.2.1, p.2.2⟩ : DM.Rec)) (fun _ => rfl) (fun p (h : IntOk p.1 ∧ IntOk p.2.1 ∧ p.2.2.size ≤ 281474976710656) => ⟨h.1, h.2.1, h.2.2⟩) (opens_struct (z := 3) Tryz.underlying253 (by kernel_rfl) (at_cons (z := 1) (opens_int Tryz.underlying3) rfl (by kernel_rfl) (at_cons (z := 1) (opens_int Tryz.underlying3) rfl (by kernel_rfl) (at_last (z := 1) (opens_string Tryz.underlying9) rfl (by kernel_rfl))))))) rfl (by kernel_rfl) (at_last (z := 1) (opens_slice (B := 24) Tryz.underlying145 (by kernel_rfl) (by kernel_rfl) (by decide) (opens_iso (r' := DM.Entry.r) (wf' := DM.Row.ok 281474976710656) (fun (p : Int × ByteArray) => (⟨p.1, p.2⟩ : DM.Entry)) (fun _ => rfl) (fun p (h : IntOk p.1 ∧ p.2.size ≤ 281474976710656) => ⟨h.1, h.2⟩) (opens_struct (z := 2) Tryz.underlying255 (by kernel_rfl) (at_cons (z := 1) (opens_int Tryz.underlying3) rfl (by kernel_rfl) (at_last (z := 1) (opens_string Tryz.underlying9) rfl (by kernel_rfl)))))) rfl (by kernel_rfl)))))))))) rfl (by kernel_rfl)))))) hsz (j := 2) rfl rfl h2
  have hS := FnExactScrubSteps_spec x0 x1 x2 w2
  refine (hS.law W (vals := [.agg cs0, .int .i64 n1, .agg cs2]) rfl (fun i pa hp => ?_) (fun i pa v hp hv => ?_)).mono ?_
  · rcases i with _ | i
    · simp at hp; subst hp; exact ⟨rfl, fun k => by simp [argG, PC.gh]; try (split <;> first | rfl | (rename_i h; rcases k with _ | _ | _ | _ | _ | _ | _ | _ | _ | _ | _ | _ | _ | _ | _ | _ | _ | _ | _ | _ | k <;> simp at h <;> subst h <;> rfl))⟩
    rcases i with _ | i
    · simp at hp; subst hp; exact ⟨rfl, fun k => by simp [argG, PC.gh]; try (split <;> first | rfl | (rename_i h; rcases k with _ | _ | _ | _ | _ | _ | _ | _ | _ | _ | _ | _ | _ | _ | _ | _ | _ | _ | _ | _ | k <;> simp at h <;> subst h <;> rfl))⟩
    rcases i with _ | i
    · simp at hp; subst hp; exact ⟨rfl, fun k => by simp [argG, PC.gh]; try (split <;> first | rfl | (rename_i h; rcases k with _ | _ | _ | _ | _ | _ | _ | _ | _ | _ | _ | _ | _ | _ | _ | _ | _ | _ | _ | _ | k <;> simp at h <;> subst h <;> rfl))⟩
    simp at hp
  · rcases i with _ | i
    · simp at hp hv; subst hp; subst hv; exact arg_agg 0 (by simpa [Value.cells] using K0)
    rcases i with _ | i
    · simp at hp hv; subst hp; subst hv; exact arg_one (by simp [Value.cells]) K1
    rcases i with _ | i
    · simp at hp hv; subst hp; subst hv; exact arg_agg 2 (by simpa [Value.cells] using K2)
    simp at hp
  · intro e W' he
    obtain ⟨he, g1, g2, g3, g4, g5⟩ := he
    have bel : Below W.heap.size W W' := ⟨g3, g5, g4, g2, g1⟩
    subst he
    exact ⟨_, rfl, _, _, _, [], _, [], hW', trodAll_mk1 (shut_bool Tryz.underlying4 _), (trodAll_cons_mk (Below.trod laidOut (by kernel_rfl) (of_decide_eq_true (by kernel_rfl)) h0 bel lt0) (trodAll_cons_mk (Below.trod laidOut (by kernel_rfl) (of_decide_eq_true (by kernel_rfl)) h1 bel lt1) (trodAll_cons_mk (Below.trod laidOut (by kernel_rfl) (of_decide_eq_true (by kernel_rfl)) h2 bel lt2) trodAll_mk0))), rfl, bel.frame _, fun h => by cases h⟩
theorem over : Rows.fnExactScrubStepsRow.holds Tryz.pinned (OpenSpec.ofChange Rows.fnExactScrubStepsSpec) :=
  OpenClaim.holds_of_wide 3 Tryz.f3 rfl rfl rfl rfl rfl rfl rfl ⟨rfl, rfl, rfl, rfl, rfl⟩ rfl rfl rfl rfl rfl (by kernel_rfl) Tryz.func3 (by kernel_rfl)
    (of_decide_eq_true (by kernel_rfl)) (by unfold Func.isWrapper; first | (rw [if_pos (by decide +kernel)]; kernel_rfl) | (rw [if_neg (by decide +kernel)]; exact ⟨rfl, rfl⟩))
    (fun os started H enc _ => lifted os started H enc)
theorem proved : Rows.FnExactScrubStepsSaid := over
end Go.Proofs.YtjjdjkkhhcbogaaGreat.fnExactScrubSteps
namespace Go.Proofs.YtjjdjkkhhcbogaaGreat
/-- The row, under a short name, for the claim. -/
theorem fnExactScrubSteps_holds : Rows.FnExactScrubStepsSaid := fnExactScrubSteps.proved
end Go.Proofs.YtjjdjkkhhcbogaaGreat
#print axioms Go.Proofs.YtjjdjkkhhcbogaaGreat.fnExactScrubSteps_holds
