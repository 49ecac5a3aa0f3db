/-
  slices.Grow of nil, as a step of the machine of values.
-/
import Derived.Test.YtciieaidbiejmaaDoorLT3
import Derived.Shelf.Spec.SlicesGrow
namespace Go.Proofs.YtciieaidbiejmaaDoor.DM
set_option linter.unusedVariables false
set_option linter.unusedSimpArgs false
def growRen : Go.Shelf.Ren := ⟨fun | 4 => 95 | n => n, fun | 22 => 37 | 25 => 9 | n => n, fun n => n⟩
theorem growLays : Go.Proofs.Lays8.n4 Tryd.prog growRen := {
  mixed := by kernel_rfl
  f4 := ⟨Tryd.f95.name, by kernel_rfl, Tryd.func95.trans (congrArg some (by kernel_rfl))⟩
  t0 := Tryd.underlying0
  a0 := Tryd.isAgg0
  z0 := Tryd.sizeOf0
  v0 := Tryd.zeroValue0
  t3 := Tryd.underlying3
  a3 := Tryd.isAgg3
  z3 := Tryd.sizeOf3
  v3 := Tryd.zeroValue3
  t4 := Tryd.underlying4
  a4 := Tryd.isAgg4
  z4 := Tryd.sizeOf4
  v4 := Tryd.zeroValue4
  t9 := Tryd.underlying9
  a9 := Tryd.isAgg9
  z9 := Tryd.sizeOf9
  v9 := Tryd.zeroValue9
  t20 := Tryd.underlying20
  a20 := Tryd.isAgg20
  z20 := Tryd.sizeOf20
  v20 := Tryd.zeroValue20
  t22 := Tryd.underlying37
  a22 := Tryd.isAgg37
  z22 := Tryd.sizeOf37
  v22 := Tryd.zeroValue37 }
theorem OpStep.growNil {nt : Nat} {s s1 : FS} {o : Oper} {x : Operand} {ats : Array TypeId} {n : Nat} (ho : o.op = .call { callee := .value (.func 95), args := #[.const (.slice none 0 0), x], argTypes := ats }) (hx : asSc (ev s.e x) = some (.int .i64 (n : Int))) (h0 : 0 < n) (hn : n ≤ 2 ^ 40)
    (hf : finish nt s o.dst [none] [.ow () 1 0 []] = some s1) : OpStep Tryd.prog nt o s s1 := fun S0 w0 M a w hR next Q hn' => by
  have hc : callArgs s (.func 95) [.const (.slice none 0 0), x] = some (95, [.v (.one .nl), ev s.e x]) := by simp
  have he : Enters Tryd.prog 95 := ⟨_, Tryd.func95, by kernel_rfl, by kernel_rfl⟩
  refine call_wp (sh := [none]) (s1 := s) ho hR hc he hf ?_ hn'
  have hxv : a.eval x = .int .i64 (n : Int) := (asSc_ok (S0 := S0) (w0 := w0) (M := M) hx (ev_ok hR x)).1
  have hvals : valsOf a (.func 95) [.const (.slice none 0 0), x] = [.slice none 0 0, .int .i64 (n : Int)] := by
    show [a.eval (.const (.slice none 0 0)), a.eval x] ++ _ = _
    rw [hxv]; rfl
  show Calls _ _ (valsOf a (.func 95) [.const (.slice none 0 0), x]).toArray _ _
  rw [hvals]
  have hi : Tryd.prog.info? 9 = some (Tryd.prog.info? 9).get! := by kernel_rfl
  have h1s : 0 < ((Tryd.prog.info? 9).get!).size := by
    have hz : ((Tryd.prog.info? 9).get!).size = 1 := by kernel_rfl
    omega
  have hg := Any8.slices_Grow_grow growLays (Tryd.prog.info? 9).get! (.string ByteArray.empty) hi (by kernel_rfl) h1s none 0 0 n [] w (Nat.le_refl _) (by omega)
    (by have hb : ((Tryd.prog.info? 9).get!).bytes = 16 := by kernel_rfl
        rw [hb]; omega) (by omega) (by simp) (fun _ => rfl) (fun a h => by cases h)
  refine Calls.mono hg ?_
  rintro e w' ⟨rfl, rfl⟩
  have hG := grownCap_ge w (0 + n) 0 9
  have hM := grownCap_le_maxLen w (0 + n) 0 9 (by simp only [maxLen]; omega)
  refine ⟨_, M, [.ow (.blk w.heap.size 0 (grownCap w (0 + n) 0 9)) 1 0 []], rfl, ⟨?_, hR.er, hR.en, hR.nt, hR.df, hR.gh⟩, rfl, rfl, rfl⟩
  refine hR.inv.newHand (sz := 1) (n := 0) (c := grownCap w (0 + n) 0 9) (ty := 9) (X := []) rfl ?_ (by omega) (Nat.zero_le _) hM rfl (fun i x h => by simp at h) ⟨rfl, rfl, rfl⟩
  show _ ≤ (_ : Array Value).size
  have h25 : growRen.t 25 = 9 := rfl
  rw [Nat.zero_add] at hG
  simp [Builtin.zeroCells, Value.cells, h25]
  omega
end Go.Proofs.YtciieaidbiejmaaDoor.DM
