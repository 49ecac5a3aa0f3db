import Derived.Test.YtciieaidbiejmaaDoorLT2
import Derived.Test.YtciieaidbiejmaaDoorShelfL
import Derived.Lib.AppendIntMem
namespace Go.Proofs.YtciieaidbiejmaaDoor.DM
set_option linter.unusedVariables false
set_option linter.unusedSimpArgs false
set_option maxRecDepth 4000
set_option maxHeartbeats 8000000
theorem itoa_spec (n : Int) (h0 : -9223372036854775808 ≤ n) (h1 : n < 9223372036854775808) : Spec Tryd.prog 90 [ri n] [none] [ds (decB n)] [ri n] :=
  Spec.plainT (vs := [.int .i64 n]) (rs := [.string (decB n)]) ⟨_, Tryd.func90, by kernel_rfl, by kernel_rfl⟩ (by simp [plain]) fun w hT => by
    refine (Tryd.strconv_Itoa n h0 (by omega) w hT).mono ?_
    rintro e w' ⟨rfl, k, os, rfl⟩
    exact ⟨rfl, Lib.below_grow _ w (Nat.le_refl _) k os⟩
def bytesV (b : ByteArray) : List Value := b.data.toList.map fun c => Value.int .u8 c.toNat
theorem bytesV_len (b : ByteArray) : (bytesV b).length = b.size := by simp [bytesV]
theorem toRTs_sc : ∀ l : List Value, toRTs (l.map T.sc) = some (l.map RT.sc)
  | [] => rfl
  | x :: l => by simp [toRTs_sc l]
@[simp] theorem toRTs_bytes (b : ByteArray) : toRTs (bytesD b) = some ((bytesV b).map RT.sc) := by
  have : bytesD b = (bytesV b).map T.sc := by simp [bytesD, bytesV]
  rw [this, toRTs_sc]
theorem bytesD_take (b : ByteArray) : List.take b.size (bytesD b) = bytesD b := List.take_of_length_le (by simp [bytesD])
theorem bytesD_len (b : ByteArray) : (bytesD b).length = b.size := by simp [bytesD]
theorem encode_spec (s : ByteArray) (h : 0 < s.size) (hs : s.size ≤ 20000) : Spec Tryd.prog 120 [.one (.r (.sl s.size ((bytesV s).map RT.sc)))] [none] [ds (hexB s)] [.one (.r (.sl s.size ((bytesV s).map RT.sc)))] := by
  have key := Spec.reads (P := Tryd.prog) (f := 120) (args := [.row (bytesV s)]) (rs := [.string (hexB s)]) ⟨_, Tryd.func120, by kernel_rfl, by kernel_rfl⟩ (by simp [plain]) fun w vals hT hv => by
    match vals, hv with
    | [v], hv =>
      rcases hv.1 with ⟨a, c, rfl, h0⟩ | ⟨b, o, c, rfl, hc, hb, hcell⟩
      · have := congrArg List.length h0; rw [bytesV_len] at this; have e0 : ([] : List Value).length = 0 := rfl; omega
      · have hxs : ∀ i, i < (bytesV s).length → ∃ u : UInt8, s.data.toList[i]? = some u ∧ (s.data.toList.map fun c => (c.toNat : Int)).getD i 0 = u.toNat := fun i hi => by
          have hi' : i < s.data.toList.length := by rw [bytesV_len] at hi; simpa using hi
          refine ⟨s.data.toList[i], List.getElem?_eq_getElem hi', ?_⟩
          rw [List.getD_eq_getElem?_getD, List.getElem?_map, List.getElem?_eq_getElem hi']; rfl
        have := Tryd.hex_EncodeToString b o (bytesV s).length c (s.data.toList.map fun c => (c.toNat : Int)) w (by rw [List.length_map, bytesV_len]; simp) (fun i hi => by
            obtain ⟨u, -, e⟩ := hxs i hi
            rw [e]; have := u.toNat_lt; omega) (fun i hi => by
            obtain ⟨u, hu, e⟩ := hxs i hi
            rw [e]; refine hcell i _ ?_
            rw [bytesV, List.getElem?_map, hu]; rfl) hb (by rw [bytesV_len]; omega)
        refine this.mono ?_
        rintro e w' ⟨rfl, hB⟩
        refine ⟨?_, hB⟩
        have hbo : Lib.bytesOf (s.data.toList.map fun c => (c.toNat : Int)) = s.data.toList := by
          unfold Lib.bytesOf
          rw [List.map_map]
          conv => rhs; rw [← List.map_id s.data.toList]
          refine List.map_congr_left fun c _ => ?_
          simp
        rw [hbo]; rfl
  simpa [bytesV_len] using key
theorem encodedLen_spec (n : Int) (h0 : 0 ≤ n) (h1 : n ≤ 20000) : Spec Tryd.prog 151 [ri n] [none] [di (n * 2)] [ri n] := by
  refine Spec.intro Tryd.func151 rfl rfl Tryd.ntmps151 rfl (by simp) ?_
  refine DW.seq ?_
  refine DW.reg (by simp (maxSteps := 200000) (disch := first | omega | (simp; done) | fail) [wrapI, leT, leF, ltT, ltF, eqF, nleT, nleF, nltT, nltF]; rfl) ?_
  refine DW.seq ?_
  refine DW.reg (by simp (maxSteps := 200000) (disch := first | omega | (simp; done) | fail) [wrapI, leT, leF, ltT, ltF, eqF, nleT, nleF, nltT, nltF]; rfl) ?_
  refine DW.ret ?_
  simp [Tryd.results151]
theorem encode0_spec  : Spec Tryd.prog 152 [.one (.r (.sl 0 [])), .one (.r (.sl 0 []))] [none] [di 0] [.one (.r (.sl 0 [])), .one (.r (.sl 0 []))] := by
  refine Spec.intro Tryd.func152 rfl rfl Tryd.ntmps152 rfl (by simp) ?_
  refine DW.seq ?_
  refine DW.reg (by simp (maxSteps := 200000) (disch := first | omega | (simp; done) | fail) [wrapI, leT, leF, ltT, ltF, eqF, nleT, nleF, nltT, nltF]; rfl) ?_
  refine DW.seq ?_
  refine DW.reg (by simp (maxSteps := 200000) (disch := first | omega | (simp; done) | fail) [wrapI, leT, leF, ltT, ltF, eqF, nleT, nleF, nltT, nltF]; rfl) ?_
  refine DW.seq ?_
  refine DW.seq ?_
  refine DW.reg (by simp (maxSteps := 200000) (disch := first | omega | (simp; done) | fail) [wrapI, leT, leF, ltT, ltF, eqF, nleT, nleF, nltT, nltF]; rfl) ?_
  refine DW.block ?_
  refine DW.loopS (α := Unit) (fun u => True) (fun u => 0) (fun u => []) (fun u => []) [(0, _), (1, _), (5, _), (8, _), (9, _), (10, _)] [] [] () (trivial) (by simp; exact ⟨rfl, rfl, rfl, rfl, rfl, rfl⟩) (by simp) (by simp) (by rfl) ?_
  rintro ⟨⟩ -
  refine DW.seq ?_
  refine DW.reg (by simp (maxSteps := 200000) (disch := first | omega | (simp; done) | fail) [wrapI, leT, leF, ltT, ltF, eqF, nleT, nleF, nltT, nltF]; rfl) ?_
  refine DW.seq ?_
  refine DW.condF (by simp (maxSteps := 200000) (disch := first | omega | (simp; done) | fail) [wrapI, leT, leF, ltT, ltF, eqF, nleT, nleF, nltT, nltF]) ?_
  refine DW.exit ?_
  refine DW.seq ?_
  refine DW.reg (by simp (maxSteps := 200000) (disch := first | omega | (simp; done) | fail) [wrapI, leT, leF, ltT, ltF, eqF, nleT, nleF, nltT, nltF]; rfl) ?_
  refine DW.ret ?_
  simp [Tryd.results152]
theorem encodeS0_spec  : Spec Tryd.prog 120 [.one (.r (.sl 0 []))] [none] [ds ByteArray.empty] [.one (.r (.sl 0 []))] := by
  refine Spec.intro Tryd.func120 rfl rfl Tryd.ntmps120 rfl (by simp) ?_
  refine DW.seq ?_
  refine DW.reg (by simp (maxSteps := 200000) (disch := first | omega | (simp; done) | fail) [wrapI, leT, leF, ltT, ltF, eqF, nleT, nleF, nltT, nltF]; rfl) ?_
  refine DW.seq ?_
  refine DW.regs ?_
  refine RegO.opN 2 (by simp (maxSteps := 200000) (disch := first | omega | (simp; done) | fail) [wrapI, leT, leF, ltT, ltF, eqF, nleT, nleF, nltT, nltF]; rfl) ?_
  refine RegO.step rfl (OpStep.callA rfl (by simp (maxSteps := 200000) (disch := first | omega | (simp; done) | fail) [wrapI, leT, leF, ltT, ltF, eqF, nleT, nleF, nltT, nltF]; exact ⟨rfl, rfl⟩) (by simp (maxSteps := 200000) (disch := first | omega | (simp; done) | fail) [wrapI, leT, leF, ltT, ltF, eqF, nleT, nleF, nltT, nltF]; rfl) (by exact encodedLen_spec 0 (by omega) (by omega)) (by simp) (by simp (maxSteps := 200000) (disch := first | omega | (simp; done) | fail) [wrapI, leT, leF, ltT, ltF, eqF, nleT, nleF, nltT, nltF]; rfl)) ?_
  refine RegO.opN 2 (by simp (maxSteps := 200000) (disch := first | omega | (simp; done) | fail) [wrapI, leT, leF, ltT, ltF, eqF, nleT, nleF, nltT, nltF]; rfl) ?_
  refine RegO.nil ?_
  refine DW.seq ?_
  refine DW.regs ?_
  refine RegO.opN 2 (by simp (maxSteps := 200000) (disch := first | omega | (simp; done) | fail) [wrapI, leT, leF, ltT, ltF, eqF, nleT, nleF, nltT, nltF]; rfl) ?_
  refine RegO.step rfl (OpStep.callA rfl (by simp (maxSteps := 200000) (disch := first | omega | (simp; done) | fail) [wrapI, leT, leF, ltT, ltF, eqF, nleT, nleF, nltT, nltF]; exact ⟨rfl, rfl⟩) (by simp (maxSteps := 200000) (disch := first | omega | (simp; done) | fail) [wrapI, leT, leF, ltT, ltF, eqF, nleT, nleF, nltT, nltF]; rfl) (by exact encode0_spec) (by simp) (by simp (maxSteps := 200000) (disch := first | omega | (simp; done) | fail) [wrapI, leT, leF, ltT, ltF, eqF, nleT, nleF, nltT, nltF]; rfl)) ?_
  refine RegO.nil ?_
  refine DW.seq ?_
  refine DW.regs ?_
  refine RegO.opN 1 (by simp (maxSteps := 200000) (disch := first | omega | (simp; done) | fail) [wrapI, leT, leF, ltT, ltF, eqF, nleT, nleF, nltT, nltF]; rfl) ?_
  refine RegO.step rfl (OpStep.rowStr (n := 0) (l := []) rfl rfl (by decide) (by simp; rfl) (by simp) (by simp) (by simp [rowLen, bytesR]) (by simp [bytesR]; (first | exact ⟨rfl, rfl⟩ | rfl))) ?_
  refine RegO.opN 1 (by simp (maxSteps := 200000) (disch := first | omega | (simp; done) | fail) [wrapI, leT, leF, ltT, ltF, eqF, nleT, nleF, nltT, nltF]; rfl) ?_
  refine RegO.nil ?_
  refine DW.ret ?_
  simp [Tryd.results120]
theorem implHex_spec (s : ByteArray) (hs : s.size ≤ 20000) : Spec Tryd.prog 91 [rs s] [none, none] [ds (hexB s), db true] [rs s] := by
  refine Spec.intro Tryd.func91 rfl rfl Tryd.ntmps91 rfl (by simp) ?_
  have h20 : ¬ (20000 : Int) < s.size := by omega
  refine DW.seq ?_
  refine DW.reg (by simp (maxSteps := 200000) (disch := first | omega | (simp; done) | fail) [wrapI, leT, leF, ltT, ltF, eqF, nleT, nleF, nltT, nltF]; rfl) ?_
  refine DW.seq ?_
  refine DW.seq ?_
  refine DW.reg (by simp (maxSteps := 200000) (disch := first | omega | (simp; done) | fail) [wrapI, leT, leF, ltT, ltF, eqF, nleT, nleF, nltT, nltF]; rfl) ?_
  refine DW.condF (by simp (maxSteps := 200000) (disch := first | omega | (simp; done) | fail) [wrapI, leT, leF, ltT, ltF, eqF, nleT, nleF, nltT, nltF]) ?_
  refine DW.skip ?_
  refine DW.seq ?_
  rcases Nat.eq_zero_or_pos s.size with hz | hp
  · obtain rfl : s = ByteArray.empty := by cases s; simp only [ByteArray.size] at hz; congr; exact Array.eq_empty_of_size_eq_zero hz
    have hbe : bytesD ByteArray.empty = [] := rfl
    have hh0 : hexB ByteArray.empty = ByteArray.empty := rfl
    have hs0 : ByteArray.empty.size = 0 := rfl
    refine DW.regs ?_
    refine RegO.opN 1 (by simp (maxSteps := 200000) (disch := first | omega | (simp; done) | fail) [wrapI, leT, leF, ltT, ltF, eqF, nleT, nleF, nltT, nltF, hbe, hs0]; rfl) ?_
    refine RegO.step rfl (OpStep.strBytes rfl rfl (by decide) (by simp; rfl) (by simp; rfl) (by simp) (by simp; rfl) (by first | omega | simp) (by simp)) ?_
    refine RegO.step rfl (OpStep.callA rfl (by simp (maxSteps := 200000) (disch := first | omega | (simp; done) | fail) [wrapI, leT, leF, ltT, ltF, eqF, nleT, nleF, nltT, nltF, hbe, hs0]; exact ⟨rfl, rfl⟩) (by simp (maxSteps := 200000) (disch := first | omega | (simp; done) | fail) [wrapI, leT, leF, ltT, ltF, eqF, nleT, nleF, nltT, nltF, hbe, hs0]; rfl) (by exact encodeS0_spec) (by simp) (by simp (maxSteps := 200000) (disch := first | omega | (simp; done) | fail) [wrapI, leT, leF, ltT, ltF, eqF, nleT, nleF, nltT, nltF, hbe, hs0]; rfl)) ?_
    refine RegO.opN 2 (by simp (maxSteps := 200000) (disch := first | omega | (simp; done) | fail) [wrapI, leT, leF, ltT, ltF, eqF, nleT, nleF, nltT, nltF, hbe, hs0]; rfl) ?_
    refine RegO.nil ?_
    refine DW.ret ?_
    simp [Tryd.results91, hh0]
  · have hbt := bytesD_take s
    have hbl := bytesD_len s
    refine DW.regs ?_
    refine RegO.opN 1 (by simp (maxSteps := 200000) (disch := first | omega | (simp; done) | fail) [wrapI, leT, leF, ltT, ltF, eqF, nleT, nleF, nltT, nltF, hbt, hbl]; rfl) ?_
    refine RegO.step rfl (OpStep.strBytes rfl rfl (by decide) (by simp; rfl) (by simp; rfl) (by simp) (by simp; rfl) (by first | omega | simp) (by simp)) ?_
    refine RegO.step rfl (OpStep.callA rfl (by simp (maxSteps := 200000) (disch := first | omega | (simp; done) | fail) [wrapI, leT, leF, ltT, ltF, eqF, nleT, nleF, nltT, nltF, hbt, hbl]; exact ⟨rfl, rfl⟩) (by simp (maxSteps := 200000) (disch := first | omega | (simp; done) | fail) [wrapI, leT, leF, ltT, ltF, eqF, nleT, nleF, nltT, nltF, hbt, hbl]; rfl) (by exact encode_spec s hp hs) (by simp) (by simp (maxSteps := 200000) (disch := first | omega | (simp; done) | fail) [wrapI, leT, leF, ltT, ltF, eqF, nleT, nleF, nltT, nltF, hbt, hbl]; rfl)) ?_
    refine RegO.opN 2 (by simp (maxSteps := 200000) (disch := first | omega | (simp; done) | fail) [wrapI, leT, leF, ltT, ltF, eqF, nleT, nleF, nltT, nltF, hbt, hbl]; rfl) ?_
    refine RegO.nil ?_
    refine DW.ret ?_
    simp [Tryd.results91]
theorem hexOrDash_spec (s : ByteArray) (hs : s.size ≤ 20000) : Spec Tryd.prog 58 [rs s] [none] [ds (dashB s)] [rs s] := by
  refine Spec.intro Tryd.func58 rfl rfl Tryd.ntmps58 rfl (by simp) ?_
  refine DW.seq ?_
  refine DW.reg (by simp (maxSteps := 200000) (disch := first | omega | (simp; done) | fail) [wrapI, leT, leF, ltT, ltF, eqF, nleT, nleF, nltT, nltF]; rfl) ?_
  refine DW.seq ?_
  refine DW.regs ?_
  refine RegO.opN 1 (by simp (maxSteps := 200000) (disch := first | omega | (simp; done) | fail) [wrapI, leT, leF, ltT, ltF, eqF, nleT, nleF, nltT, nltF]; rfl) ?_
  refine RegO.step rfl (OpStep.callA rfl (by simp (maxSteps := 200000) (disch := first | omega | (simp; done) | fail) [wrapI, leT, leF, ltT, ltF, eqF, nleT, nleF, nltT, nltF]; exact ⟨rfl, rfl⟩) (by simp (maxSteps := 200000) (disch := first | omega | (simp; done) | fail) [wrapI, leT, leF, ltT, ltF, eqF, nleT, nleF, nltT, nltF]; rfl) (by exact implHex_spec s hs) (by simp) (by simp (maxSteps := 200000) (disch := first | omega | (simp; done) | fail) [wrapI, leT, leF, ltT, ltF, eqF, nleT, nleF, nltT, nltF]; rfl)) ?_
  refine RegO.opN 5 (by simp (maxSteps := 200000) (disch := first | omega | (simp; done) | fail) [wrapI, leT, leF, ltT, ltF, eqF, nleT, nleF, nltT, nltF]; rfl) ?_
  refine RegO.nil ?_
  refine DW.seq ?_
  refine DW.seq ?_
  refine DW.reg (by simp (maxSteps := 200000) (disch := first | omega | (simp; done) | fail) [wrapI, leT, leF, ltT, ltF, eqF, nleT, nleF, nltT, nltF]; rfl) ?_
  refine DW.condB (by simp (maxSteps := 200000) (disch := first | omega | (simp; done) | fail) [wrapI, leT, leF, ltT, ltF, eqF, nleT, nleF, nltT, nltF]; exact rfl) (fun hc0 => ?_) (fun hc0 => ?_)
  · have hc : hexB s = ByteArray.empty := ba_nil.1 (by simpa using hc0)
    have hres : dashB s = ⟨#[45]⟩ := by simp [dashB, hc]
    refine DW.seq ?_
    refine DW.reg (by simp (maxSteps := 200000) (disch := first | omega | (simp; done) | fail) [wrapI, leT, leF, ltT, ltF, eqF, nleT, nleF, nltT, nltF]; rfl) ?_
    refine DW.ret ?_
    rw [hres]
    simp [Tryd.results58]
  · have hc : ¬ hexB s = ByteArray.empty := fun e => (show ¬ (hexB s).toList = [] by simpa using hc0) (ba_nil.2 e)
    have hres : dashB s = hexB s := by simp [dashB, hc]
    refine DW.skip ?_
    refine DW.seq ?_
    refine DW.reg (by simp (maxSteps := 200000) (disch := first | omega | (simp; done) | fail) [wrapI, leT, leF, ltT, ltF, eqF, nleT, nleF, nltT, nltF]; rfl) ?_
    refine DW.ret ?_
    rw [hres]
    simp [Tryd.results58]
theorem implDecimal_spec (n : Int) (h0 : -9223372036854775808 ≤ n) (h1 : n < 9223372036854775808) : Spec Tryd.prog 57 [ri n] [none] [ds (decB n)] [ri n] := by
  refine Spec.intro Tryd.func57 rfl rfl Tryd.ntmps57 rfl (by simp) ?_
  refine DW.seq ?_
  refine DW.reg (by simp (maxSteps := 200000) (disch := first | omega | (simp; done) | fail) [wrapI, leT, leF, ltT, ltF, eqF, nleT, nleF, nltT, nltF]; rfl) ?_
  refine DW.seq ?_
  refine DW.regs ?_
  refine RegO.opN 1 (by simp (maxSteps := 200000) (disch := first | omega | (simp; done) | fail) [wrapI, leT, leF, ltT, ltF, eqF, nleT, nleF, nltT, nltF]; rfl) ?_
  refine RegO.step rfl (OpStep.callA rfl (by simp (maxSteps := 200000) (disch := first | omega | (simp; done) | fail) [wrapI, leT, leF, ltT, ltF, eqF, nleT, nleF, nltT, nltF]; exact ⟨rfl, rfl⟩) (by simp (maxSteps := 200000) (disch := first | omega | (simp; done) | fail) [wrapI, leT, leF, ltT, ltF, eqF, nleT, nleF, nltT, nltF]; rfl) (by exact itoa_spec n h0 h1) (by simp) (by simp (maxSteps := 200000) (disch := first | omega | (simp; done) | fail) [wrapI, leT, leF, ltT, ltF, eqF, nleT, nleF, nltT, nltF]; rfl)) ?_
  refine RegO.opN 1 (by simp (maxSteps := 200000) (disch := first | omega | (simp; done) | fail) [wrapI, leT, leF, ltT, ltF, eqF, nleT, nleF, nltT, nltF]; rfl) ?_
  refine RegO.nil ?_
  refine DW.ret ?_
  simp [Tryd.results57]
end Go.Proofs.YtciieaidbiejmaaDoor.DM
