import Derived.Test.YtciieaidbiejmaaFW2
import Derived.Test.YtciieaidbiejmaaDD
namespace Go.Proofs.Ytciieaidbiejmaa.DM
set_option linter.unusedVariables false
set_option linter.unusedSimpArgs false
set_option maxRecDepth 4000
set_option maxHeartbeats 8000000
def maskM (x : Int) : Int := IntKind.i64.wrap (BitVec.ofInt IntKind.i64.bits x &&& BitVec.ofInt IntKind.i64.bits 1073741823).toNat
@[simp ↓ high] theorem foldM (x : Int) : intBin .and .i64 x 1073741823 = some (.int .i64 (maskM x)) := by rw [maskM]; rfl
def hStep (h : Int) (b : UInt8) : Int := maskM (IntKind.i64.wrap (IntKind.i64.wrap (IntKind.i64.wrap (h * 131) + b.toNat) + 7))
attribute [irreducible] maskM
def newH (code : List UInt8) : Int := (code.take 4000).foldl hStep (94701 + code.length)
def newC (code : List UInt8) : Cur := ⟨code, 0, newH code⟩
theorem newC_ok {code : List UInt8} (h : code.length < 2 ^ 62) : (newC code).ok := ⟨Nat.zero_le _, h⟩
def textC (c : Cur) : Nat → Cur
  | 0 => c
  | k + 1 => curM (textC c k)
theorem textC_ok {c : Cur} (h : c.ok) : ∀ k, (textC c k).ok ∧ (textC c k).b = c.b
  | 0 => ⟨h, rfl⟩
  | k + 1 => ⟨(curM_ok (textC_ok h k).1).1, (curM_ok (textC_ok h k).1).2.trans (textC_ok h k).2⟩
def textL (c : Cur) (k : Nat) : List UInt8 := (List.range k).map fun i => UInt8.ofNat (byteM (textC c i)).toNat
@[simp] theorem textL_len (c : Cur) (k : Nat) : (textL c k).length = k := by simp [textL]
theorem textL_succ (c : Cur) (k : Nat) : textL c (k + 1) = textL c k ++ [UInt8.ofNat (byteM (textC c k)).toNat] := by simp [textL, List.range_succ]
def textB (c : Cur) (k : Nat) : ByteArray := ⟨(textL c k).toArray⟩
@[simp] theorem textB_size (c : Cur) (k : Nat) : (textB c k).size = k := by show (textL c k).toArray.size = k; simp
theorem byte_u8 (c : Cur) : IntKind.u8.wrap (byteM c) = ((UInt8.ofNat (byteM c).toNat).toNat : Int) := by
  have h := byteM_bd c
  have h2 : (UInt8.ofNat (byteM c).toNat).toNat = (byteM c).toNat := by simp [UInt8.toNat_ofNat']; omega
  rw [h2]
  simp [IntKind.wrap, IntKind.bits, IntKind.signed]
  omega

theorem l01New_spec (code : List UInt8) (hc : code.length < 2 ^ 62) : SpecB Try.prog 13 [ra code] (curD (newC code)) := by
  refine SpecB.intro Try.func13 rfl rfl Try.ntmps13 rfl (by simp) ?_
  have hlb : code.length < 4611686018427387904 := hc
  refine DW.seq ?_
  refine DW.reg (by simp (maxSteps := 200000) (disch := first | omega | (simp; done) | fail) [wrapI, leT, leF, ltT, ltF, eqF, nleT, nleF, nltT, nltF]; rfl) ?_
  refine DW.seq ?_
  refine DW.reg (by simp (maxSteps := 200000) (disch := first | omega | (simp; done) | fail) [wrapI, leT, leF, ltT, ltF, eqF, nleT, nleF, nltT, nltF]; rfl) ?_
  refine DW.seq ?_
  refine DW.seq ?_
  refine DW.reg (by simp (maxSteps := 200000) (disch := first | omega | (simp; done) | fail) [wrapI, leT, leF, ltT, ltF, eqF, nleT, nleF, nltT, nltF]; rfl) ?_
  refine DW.block ?_
  refine DW.loopS (α := Nat) (fun i => i ≤ code.length ∧ i ≤ 4000) (fun i => code.length - i) (fun i => [(4, vi i), (3, vi ((code.take i).foldl hStep (94701 + code.length)))]) (fun i => []) [(0, _)] [] [] 0 (by simp) (by simp; exact rfl) (by simp) (by simp) (by rfl) ?_
  rintro i ⟨hi, hi4⟩
  refine DW.seq ?_
  refine DW.seq ?_
  have hsp : ((i : Int) < code.length ∧ (i : Int) < 4000) ∨ ¬ ((i : Int) < code.length) ∨ ((i : Int) < code.length ∧ ¬ (i : Int) < 4000) := by omega
  rcases hsp with ⟨g0, g1⟩ | g0 | ⟨g0, g1⟩
  · have hlt : i < code.length := by omega
    have hd := rR_drop_UInt8 code i hlt
    have wu : IntKind.i64.wrap ((code[i]).toNat : Int) = (code[i]).toNat := wr _ (by omega) (by have := (code[i]).toNat_lt; omega)
    have hw := wr ((i : Int) + 1) (by omega) (by omega)
    have hS : (code.take (i + 1)).foldl hStep (94701 + code.length) = hStep ((code.take i).foldl hStep (94701 + code.length)) code[i] := by
      rw [List.take_add_one, List.getElem?_eq_getElem hlt, List.foldl_append]; rfl
    generalize (code.take i).foldl hStep (94701 + code.length) = h1 at hS ⊢
    refine DW.reg (by simp (maxSteps := 200000) (disch := first | omega | (simp; done) | fail) [wrapI, leT, leF, ltT, ltF, eqF, nleT, nleF, nltT, nltF, g0, g1, hlt, hd, wu, hw]; rfl) ?_
    refine DW.condT (by simp (maxSteps := 200000) (disch := first | omega | (simp; done) | fail) [wrapI, leT, leF, ltT, ltF, eqF, nleT, nleF, nltT, nltF, g0, g1, hlt, hd, wu, hw]) ?_
    refine DW.skip ?_
    refine DW.seq ?_
    refine DW.block ?_
    refine DW.reg (by simp (maxSteps := 200000) (disch := first | omega | (simp; done) | fail) [wrapI, leT, leF, ltT, ltF, eqF, nleT, nleF, nltT, nltF, g0, g1, hlt, hd, wu, hw]; rfl) ?_
    refine DW.reg (by simp (maxSteps := 200000) (disch := first | omega | (simp; done) | fail) [wrapI, leT, leF, ltT, ltF, eqF, nleT, nleF, nltT, nltF, g0, g1, hlt, hd, wu, hw]; rfl) ?_
    exact ⟨i + 1, ⟨by omega, by omega⟩, by omega, by simp [hS, hStep], by simp, by simp, by rfl⟩
  · have hil : code.take i = code.take 4000 := by
      rcases Nat.lt_or_ge i 4000 with h | h
      · rw [List.take_of_length_le (by omega), List.take_of_length_le (by omega)]
      · rw [show i = 4000 by omega]
    rw [hil]
    refine DW.reg (by simp (maxSteps := 200000) (disch := first | omega | (simp; done) | fail) [wrapI, leT, leF, ltT, ltF, eqF, nleT, nleF, nltT, nltF, g0]; rfl) ?_
    refine DW.condF (by simp (maxSteps := 200000) (disch := first | omega | (simp; done) | fail) [wrapI, leT, leF, ltT, ltF, eqF, nleT, nleF, nltT, nltF, g0]) ?_
    refine DW.exit ?_
    refine DW.seq ?_
    refine DW.reg (by simp (maxSteps := 200000) (disch := first | omega | (simp; done) | fail) [wrapI, leT, leF, ltT, ltF, eqF, nleT, nleF, nltT, nltF, g0]; rfl) ?_
    refine DW.ret ?_
    exact ⟨31, by simp, by simp [newC, newH]⟩
  · have hil : code.take i = code.take 4000 := by
      rcases Nat.lt_or_ge i 4000 with h | h
      · rw [List.take_of_length_le (by omega), List.take_of_length_le (by omega)]
      · rw [show i = 4000 by omega]
    rw [hil]
    refine DW.reg (by simp (maxSteps := 200000) (disch := first | omega | (simp; done) | fail) [wrapI, leT, leF, ltT, ltF, eqF, nleT, nleF, nltT, nltF, g0, g1]; rfl) ?_
    refine DW.condF (by simp (maxSteps := 200000) (disch := first | omega | (simp; done) | fail) [wrapI, leT, leF, ltT, ltF, eqF, nleT, nleF, nltT, nltF, g0, g1]) ?_
    refine DW.exit ?_
    refine DW.seq ?_
    refine DW.reg (by simp (maxSteps := 200000) (disch := first | omega | (simp; done) | fail) [wrapI, leT, leF, ltT, ltF, eqF, nleT, nleF, nltT, nltF, g0, g1]; rfl) ?_
    refine DW.ret ?_
    exact ⟨31, by simp, by simp [newC, newH]⟩
theorem l01Text_spec (c : Cur) (hc : c.ok) (n : Nat) (hn : n ≤ 5000) : Spec Try.prog 52 [.ptr (curD c), ri n] [none] [ds (textB c n)] [.ptr (curD (textC c n)), ri n] := by
  refine Spec.intro Try.func52 rfl rfl Try.ntmps52 rfl (by simp) ?_
  have h5 : ¬ (5000 : Int) < n := by omega
  refine DW.seq ?_
  refine DW.reg (by simp (maxSteps := 200000) (disch := first | omega | (simp; done) | fail) [wrapI, leT, leF, ltT, ltF, eqF, nleT, nleF, nltT, nltF, mapV, pzR, inR]; rfl) ?_
  refine DW.seq ?_
  refine DW.seq ?_
  refine DW.reg (by simp (maxSteps := 200000) (disch := first | omega | (simp; done) | fail) [wrapI, leT, leF, ltT, ltF, eqF, nleT, nleF, nltT, nltF, mapV, pzR, inR]; rfl) ?_
  refine DW.condF (by simp (maxSteps := 200000) (disch := first | omega | (simp; done) | fail) [wrapI, leT, leF, ltT, ltF, eqF, nleT, nleF, nltT, nltF, mapV, pzR, inR]) ?_
  refine DW.skip ?_
  refine DW.seq ?_
  refine DW.reg (by simp (maxSteps := 200000) (disch := first | omega | (simp; done) | fail) [wrapI, leT, leF, ltT, ltF, eqF, nleT, nleF, nltT, nltF, mapV, pzR, inR]; rfl) ?_
  refine DW.ghost (Ghost.nlRow 5 20 1 (by simp) (by simp)) ?_
  refine DW.seq ?_
  refine DW.seq ?_
  refine DW.reg (by simp (maxSteps := 200000) (disch := first | omega | (simp; done) | fail) [wrapI, leT, leF, ltT, ltF, eqF, nleT, nleF, nltT, nltF, mapV, pzR, inR]; rfl) ?_
  refine DW.block ?_
  refine DW.loopS (α := Nat) (fun i => i ≤ n) (fun i => n - i) (fun i => [(6, vi i), (5, .v (.one (.sl 20 [] 0 i)))]) (fun i => [(20, .ow () 1 i (bytesR (textL c i))), (0, .ow () 3 1 (curD (textC c i)))]) [(0, _), (1, _)] [] [(0, .pt 0 [] 0)] 0 (Nat.zero_le _) (by simp; exact ⟨rfl, rfl⟩) (by simp [textL, bytesR, textC]) (by simp) (by rfl) ?_
  intro i hi
  refine DW.seq ?_
  refine DW.seq ?_
  refine DW.reg (by simp (maxSteps := 200000) (disch := first | omega | (simp; done) | fail) [wrapI, leT, leF, ltT, ltF, eqF, nleT, nleF, nltT, nltF, mapV, pzR, inR]; rfl) ?_
  refine DW.condB (by simp (maxSteps := 200000) (disch := first | omega | (simp; done) | fail) [wrapI, leT, leF, ltT, ltF, eqF, nleT, nleF, nltT, nltF, mapV, pzR, inR]; exact rfl) (fun hc1 => ?_) (fun hc1 => ?_)
  · have hlt : i < n := by simpa using hc1
    have hlt1 : (i : Int) < n := by omega
    have hb2 : (i + 1) * 16 ≤ 140737488355328 := by omega
    have hb3 : i + 1 ≤ 140737488355328 := by omega
    have hS := textL_succ c i
    have hC : textC c (i + 1) = curM (textC c i) := rfl
    have hok := (textC_ok hc i).1
    have hu := byte_u8 (textC c i)
    obtain ⟨u, hue⟩ : ∃ u, u = UInt8.ofNat (byteM (textC c i)).toNat := ⟨_, rfl⟩
    rw [← hue] at hS hu
    clear hue
    have hw := wr ((i : Int) + 1) (by omega) (by omega)
    have hll := textL_len c i
    generalize textC c i = c1 at hS hC hok hu ⊢
    generalize textL c i = l1 at hS hll ⊢
    have htk : List.take i l1 = l1 := List.take_of_length_le (by omega)
    refine DW.skip ?_
    refine DW.seq ?_
    refine DW.block ?_
    refine DW.regs ?_
    refine RegO.opN 2 (by simp [mapV, pzR, inR, hlt, hlt1, hb2, hb3, hu, hw, hll, htk]; rfl) ?_
    refine RegO.step rfl (OpStep.callP (io := 0) (id := 0) (off := 0) (p := []) (sz := 3) (n := 1) (cs0 := curD c1) rfl (by simp [callArgs]; rfl) (l01Byte_spec c1 hok) (by simp) rfl rfl (by simp) rfl (by simp) (by simp) (by simp) (by simp [callArgs, FS.lend]; rfl) (by simp [rosOk, roA_, toRC, mapO]) (by simp [widen, ownV, ownC]) (by simp [finish, packDV, packD, ptBack]; rfl)) ?_
    refine RegO.opN 4 (by simp [mapV, pzR, inR, hlt, hlt1, hb2, hb3, hu, hw, hll, htk]; rfl) ?_
    refine RegO.nil ?_
    refine DW.reg (by simp (maxSteps := 200000) (disch := first | omega | (simp; done) | fail) [wrapI, leT, leF, ltT, ltF, eqF, nleT, nleF, nltT, nltF, mapV, pzR, inR, hlt, hlt1, hb2, hb3, hu, hw, hll, htk]; rfl) ?_
    exact ⟨i + 1, hlt, by omega, by simp, by simp [hS, hC, hll, bytesR], by simp, by rfl⟩
  · have hil : i = n := by
      have : ¬ i < n := by simpa using hc1
      omega
    subst hil
    have hll := textL_len c i
    have htk : List.take i (textL c i) = textL c i := List.take_of_length_le (by omega)
    refine DW.exit ?_
    refine DW.seq ?_
    refine DW.regs ?_
    refine RegO.opN 1 (by simp (maxSteps := 200000) (disch := first | omega | (simp; done) | fail) [wrapI, leT, leF, ltT, ltF, eqF, nleT, nleF, nltT, nltF, mapV, pzR, inR, htk]; rfl) ?_
    refine RegO.step rfl (OpStep.rowStr (n := i) (l := textL c i) rfl rfl (by decide) (by simp; rfl) (by simp) (by simp) (by simp [rowLen, htk]) (by simp [htk]; (first | exact ⟨rfl, rfl⟩ | rfl))) ?_
    refine RegO.opN 1 (by simp (maxSteps := 200000) (disch := first | omega | (simp; done) | fail) [wrapI, leT, leF, ltT, ltF, eqF, nleT, nleF, nltT, nltF, mapV, pzR, inR, htk]; rfl) ?_
    refine RegO.nil ?_
    refine DW.ret ?_
    simp [Try.results52, mapV, pzR, inR, textB]
end Go.Proofs.Ytciieaidbiejmaa.DM
