import Derived.Test.YtjjdjkkhhcbogaaFG2
import Derived.Test.YtjjdjkkhhcbogaaFM13
import Derived.Test.YtjjdjkkhhcbogaaShelfS
import Derived.Test.YtjjdjkkhhcbogaaDD
namespace Go.Proofs.Ytjjdjkkhhcbogaa.DM
set_option linter.unusedVariables false
set_option linter.unusedSimpArgs false
set_option maxRecDepth 4000
set_option maxHeartbeats 8000000
/-- bytes in a row. -/
def bytesR (l : List UInt8) : List D := l.map byteD
@[simp] theorem bytesR_len (l : List UInt8) : (bytesR l).length = l.length := List.length_map _
theorem bytesR_zero (n : Nat) : List.replicate n (T.sc (.int .u8 0) : D) = bytesR (List.replicate n 0) := by simp [bytesR]
theorem bytesR_set (l : List UInt8) (i : Nat) (b : UInt8) : (bytesR l).set i (.sc (.int .u8 b.toNat)) = bytesR (l.set i b) := by simp [bytesR, List.map_set]
theorem bytesR_snoc (l : List UInt8) (b : UInt8) : bytesR l ++ [T.sc (.int .u8 b.toNat)] = bytesR (l ++ [b]) := by simp [bytesR]
@[simp] theorem bytesR_flat (l : List UInt8) : (bytesR l).all flatD = true := by simp [bytesR, List.all_map, List.all_eq_true]
@[simp] theorem bytesR_take (l : List UInt8) (n : Nat) : (bytesR l).take n = bytesR (l.take n) := by simp [bytesR, List.map_take]
@[simp] theorem bytesR_drop (l : List UInt8) (n : Nat) : (bytesR l).drop n = bytesR (l.drop n) := by simp [bytesR, List.map_drop]
@[simp] theorem bytesR_at (l : List UInt8) (i : Nat) (h : i < (bytesR l).length) : (bytesR l)[i] = .sc (.int .u8 (l[i]'(by simpa using h)).toNat) := by simp [bytesR]
theorem OpStep.rowStr {P : Program} {nt : Nat} {s : FS} {o : Oper} {src dst e : TypeId} {x : Operand} {d n : Nat} {l : List UInt8} {s' : FS} {f : DC → DC} (ho : o.op = .convert src dst x) (hd : o.dst = some d) (hdn : d < nt) (hs : P.underlying src = some (.slice e)) (hds : P.underlying dst = some .string) (he : P.underlying e = some (.int .u8))
    (hx : rowLen (ev s.e x) = some n) (hsrc : srcCells s (ev s.e x) 1 = some (n, bytesR l, s', f)) : OpStep P nt o s ⟨upd s.e d (.v (.one (.t (.sc (.string ⟨l.toArray⟩))))), s.h, s.g⟩ := OpStep.bytesStr ho hd hdn hs hds he hx hsrc
theorem repeatL0 : ∀ c : Nat, Go.Lib.repeatL [0] c = List.replicate c 0
  | 0 => rfl
  | c + 1 => by rw [Go.Lib.repeatL, repeatL0 c]; rfl
theorem repeat_spec (c : Nat) (hc : c ≤ 1099511627776) : Spec Try.prog 133 [rs ⟨#[0]⟩, ri c] [none] [ds (zeros c)] [rs ⟨#[0]⟩, ri c] :=
  Spec.plain (vs := [.string ⟨#[0]⟩, .int .i64 c]) (rs := [.string (zeros c)]) ⟨_, Try.func133, by kernel_rfl, by kernel_rfl⟩ (by simp [plain]) fun w => by
    have h := Try.strings_Repeat ⟨#[0]⟩ c w (by omega) (by show 1 * c ≤ _; omega)
    refine h.mono fun e w' he => ⟨?_, he.2⟩
    rw [he.1]
    show Ending.returned (.string ⟨(Go.Lib.repeatL [0] c).toArray⟩) = _
    rw [repeatL0]; rfl
def reps (n : Nat) (x : UInt8) : ByteArray := ⟨(List.replicate n x).toArray⟩
@[simp] theorem reps_size (n : Nat) (x : UInt8) : (reps n x).size = n := by show (List.replicate n x).toArray.size = n; simp
theorem reps_zero (n : Nat) : reps n 0 = zeros n := rfl
theorem padB_empty (n : Nat) : padB ByteArray.empty n = zeros n := by apply bytes_ext; simp [padB, zeros]
def mixL (n i : Nat) (x : UInt8) : List UInt8 := List.replicate i x ++ List.replicate (n - i) 0
@[simp] theorem mixL_len (n i : Nat) (x : UInt8) (h : i ≤ n) : (mixL n i x).length = n := by simp [mixL]; omega
theorem mixL_set (n i : Nat) (x : UInt8) (h : i < n) : (mixL n i x).set i x = mixL n (i + 1) x := by
  unfold mixL
  rw [List.set_append_right _ _ (by simp), List.length_replicate, Nat.sub_self, show n - i = (n - (i + 1)) + 1 by omega, List.replicate_succ, List.set_cons_zero, List.replicate_succ', List.append_assoc]; rfl

theorem padded_spec (s : ByteArray) (n : Nat) (hs : s.size ≤ 1099511627776) (hn : n ≤ 1099511627776) : Spec Try.prog 90 [rs s, ri n] [none] [ds (padB s n)] [rs s, ri n] := by
  refine Spec.intro Try.func90 rfl rfl Try.ntmps90 rfl (by simp) ?_
  have hmx : max 0 ((n : Int) - s.size) = ((n - s.size : Nat) : Int) := by omega
  refine DW.seq ?_
  refine DW.reg (by simp (maxSteps := 200000) (disch := first | omega | (simp; done) | fail) [wrapI, leT, leF, ltT, ltF, eqF, nleT, nleF, nltT, nltF, hmx]; rfl) ?_
  refine DW.seq ?_
  refine DW.regs ?_
  refine RegO.opN 5 (by simp (maxSteps := 200000) (disch := first | omega | (simp; done) | fail) [wrapI, leT, leF, ltT, ltF, eqF, nleT, nleF, nltT, nltF, hmx]; rfl) ?_
  refine RegO.step rfl (OpStep.maxI rfl rfl (by decide) (by simp (maxSteps := 200000) (disch := first | omega | (simp; done) | fail) [wrapI, leT, leF, ltT, ltF, eqF, nleT, nleF, nltT, nltF, hmx]; rfl) (by simp (maxSteps := 200000) (disch := first | omega | (simp; done) | fail) [wrapI, leT, leF, ltT, ltF, eqF, nleT, nleF, nltT, nltF, hmx]; rfl)) ?_
  refine RegO.step rfl (OpStep.callA rfl (by simp (maxSteps := 200000) (disch := first | omega | (simp; done) | fail) [wrapI, leT, leF, ltT, ltF, eqF, nleT, nleF, nltT, nltF, hmx]; exact ⟨rfl, rfl⟩) (by simp (maxSteps := 200000) (disch := first | omega | (simp; done) | fail) [wrapI, leT, leF, ltT, ltF, eqF, nleT, nleF, nltT, nltF, hmx]; rfl) (by exact repeat_spec (n - s.size) (by omega)) (by simp) (by simp (maxSteps := 200000) (disch := first | omega | (simp; done) | fail) [wrapI, leT, leF, ltT, ltF, eqF, nleT, nleF, nltT, nltF, hmx]; rfl)) ?_
  refine RegO.opN 2 (by simp (maxSteps := 200000) (disch := first | omega | (simp; done) | fail) [wrapI, leT, leF, ltT, ltF, eqF, nleT, nleF, nltT, nltF, hmx]; rfl) ?_
  refine RegO.nil ?_
  refine DW.ret ?_
  simp [Try.results90, padB]
theorem l01Long_spec (n : Nat) (x : UInt8) (hn : n ≤ 20000) : Spec Try.prog 126 [ri n, .one (.r (.sc (.int .u8 x.toNat)))] [none] [ds (reps n x)] [ri n, .one (.r (.sc (.int .u8 x.toNat)))] := by
  refine Spec.intro Try.func126 rfl rfl Try.ntmps126 rfl (by simp) ?_
  have hb1 : (n : Int) ≤ 281474976710656 := by omega
  have hb2 : (n : Nat) ≤ 281474976710656 := by omega
  refine DW.seq ?_
  refine DW.reg (by simp (maxSteps := 200000) (disch := first | omega | (simp; done) | fail) [wrapI, leT, leF, ltT, ltF, eqF, nleT, nleF, nltT, nltF]; rfl) ?_
  refine DW.seq ?_
  refine DW.reg (by simp (maxSteps := 200000) (disch := first | omega | (simp; done) | fail) [wrapI, leT, leF, ltT, ltF, eqF, nleT, nleF, nltT, nltF, hb1, hb2]; rfl) ?_
  refine DW.seq ?_
  refine DW.seq ?_
  refine DW.reg (by simp (maxSteps := 200000) (disch := first | omega | (simp; done) | fail) [wrapI, leT, leF, ltT, ltF, eqF, nleT, nleF, nltT, nltF]; rfl) ?_
  refine DW.block ?_
  refine DW.loopS (α := Nat) (fun i => i ≤ n) (fun i => n - i) (fun i => [(6, vi i)]) (fun i => [(8, .ow () 1 n (bytesR (mixL n i x)))]) [(0, _), (1, _), (5, _)] [] [] 0 (by simp) (by simp; exact ⟨rfl, rfl, rfl⟩) (by simp [bytesR_zero, mixL]) (by simp) (by rfl) ?_
  intro i hi
  have hml : (mixL n i x).length = n := mixL_len n i x hi
  refine DW.seq ?_
  refine DW.seq ?_
  refine DW.reg (by simp (maxSteps := 200000) (disch := first | omega | (simp; done) | fail) [wrapI, leT, leF, ltT, ltF, eqF, nleT, nleF, nltT, nltF]; rfl) ?_
  refine DW.condB (by simp (maxSteps := 200000) (disch := first | omega | (simp; done) | fail) [wrapI, leT, leF, ltT, ltF, eqF, nleT, nleF, nltT, nltF]; exact rfl) (fun hc0 => ?_) (fun hc0 => ?_)
  · have hlt : i < n := by simpa using hc0
    have hw := wr ((i : Int) + 1) (by omega) (by omega)
    have hst : (bytesR (mixL n i x)).set i (T.sc (.int .u8 x.toNat)) = bytesR (mixL n (i + 1) x) := by rw [bytesR_set, mixL_set n i x hlt]
    refine DW.skip ?_
    refine DW.seq ?_
    refine DW.block ?_
    refine DW.reg (by simp [hlt, hw, hml, hst]; rfl) ?_
    refine DW.norm [(0, _), (1, _), (5, _), (6, _)] [(8, _)] [] (by simp [hlt, hw, hml]; exact ⟨rfl, rfl, rfl, rfl⟩) (by simp [hlt, hw, hml]; rfl) (by simp [hlt, hw, hml]) (by rfl) ?_
    refine DW.reg (by simp (maxSteps := 200000) (disch := first | omega | (simp; done) | fail) [wrapI, leT, leF, ltT, ltF, eqF, nleT, nleF, nltT, nltF, hlt, hw, hml]; rfl) ?_
    exact ⟨i + 1, hlt, by omega, by simp, by simp, by simp, by rfl⟩
  · have hil : i = n := by
      have : ¬ i < n := by simpa using hc0
      omega
    subst hil
    have hmx : mixL i i x = List.replicate i x := by simp [mixL]
    have hml2 : (mixL i i x).length = i := by simp [mixL]
    refine DW.exit ?_
    refine DW.seq ?_
    refine DW.regs ?_
    refine RegO.opN 1 (by simp (maxSteps := 200000) (disch := first | omega | (simp; done) | fail) [wrapI, leT, leF, ltT, ltF, eqF, nleT, nleF, nltT, nltF, hmx]; rfl) ?_
    refine RegO.step rfl (OpStep.rowStr (n := i) (l := List.replicate i x) rfl rfl (by decide) (by simp; rfl) (by simp) (by simp) (by simp [rowLen, hmx]) (by simp [hmx]; (first | exact ⟨rfl, rfl⟩ | rfl))) ?_
    refine RegO.opN 1 (by simp (maxSteps := 200000) (disch := first | omega | (simp; done) | fail) [wrapI, leT, leF, ltT, ltF, eqF, nleT, nleF, nltT, nltF, hmx]; rfl) ?_
    refine RegO.nil ?_
    refine DW.ret ?_
    simp [Try.results126, reps]
theorem zeroText_spec (n : Nat) (hn : n ≤ 20000) : Spec Try.prog 97 [ri n] [none] [ds (zeros n)] [ri n] := by
  refine Spec.intro Try.func97 rfl rfl Try.ntmps97 rfl (by simp) ?_
  have hin : inB n 0 20000 = true := by simp [inB]; omega
  refine DW.seq ?_
  refine DW.reg (by simp (maxSteps := 200000) (disch := first | omega | (simp; done) | fail) [wrapI, leT, leF, ltT, ltF, eqF, nleT, nleF, nltT, nltF, hin]; rfl) ?_
  refine DW.seq ?_
  refine DW.seq ?_
  refine DW.regs ?_
  refine RegO.opN 1 (by simp (maxSteps := 200000) (disch := first | omega | (simp; done) | fail) [wrapI, leT, leF, ltT, ltF, eqF, nleT, nleF, nltT, nltF, hin]; rfl) ?_
  refine RegO.step rfl (OpStep.callA rfl (by simp (maxSteps := 200000) (disch := first | omega | (simp; done) | fail) [wrapI, leT, leF, ltT, ltF, eqF, nleT, nleF, nltT, nltF, hin]; exact ⟨rfl, rfl⟩) (by simp (maxSteps := 200000) (disch := first | omega | (simp; done) | fail) [wrapI, leT, leF, ltT, ltF, eqF, nleT, nleF, nltT, nltF, hin]; rfl) (by exact l01In_spec _ _ _) (by simp) (by simp (maxSteps := 200000) (disch := first | omega | (simp; done) | fail) [wrapI, leT, leF, ltT, ltF, eqF, nleT, nleF, nltT, nltF, hin]; rfl)) ?_
  refine RegO.opN 1 (by simp (maxSteps := 200000) (disch := first | omega | (simp; done) | fail) [wrapI, leT, leF, ltT, ltF, eqF, nleT, nleF, nltT, nltF, hin]; rfl) ?_
  refine RegO.nil ?_
  refine DW.condF (by simp (maxSteps := 200000) (disch := first | omega | (simp; done) | fail) [wrapI, leT, leF, ltT, ltF, eqF, nleT, nleF, nltT, nltF, hin]) ?_
  refine DW.skip ?_
  refine DW.seq ?_
  refine DW.regs ?_
  refine RegO.opN 1 (by simp (maxSteps := 200000) (disch := first | omega | (simp; done) | fail) [wrapI, leT, leF, ltT, ltF, eqF, nleT, nleF, nltT, nltF, hin]; rfl) ?_
  refine RegO.step rfl (OpStep.callA rfl (by simp (maxSteps := 200000) (disch := first | omega | (simp; done) | fail) [wrapI, leT, leF, ltT, ltF, eqF, nleT, nleF, nltT, nltF, hin]; exact ⟨rfl, rfl⟩) (by simp (maxSteps := 200000) (disch := first | omega | (simp; done) | fail) [wrapI, leT, leF, ltT, ltF, eqF, nleT, nleF, nltT, nltF, hin]; rfl) (by exact l01Long_spec n 0 hn) (by simp) (by simp (maxSteps := 200000) (disch := first | omega | (simp; done) | fail) [wrapI, leT, leF, ltT, ltF, eqF, nleT, nleF, nltT, nltF, hin]; rfl)) ?_
  refine RegO.opN 1 (by simp (maxSteps := 200000) (disch := first | omega | (simp; done) | fail) [wrapI, leT, leF, ltT, ltF, eqF, nleT, nleF, nltT, nltF, hin]; rfl) ?_
  refine RegO.nil ?_
  refine DW.ret ?_
  simp [Try.results97, reps_zero]
theorem specMemoryNew_spec (n : Nat) (hn : n ≤ 1000) : Spec Try.prog 41 [ri n] [some 2] (dM ⟨zeros (n * 16), []⟩) [ri n] := by
  refine Spec.intro Try.func41 rfl rfl Try.ntmps41 rfl (by simp) ?_
  have hin : inB (n : Int) 0 1000 = true := by simp [inB]; omega
  have hm : IntKind.i64.wrap ((n : Int) * 16) = (n : Int) * 16 := wr _ (by omega) (by omega)
  obtain ⟨q, hq⟩ : ∃ q, q = n * 16 := ⟨_, rfl⟩
  have hm2 : (n : Int) * 16 = (q : Int) := by omega
  rw [← hq]
  have hmq : IntKind.i64.wrap (q : Int) = (q : Int) := wr _ (by omega) (by omega)
  refine DW.seq ?_
  refine DW.reg (by simp (maxSteps := 200000) (disch := first | omega | (simp; done) | fail) [wrapI, leT, leF, ltT, ltF, eqF, nleT, nleF, nltT, nltF]; rfl) ?_
  refine DW.seq ?_
  refine DW.seq ?_
  refine DW.regs ?_
  refine RegO.opN 1 (by simp (maxSteps := 200000) (disch := first | omega | (simp; done) | fail) [wrapI, leT, leF, ltT, ltF, eqF, nleT, nleF, nltT, nltF, hin]; rfl) ?_
  refine RegO.step rfl (OpStep.callA rfl (by simp (maxSteps := 200000) (disch := first | omega | (simp; done) | fail) [wrapI, leT, leF, ltT, ltF, eqF, nleT, nleF, nltT, nltF, hin]; exact ⟨rfl, rfl⟩) (by simp (maxSteps := 200000) (disch := first | omega | (simp; done) | fail) [wrapI, leT, leF, ltT, ltF, eqF, nleT, nleF, nltT, nltF, hin]; rfl) (by exact l01In_spec _ _ _) (by simp) (by simp (maxSteps := 200000) (disch := first | omega | (simp; done) | fail) [wrapI, leT, leF, ltT, ltF, eqF, nleT, nleF, nltT, nltF, hin]; rfl)) ?_
  refine RegO.opN 1 (by simp (maxSteps := 200000) (disch := first | omega | (simp; done) | fail) [wrapI, leT, leF, ltT, ltF, eqF, nleT, nleF, nltT, nltF, hin]; rfl) ?_
  refine RegO.nil ?_
  refine DW.condF (by simp (maxSteps := 200000) (disch := first | omega | (simp; done) | fail) [wrapI, leT, leF, ltT, ltF, eqF, nleT, nleF, nltT, nltF, hin]) ?_
  refine DW.skip ?_
  refine DW.seq ?_
  refine DW.regs ?_
  refine RegO.opN 1 (by simp [hmq, hm2]; rfl) ?_
  refine RegO.step rfl (OpStep.callA rfl (by simp [hmq, hm2]; exact ⟨rfl, rfl⟩) (by simp [hmq, hm2]; rfl) (by exact l10Size_spec) (by simp) (by simp [hmq, hm2]; rfl)) ?_
  refine RegO.opN 1 (by simp [hmq, hm2]; rfl) ?_
  refine RegO.step rfl (OpStep.callA rfl (by simp [hmq, hm2]; exact ⟨rfl, rfl⟩) (by simp [hmq, hm2]; rfl) (by exact zeroText_spec q (by omega)) (by simp) (by simp [hmq, hm2]; rfl)) ?_
  refine RegO.opN 2 (by simp [hmq, hm2]; rfl) ?_
  refine RegO.nil ?_
  refine DW.ghost (Ghost.wide 2 [1] 3 (by simp; rfl) (by simp)) ?_
  refine DW.ret ?_
  simp [Try.results41]
theorem implMemoryNew_spec (n : Nat) (hn : n ≤ 1000) : Spec Try.prog 30 [ri n] [some 2] (dM ⟨zeros (n * 16), []⟩) [ri n] := by
  refine Spec.intro Try.func30 rfl rfl Try.ntmps30 rfl (by simp) ?_
  have hin : inB (n : Int) 0 1000 = true := by simp [inB]; omega
  have hm : IntKind.i64.wrap ((n : Int) * 16) = (n : Int) * 16 := wr _ (by omega) (by omega)
  obtain ⟨q, hq⟩ : ∃ q, q = n * 16 := ⟨_, rfl⟩
  have hm2 : (n : Int) * 16 = (q : Int) := by omega
  rw [← hq]
  have hmq : IntKind.i64.wrap (q : Int) = (q : Int) := wr _ (by omega) (by omega)
  refine DW.seq ?_
  refine DW.reg (by simp (maxSteps := 200000) (disch := first | omega | (simp; done) | fail) [wrapI, leT, leF, ltT, ltF, eqF, nleT, nleF, nltT, nltF]; rfl) ?_
  refine DW.seq ?_
  refine DW.seq ?_
  refine DW.regs ?_
  refine RegO.opN 1 (by simp (maxSteps := 200000) (disch := first | omega | (simp; done) | fail) [wrapI, leT, leF, ltT, ltF, eqF, nleT, nleF, nltT, nltF, hin]; rfl) ?_
  refine RegO.step rfl (OpStep.callA rfl (by simp (maxSteps := 200000) (disch := first | omega | (simp; done) | fail) [wrapI, leT, leF, ltT, ltF, eqF, nleT, nleF, nltT, nltF, hin]; exact ⟨rfl, rfl⟩) (by simp (maxSteps := 200000) (disch := first | omega | (simp; done) | fail) [wrapI, leT, leF, ltT, ltF, eqF, nleT, nleF, nltT, nltF, hin]; rfl) (by exact within_spec _ _ _) (by simp) (by simp (maxSteps := 200000) (disch := first | omega | (simp; done) | fail) [wrapI, leT, leF, ltT, ltF, eqF, nleT, nleF, nltT, nltF, hin]; rfl)) ?_
  refine RegO.opN 1 (by simp (maxSteps := 200000) (disch := first | omega | (simp; done) | fail) [wrapI, leT, leF, ltT, ltF, eqF, nleT, nleF, nltT, nltF, hin]; rfl) ?_
  refine RegO.nil ?_
  refine DW.condF (by simp (maxSteps := 200000) (disch := first | omega | (simp; done) | fail) [wrapI, leT, leF, ltT, ltF, eqF, nleT, nleF, nltT, nltF, hin]) ?_
  refine DW.skip ?_
  refine DW.seq ?_
  refine DW.regs ?_
  refine RegO.opN 2 (by simp [hmq, hm2]; rfl) ?_
  refine RegO.step rfl (OpStep.callA rfl (by simp [hmq, hm2]; exact ⟨rfl, rfl⟩) (by simp [hmq, hm2]; rfl) (by exact (padB_empty q ▸ padded_spec ByteArray.empty q (by simp) (by omega))) (by simp) (by simp [hmq, hm2]; rfl)) ?_
  refine RegO.opN 2 (by simp [hmq, hm2]; rfl) ?_
  refine RegO.nil ?_
  refine DW.ghost (Ghost.wide 2 [1] 3 (by simp; rfl) (by simp)) ?_
  refine DW.ret ?_
  simp [Try.results30]
end Go.Proofs.Ytjjdjkkhhcbogaa.DM
