import Derived.Test.YtjjdjkkhhcbogaaGreatFG4
import Derived.Test.YtjjdjkkhhcbogaaGreatShelfA
import Derived.Test.YtjjdjkkhhcbogaaGreatDC
namespace Go.Proofs.YtjjdjkkhhcbogaaGreat.DM
set_option linter.unusedVariables false
set_option linter.unusedSimpArgs false
set_option maxRecDepth 4000
set_option maxHeartbeats 8000000
theorem repeatL0 : ∀ c : Nat, Go.Lib.repeatL [0] c = List.replicate c 0
  | 0 => rfl
  | c + 1 => by rw [Go.Lib.repeatL, repeatL0 c]; rfl
theorem repeat_spec (c : Nat) (hc : c ≤ 1099511627776) : Spec Tryz.prog 125 [rs ⟨#[0]⟩, ri c] [none] [ds (zeros c)] [rs ⟨#[0]⟩, ri c] :=
  Spec.plain (vs := [.string ⟨#[0]⟩, .int .i64 c]) (rs := [.string (zeros c)]) ⟨_, Tryz.func125, by kernel_rfl, by kernel_rfl⟩ (by simp [plain]) fun w => by
    have h := Tryz.strings_Repeat ⟨#[0]⟩ c w (by omega) (by show 1 * c ≤ _; omega)
    refine h.mono fun e w' he => ⟨?_, he.2⟩
    rw [he.1]
    show Ending.returned (.string ⟨(Go.Lib.repeatL [0] c).toArray⟩) = _
    rw [repeatL0]; rfl
theorem rD_ints : ∀ l : List Int, rD l = l.map fun x => .sc (.int .i64 x)
  | [] => rfl
  | x :: l => by rw [rD_cons, rD_ints l]; rfl
theorem srt_len (l : List Int) : (srt l).length = l.length := List.length_mergeSort l
theorem sortI_spec (l : List Int) (h0 : 0 < l.length) (hl : l.length ≤ 1099511627776) : Spec Tryz.prog 173 [.one (.m 1 l.length (rD l))] [] [] [.one (.m 1 l.length (rD (srt l)))] := by
  rw [rD_ints, rD_ints]
  refine Spec.sortI ⟨_, Tryz.func173, by kernel_rfl, by kernel_rfl⟩ h0 (srt_len l) fun b o c w hH hb hc hm => ?_
  exact Tryz.slices_Sort_int b o c l w hH hb (by omega)
theorem compact_le (l : List Int) : (Lib.compact l).length ≤ l.length := by
  have := List.length_filter_le (Lib.keeps l.toArray) (List.range l.length)
  simpa [Lib.compact, Lib.compactUpTo] using this
theorem compactI_spec (l : List Int) (h0 : 0 < l.length) : Spec Tryz.prog 174 [.one (.c 1 l.length (rD l))] [none] [dr (Lib.compact l)] [.one (.c 1 l.length (rD l))] := by
  show Spec _ _ _ _ [.ow () 1 _ (rD (Lib.compact l))] _
  rw [rD_ints, rD_ints]
  have hle := compact_le l
  refine Spec.compactI (zs := List.replicate (l.length - (Lib.compact l).length) 0) ⟨_, Tryz.func174, by kernel_rfl, by kernel_rfl⟩ h0 (by rw [List.length_append, List.length_replicate]; omega) fun b o c w hH hb hc hm => ?_
  exact Tryz.slices_Compact_int b o c l w hH (by simp only [maxLen] at hm; omega) hc
/-- bytes in a row. -/
def bytesR (l : List UInt8) : List D := l.map byteD
@[simp] theorem bytesR_len (l : List UInt8) : (bytesR l).length = l.length := List.length_map _
theorem bytesR_zero (n : Nat) : List.replicate n (T.sc (.int .u8 0) : D) = bytesR (List.replicate n 0) := by simp [bytesR]
theorem bytesR_eq (l : List UInt8) : bytesR l = l.map (fun c => T.sc (.int .u8 c.toNat)) := rfl
theorem bytesR_snoc (l : List UInt8) (b : UInt8) : bytesR l ++ [T.sc (.int .u8 b.toNat)] = bytesR (l ++ [b]) := by simp [bytesR]
theorem bytesR_set (l : List UInt8) (i : Nat) (b : UInt8) : (bytesR l).set i (.sc (.int .u8 b.toNat)) = bytesR (l.set i b) := by simp [bytesR, List.map_set]
@[simp] theorem bytesR_flat (l : List UInt8) : (bytesR l).all flatD = true := by simp [bytesR, List.all_map, List.all_eq_true]
@[simp] theorem bytesR_take (l : List UInt8) (n : Nat) : (bytesR l).take n = bytesR (l.take n) := by simp [bytesR, List.map_take]
@[simp] theorem bytesR_drop (l : List UInt8) (n : Nat) : (bytesR l).drop n = bytesR (l.drop n) := by simp [bytesR, List.map_drop]
@[simp] theorem bytesR_at (l : List UInt8) (i : Nat) (h : i < (bytesR l).length) : (bytesR l)[i] = .sc (.int .u8 (l[i]'(by simpa using h)).toNat) := by simp [bytesR]
theorem bytesR_get (l : List UInt8) (i : Nat) (h : i < l.length) : (bytesR l)[i]? = some (.sc (.int .u8 (l[i]).toNat)) := by simp [bytesR, h]
@[simp] theorem wordsR_take (s : ByteArray) (i : Nat) : (rD (wordsN s i)).take i = rD (wordsN s i) := by have := rD_take1_ByteArray (wordsN s i); rwa [wordsN_len] at this
theorem OpStep.rowStr {P : Program} {nt : Nat} {s : FS} {o : Oper} {src dst e : TypeId} {x : Operand} {d n : Nat} {l : List UInt8} {s' : FS} {f : DC → DC} (ho : o.op = .convert src dst x) (hd : o.dst = some d) (hdn : d < nt) (hs : P.underlying src = some (.slice e)) (hds : P.underlying dst = some .string) (he : P.underlying e = some (.int .u8))
    (hx : rowLen (ev s.e x) = some n) (hsrc : srcCells s (ev s.e x) 1 = some (n, bytesR l, s', f)) : OpStep P nt o s ⟨upd s.e d (.v (.one (.t (.sc (.string ⟨l.toArray⟩))))), s.h, s.g⟩ := OpStep.bytesStr ho hd hdn hs hds he hx hsrc

theorem padded_spec (s : ByteArray) (n : Nat) (hs : s.size ≤ 1099511627776) (hn : n ≤ 1099511627776) : Spec Tryz.prog 61 [rs s, ri n] [none] [ds (padB s n)] [rs s, ri n] := by
  refine Spec.intro Tryz.func61 rfl rfl Tryz.ntmps61 rfl (by simp) ?_
  have hmx : max 0 ((n : Int) - s.size) = ((n - s.size : Nat) : Int) := by omega
  refine DW.seq ?_
  refine DW.reg (by simp (maxSteps := 200000) (disch := first | omega | (simp; done) | fail) [wrapI, leT, leF, ltT, ltF, eqF, nleT, nleF, nltT, nltF, hmx]; rfl) ?_
  refine DW.seq ?_
  refine DW.regs ?_
  refine RegO.opN 5 (by simp (maxSteps := 200000) (disch := first | omega | (simp; done) | fail) [wrapI, leT, leF, ltT, ltF, eqF, nleT, nleF, nltT, nltF, hmx]; rfl) ?_
  refine RegO.step rfl (OpStep.maxI rfl rfl (by decide) (by simp (maxSteps := 200000) (disch := first | omega | (simp; done) | fail) [wrapI, leT, leF, ltT, ltF, eqF, nleT, nleF, nltT, nltF, hmx]; rfl) (by simp (maxSteps := 200000) (disch := first | omega | (simp; done) | fail) [wrapI, leT, leF, ltT, ltF, eqF, nleT, nleF, nltT, nltF, hmx]; rfl)) ?_
  refine RegO.step rfl (OpStep.callA rfl (by simp (maxSteps := 200000) (disch := first | omega | (simp; done) | fail) [wrapI, leT, leF, ltT, ltF, eqF, nleT, nleF, nltT, nltF, hmx]; exact ⟨rfl, rfl⟩) (by simp (maxSteps := 200000) (disch := first | omega | (simp; done) | fail) [wrapI, leT, leF, ltT, ltF, eqF, nleT, nleF, nltT, nltF, hmx]; rfl) (by exact repeat_spec (n - s.size) (by omega)) (by simp) (by simp (maxSteps := 200000) (disch := first | omega | (simp; done) | fail) [wrapI, leT, leF, ltT, ltF, eqF, nleT, nleF, nltT, nltF, hmx]; rfl)) ?_
  refine RegO.opN 2 (by simp (maxSteps := 200000) (disch := first | omega | (simp; done) | fail) [wrapI, leT, leF, ltT, ltF, eqF, nleT, nleF, nltT, nltF, hmx]; rfl) ?_
  refine RegO.nil ?_
  refine DW.ret ?_
  simp [Tryz.results61, padB]
theorem l01Long_spec (n : Nat) (hn : n ≤ 20000) : Spec Tryz.prog 117 [ri n, .one (.r (.sc (.int .u8 0)))] [none] [ds (zeros n)] [ri n, .one (.r (.sc (.int .u8 0)))] := by
  refine Spec.intro Tryz.func117 rfl rfl Tryz.ntmps117 rfl (by simp) ?_
  have hb1 : (n : Int) ≤ 281474976710656 := by omega
  have hb2 : (n : Nat) ≤ 281474976710656 := by omega
  have hst : ∀ i, (bytesR (List.replicate n (0 : UInt8))).set i (T.sc (.int .u8 0)) = bytesR (List.replicate n (0 : UInt8)) := fun i => by have := bytesR_set (List.replicate n (0 : UInt8)) i 0; rw [List.set_replicate_self] at this; exact this
  have hzl : (bytesR (List.replicate n (0 : UInt8))).length = n := by simp
  refine DW.seq ?_
  refine DW.reg (by simp (maxSteps := 200000) (disch := first | omega | (simp; done) | fail) [wrapI, leT, leF, ltT, ltF, eqF, nleT, nleF, nltT, nltF]; rfl) ?_
  refine DW.seq ?_
  refine DW.reg (by simp (maxSteps := 200000) (disch := first | omega | (simp; done) | fail) [wrapI, leT, leF, ltT, ltF, eqF, nleT, nleF, nltT, nltF, hb1, hb2]; rfl) ?_
  refine DW.seq ?_
  refine DW.seq ?_
  refine DW.reg (by simp (maxSteps := 200000) (disch := first | omega | (simp; done) | fail) [wrapI, leT, leF, ltT, ltF, eqF, nleT, nleF, nltT, nltF]; rfl) ?_
  refine DW.block ?_
  refine DW.loopS (α := Nat) (fun i => i ≤ n) (fun i => n - i) (fun i => [(6, vi i)]) (fun i => [(8, .ow () 1 n (bytesR (List.replicate n (0 : UInt8))))]) [(0, _), (1, _), (5, _)] [] [] 0 (by simp) (by simp; exact ⟨rfl, rfl, rfl⟩) (by simp [bytesR_zero]) (by simp) (by rfl) ?_
  intro i hi
  refine DW.seq ?_
  refine DW.seq ?_
  refine DW.reg (by simp (maxSteps := 200000) (disch := first | omega | (simp; done) | fail) [wrapI, leT, leF, ltT, ltF, eqF, nleT, nleF, nltT, nltF]; rfl) ?_
  refine DW.condB (by simp (maxSteps := 200000) (disch := first | omega | (simp; done) | fail) [wrapI, leT, leF, ltT, ltF, eqF, nleT, nleF, nltT, nltF]; exact rfl) (fun hc0 => ?_) (fun hc0 => ?_)
  · have hlt : i < n := by simpa using hc0
    have hw := wr ((i : Int) + 1) (by omega) (by omega)
    refine DW.skip ?_
    refine DW.seq ?_
    refine DW.block ?_
    refine DW.reg (by simp [hlt, hw, hst]; rfl) ?_
    refine DW.norm [(0, _), (1, _), (5, _), (6, _)] [(8, _)] [] (by simp [hlt, hw]; exact ⟨rfl, rfl, rfl, rfl⟩) (by simp [hlt, hw]; rfl) (by simp [hlt, hw]) (by rfl) ?_
    refine DW.reg (by simp (maxSteps := 200000) (disch := first | omega | (simp; done) | fail) [wrapI, leT, leF, ltT, ltF, eqF, nleT, nleF, nltT, nltF, hlt, hw]; rfl) ?_
    exact ⟨i + 1, hlt, by omega, by simp, by simp, by simp, by rfl⟩
  · have hil : i = n := by
      have : ¬ i < n := by simpa using hc0
      omega
    subst hil
    refine DW.exit ?_
    refine DW.seq ?_
    refine DW.regs ?_
    refine RegO.opN 1 (by simp (maxSteps := 200000) (disch := first | omega | (simp; done) | fail) [wrapI, leT, leF, ltT, ltF, eqF, nleT, nleF, nltT, nltF]; rfl) ?_
    refine RegO.step rfl (OpStep.rowStr (n := i) (l := (List.replicate i (0 : UInt8))) rfl rfl (by decide) (by simp; rfl) (by simp) (by simp) (by simp [rowLen]) (by simp; (first | exact ⟨rfl, rfl⟩ | rfl))) ?_
    refine RegO.opN 1 (by simp (maxSteps := 200000) (disch := first | omega | (simp; done) | fail) [wrapI, leT, leF, ltT, ltF, eqF, nleT, nleF, nltT, nltF]; rfl) ?_
    refine RegO.nil ?_
    refine DW.ret ?_
    simp [Tryz.results117, zeros]
theorem zeroText_spec (n : Nat) (hn : n ≤ 20000) : Spec Tryz.prog 49 [ri n] [none] [ds (zeros n)] [ri n] := by
  refine Spec.intro Tryz.func49 rfl rfl Tryz.ntmps49 rfl (by simp) ?_
  have hin : inB n 0 20000 = true := by simp [inB]; omega
  refine DW.seq ?_
  refine DW.reg (by simp (maxSteps := 200000) (disch := first | omega | (simp; done) | fail) [wrapI, leT, leF, ltT, ltF, eqF, nleT, nleF, nltT, nltF, hin]; rfl) ?_
  refine DW.seq ?_
  refine DW.seq ?_
  refine DW.regs ?_
  refine RegO.opN 1 (by simp (maxSteps := 200000) (disch := first | omega | (simp; done) | fail) [wrapI, leT, leF, ltT, ltF, eqF, nleT, nleF, nltT, nltF, hin]; rfl) ?_
  refine RegO.step rfl (OpStep.callA rfl (by simp (maxSteps := 200000) (disch := first | omega | (simp; done) | fail) [wrapI, leT, leF, ltT, ltF, eqF, nleT, nleF, nltT, nltF, hin]; exact ⟨rfl, rfl⟩) (by simp (maxSteps := 200000) (disch := first | omega | (simp; done) | fail) [wrapI, leT, leF, ltT, ltF, eqF, nleT, nleF, nltT, nltF, hin]; rfl) (by exact l01In_spec _ _ _) (by simp) (by simp (maxSteps := 200000) (disch := first | omega | (simp; done) | fail) [wrapI, leT, leF, ltT, ltF, eqF, nleT, nleF, nltT, nltF, hin]; rfl)) ?_
  refine RegO.opN 1 (by simp (maxSteps := 200000) (disch := first | omega | (simp; done) | fail) [wrapI, leT, leF, ltT, ltF, eqF, nleT, nleF, nltT, nltF, hin]; rfl) ?_
  refine RegO.nil ?_
  refine DW.condF (by simp (maxSteps := 200000) (disch := first | omega | (simp; done) | fail) [wrapI, leT, leF, ltT, ltF, eqF, nleT, nleF, nltT, nltF, hin]) ?_
  refine DW.skip ?_
  refine DW.seq ?_
  refine DW.regs ?_
  refine RegO.opN 1 (by simp (maxSteps := 200000) (disch := first | omega | (simp; done) | fail) [wrapI, leT, leF, ltT, ltF, eqF, nleT, nleF, nltT, nltF, hin]; rfl) ?_
  refine RegO.step rfl (OpStep.callA rfl (by simp (maxSteps := 200000) (disch := first | omega | (simp; done) | fail) [wrapI, leT, leF, ltT, ltF, eqF, nleT, nleF, nltT, nltF, hin]; exact ⟨rfl, rfl⟩) (by simp (maxSteps := 200000) (disch := first | omega | (simp; done) | fail) [wrapI, leT, leF, ltT, ltF, eqF, nleT, nleF, nltT, nltF, hin]; rfl) (by exact l01Long_spec n hn) (by simp) (by simp (maxSteps := 200000) (disch := first | omega | (simp; done) | fail) [wrapI, leT, leF, ltT, ltF, eqF, nleT, nleF, nltT, nltF, hin]; rfl)) ?_
  refine RegO.opN 1 (by simp (maxSteps := 200000) (disch := first | omega | (simp; done) | fail) [wrapI, leT, leF, ltT, ltF, eqF, nleT, nleF, nltT, nltF, hin]; rfl) ?_
  refine RegO.nil ?_
  refine DW.ret ?_
  simp [Tryz.results49]
theorem wordText_spec (s : ByteArray) (hs : s.size ≤ 8) : Spec Tryz.prog 163 [rs s] [none] [ds (padB s 8)] [rs s] := by
  refine Spec.intro Tryz.func163 rfl rfl Tryz.ntmps163 rfl (by simp) ?_
  have hmx : (8 : Int) - s.size = ((8 - s.size : Nat) : Int) := by omega
  have hw : ¬ 8 < s.size := by omega
  refine DW.seq ?_
  refine DW.reg (by simp (maxSteps := 200000) (disch := first | omega | (simp; done) | fail) [wrapI, leT, leF, ltT, ltF, eqF, nleT, nleF, nltT, nltF]; rfl) ?_
  refine DW.seq ?_
  refine DW.seq ?_
  refine DW.reg (by simp (maxSteps := 200000) (disch := first | omega | (simp; done) | fail) [wrapI, leT, leF, ltT, ltF, eqF, nleT, nleF, nltT, nltF]; rfl) ?_
  refine DW.condF (by simp (maxSteps := 200000) (disch := first | omega | (simp; done) | fail) [wrapI, leT, leF, ltT, ltF, eqF, nleT, nleF, nltT, nltF, hw]) ?_
  refine DW.skip ?_
  refine DW.seq ?_
  refine DW.regs ?_
  refine RegO.opN 4 (by simp (maxSteps := 200000) (disch := first | omega | (simp; done) | fail) [wrapI, leT, leF, ltT, ltF, eqF, nleT, nleF, nltT, nltF, hmx]; rfl) ?_
  refine RegO.step rfl (OpStep.callA rfl (by simp (maxSteps := 200000) (disch := first | omega | (simp; done) | fail) [wrapI, leT, leF, ltT, ltF, eqF, nleT, nleF, nltT, nltF, hmx]; exact ⟨rfl, rfl⟩) (by simp (maxSteps := 200000) (disch := first | omega | (simp; done) | fail) [wrapI, leT, leF, ltT, ltF, eqF, nleT, nleF, nltT, nltF, hmx]; rfl) (by exact zeroText_spec (8 - s.size) (by omega)) (by simp) (by simp (maxSteps := 200000) (disch := first | omega | (simp; done) | fail) [wrapI, leT, leF, ltT, ltF, eqF, nleT, nleF, nltT, nltF, hmx]; rfl)) ?_
  refine RegO.opN 2 (by simp (maxSteps := 200000) (disch := first | omega | (simp; done) | fail) [wrapI, leT, leF, ltT, ltF, eqF, nleT, nleF, nltT, nltF, hmx]; rfl) ?_
  refine RegO.nil ?_
  refine DW.ret ?_
  simp [Tryz.results163, padB]
theorem implWordsOf_spec (s : ByteArray) (hs : s.size ≤ 20000) : Spec Tryz.prog 60 [rs s] [none] [dr (wordsB s)] [rs s] := by
  refine Spec.intro Tryz.func60 rfl rfl Tryz.ntmps60 rfl (by simp) ?_
  refine DW.seq ?_
  refine DW.reg (by simp (maxSteps := 200000) (disch := first | omega | (simp; done) | fail) [wrapI, leT, leF, ltT, ltF, eqF, nleT, nleF, nltT, nltF]; rfl) ?_
  refine DW.seq ?_
  refine DW.reg (by simp (maxSteps := 200000) (disch := first | omega | (simp; done) | fail) [wrapI, leT, leF, ltT, ltF, eqF, nleT, nleF, nltT, nltF]; rfl) ?_
  refine DW.ghost (Ghost.nlRow 3 23 1 (by simp) (by simp)) ?_
  refine DW.seq ?_
  refine DW.seq ?_
  refine DW.reg (by simp (maxSteps := 200000) (disch := first | omega | (simp; done) | fail) [wrapI, leT, leF, ltT, ltF, eqF, nleT, nleF, nltT, nltF]; rfl) ?_
  refine DW.block ?_
  refine DW.loopS (α := Nat) (fun i => 8 * i ≤ s.size + 7) (fun i => s.size + 8 - 8 * i) (fun i => [(4, vi (8 * (i : Int))), (3, .v (.one (.sl 23 [] 0 i)))]) (fun i => [(23, .ow () 1 i (rD (wordsN s i)))]) [(0, _)] [] [] 0 (by omega) (by simp; exact rfl) (by simp [wordsN]) (by simp) (by rfl) ?_
  intro i hi
  refine DW.seq ?_
  refine DW.seq ?_
  refine DW.reg (by simp (maxSteps := 200000) (disch := first | omega | (simp; done) | fail) [wrapI, leT, leF, ltT, ltF, eqF, nleT, nleF, nltT, nltF]; rfl) ?_
  refine DW.condB (by simp (maxSteps := 200000) (disch := first | omega | (simp; done) | fail) [wrapI, leT, leF, ltT, ltF, eqF, nleT, nleF, nltT, nltF]; exact rfl) (fun hc0 => ?_) (fun hc0 => ?_)
  · have hlt : 8 * i < s.size := by
      have : 8 * (i : Int) < s.size := by simpa using hc0
      omega
    have hR := wordsN_succ s i
    have hnx : 8 * ((i + 1 : Nat) : Int) = 8 * (i : Int) + 8 := by omega
    have hmn : min (8 * (i : Int) + 8) (s.size : Int) = ((min (8 * i + 8) s.size : Nat) : Int) := by omega
    have ht0 : (8 * (i : Int)).toNat = 8 * i := by omega
    have b1 : (i + 1) * 16 ≤ 140737488355328 := by omega
    have b2 : i + 1 ≤ 140737488355328 := by omega
    have c1 : 8 * (i : Int) ≤ ((min (8 * i + 8) s.size : Nat) : Int) := by omega
    have c2 : ((min (8 * i + 8) s.size : Nat) : Int) ≤ (s.size : Int) := by omega
    have c0 : 0 ≤ 8 * (i : Int) := by omega
    have hx8 : (s.extract (8 * i) (min (8 * i + 8) s.size)).size ≤ 8 := by rw [ByteArray.size_extract]; omega
    generalize min (8 * i + 8) s.size = e at *
    have hRd : rD [padB (s.extract (8 * i) e) 8] = [T.sc (.string (padB (s.extract (8 * i) e) 8))] := rfl
    have hw8 : IntKind.i64.wrap (8 * (i : Int) + 8) = 8 * (i : Int) + 8 := wrapI (by omega)
    refine DW.skip ?_
    refine DW.seq ?_
    refine DW.block ?_
    refine DW.regs ?_
    refine RegO.opN 7 (by simp [b1, b2, hmn, ht0, c0, c1, c2, hw8]; rfl) ?_
    refine RegO.step rfl (OpStep.minI rfl rfl (by decide) (by simp [b1, b2, hmn, ht0, c0, c1, c2, hw8]; rfl) (by simp [b1, b2, hmn, ht0, c0, c1, c2, hw8]; rfl)) ?_
    refine RegO.opN 1 (by simp [b1, b2, hmn, ht0, c0, c1, c2, hw8]; rfl) ?_
    refine RegO.step rfl (OpStep.callA rfl (by simp [b1, b2, hmn, ht0, c0, c1, c2, hw8]; exact ⟨rfl, rfl⟩) (by simp [b1, b2, hmn, ht0, c0, c1, c2, hw8]; rfl) (by exact padded_spec _ 8 (by omega) (by omega)) (by simp) (by simp [b1, b2, hmn, ht0, c0, c1, c2, hw8]; rfl)) ?_
    refine RegO.opN 3 (by simp [b1, b2, hmn, ht0, c0, c1, c2, hw8]; rfl) ?_
    refine RegO.nil ?_
    refine DW.norm [(0, _), (3, _), (4, _)] [(23, _)] [] (by simp [b1, b2, hmn, ht0, c0, c1, c2, hw8]; exact ⟨rfl, rfl, rfl⟩) (by simp [b1, b2, hmn, ht0, c0, c1, c2, hw8]; rfl) (by simp [b1, b2, hmn, ht0, c0, c1, c2, hw8]) (by rfl) ?_
    refine DW.reg (by simp (maxSteps := 200000) (disch := first | omega | (simp; done) | fail) [wrapI, leT, leF, ltT, ltF, eqF, nleT, nleF, nltT, nltF, b1, b2, hmn, ht0, c0, c1, c2, hw8]; rfl) ?_
    exact ⟨i + 1, by omega, by omega, by simp [hw8]; omega, by simp [hR, rD_append, hRd], by simp, by rfl⟩
  · have hil : i = (s.size + 7) / 8 := by
      have : ¬ 8 * (i : Int) < s.size := by simpa using hc0
      omega
    subst hil
    refine DW.exit ?_
    refine DW.seq ?_
    refine DW.reg (by simp (maxSteps := 200000) (disch := first | omega | (simp; done) | fail) [wrapI, leT, leF, ltT, ltF, eqF, nleT, nleF, nltT, nltF]; rfl) ?_
    refine DW.ret ?_
    simp [Tryz.results60]
theorem specWordsOf_spec (s : ByteArray) (hs : s.size ≤ 20000) : Spec Tryz.prog 115 [rs s] [none] [dr (wordsB s)] [rs s] := by
  refine Spec.intro Tryz.func115 rfl rfl Tryz.ntmps115 rfl (by simp) ?_
  have h20 : ¬ (20000 : Int) < s.size := by omega
  refine DW.seq ?_
  refine DW.reg (by simp (maxSteps := 200000) (disch := first | omega | (simp; done) | fail) [wrapI, leT, leF, ltT, ltF, eqF, nleT, nleF, nltT, nltF]; rfl) ?_
  refine DW.seq ?_
  refine DW.reg (by simp (maxSteps := 200000) (disch := first | omega | (simp; done) | fail) [wrapI, leT, leF, ltT, ltF, eqF, nleT, nleF, nltT, nltF]; rfl) ?_
  refine DW.ghost (Ghost.nlRow 3 32 1 (by simp) (by simp)) ?_
  refine DW.seq ?_
  refine DW.seq ?_
  refine DW.reg (by simp (maxSteps := 200000) (disch := first | omega | (simp; done) | fail) [wrapI, leT, leF, ltT, ltF, eqF, nleT, nleF, nltT, nltF]; rfl) ?_
  refine DW.condF (by simp (maxSteps := 200000) (disch := first | omega | (simp; done) | fail) [wrapI, leT, leF, ltT, ltF, eqF, nleT, nleF, nltT, nltF]) ?_
  refine DW.skip ?_
  refine DW.seq ?_
  refine DW.seq ?_
  refine DW.reg (by simp (maxSteps := 200000) (disch := first | omega | (simp; done) | fail) [wrapI, leT, leF, ltT, ltF, eqF, nleT, nleF, nltT, nltF]; rfl) ?_
  refine DW.block ?_
  refine DW.loopS (α := Nat) (fun i => 8 * i ≤ s.size + 7) (fun i => s.size + 8 - 8 * i) (fun i => [(4, vi (8 * (i : Int))), (3, .v (.one (.sl 32 [] 0 i)))]) (fun i => [(32, .ow () 1 i (rD (wordsN s i)))]) [(0, _)] [] [] 0 (by omega) (by simp; exact rfl) (by simp [wordsN]) (by simp) (by rfl) ?_
  intro i hi
  refine DW.seq ?_
  refine DW.seq ?_
  refine DW.reg (by simp (maxSteps := 200000) (disch := first | omega | (simp; done) | fail) [wrapI, leT, leF, ltT, ltF, eqF, nleT, nleF, nltT, nltF]; rfl) ?_
  refine DW.condB (by simp (maxSteps := 200000) (disch := first | omega | (simp; done) | fail) [wrapI, leT, leF, ltT, ltF, eqF, nleT, nleF, nltT, nltF]; exact rfl) (fun hc1 => ?_) (fun hc1 => ?_)
  · have hlt : 8 * i < s.size := by
      have : 8 * (i : Int) < s.size := by simpa using hc1
      omega
    have hR := wordsN_succ s i
    have hnx : 8 * ((i + 1 : Nat) : Int) = 8 * (i : Int) + 8 := by omega
    have hmn : min (8 * (i : Int) + 8) (s.size : Int) = ((min (8 * i + 8) s.size : Nat) : Int) := by omega
    have ht0 : (8 * (i : Int)).toNat = 8 * i := by omega
    have b1 : (i + 1) * 16 ≤ 140737488355328 := by omega
    have b2 : i + 1 ≤ 140737488355328 := by omega
    have c1 : 8 * (i : Int) ≤ ((min (8 * i + 8) s.size : Nat) : Int) := by omega
    have c2 : ((min (8 * i + 8) s.size : Nat) : Int) ≤ (s.size : Int) := by omega
    have c0 : 0 ≤ 8 * (i : Int) := by omega
    have hx8 : (s.extract (8 * i) (min (8 * i + 8) s.size)).size ≤ 8 := by rw [ByteArray.size_extract]; omega
    generalize min (8 * i + 8) s.size = e at *
    have hRd : rD [padB (s.extract (8 * i) e) 8] = [T.sc (.string (padB (s.extract (8 * i) e) 8))] := rfl
    have hw8 : IntKind.i64.wrap (8 * (i : Int) + 8) = 8 * (i : Int) + 8 := wrapI (by omega)
    refine DW.skip ?_
    refine DW.seq ?_
    refine DW.block ?_
    refine DW.seq ?_
    refine DW.reg (by simp (maxSteps := 200000) (disch := first | omega | (simp; done) | fail) [wrapI, leT, leF, ltT, ltF, eqF, nleT, nleF, nltT, nltF, b1, b2, hmn, ht0, c0, c1, c2, hw8]; rfl) ?_
    refine DW.seq ?_
    refine DW.seq ?_
    refine DW.reg (by simp (maxSteps := 200000) (disch := first | omega | (simp; done) | fail) [wrapI, leT, leF, ltT, ltF, eqF, nleT, nleF, nltT, nltF, b1, b2, hmn, ht0, c0, c1, c2, hw8]; rfl) ?_
    refine DW.condB (by simp (maxSteps := 200000) (disch := first | omega | (simp; done) | fail) [wrapI, leT, leF, ltT, ltF, eqF, nleT, nleF, nltT, nltF, b1, b2, hmn, ht0, c0, c1, c2, hw8]; exact rfl) (fun hc2 => ?_) (fun hc2 => ?_)
    · have hcc : (s.size : Int) < 8 * (i : Int) + 8 := by simpa [hw8] using hc2
      have hee : (s.size : Int) = (e : Int) := by omega
      refine DW.reg (by simp (maxSteps := 200000) (disch := first | omega | (simp; done) | fail) [wrapI, leT, leF, ltT, ltF, eqF, nleT, nleF, nltT, nltF, b1, b2, hmn, ht0, c0, c1, c2, hw8, hee]; rfl) ?_
      refine DW.regs ?_
      refine RegO.opN 5 (by simp [b1, b2, hmn, ht0, c0, c1, c2, hw8, hee]; rfl) ?_
      refine RegO.step rfl (OpStep.callA rfl (by simp [b1, b2, hmn, ht0, c0, c1, c2, hw8, hee]; exact ⟨rfl, rfl⟩) (by simp [b1, b2, hmn, ht0, c0, c1, c2, hw8, hee]; rfl) (by exact wordText_spec _ hx8) (by simp) (by simp [b1, b2, hmn, ht0, c0, c1, c2, hw8, hee]; rfl)) ?_
      refine RegO.opN 3 (by simp [b1, b2, hmn, ht0, c0, c1, c2, hw8, hee]; rfl) ?_
      refine RegO.nil ?_
      refine DW.norm [(0, _), (3, _), (4, _)] [(32, _)] [] (by simp [b1, b2, hmn, ht0, c0, c1, c2, hw8, hee]; exact ⟨rfl, rfl, rfl⟩) (by simp [b1, b2, hmn, ht0, c0, c1, c2, hw8, hee]; rfl) (by simp [b1, b2, hmn, ht0, c0, c1, c2, hw8, hee]) (by rfl) ?_
      refine DW.reg (by simp (maxSteps := 200000) (disch := first | omega | (simp; done) | fail) [wrapI, leT, leF, ltT, ltF, eqF, nleT, nleF, nltT, nltF, b1, b2, hmn, ht0, c0, c1, c2, hw8, hee]; rfl) ?_
      exact ⟨i + 1, by omega, by omega, by simp [hw8]; omega, by simp [hR, rD_append, hRd], by simp, by rfl⟩
    · have hcc : ¬ ((s.size : Int) < 8 * (i : Int) + 8) := by simpa [hw8] using hc2
      have hee : 8 * (i : Int) + 8 = (e : Int) := by omega
      refine DW.skip ?_
      refine DW.regs ?_
      refine RegO.opN 5 (by simp [b1, b2, hmn, ht0, c0, c1, c2, hw8, hee]; rfl) ?_
      refine RegO.step rfl (OpStep.callA rfl (by simp [b1, b2, hmn, ht0, c0, c1, c2, hw8, hee]; exact ⟨rfl, rfl⟩) (by simp [b1, b2, hmn, ht0, c0, c1, c2, hw8, hee]; rfl) (by exact wordText_spec _ hx8) (by simp) (by simp [b1, b2, hmn, ht0, c0, c1, c2, hw8, hee]; rfl)) ?_
      refine RegO.opN 3 (by simp [b1, b2, hmn, ht0, c0, c1, c2, hw8, hee]; rfl) ?_
      refine RegO.nil ?_
      refine DW.norm [(0, _), (3, _), (4, _)] [(32, _)] [] (by simp [b1, b2, hmn, ht0, c0, c1, c2, hw8, hee]; exact ⟨rfl, rfl, rfl⟩) (by simp [b1, b2, hmn, ht0, c0, c1, c2, hw8, hee]; rfl) (by simp [b1, b2, hmn, ht0, c0, c1, c2, hw8, hee]) (by rfl) ?_
      refine DW.reg (by simp (maxSteps := 200000) (disch := first | omega | (simp; done) | fail) [wrapI, leT, leF, ltT, ltF, eqF, nleT, nleF, nltT, nltF, b1, b2, hmn, ht0, c0, c1, c2, hw8, hee]; rfl) ?_
      exact ⟨i + 1, by omega, by omega, by simp [hw8]; omega, by simp [hR, rD_append, hRd], by simp, by rfl⟩
  · have hil : i = (s.size + 7) / 8 := by
      have : ¬ 8 * (i : Int) < s.size := by simpa using hc1
      omega
    subst hil
    refine DW.exit ?_
    refine DW.seq ?_
    refine DW.reg (by simp (maxSteps := 200000) (disch := first | omega | (simp; done) | fail) [wrapI, leT, leF, ltT, ltF, eqF, nleT, nleF, nltT, nltF]; rfl) ?_
    refine DW.ret ?_
    simp [Tryz.results115]
end Go.Proofs.YtjjdjkkhhcbogaaGreat.DM
