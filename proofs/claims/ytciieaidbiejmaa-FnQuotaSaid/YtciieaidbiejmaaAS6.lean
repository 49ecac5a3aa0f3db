import Derived.Test.YtciieaidbiejmaaAS3
namespace Go.Proofs.Ytciieaidbiejmaa.DM
set_option linter.unusedVariables false
set_option linter.unusedSimpArgs false
set_option maxRecDepth 4000
set_option maxHeartbeats 8000000
def reps (n : Nat) (x : UInt8) : ByteArray := ⟨(List.replicate n x).toArray⟩
@[simp] theorem reps_size (n : Nat) (x : UInt8) : (reps n x).size = n := by show (List.replicate n x).toArray.size = n; simp
theorem reps_zero (n : Nat) : reps n 0 = zeros n := rfl
def mixL (n i : Nat) (x : UInt8) : List UInt8 := List.replicate i x ++ List.replicate (n - i) 0
@[simp] theorem mixL_len (n i : Nat) (x : UInt8) (h : i ≤ n) : (mixL n i x).length = n := by simp [mixL]; omega
theorem mixL_set (n i : Nat) (x : UInt8) (h : i < n) : (mixL n i x).set i x = mixL n (i + 1) x := by
  unfold mixL
  rw [List.set_append_right _ _ (by simp), List.length_replicate, Nat.sub_self, show n - i = (n - (i + 1)) + 1 by omega, List.replicate_succ, List.set_cons_zero, List.replicate_succ', List.append_assoc]; rfl
theorem padT_size (old : ByteArray) (n : Nat) : (padT old n).size = max old.size n := by
  unfold padT
  split
  · rw [ByteArray.size_append, zeros_size]; omega
  · omega
theorem l01Long_spec (n : Nat) (x : UInt8) (hn : n ≤ 20000) : Spec Try.prog 34 [ri n, .one (.r (.sc (.int .u8 x.toNat)))] [none] [ds (reps n x)] [ri n, .one (.r (.sc (.int .u8 x.toNat)))] := by
  refine Spec.intro Try.func34 rfl rfl Try.ntmps34 rfl (by simp) ?_
  have hb1 : (n : Int) ≤ 281474976710656 := by omega
  have hb2 : (n : Nat) ≤ 281474976710656 := by omega
  refine DW.seq ?_
  refine DW.reg (by simp (maxSteps := 200000) (disch := first | omega | (simp; done) | fail) [wrapI, leT, leF, ltT, ltF, eqF, nleT, nleF, nltT, nltF]; rfl) ?_
  refine DW.seq ?_
  refine DW.reg (by simp (maxSteps := 200000) (disch := first | omega | (simp; done) | fail) [wrapI, leT, leF, ltT, ltF, eqF, nleT, nleF, nltT, nltF, hb1, hb2]; rfl) ?_
  refine DW.seq ?_
  refine DW.seq ?_
  refine DW.reg (by simp (maxSteps := 200000) (disch := first | omega | (simp; done) | fail) [wrapI, leT, leF, ltT, ltF, eqF, nleT, nleF, nltT, nltF]; rfl) ?_
  refine DW.block ?_
  refine DW.loopS (α := Nat) (fun i => i ≤ n) (fun i => n - i) (fun i => [(6, vi i)]) (fun i => [(8, .ow () 1 n (bytesR (mixL n i x)))]) [(0, _), (1, _), (5, _)] [] [] 0 (by simp) (by simp; exact ⟨rfl, rfl, rfl⟩) (by simp [bytesR_zero, mixL]) (by simp) (by rfl) ?_
  intro i hi
  have hml : (mixL n i x).length = n := mixL_len n i x hi
  refine DW.seq ?_
  refine DW.seq ?_
  refine DW.reg (by simp (maxSteps := 200000) (disch := first | omega | (simp; done) | fail) [wrapI, leT, leF, ltT, ltF, eqF, nleT, nleF, nltT, nltF]; rfl) ?_
  refine DW.condB (by simp (maxSteps := 200000) (disch := first | omega | (simp; done) | fail) [wrapI, leT, leF, ltT, ltF, eqF, nleT, nleF, nltT, nltF]; exact rfl) (fun hc0 => ?_) (fun hc0 => ?_)
  · have hlt : i < n := by simpa using hc0
    have hw := wr ((i : Int) + 1) (by omega) (by omega)
    have hst : (bytesR (mixL n i x)).set i (T.sc (.int .u8 x.toNat)) = bytesR (mixL n (i + 1) x) := by rw [bytesR_set, mixL_set n i x hlt]
    refine DW.skip ?_
    refine DW.seq ?_
    refine DW.block ?_
    refine DW.reg (by simp [hlt, hw, hml, hst]; rfl) ?_
    refine DW.norm [(0, _), (1, _), (5, _), (6, _)] [(8, _)] [] (by simp [hlt, hw, hml]; exact ⟨rfl, rfl, rfl, rfl⟩) (by simp [hlt, hw, hml]; rfl) (by simp [hlt, hw, hml]) (by rfl) ?_
    refine DW.reg (by simp (maxSteps := 200000) (disch := first | omega | (simp; done) | fail) [wrapI, leT, leF, ltT, ltF, eqF, nleT, nleF, nltT, nltF, hlt, hw, hml]; rfl) ?_
    exact ⟨i + 1, hlt, by omega, by simp, by simp, by simp, by rfl⟩
  · have hil : i = n := by
      have : ¬ i < n := by simpa using hc0
      omega
    subst hil
    have hmx : mixL i i x = List.replicate i x := by simp [mixL]
    have hml2 : (mixL i i x).length = i := by simp [mixL]
    refine DW.exit ?_
    refine DW.seq ?_
    refine DW.regs ?_
    refine RegO.opN 1 (by simp (maxSteps := 200000) (disch := first | omega | (simp; done) | fail) [wrapI, leT, leF, ltT, ltF, eqF, nleT, nleF, nltT, nltF, hmx]; rfl) ?_
    refine RegO.step rfl (OpStep.rowStr (n := i) (l := List.replicate i x) rfl rfl (by decide) (by simp; rfl) (by simp) (by simp) (by simp [rowLen, hmx]) (by simp [hmx]; (first | exact ⟨rfl, rfl⟩ | rfl))) ?_
    refine RegO.opN 1 (by simp (maxSteps := 200000) (disch := first | omega | (simp; done) | fail) [wrapI, leT, leF, ltT, ltF, eqF, nleT, nleF, nltT, nltF, hmx]; rfl) ?_
    refine RegO.nil ?_
    refine DW.ret ?_
    simp [Try.results34, reps]
theorem zeroText_spec (n : Nat) (hn : n ≤ 20000) : Spec Try.prog 27 [ri n] [none] [ds (zeros n)] [ri n] := by
  refine Spec.intro Try.func27 rfl rfl Try.ntmps27 rfl (by simp) ?_
  have hin : inB n 0 20000 = true := by simp [inB]; omega
  refine DW.seq ?_
  refine DW.reg (by simp (maxSteps := 200000) (disch := first | omega | (simp; done) | fail) [wrapI, leT, leF, ltT, ltF, eqF, nleT, nleF, nltT, nltF, hin]; rfl) ?_
  refine DW.seq ?_
  refine DW.seq ?_
  refine DW.regs ?_
  refine RegO.opN 1 (by simp (maxSteps := 200000) (disch := first | omega | (simp; done) | fail) [wrapI, leT, leF, ltT, ltF, eqF, nleT, nleF, nltT, nltF, hin]; rfl) ?_
  refine RegO.step rfl (OpStep.callA rfl (by simp (maxSteps := 200000) (disch := first | omega | (simp; done) | fail) [wrapI, leT, leF, ltT, ltF, eqF, nleT, nleF, nltT, nltF, hin]; exact ⟨rfl, rfl⟩) (by simp (maxSteps := 200000) (disch := first | omega | (simp; done) | fail) [wrapI, leT, leF, ltT, ltF, eqF, nleT, nleF, nltT, nltF, hin]; rfl) (by exact l01In_spec _ _ _) (by simp) (by simp (maxSteps := 200000) (disch := first | omega | (simp; done) | fail) [wrapI, leT, leF, ltT, ltF, eqF, nleT, nleF, nltT, nltF, hin]; rfl)) ?_
  refine RegO.opN 1 (by simp (maxSteps := 200000) (disch := first | omega | (simp; done) | fail) [wrapI, leT, leF, ltT, ltF, eqF, nleT, nleF, nltT, nltF, hin]; rfl) ?_
  refine RegO.nil ?_
  refine DW.condF (by simp (maxSteps := 200000) (disch := first | omega | (simp; done) | fail) [wrapI, leT, leF, ltT, ltF, eqF, nleT, nleF, nltT, nltF, hin]) ?_
  refine DW.skip ?_
  refine DW.seq ?_
  refine DW.regs ?_
  refine RegO.opN 1 (by simp (maxSteps := 200000) (disch := first | omega | (simp; done) | fail) [wrapI, leT, leF, ltT, ltF, eqF, nleT, nleF, nltT, nltF, hin]; rfl) ?_
  refine RegO.step rfl (OpStep.callA rfl (by simp (maxSteps := 200000) (disch := first | omega | (simp; done) | fail) [wrapI, leT, leF, ltT, ltF, eqF, nleT, nleF, nltT, nltF, hin]; exact ⟨rfl, rfl⟩) (by simp (maxSteps := 200000) (disch := first | omega | (simp; done) | fail) [wrapI, leT, leF, ltT, ltF, eqF, nleT, nleF, nltT, nltF, hin]; rfl) (by exact l01Long_spec n 0 hn) (by simp) (by simp (maxSteps := 200000) (disch := first | omega | (simp; done) | fail) [wrapI, leT, leF, ltT, ltF, eqF, nleT, nleF, nltT, nltF, hin]; rfl)) ?_
  refine RegO.opN 1 (by simp (maxSteps := 200000) (disch := first | omega | (simp; done) | fail) [wrapI, leT, leF, ltT, ltF, eqF, nleT, nleF, nltT, nltF, hin]; rfl) ?_
  refine RegO.nil ?_
  refine DW.ret ?_
  simp [Try.results27, reps_zero]
theorem brought_spec (n lo hi : Int) : Spec Try.prog 44 [ri n, ri lo, ri hi] [none] [di (brought n lo hi)] [ri n, ri lo, ri hi] := by
  refine Spec.intro Try.func44 rfl rfl Try.ntmps44 rfl (by simp) ?_
  refine DW.seq ?_
  refine DW.reg (by simp (maxSteps := 200000) (disch := first | omega | (simp; done) | fail) [wrapI, leT, leF, ltT, ltF, eqF, nleT, nleF, nltT, nltF]; rfl) ?_
  refine DW.seq ?_
  refine DW.seq ?_
  have hsp : ((decide (hi < lo)) = true) ∨ ((decide (hi < lo)) = false ∧ (decide (n < lo)) = true) ∨ ((decide (hi < lo)) = false ∧ (decide (n < lo)) = false) := by
    cases (decide (hi < lo)) <;> cases (decide (n < lo)) <;> simp
  rcases hsp with g0 | ⟨g0, g1⟩ | ⟨g0, g1⟩
  · have p0 : hi < lo := by simpa using g0
    rw [brought, if_pos p0]
    refine DW.reg (by simp (maxSteps := 200000) (disch := first | omega | (simp; done) | fail) [wrapI, leT, leF, ltT, ltF, eqF, nleT, nleF, nltT, nltF, g0]; rfl) ?_
    refine DW.condT (by simp (maxSteps := 200000) (disch := first | omega | (simp; done) | fail) [wrapI, leT, leF, ltT, ltF, eqF, nleT, nleF, nltT, nltF, g0]) ?_
    refine DW.seq ?_
    refine DW.reg (by simp (maxSteps := 200000) (disch := first | omega | (simp; done) | fail) [wrapI, leT, leF, ltT, ltF, eqF, nleT, nleF, nltT, nltF, g0]; rfl) ?_
    refine DW.ret ?_
    simp [Try.results44]
  · have p0 : ¬ hi < lo := by simpa using g0
    have p1 : n < lo := by simpa using g1
    rw [brought, if_neg p0, if_pos p1]
    refine DW.reg (by simp (maxSteps := 200000) (disch := first | omega | (simp; done) | fail) [wrapI, leT, leF, ltT, ltF, eqF, nleT, nleF, nltT, nltF, g0, g1]; rfl) ?_
    refine DW.condT (by simp (maxSteps := 200000) (disch := first | omega | (simp; done) | fail) [wrapI, leT, leF, ltT, ltF, eqF, nleT, nleF, nltT, nltF, g0, g1]) ?_
    refine DW.seq ?_
    refine DW.reg (by simp (maxSteps := 200000) (disch := first | omega | (simp; done) | fail) [wrapI, leT, leF, ltT, ltF, eqF, nleT, nleF, nltT, nltF, g0, g1]; rfl) ?_
    refine DW.ret ?_
    simp [Try.results44]
  · have p0 : ¬ hi < lo := by simpa using g0
    have p1 : ¬ n < lo := by simpa using g1
    rw [brought, if_neg p0, if_neg p1]
    refine DW.reg (by simp (maxSteps := 200000) (disch := first | omega | (simp; done) | fail) [wrapI, leT, leF, ltT, ltF, eqF, nleT, nleF, nltT, nltF, g0, g1]; rfl) ?_
    refine DW.condF (by simp (maxSteps := 200000) (disch := first | omega | (simp; done) | fail) [wrapI, leT, leF, ltT, ltF, eqF, nleT, nleF, nltT, nltF, g0, g1]) ?_
    refine DW.skip ?_
    refine DW.seq ?_
    refine DW.seq ?_
    refine DW.reg (by simp (maxSteps := 200000) (disch := first | omega | (simp; done) | fail) [wrapI, leT, leF, ltT, ltF, eqF, nleT, nleF, nltT, nltF, g0, g1]; rfl) ?_
    refine DW.condB (by simp (maxSteps := 200000) (disch := first | omega | (simp; done) | fail) [wrapI, leT, leF, ltT, ltF, eqF, nleT, nleF, nltT, nltF, g0, g1]; exact rfl) (fun hc1 => ?_) (fun hc1 => ?_)
    · have hh : hi < n := by simpa using hc1
      rw [if_pos hh]
      refine DW.seq ?_
      refine DW.reg (by simp (maxSteps := 200000) (disch := first | omega | (simp; done) | fail) [wrapI, leT, leF, ltT, ltF, eqF, nleT, nleF, nltT, nltF, g0, g1]; rfl) ?_
      refine DW.ret ?_
      simp [Try.results44]
    · have hh : ¬ hi < n := by simpa using hc1
      rw [if_neg hh]
      refine DW.skip ?_
      refine DW.seq ?_
      refine DW.reg (by simp (maxSteps := 200000) (disch := first | omega | (simp; done) | fail) [wrapI, leT, leF, ltT, ltF, eqF, nleT, nleF, nltT, nltF, g0, g1]; rfl) ?_
      refine DW.ret ?_
      simp [Try.results44]
theorem textWith_spec (old : ByteArray) (off : Int) (t : ByteArray) (ht : t.size ≤ 2 ^ 40) : Spec Try.prog 9 [rs old, ri off, rs t] [none] [ds (textWith old off t)] [rs old, ri off, rs t] := by
  refine Spec.intro Try.func9 rfl rfl Try.ntmps9 rfl (by simp) ?_
  refine DW.seq ?_
  refine DW.reg (by simp (maxSteps := 200000) (disch := first | omega | (simp; done) | fail) [wrapI, leT, leF, ltT, ltF, eqF, nleT, nleF, nltT, nltF]; rfl) ?_
  refine DW.seq ?_
  refine DW.seq ?_
  have hsp : t = ByteArray.empty ∨ (¬ t = ByteArray.empty ∧ off < 0) ∨ (¬ t = ByteArray.empty ∧ ¬ off < 0 ∧ 128 - (t.size : Int) < off) ∨ (¬ t = ByteArray.empty ∧ ¬ off < 0 ∧ ¬ 128 - (t.size : Int) < off ∧ 128 < old.size) ∨ (¬ t = ByteArray.empty ∧ ¬ off < 0 ∧ ¬ 128 - (t.size : Int) < off ∧ ¬ 128 < old.size) := by
    by_cases h0 : t = ByteArray.empty
    · exact .inl h0
    · by_cases h1 : off < 0
      · exact .inr (.inl ⟨h0, h1⟩)
      · by_cases h2 : 128 - (t.size : Int) < off
        · exact .inr (.inr (.inl ⟨h0, h1, h2⟩))
        · by_cases h3 : 128 < old.size
          · exact .inr (.inr (.inr (.inl ⟨h0, h1, h2, h3⟩)))
          · exact .inr (.inr (.inr (.inr ⟨h0, h1, h2, h3⟩)))
  have wt : IntKind.i64.wrap (128 - (t.size : Int)) = 128 - (t.size : Int) := wr _ (by omega) (by omega)
  rcases hsp with p0 | ⟨p0, p1⟩ | ⟨p0, p1, p2⟩ | ⟨p0, p1, p2, p3⟩ | ⟨p0, p1, p2, p3⟩
  · have q0 : t.toList = [] := ba_nil.2 p0
    have q0b : (t.toList == []) = true := by rw [beq_iff_eq]; exact q0
    rw [textWith, if_pos p0]
    refine DW.reg (by simp (maxSteps := 200000) (disch := first | omega | (simp; done) | fail) [wrapI, leT, leF, ltT, ltF, eqF, nleT, nleF, nltT, nltF, q0, q0b]; rfl) ?_
    refine DW.condT (by simp (maxSteps := 200000) (disch := first | omega | (simp; done) | fail) [wrapI, leT, leF, ltT, ltF, eqF, nleT, nleF, nltT, nltF, q0, q0b]) ?_
    refine DW.seq ?_
    refine DW.reg (by simp (maxSteps := 200000) (disch := first | omega | (simp; done) | fail) [wrapI, leT, leF, ltT, ltF, eqF, nleT, nleF, nltT, nltF, q0, q0b]; rfl) ?_
    refine DW.ret ?_
    simp [Try.results9]
  · have q0 : ¬ t.toList = [] := fun e => p0 (ba_nil.1 e)
    have q0b : (t.toList == []) = false := by rw [beq_eq_false_iff_ne]; exact q0
    rw [textWith, if_neg p0, if_pos p1]
    refine DW.reg (by simp (maxSteps := 200000) (disch := first | omega | (simp; done) | fail) [wrapI, leT, leF, ltT, ltF, eqF, nleT, nleF, nltT, nltF, q0, q0b, p1]; rfl) ?_
    refine DW.condT (by simp (maxSteps := 200000) (disch := first | omega | (simp; done) | fail) [wrapI, leT, leF, ltT, ltF, eqF, nleT, nleF, nltT, nltF, q0, q0b, p1]) ?_
    refine DW.seq ?_
    refine DW.reg (by simp (maxSteps := 200000) (disch := first | omega | (simp; done) | fail) [wrapI, leT, leF, ltT, ltF, eqF, nleT, nleF, nltT, nltF, q0, q0b, p1]; rfl) ?_
    refine DW.ret ?_
    simp [Try.results9]
  · have q0 : ¬ t.toList = [] := fun e => p0 (ba_nil.1 e)
    have q0b : (t.toList == []) = false := by rw [beq_eq_false_iff_ne]; exact q0
    rw [textWith, if_neg p0, if_neg p1, if_pos p2]
    refine DW.reg (by simp (maxSteps := 200000) (disch := first | omega | (simp; done) | fail) [wrapI, leT, leF, ltT, ltF, eqF, nleT, nleF, nltT, nltF, q0, q0b, p1, wt, p2]; rfl) ?_
    refine DW.condT (by simp (maxSteps := 200000) (disch := first | omega | (simp; done) | fail) [wrapI, leT, leF, ltT, ltF, eqF, nleT, nleF, nltT, nltF, q0, q0b, p1, wt, p2]) ?_
    refine DW.seq ?_
    refine DW.reg (by simp (maxSteps := 200000) (disch := first | omega | (simp; done) | fail) [wrapI, leT, leF, ltT, ltF, eqF, nleT, nleF, nltT, nltF, q0, q0b, p1, wt, p2]; rfl) ?_
    refine DW.ret ?_
    simp [Try.results9]
  · have q0 : ¬ t.toList = [] := fun e => p0 (ba_nil.1 e)
    have q0b : (t.toList == []) = false := by rw [beq_eq_false_iff_ne]; exact q0
    rw [textWith, if_neg p0, if_neg p1, if_neg p2, if_pos p3]
    have p3i : (128 : Int) < old.size := by omega
    refine DW.reg (by simp (maxSteps := 200000) (disch := first | omega | (simp; done) | fail) [wrapI, leT, leF, ltT, ltF, eqF, nleT, nleF, nltT, nltF, q0, q0b, p1, wt, p2, p3i]; rfl) ?_
    refine DW.condT (by simp (maxSteps := 200000) (disch := first | omega | (simp; done) | fail) [wrapI, leT, leF, ltT, ltF, eqF, nleT, nleF, nltT, nltF, q0, q0b, p1, wt, p2, p3i]) ?_
    refine DW.seq ?_
    refine DW.reg (by simp (maxSteps := 200000) (disch := first | omega | (simp; done) | fail) [wrapI, leT, leF, ltT, ltF, eqF, nleT, nleF, nltT, nltF, q0, q0b, p1, wt, p2, p3i]; rfl) ?_
    refine DW.ret ?_
    simp [Try.results9]
  · have q0 : ¬ t.toList = [] := fun e => p0 (ba_nil.1 e)
    have q0b : (t.toList == []) = false := by rw [beq_eq_false_iff_ne]; exact q0
    rw [textWith, if_neg p0, if_neg p1, if_neg p2, if_neg p3]
    have p3i : ¬ (128 : Int) < old.size := by omega
    obtain ⟨n, rfl⟩ := Int.eq_ofNat_of_zero_le (show 0 ≤ off by omega)
    rw [Int.toNat_natCast]
    have hps := padT_size old n
    have htn : n + t.size ≤ 128 := by omega
    refine DW.reg (by simp (maxSteps := 200000) (disch := first | omega | (simp; done) | fail) [wrapI, leT, leF, ltT, ltF, eqF, nleT, nleF, nltT, nltF, q0, q0b, p1, wt, p2, p3i]; rfl) ?_
    refine DW.condF (by simp (maxSteps := 200000) (disch := first | omega | (simp; done) | fail) [wrapI, leT, leF, ltT, ltF, eqF, nleT, nleF, nltT, nltF, q0, q0b, p1, wt, p2, p3i]) ?_
    refine DW.skip ?_
    refine DW.seq ?_
    refine DW.seq ?_
    refine DW.reg (by simp (maxSteps := 200000) (disch := first | omega | (simp; done) | fail) [wrapI, leT, leF, ltT, ltF, eqF, nleT, nleF, nltT, nltF, q0, q0b, p1, wt, p2, p3i]; rfl) ?_
    refine DW.condB (by simp (maxSteps := 200000) (disch := first | omega | (simp; done) | fail) [wrapI, leT, leF, ltT, ltF, eqF, nleT, nleF, nltT, nltF, q0, q0b, p1, wt, p2, p3i]; exact rfl) (fun hc1 => ?_) (fun hc1 => ?_)
    · have hlt : old.size < n := by
        have : (old.size : Int) < n := by simpa using hc1
        omega
      obtain ⟨z, hz⟩ : ∃ z, z = n - old.size := ⟨_, rfl⟩
      have hz1 : (n : Int) - old.size = (z : Int) := by omega
      have hz2 : IntKind.i64.wrap (z : Int) = (z : Int) := wr _ (by omega) (by omega)
      have hoe : old ++ zeros z = padT old n := by unfold padT; rw [if_pos hlt, hz]
      have hs1 : ¬ (9223372036854775807 : Int) < (old.size : Int) + (z : Int) := by omega
      generalize padT old n = o at *
      refine DW.regs ?_
      refine RegO.opN 5 (by simp (maxSteps := 200000) (disch := first | omega | (simp; done) | fail) [wrapI, leT, leF, ltT, ltF, eqF, nleT, nleF, nltT, nltF, q0, q0b, p1, wt, p2, p3i, hz1, hz2, hoe, hs1]; rfl) ?_
      refine RegO.step rfl (OpStep.callA rfl (by simp (maxSteps := 200000) (disch := first | omega | (simp; done) | fail) [wrapI, leT, leF, ltT, ltF, eqF, nleT, nleF, nltT, nltF, q0, q0b, p1, wt, p2, p3i, hz1, hz2, hoe, hs1]; exact ⟨rfl, rfl⟩) (by simp (maxSteps := 200000) (disch := first | omega | (simp; done) | fail) [wrapI, leT, leF, ltT, ltF, eqF, nleT, nleF, nltT, nltF, q0, q0b, p1, wt, p2, p3i, hz1, hz2, hoe, hs1]; rfl) (by exact zeroText_spec z (by omega)) (by simp) (by simp (maxSteps := 200000) (disch := first | omega | (simp; done) | fail) [wrapI, leT, leF, ltT, ltF, eqF, nleT, nleF, nltT, nltF, q0, q0b, p1, wt, p2, p3i, hz1, hz2, hoe, hs1]; rfl)) ?_
      refine RegO.opN 2 (by simp (maxSteps := 200000) (disch := first | omega | (simp; done) | fail) [wrapI, leT, leF, ltT, ltF, eqF, nleT, nleF, nltT, nltF, q0, q0b, p1, wt, p2, p3i, hz1, hz2, hoe, hs1]; rfl) ?_
      refine RegO.nil ?_
      refine DW.seq ?_
      have we : IntKind.i64.wrap ((n : Int) + t.size) = (n : Int) + t.size := wr _ (by omega) (by omega)
      have hnl : (n : Int) ≤ o.size := by omega
      have hnn : n ≤ o.size := by omega
      have hex : (o.extract 0 n).size = n := by rw [ByteArray.size_extract]; omega
      have hs2 : ¬ (9223372036854775807 : Int) < ((o.extract 0 n).size : Int) + (t.size : Int) := by omega
      have hs3 : ¬ (9223372036854775807 : Int) < ((o.extract 0 n ++ t).size : Int) + ((o.extract (n + t.size) o.size).size : Int) := by rw [ByteArray.size_append, ByteArray.size_extract, ByteArray.size_extract]; omega
      have htz : ((n : Int) + t.size).toNat = n + t.size := by omega
      have hn0 : (0 : Int) ≤ (n : Int) + t.size := by omega
      have hs2n : ¬ (9223372036854775807 : Int) < (n : Int) + t.size := by omega
      · skip
        refine DW.reg (by simp (maxSteps := 200000) (disch := first | omega | (simp; done) | fail) [wrapI, leT, leF, ltT, ltF, eqF, nleT, nleF, nltT, nltF, q0, q0b, p1, wt, p2, p3i, hz1, hz2, hoe, hs1, we, hnl, hnn, hs2n, htz, hn0]; rfl) ?_
        refine DW.seq ?_
        refine DW.seq ?_
        refine DW.reg (by simp (maxSteps := 200000) (disch := first | omega | (simp; done) | fail) [wrapI, leT, leF, ltT, ltF, eqF, nleT, nleF, nltT, nltF, q0, q0b, p1, wt, p2, p3i, hz1, hz2, hoe, hs1, we, hnl, hnn, hs2n, htz, hn0]; rfl) ?_
        refine DW.condB (by simp (maxSteps := 200000) (disch := first | omega | (simp; done) | fail) [wrapI, leT, leF, ltT, ltF, eqF, nleT, nleF, nltT, nltF, q0, q0b, p1, wt, p2, p3i, hz1, hz2, hoe, hs1, we, hnl, hnn, hs2n, htz, hn0]; exact rfl) (fun hc2 => ?_) (fun hc2 => ?_)
        · have hgt : o.size < n + t.size := by
            have : (o.size : Int) < (n : Int) + t.size := by simpa using hc2
            omega
          rw [if_pos hgt]
          refine DW.seq ?_
          refine DW.reg (by simp (maxSteps := 200000) (disch := first | omega | (simp; done) | fail) [wrapI, leT, leF, ltT, ltF, eqF, nleT, nleF, nltT, nltF, q0, q0b, p1, wt, p2, p3i, hz1, hz2, hoe, hs1, we, hnl, hnn, hs2n, htz, hn0]; rfl) ?_
          refine DW.ret ?_
          simp [Try.results9]
        · have hle : (n : Int) + t.size ≤ o.size := by
            have : ¬ (o.size : Int) < (n : Int) + t.size := by simpa using hc2
            omega
          have hle2 : n + t.size ≤ o.size := by omega
          have hs3n : ¬ (9223372036854775807 : Int) < (n : Int) + t.size + ((o.size - (n + t.size) : Nat) : Int) := by omega
          have hgt : ¬ o.size < n + t.size := by
            have : ¬ (o.size : Int) < (n : Int) + t.size := by simpa using hc2
            omega
          rw [if_neg hgt]
          refine DW.skip ?_
          refine DW.seq ?_
          refine DW.drawn mixed (by kernel_rfl) ?_
          refine RegD.addN 10 (by simp [q0, q0b, p1, wt, p2, p3i, hz1, hz2, hoe, hs1, we, hnl, hnn, hs2n, htz, hn0, hle, hle2, hs3n]; (first | (simp (disch := omega) only [wrapI, ltF, if_false]; done) | (simp (disch := omega) only [wrapI, ltF, if_false]; first | exact ⟨rfl, rfl⟩ | rfl) | skip); (first | done | exact ⟨rfl, rfl⟩ | rfl)) ?_
          refine RegD.nil ⟨by kernel_rfl, ?_⟩
          refine DW.ret ?_
          simp [Try.results9]
    · have hlt : ¬ old.size < n := by
        have : ¬ (old.size : Int) < n := by simpa using hc1
        omega
      have hpo : padT old n = old := by unfold padT; rw [if_neg hlt]
      rw [hpo] at hps ⊢
      refine DW.skip ?_
      refine DW.seq ?_
      have we : IntKind.i64.wrap ((n : Int) + t.size) = (n : Int) + t.size := wr _ (by omega) (by omega)
      have hnl : (n : Int) ≤ old.size := by omega
      have hnn : n ≤ old.size := by omega
      have hex : (old.extract 0 n).size = n := by rw [ByteArray.size_extract]; omega
      have hs2 : ¬ (9223372036854775807 : Int) < ((old.extract 0 n).size : Int) + (t.size : Int) := by omega
      have hs3 : ¬ (9223372036854775807 : Int) < ((old.extract 0 n ++ t).size : Int) + ((old.extract (n + t.size) old.size).size : Int) := by rw [ByteArray.size_append, ByteArray.size_extract, ByteArray.size_extract]; omega
      have htz : ((n : Int) + t.size).toNat = n + t.size := by omega
      have hn0 : (0 : Int) ≤ (n : Int) + t.size := by omega
      have hs2n : ¬ (9223372036854775807 : Int) < (n : Int) + t.size := by omega
      · skip
        refine DW.reg (by simp (maxSteps := 200000) (disch := first | omega | (simp; done) | fail) [wrapI, leT, leF, ltT, ltF, eqF, nleT, nleF, nltT, nltF, q0, q0b, p1, wt, p2, p3i, we, hnl, hnn, hs2n, htz, hn0]; rfl) ?_
        refine DW.seq ?_
        refine DW.seq ?_
        refine DW.reg (by simp (maxSteps := 200000) (disch := first | omega | (simp; done) | fail) [wrapI, leT, leF, ltT, ltF, eqF, nleT, nleF, nltT, nltF, q0, q0b, p1, wt, p2, p3i, we, hnl, hnn, hs2n, htz, hn0]; rfl) ?_
        refine DW.condB (by simp (maxSteps := 200000) (disch := first | omega | (simp; done) | fail) [wrapI, leT, leF, ltT, ltF, eqF, nleT, nleF, nltT, nltF, q0, q0b, p1, wt, p2, p3i, we, hnl, hnn, hs2n, htz, hn0]; exact rfl) (fun hc2 => ?_) (fun hc2 => ?_)
        · have hgt : old.size < n + t.size := by
            have : (old.size : Int) < (n : Int) + t.size := by simpa using hc2
            omega
          rw [if_pos hgt]
          refine DW.seq ?_
          refine DW.reg (by simp (maxSteps := 200000) (disch := first | omega | (simp; done) | fail) [wrapI, leT, leF, ltT, ltF, eqF, nleT, nleF, nltT, nltF, q0, q0b, p1, wt, p2, p3i, we, hnl, hnn, hs2n, htz, hn0]; rfl) ?_
          refine DW.ret ?_
          simp [Try.results9]
        · have hle : (n : Int) + t.size ≤ old.size := by
            have : ¬ (old.size : Int) < (n : Int) + t.size := by simpa using hc2
            omega
          have hle2 : n + t.size ≤ old.size := by omega
          have hs3n : ¬ (9223372036854775807 : Int) < (n : Int) + t.size + ((old.size - (n + t.size) : Nat) : Int) := by omega
          have hgt : ¬ old.size < n + t.size := by
            have : ¬ (old.size : Int) < (n : Int) + t.size := by simpa using hc2
            omega
          rw [if_neg hgt]
          refine DW.skip ?_
          refine DW.seq ?_
          refine DW.drawn mixed (by kernel_rfl) ?_
          refine RegD.addN 10 (by simp [q0, q0b, p1, wt, p2, p3i, we, hnl, hnn, hs2n, htz, hn0, hle, hle2, hs3n]; (first | (simp (disch := omega) only [wrapI, ltF, if_false]; done) | (simp (disch := omega) only [wrapI, ltF, if_false]; first | exact ⟨rfl, rfl⟩ | rfl) | skip); (first | done | exact ⟨rfl, rfl⟩ | rfl)) ?_
          refine RegD.nil ⟨by kernel_rfl, ?_⟩
          refine DW.ret ?_
          simp [Try.results9]
end Go.Proofs.Ytciieaidbiejmaa.DM
