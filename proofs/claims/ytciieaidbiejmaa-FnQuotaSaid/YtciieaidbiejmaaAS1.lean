import Derived.Test.YtciieaidbiejmaaA1
import Derived.Test.YtciieaidbiejmaaFW5
namespace Go.Proofs.Ytciieaidbiejmaa.DM
set_option linter.unusedVariables false
set_option linter.unusedSimpArgs false
set_option maxRecDepth 4000
set_option maxHeartbeats 8000000

theorem l01In_spec (x lo hi : Int) : Spec Try.prog 35 [ri x, ri lo, ri hi] [none] [db (inB x lo hi)] [ri x, ri lo, ri hi] := by
  refine Spec.intro Try.func35 rfl rfl Try.ntmps35 rfl (by simp) ?_
  refine DW.seq ?_
  refine DW.reg (by simp (maxSteps := 200000) (disch := first | omega | (simp; done) | fail) [wrapI, leT, leF, ltT, ltF, eqF, nleT, nleF, nltT, nltF]; rfl) ?_
  refine DW.seq ?_
  have hsp : ((decide (lo ≤ x)) = false) ∨ ((decide (lo ≤ x)) = true) := by
    cases (decide (lo ≤ x)) <;> simp
  rcases hsp with g0 | g0
  · skip
    refine DW.reg (by simp (maxSteps := 200000) (disch := first | omega | (simp; done) | fail) [wrapI, leT, leF, ltT, ltF, eqF, nleT, nleF, nltT, nltF, g0]; rfl) ?_
    refine DW.ret ?_
    simp [Try.results35, inB, g0]
  · skip
    refine DW.reg (by simp (maxSteps := 200000) (disch := first | omega | (simp; done) | fail) [wrapI, leT, leF, ltT, ltF, eqF, nleT, nleF, nltT, nltF, g0]; rfl) ?_
    refine DW.ret ?_
    simp [Try.results35, inB, g0]
theorem u47 (c : UInt8) : ((c.toNat : Int) == 47) = decide (c = 47) := by
  by_cases h : c = 47
  · subst h; rfl
  · have : ¬ c.toNat = 47 := fun e => h (UInt8.toNat_inj.1 e)
    rw [decide_eq_false h, beq_eq_false_iff_ne]
    omega
theorem rootB_list : rootB.toList = [47] := by rw [ByteArray.toList_eq]
theorem rootB_iff (s : ByteArray) : s.toList = [47] ↔ s = rootB := by
  have h := beq_bytes s rootB
  rw [rootB_list] at h
  constructor
  · intro e; rw [e] at h; simpa using h
  · intro e; rw [e]; exact rootB_list
theorem splitP_codes (s : ByteArray) : (splitP s).2 = 0 ∨ (splitP s).2 = 1 ∨ (splitP s).2 = 2 := by
  have key : ∀ (f i b : Nat) (lg : Bool) (out : List ByteArray), (splW s f i b lg out).2 = 0 ∨ (splW s f i b lg out).2 = 1 ∨ (splW s f i b lg out).2 = 2 := by
    intro f
    induction f with
    | zero => intro i b lg out; unfold splW; split <;> simp
    | succ f ih =>
      intro i b lg out
      unfold splW
      split
      · split
        · split
          · simp
          · exact ih _ _ _ _
        · split
          · exact ih _ _ _ _
          · simp
      · split
        · simp
        · exact ih _ _ _ _
  unfold splitP
  split
  · simp
  · split
    · simp
    · split
      · split
        · simp
        · exact key _ _ _ _ _
      · simp
theorem splitPath_spec (s : ByteArray) : Spec Try.prog 38 [rs s] [none, none] [dr (splitP s).1, di (splitP s).2] [rs s] := by
  refine Spec.intro Try.func38 rfl rfl Try.ntmps38 rfl (by simp) ?_
  refine DW.seq ?_
  refine DW.reg (by simp (maxSteps := 200000) (disch := first | omega | (simp; done) | fail) [wrapI, leT, leF, ltT, ltF, eqF, nleT, nleF, nltT, nltF]; rfl) ?_
  refine DW.seq ?_
  refine DW.reg (by simp (maxSteps := 200000) (disch := first | omega | (simp; done) | fail) [wrapI, leT, leF, ltT, ltF, eqF, nleT, nleF, nltT, nltF]; rfl) ?_
  refine DW.seq ?_
  refine DW.seq ?_
  have hsp : 60 < s.size ∨ (s.size ≤ 60 ∧ s.size = 0) ∨ (∃ c, s.size ≤ 60 ∧ 0 < s.size ∧ s[0]? = some c ∧ ¬ c = 47) ∨ (s.size ≤ 60 ∧ 0 < s.size ∧ s[0]? = some 47) := by
    by_cases h60 : 60 < s.size
    · exact .inl h60
    · by_cases hz : s.size = 0
      · exact .inr (.inl ⟨by omega, hz⟩)
      · have hlt0 : 0 < s.data.toList.length := by rw [ba_len]; omega
        have hd := ba_get s 0 hlt0
        by_cases hc47 : s.data.toList[0] = 47
        · exact .inr (.inr (.inr ⟨by omega, by omega, hc47 ▸ hd⟩))
        · exact .inr (.inr (.inl ⟨_, by omega, by omega, hd, hc47⟩))
  rcases hsp with g0 | ⟨g0, g1⟩ | ⟨c, g0, g1, hd, g2⟩ | ⟨g0, g1, hd⟩
  · have g0i : (60 : Int) < s.size := by omega
    have hres : splitP s = ([], 1) := by
      unfold splitP; rw [if_pos g0]
    rw [hres]
    refine DW.reg (by simp (maxSteps := 200000) (disch := first | omega | (simp; done) | fail) [wrapI, leT, leF, ltT, ltF, eqF, nleT, nleF, nltT, nltF, g0i]; rfl) ?_
    refine DW.condT (by simp (maxSteps := 200000) (disch := first | omega | (simp; done) | fail) [wrapI, leT, leF, ltT, ltF, eqF, nleT, nleF, nltT, nltF, g0i]) ?_
    refine DW.seq ?_
    refine DW.reg (by simp (maxSteps := 200000) (disch := first | omega | (simp; done) | fail) [wrapI, leT, leF, ltT, ltF, eqF, nleT, nleF, nltT, nltF, g0i]; rfl) ?_
    refine DW.ghost (Ghost.nlRow 2 1000 1 (by simp) (by simp)) ?_
    refine DW.ret ?_
    simp [Try.results38]
  · have g0i : ¬ (60 : Int) < s.size := by omega
    have g1i : ((s.size : Int) == 0) = true := by rw [beq_iff_eq]; omega
    have hres : splitP s = ([], 1) := by
      have hn : s[0]? = none := by rw [getElem?_neg]; omega
      unfold splitP; rw [if_neg (by omega), hn]
    rw [hres]
    refine DW.reg (by simp (maxSteps := 200000) (disch := first | omega | (simp; done) | fail) [wrapI, leT, leF, ltT, ltF, eqF, nleT, nleF, nltT, nltF, g0i, g1i]; rfl) ?_
    refine DW.condT (by simp (maxSteps := 200000) (disch := first | omega | (simp; done) | fail) [wrapI, leT, leF, ltT, ltF, eqF, nleT, nleF, nltT, nltF, g0i, g1i]) ?_
    refine DW.seq ?_
    refine DW.reg (by simp (maxSteps := 200000) (disch := first | omega | (simp; done) | fail) [wrapI, leT, leF, ltT, ltF, eqF, nleT, nleF, nltT, nltF, g0i, g1i]; rfl) ?_
    refine DW.ghost (Ghost.nlRow 2 1000 1 (by simp) (by simp)) ?_
    refine DW.ret ?_
    simp [Try.results38]
  · have g0i : ¬ (60 : Int) < s.size := by omega
    have g1i : ((s.size : Int) == 0) = false := by rw [beq_eq_false_iff_ne]; omega
    have g1j : (0 : Int) < s.size := by omega
    have g2i := u47 c
    rw [decide_eq_false g2] at g2i
    have g2p : ¬ (c.toNat : Int) = 47 := by simpa using g2i
    have hd2 : ∀ h : 0 < s.size, s[0]'h = c := fun h => by rw [getElem?_pos s 0 h] at hd; exact Option.some.inj hd
    have hres : splitP s = ([], 1) := by
      unfold splitP; rw [if_neg (by omega), hd]; simp only; rw [if_neg g2]
    rw [hres]
    refine DW.reg (by simp (maxSteps := 200000) (disch := first | omega | (simp; done) | fail) [wrapI, leT, leF, ltT, ltF, eqF, nleT, nleF, nltT, nltF, g0i, g1i, g1, g1j, g2i, g2p, hd, hd2]; rfl) ?_
    refine DW.condT (by simp (maxSteps := 200000) (disch := first | omega | (simp; done) | fail) [wrapI, leT, leF, ltT, ltF, eqF, nleT, nleF, nltT, nltF, g0i, g1i, g1, g1j, g2i, g2p, hd, hd2]) ?_
    refine DW.seq ?_
    refine DW.reg (by simp (maxSteps := 200000) (disch := first | omega | (simp; done) | fail) [wrapI, leT, leF, ltT, ltF, eqF, nleT, nleF, nltT, nltF, g0i, g1i, g1, g1j, g2i, g2p, hd, hd2]; rfl) ?_
    refine DW.ghost (Ghost.nlRow 2 1000 1 (by simp) (by simp)) ?_
    refine DW.ret ?_
    simp [Try.results38]
  · have g0i : ¬ (60 : Int) < s.size := by omega
    have g1i : ((s.size : Int) == 0) = false := by rw [beq_eq_false_iff_ne]; omega
    have g1j : (0 : Int) < s.size := by omega
    have g2i : (((47 : UInt8).toNat : Int) == 47) = true := rfl
    have hd2 : ∀ h : 0 < s.size, s[0]'h = 47 := fun h => by rw [getElem?_pos s 0 h] at hd; exact Option.some.inj hd
    have hP : splitP s = if s = rootB then ([], 0) else splW s s.size 1 1 false [] := by unfold splitP; rw [if_neg (by omega), hd]; simp only; rw [if_pos trivial]
    refine DW.reg (by simp (maxSteps := 200000) (disch := first | omega | (simp; done) | fail) [wrapI, leT, leF, ltT, ltF, eqF, nleT, nleF, nltT, nltF, g0i, g1i, g1, g1j, g2i, hd, hd2]; rfl) ?_
    refine DW.condF (by simp (maxSteps := 200000) (disch := first | omega | (simp; done) | fail) [wrapI, leT, leF, ltT, ltF, eqF, nleT, nleF, nltT, nltF, g0i, g1i, g1, g1j, g2i, hd, hd2]) ?_
    refine DW.skip ?_
    refine DW.seq ?_
    refine DW.seq ?_
    refine DW.reg (by simp (maxSteps := 200000) (disch := first | omega | (simp; done) | fail) [wrapI, leT, leF, ltT, ltF, eqF, nleT, nleF, nltT, nltF, g0i, g1i, g1, g1j, g2i, hd, hd2]; rfl) ?_
    refine DW.condB (by simp (maxSteps := 200000) (disch := first | omega | (simp; done) | fail) [wrapI, leT, leF, ltT, ltF, eqF, nleT, nleF, nltT, nltF, g0i, g1i, g1, g1j, g2i, hd, hd2]; exact rfl) (fun hc1 => ?_) (fun hc1 => ?_)
    · have hsr : s = rootB := by simpa [rootB_iff] using hc1
      have hres : splitP s = ([], 0) := by rw [hP, if_pos hsr]
      rw [hres]
      refine DW.seq ?_
      refine DW.reg (by simp (maxSteps := 200000) (disch := first | omega | (simp; done) | fail) [wrapI, leT, leF, ltT, ltF, eqF, nleT, nleF, nltT, nltF, g0i, g1i, g1, g1j, g2i, hd, hd2]; rfl) ?_
      refine DW.ghost (Ghost.nlRow 2 1000 1 (by simp) (by simp)) ?_
      refine DW.ret ?_
      simp [Try.results38]
    · have hsr : ¬ s = rootB := by simpa [rootB_iff] using hc1
      rw [if_neg hsr] at hP
      refine DW.skip ?_
      refine DW.seq ?_
      refine DW.reg (by simp (maxSteps := 200000) (disch := first | omega | (simp; done) | fail) [wrapI, leT, leF, ltT, ltF, eqF, nleT, nleF, nltT, nltF, g0i, g1i, g1, g1j, g2i, hd, hd2]; rfl) ?_
      refine DW.ghost (Ghost.nlRow 5 76 1 (by simp) (by simp)) ?_
      refine DW.seq ?_
      refine DW.reg (by simp (maxSteps := 200000) (disch := first | omega | (simp; done) | fail) [wrapI, leT, leF, ltT, ltF, eqF, nleT, nleF, nltT, nltF, g0i, g1i, g1, g1j, g2i, hd, hd2]; rfl) ?_
      refine DW.seq ?_
      refine DW.reg (by simp (maxSteps := 200000) (disch := first | omega | (simp; done) | fail) [wrapI, leT, leF, ltT, ltF, eqF, nleT, nleF, nltT, nltF, g0i, g1i, g1, g1j, g2i, hd, hd2]; rfl) ?_
      refine DW.seq ?_
      refine DW.seq ?_
      refine DW.reg (by simp (maxSteps := 200000) (disch := first | omega | (simp; done) | fail) [wrapI, leT, leF, ltT, ltF, eqF, nleT, nleF, nltT, nltF, g0i, g1i, g1, g1j, g2i, hd, hd2]; rfl) ?_
      refine DW.norm [(0, _), (4, _), (5, _), (6, _), (7, _), (8, _)] [(76, _)] [] (by simp [g0i, g1i, g1, g1j, g2i, hd, hd2]; exact ⟨rfl, rfl, rfl, rfl, rfl, rfl⟩) (by simp [g0i, g1i, g1, g1j, g2i, hd, hd2]; rfl) (by simp [g0i, g1i, g1, g1j, g2i, hd, hd2]) (by rfl) ?_
      refine DW.block ?_
      refine DW.loopS (α := Nat × Nat × Bool × List ByteArray) (fun a => 1 ≤ a.1 ∧ a.1 ≤ s.size + 1 ∧ a.2.1 ≤ a.1 ∧ a.2.2.2.length ≤ a.1 ∧ splW s (s.size + 1 - a.1) a.1 a.2.1 a.2.2.1 a.2.2.2 = splitP s) (fun a => s.size + 1 - a.1) (fun a => [(8, vi a.1), (7, vi a.2.1), (6, vb a.2.2.1), (5, .v (.one (.sl 76 [] 0 a.2.2.2.length)))]) (fun a => [(76, .ow () 1 a.2.2.2.length (rD a.2.2.2))]) [(0, _), (4, _)] [] [] (1, 1, false, []) (⟨by simp, by simp, by simp, by simp, by simp only; rw [hP]; rfl⟩) (by simp; exact ⟨rfl, rfl⟩) (by simp) (by simp) (by rfl) ?_
      rintro ⟨i, b, lg, out⟩ ⟨hi1, hi, hbi0, hol, hR⟩
      simp only at hi1 hi hbi0 hol hR ⊢
      refine DW.seq ?_
      refine DW.seq ?_
      refine DW.reg (by simp (maxSteps := 200000) (disch := first | omega | (simp; done) | fail) [wrapI, leT, leF, ltT, ltF, eqF, nleT, nleF, nltT, nltF, g0i, g1i, g1, g1j, g2i, hd, hd2]; rfl) ?_
      refine DW.condB (by simp (maxSteps := 200000) (disch := first | omega | (simp; done) | fail) [wrapI, leT, leF, ltT, ltF, eqF, nleT, nleF, nltT, nltF, g0i, g1i, g1, g1j, g2i, hd, hd2]; exact rfl) (fun hc2 => ?_) (fun hc2 => ?_)
      · have hil : i ≤ s.size := by simpa using hc2
        have hw := wr ((i : Int) + 1) (by omega) (by omega)
        refine DW.skip ?_
        refine DW.seq ?_
        refine DW.block ?_
        refine DW.seq ?_
        refine DW.seq ?_
        have hsp : ¬ (i : Int) < s.size ∨ (∃ c, (i : Int) < s.size ∧ s[i]? = some c ∧ ¬ c = 47) ∨ ((i : Int) < s.size ∧ s[i]? = some 47) := by
          by_cases hz : (i : Int) < s.size
          · have hlt0 : i < s.data.toList.length := by rw [ba_len]; omega
            have hd := ba_get s i hlt0
            by_cases hc47 : s.data.toList[i] = 47
            · exact .inr (.inr ⟨hz, hc47 ▸ hd⟩)
            · exact .inr (.inl ⟨_, hz, hd, hc47⟩)
          · exact .inl hz
        rcases hsp with e0 | ⟨c, e0, hdc, e1⟩ | ⟨e0, hdc⟩
        · have hn : s[i]? = none := by rw [getElem?_neg]; omega
          rw [show s.size + 1 - i = (s.size + 1 - (i + 1)) + 1 by omega, splW, hn] at hR
          simp only at hR
          refine DW.reg (by simp (maxSteps := 200000) (disch := first | omega | (simp; done) | fail) [wrapI, leT, leF, ltT, ltF, eqF, nleT, nleF, nltT, nltF, g0i, g1i, g1, g1j, g2i, hd, hd2, hw, e0]; rfl) ?_
          refine DW.condF (by simp (maxSteps := 200000) (disch := first | omega | (simp; done) | fail) [wrapI, leT, leF, ltT, ltF, eqF, nleT, nleF, nltT, nltF, g0i, g1i, g1, g1j, g2i, hd, hd2, hw, e0]) ?_
          refine DW.skip ?_
          refine DW.seq ?_
          refine DW.seq ?_
          refine DW.reg (by simp (maxSteps := 200000) (disch := first | omega | (simp; done) | fail) [wrapI, leT, leF, ltT, ltF, eqF, nleT, nleF, nltT, nltF, g0i, g1i, g1, g1j, g2i, hd, hd2, hw, e0]; rfl) ?_
          refine DW.condB (by simp (maxSteps := 200000) (disch := first | omega | (simp; done) | fail) [wrapI, leT, leF, ltT, ltF, eqF, nleT, nleF, nltT, nltF, g0i, g1i, g1, g1j, g2i, hd, hd2, hw, e0]; exact rfl) (fun hc4 => ?_) (fun hc4 => ?_)
          · have hbi : b = i := by
              have : (b : Int) = i := by simpa using hc4
              omega
            rw [if_pos hbi] at hR
            rw [← hR]
            refine DW.seq ?_
            refine DW.reg (by simp (maxSteps := 200000) (disch := first | omega | (simp; done) | fail) [wrapI, leT, leF, ltT, ltF, eqF, nleT, nleF, nltT, nltF, g0i, g1i, g1, g1j, g2i, hd, hd2, hw, e0]; rfl) ?_
            refine DW.ghost (Ghost.nlRow 2 1000 1 (by simp) (by simp)) ?_
            refine DW.ret ?_
            simp [Try.results38]
          · have hbi : ¬ b = i := by
              have : ¬ (b : Int) = i := by simpa using hc4
              omega
            rw [if_neg hbi] at hR
            have hT := rD_take1_ByteArray out
            have hTl := rD_len_ByteArray out
            have hbb2 : (out.length + 1) * 16 ≤ 140737488355328 := by omega
            have hbb3 : out.length + 1 ≤ 140737488355328 := by omega
            have hRd : rD [s.extract b i] = [T.sc (.string (s.extract b i))] := rfl
            have hbi1 : (b : Int) ≤ i := by omega
            have hil1 : (i : Int) ≤ s.size := by omega
            refine DW.skip ?_
            refine DW.seq ?_
            cases lg
            · have hw7 : IntKind.i64.wrap ((i : Int) - b) = (i : Int) - b := wr _ (by omega) (by omega)
              rw [Bool.false_or] at hR
              obtain ⟨lg2, hlg2⟩ : ∃ x, decide (7 < (i : Int) - b) = x := ⟨_, rfl⟩
              rw [hlg2] at hR
              refine DW.reg (by simp (maxSteps := 200000) (disch := first | omega | (simp; done) | fail) [wrapI, leT, leF, ltT, ltF, eqF, nleT, nleF, nltT, nltF, g0i, g1i, g1, g1j, g2i, hd, hd2, hw, e0, hT, hTl, hbb2, hbb3, hbi1, hil1, hil, hbi0, hw7, hlg2]; rfl) ?_
              refine DW.seq ?_
              refine DW.reg (by simp [g0i, g1i, g1, g1j, g2i, hd, hd2, hw, e0, hT, hTl, hbb2, hbb3, hbi1, hil1, hil, hbi0, hw7, hlg2]; rfl) ?_
              have hR2 := hR
              refine DW.norm [(0, _), (4, _), (5, _), (6, _), (8, _)] [(76, _)] [] (by simp [g0i, g1i, g1, g1j, g2i, hd, hd2, hw, e0, hT, hTl, hbb2, hbb3, hbi1, hil1, hil, hbi0, hw7, hlg2]; exact ⟨rfl, rfl, rfl, rfl, rfl⟩) (by simp [g0i, g1i, g1, g1j, g2i, hd, hd2, hw, e0, hT, hTl, hbb2, hbb3, hbi1, hil1, hil, hbi0, hw7, hlg2]; rfl) (by simp [g0i, g1i, g1, g1j, g2i, hd, hd2, hw, e0, hT, hTl, hbb2, hbb3, hbi1, hil1, hil, hbi0, hw7, hlg2]) (by rfl) ?_
              refine DW.reg (by simp (maxSteps := 200000) (disch := first | omega | (simp; done) | fail) [wrapI, leT, leF, ltT, ltF, eqF, nleT, nleF, nltT, nltF, g0i, g1i, g1, g1j, g2i, hd, hd2, hw, e0, hT, hTl, hbb2, hbb3, hbi1, hil1, hil, hbi0, hw7, hlg2]; rfl) ?_
              refine DW.reg (by simp (maxSteps := 200000) (disch := first | omega | (simp; done) | fail) [wrapI, leT, leF, ltT, ltF, eqF, nleT, nleF, nltT, nltF, g0i, g1i, g1, g1j, g2i, hd, hd2, hw, e0, hT, hTl, hbb2, hbb3, hbi1, hil1, hil, hbi0, hw7, hlg2]; rfl) ?_
              exact ⟨(i + 1, i + 1, lg2, out ++ [s.extract b i]), ⟨by simp only; omega, by simp only; omega, by simp only; omega, by simp; omega, hR2⟩, by simp only; omega, by simp [hw], by simp [rD_append, hRd], by simp, by rfl⟩
            · rw [Bool.true_or] at hR
              refine DW.reg (by simp (maxSteps := 200000) (disch := first | omega | (simp; done) | fail) [wrapI, leT, leF, ltT, ltF, eqF, nleT, nleF, nltT, nltF, g0i, g1i, g1, g1j, g2i, hd, hd2, hw, e0, hT, hTl, hbb2, hbb3, hbi1, hil1, hil, hbi0]; rfl) ?_
              refine DW.seq ?_
              refine DW.reg (by simp [g0i, g1i, g1, g1j, g2i, hd, hd2, hw, e0, hT, hTl, hbb2, hbb3, hbi1, hil1, hil, hbi0]; rfl) ?_
              have hR2 := hR
              refine DW.norm [(0, _), (4, _), (5, _), (6, _), (8, _)] [(76, _)] [] (by simp [g0i, g1i, g1, g1j, g2i, hd, hd2, hw, e0, hT, hTl, hbb2, hbb3, hbi1, hil1, hil, hbi0]; exact ⟨rfl, rfl, rfl, rfl, rfl⟩) (by simp [g0i, g1i, g1, g1j, g2i, hd, hd2, hw, e0, hT, hTl, hbb2, hbb3, hbi1, hil1, hil, hbi0]; rfl) (by simp [g0i, g1i, g1, g1j, g2i, hd, hd2, hw, e0, hT, hTl, hbb2, hbb3, hbi1, hil1, hil, hbi0]) (by rfl) ?_
              refine DW.reg (by simp (maxSteps := 200000) (disch := first | omega | (simp; done) | fail) [wrapI, leT, leF, ltT, ltF, eqF, nleT, nleF, nltT, nltF, g0i, g1i, g1, g1j, g2i, hd, hd2, hw, e0, hT, hTl, hbb2, hbb3, hbi1, hil1, hil, hbi0]; rfl) ?_
              refine DW.reg (by simp (maxSteps := 200000) (disch := first | omega | (simp; done) | fail) [wrapI, leT, leF, ltT, ltF, eqF, nleT, nleF, nltT, nltF, g0i, g1i, g1, g1j, g2i, hd, hd2, hw, e0, hT, hTl, hbb2, hbb3, hbi1, hil1, hil, hbi0]; rfl) ?_
              exact ⟨(i + 1, i + 1, true, out ++ [s.extract b i]), ⟨by simp only; omega, by simp only; omega, by simp only; omega, by simp; omega, hR2⟩, by simp only; omega, by simp [hw], by simp [rD_append, hRd], by simp, by rfl⟩
        · have e1i := u47 c
          rw [decide_eq_false e1] at e1i
          have e1p : ¬ (c.toNat : Int) = 47 := by simpa using e1i
          have hcl := c.toNat_lt
          have hdc2 : ∀ h : i < s.size, s[i]'h = c := fun h => by rw [getElem?_pos s i h] at hdc; exact Option.some.inj hdc
          rw [show s.size + 1 - i = (s.size + 1 - (i + 1)) + 1 by omega, splW, hdc] at hR
          simp only at hR
          rw [if_neg e1] at hR
          have wc : IntKind.i64.wrap (c.toNat : Int) = (c.toNat : Int) := wr _ (by omega) (by omega)
          refine DW.reg (by simp (maxSteps := 200000) (disch := first | omega | (simp; done) | fail) [wrapI, leT, leF, ltT, ltF, eqF, nleT, nleF, nltT, nltF, g0i, g1i, g1, g1j, g2i, hd, hd2, hw, e0, e1i, e1p, hdc, hdc2, wc]; rfl) ?_
          refine DW.condT (by simp (maxSteps := 200000) (disch := first | omega | (simp; done) | fail) [wrapI, leT, leF, ltT, ltF, eqF, nleT, nleF, nltT, nltF, g0i, g1i, g1, g1j, g2i, hd, hd2, hw, e0, e1i, e1p, hdc, hdc2, wc]) ?_
          refine DW.seq ?_
          refine DW.seq ?_
          have hsp : (inB c.toNat 97 122 = true ∧ nameC c = true) ∨ (inB c.toNat 97 122 = false ∧ inB c.toNat 48 57 = true ∧ nameC c = true) ∨ (inB c.toNat 97 122 = false ∧ inB c.toNat 48 57 = false ∧ nameC c = false) := by
            unfold nameC; cases inB c.toNat 97 122 <;> cases inB c.toNat 48 57 <;> simp
          rcases hsp with ⟨n0, hnm⟩ | ⟨n0, n1, hnm⟩ | ⟨n0, n1, hnm⟩
          · rw [hnm, if_pos rfl] at hR
            refine DW.regs ?_
            refine RegO.opN 4 (by simp (maxSteps := 200000) (disch := first | omega | (simp; done) | fail) [wrapI, leT, leF, ltT, ltF, eqF, nleT, nleF, nltT, nltF, g0i, g1i, g1, g1j, g2i, hd, hd2, hw, e0, e1i, e1p, hdc, hdc2, wc, n0, hcl]; rfl) ?_
            refine RegO.step rfl (OpStep.callA rfl (by simp (maxSteps := 200000) (disch := first | omega | (simp; done) | fail) [wrapI, leT, leF, ltT, ltF, eqF, nleT, nleF, nltT, nltF, g0i, g1i, g1, g1j, g2i, hd, hd2, hw, e0, e1i, e1p, hdc, hdc2, wc, n0, hcl]; exact ⟨rfl, rfl⟩) (by simp (maxSteps := 200000) (disch := first | omega | (simp; done) | fail) [wrapI, leT, leF, ltT, ltF, eqF, nleT, nleF, nltT, nltF, g0i, g1i, g1, g1j, g2i, hd, hd2, hw, e0, e1i, e1p, hdc, hdc2, wc, n0, hcl]; rfl) (by exact l01In_spec _ _ _) (by simp) (by simp (maxSteps := 200000) (disch := first | omega | (simp; done) | fail) [wrapI, leT, leF, ltT, ltF, eqF, nleT, nleF, nltT, nltF, g0i, g1i, g1, g1j, g2i, hd, hd2, hw, e0, e1i, e1p, hdc, hdc2, wc, n0, hcl]; rfl)) ?_
            refine RegO.opN 9 (by simp (maxSteps := 200000) (disch := first | omega | (simp; done) | fail) [wrapI, leT, leF, ltT, ltF, eqF, nleT, nleF, nltT, nltF, g0i, g1i, g1, g1j, g2i, hd, hd2, hw, e0, e1i, e1p, hdc, hdc2, wc, n0, hcl]; rfl) ?_
            refine RegO.nil ?_
            refine DW.condF (by simp (maxSteps := 200000) (disch := first | omega | (simp; done) | fail) [wrapI, leT, leF, ltT, ltF, eqF, nleT, nleF, nltT, nltF, g0i, g1i, g1, g1j, g2i, hd, hd2, hw, e0, e1i, e1p, hdc, hdc2, wc, n0]) ?_
            refine DW.skip ?_
            refine DW.exit ?_
            refine DW.reg (by simp (maxSteps := 200000) (disch := first | omega | (simp; done) | fail) [wrapI, leT, leF, ltT, ltF, eqF, nleT, nleF, nltT, nltF, g0i, g1i, g1, g1j, g2i, hd, hd2, hw, e0, e1i, e1p, hdc, hdc2, wc, n0]; rfl) ?_
            exact ⟨(i + 1, b, lg, out), ⟨by simp only; omega, by simp only; omega, by simp only; omega, by simp only; omega, hR⟩, by simp only; omega, by simp [hw], by simp, by simp, by rfl⟩
          · rw [hnm, if_pos rfl] at hR
            refine DW.regs ?_
            refine RegO.opN 4 (by simp (maxSteps := 200000) (disch := first | omega | (simp; done) | fail) [wrapI, leT, leF, ltT, ltF, eqF, nleT, nleF, nltT, nltF, g0i, g1i, g1, g1j, g2i, hd, hd2, hw, e0, e1i, e1p, hdc, hdc2, wc, n0, n1, hcl]; rfl) ?_
            refine RegO.step rfl (OpStep.callA rfl (by simp (maxSteps := 200000) (disch := first | omega | (simp; done) | fail) [wrapI, leT, leF, ltT, ltF, eqF, nleT, nleF, nltT, nltF, g0i, g1i, g1, g1j, g2i, hd, hd2, hw, e0, e1i, e1p, hdc, hdc2, wc, n0, n1, hcl]; exact ⟨rfl, rfl⟩) (by simp (maxSteps := 200000) (disch := first | omega | (simp; done) | fail) [wrapI, leT, leF, ltT, ltF, eqF, nleT, nleF, nltT, nltF, g0i, g1i, g1, g1j, g2i, hd, hd2, hw, e0, e1i, e1p, hdc, hdc2, wc, n0, n1, hcl]; rfl) (by exact l01In_spec _ _ _) (by simp) (by simp (maxSteps := 200000) (disch := first | omega | (simp; done) | fail) [wrapI, leT, leF, ltT, ltF, eqF, nleT, nleF, nltT, nltF, g0i, g1i, g1, g1j, g2i, hd, hd2, hw, e0, e1i, e1p, hdc, hdc2, wc, n0, n1, hcl]; rfl)) ?_
            refine RegO.opN 6 (by simp (maxSteps := 200000) (disch := first | omega | (simp; done) | fail) [wrapI, leT, leF, ltT, ltF, eqF, nleT, nleF, nltT, nltF, g0i, g1i, g1, g1j, g2i, hd, hd2, hw, e0, e1i, e1p, hdc, hdc2, wc, n0, n1, hcl]; rfl) ?_
            refine RegO.stepT (by simp (maxSteps := 200000) (disch := first | omega | (simp; done) | fail) [wrapI, leT, leF, ltT, ltF, eqF, nleT, nleF, nltT, nltF, g0i, g1i, g1, g1j, g2i, hd, hd2, hw, e0, e1i, e1p, hdc, hdc2, wc, n0, n1, hcl]) (OpStep.callA rfl (by simp (maxSteps := 200000) (disch := first | omega | (simp; done) | fail) [wrapI, leT, leF, ltT, ltF, eqF, nleT, nleF, nltT, nltF, g0i, g1i, g1, g1j, g2i, hd, hd2, hw, e0, e1i, e1p, hdc, hdc2, wc, n0, n1, hcl]; exact ⟨rfl, rfl⟩) (by simp (maxSteps := 200000) (disch := first | omega | (simp; done) | fail) [wrapI, leT, leF, ltT, ltF, eqF, nleT, nleF, nltT, nltF, g0i, g1i, g1, g1j, g2i, hd, hd2, hw, e0, e1i, e1p, hdc, hdc2, wc, n0, n1, hcl]; rfl) (by exact l01In_spec _ _ _) (by simp) (by simp (maxSteps := 200000) (disch := first | omega | (simp; done) | fail) [wrapI, leT, leF, ltT, ltF, eqF, nleT, nleF, nltT, nltF, g0i, g1i, g1, g1j, g2i, hd, hd2, hw, e0, e1i, e1p, hdc, hdc2, wc, n0, n1, hcl]; rfl)) ?_
            refine RegO.opN 2 (by simp (maxSteps := 200000) (disch := first | omega | (simp; done) | fail) [wrapI, leT, leF, ltT, ltF, eqF, nleT, nleF, nltT, nltF, g0i, g1i, g1, g1j, g2i, hd, hd2, hw, e0, e1i, e1p, hdc, hdc2, wc, n0, n1, hcl]; rfl) ?_
            refine RegO.nil ?_
            refine DW.condF (by simp (maxSteps := 200000) (disch := first | omega | (simp; done) | fail) [wrapI, leT, leF, ltT, ltF, eqF, nleT, nleF, nltT, nltF, g0i, g1i, g1, g1j, g2i, hd, hd2, hw, e0, e1i, e1p, hdc, hdc2, wc, n0, n1]) ?_
            refine DW.skip ?_
            refine DW.exit ?_
            refine DW.reg (by simp (maxSteps := 200000) (disch := first | omega | (simp; done) | fail) [wrapI, leT, leF, ltT, ltF, eqF, nleT, nleF, nltT, nltF, g0i, g1i, g1, g1j, g2i, hd, hd2, hw, e0, e1i, e1p, hdc, hdc2, wc, n0, n1]; rfl) ?_
            exact ⟨(i + 1, b, lg, out), ⟨by simp only; omega, by simp only; omega, by simp only; omega, by simp only; omega, hR⟩, by simp only; omega, by simp [hw], by simp, by simp, by rfl⟩
          · rw [hnm, if_neg (by simp)] at hR
            rw [← hR]
            refine DW.regs ?_
            refine RegO.opN 4 (by simp (maxSteps := 200000) (disch := first | omega | (simp; done) | fail) [wrapI, leT, leF, ltT, ltF, eqF, nleT, nleF, nltT, nltF, g0i, g1i, g1, g1j, g2i, hd, hd2, hw, e0, e1i, e1p, hdc, hdc2, wc, n0, n1, hcl]; rfl) ?_
            refine RegO.step rfl (OpStep.callA rfl (by simp (maxSteps := 200000) (disch := first | omega | (simp; done) | fail) [wrapI, leT, leF, ltT, ltF, eqF, nleT, nleF, nltT, nltF, g0i, g1i, g1, g1j, g2i, hd, hd2, hw, e0, e1i, e1p, hdc, hdc2, wc, n0, n1, hcl]; exact ⟨rfl, rfl⟩) (by simp (maxSteps := 200000) (disch := first | omega | (simp; done) | fail) [wrapI, leT, leF, ltT, ltF, eqF, nleT, nleF, nltT, nltF, g0i, g1i, g1, g1j, g2i, hd, hd2, hw, e0, e1i, e1p, hdc, hdc2, wc, n0, n1, hcl]; rfl) (by exact l01In_spec _ _ _) (by simp) (by simp (maxSteps := 200000) (disch := first | omega | (simp; done) | fail) [wrapI, leT, leF, ltT, ltF, eqF, nleT, nleF, nltT, nltF, g0i, g1i, g1, g1j, g2i, hd, hd2, hw, e0, e1i, e1p, hdc, hdc2, wc, n0, n1, hcl]; rfl)) ?_
            refine RegO.opN 6 (by simp (maxSteps := 200000) (disch := first | omega | (simp; done) | fail) [wrapI, leT, leF, ltT, ltF, eqF, nleT, nleF, nltT, nltF, g0i, g1i, g1, g1j, g2i, hd, hd2, hw, e0, e1i, e1p, hdc, hdc2, wc, n0, n1, hcl]; rfl) ?_
            refine RegO.stepT (by simp (maxSteps := 200000) (disch := first | omega | (simp; done) | fail) [wrapI, leT, leF, ltT, ltF, eqF, nleT, nleF, nltT, nltF, g0i, g1i, g1, g1j, g2i, hd, hd2, hw, e0, e1i, e1p, hdc, hdc2, wc, n0, n1, hcl]) (OpStep.callA rfl (by simp (maxSteps := 200000) (disch := first | omega | (simp; done) | fail) [wrapI, leT, leF, ltT, ltF, eqF, nleT, nleF, nltT, nltF, g0i, g1i, g1, g1j, g2i, hd, hd2, hw, e0, e1i, e1p, hdc, hdc2, wc, n0, n1, hcl]; exact ⟨rfl, rfl⟩) (by simp (maxSteps := 200000) (disch := first | omega | (simp; done) | fail) [wrapI, leT, leF, ltT, ltF, eqF, nleT, nleF, nltT, nltF, g0i, g1i, g1, g1j, g2i, hd, hd2, hw, e0, e1i, e1p, hdc, hdc2, wc, n0, n1, hcl]; rfl) (by exact l01In_spec _ _ _) (by simp) (by simp (maxSteps := 200000) (disch := first | omega | (simp; done) | fail) [wrapI, leT, leF, ltT, ltF, eqF, nleT, nleF, nltT, nltF, g0i, g1i, g1, g1j, g2i, hd, hd2, hw, e0, e1i, e1p, hdc, hdc2, wc, n0, n1, hcl]; rfl)) ?_
            refine RegO.opN 2 (by simp (maxSteps := 200000) (disch := first | omega | (simp; done) | fail) [wrapI, leT, leF, ltT, ltF, eqF, nleT, nleF, nltT, nltF, g0i, g1i, g1, g1j, g2i, hd, hd2, hw, e0, e1i, e1p, hdc, hdc2, wc, n0, n1, hcl]; rfl) ?_
            refine RegO.nil ?_
            refine DW.condT (by simp (maxSteps := 200000) (disch := first | omega | (simp; done) | fail) [wrapI, leT, leF, ltT, ltF, eqF, nleT, nleF, nltT, nltF, g0i, g1i, g1, g1j, g2i, hd, hd2, hw, e0, e1i, e1p, hdc, hdc2, wc, n0, n1]) ?_
            refine DW.seq ?_
            refine DW.reg (by simp (maxSteps := 200000) (disch := first | omega | (simp; done) | fail) [wrapI, leT, leF, ltT, ltF, eqF, nleT, nleF, nltT, nltF, g0i, g1i, g1, g1j, g2i, hd, hd2, hw, e0, e1i, e1p, hdc, hdc2, wc, n0, n1]; rfl) ?_
            refine DW.ghost (Ghost.nlRow 2 1000 1 (by simp) (by simp)) ?_
            refine DW.ret ?_
            simp [Try.results38]
        · have e1i : (((47 : UInt8).toNat : Int) == 47) = true := rfl
          have hdc2 : ∀ h : i < s.size, s[i]'h = 47 := fun h => by rw [getElem?_pos s i h] at hdc; exact Option.some.inj hdc
          rw [show s.size + 1 - i = (s.size + 1 - (i + 1)) + 1 by omega, splW, hdc] at hR
          simp only at hR
          rw [if_pos trivial] at hR
          refine DW.reg (by simp (maxSteps := 200000) (disch := first | omega | (simp; done) | fail) [wrapI, leT, leF, ltT, ltF, eqF, nleT, nleF, nltT, nltF, g0i, g1i, g1, g1j, g2i, hd, hd2, hw, e0, e1i, hdc, hdc2]; rfl) ?_
          refine DW.condF (by simp (maxSteps := 200000) (disch := first | omega | (simp; done) | fail) [wrapI, leT, leF, ltT, ltF, eqF, nleT, nleF, nltT, nltF, g0i, g1i, g1, g1j, g2i, hd, hd2, hw, e0, e1i, hdc, hdc2]) ?_
          refine DW.skip ?_
          refine DW.seq ?_
          refine DW.seq ?_
          refine DW.reg (by simp (maxSteps := 200000) (disch := first | omega | (simp; done) | fail) [wrapI, leT, leF, ltT, ltF, eqF, nleT, nleF, nltT, nltF, g0i, g1i, g1, g1j, g2i, hd, hd2, hw, e0, e1i, hdc, hdc2]; rfl) ?_
          refine DW.condB (by simp (maxSteps := 200000) (disch := first | omega | (simp; done) | fail) [wrapI, leT, leF, ltT, ltF, eqF, nleT, nleF, nltT, nltF, g0i, g1i, g1, g1j, g2i, hd, hd2, hw, e0, e1i, hdc, hdc2]; exact rfl) (fun hc4 => ?_) (fun hc4 => ?_)
          · have hbi : b = i := by
              have : (b : Int) = i := by simpa using hc4
              omega
            rw [if_pos hbi] at hR
            rw [← hR]
            refine DW.seq ?_
            refine DW.reg (by simp (maxSteps := 200000) (disch := first | omega | (simp; done) | fail) [wrapI, leT, leF, ltT, ltF, eqF, nleT, nleF, nltT, nltF, g0i, g1i, g1, g1j, g2i, hd, hd2, hw, e0, e1i, hdc, hdc2]; rfl) ?_
            refine DW.ghost (Ghost.nlRow 2 1000 1 (by simp) (by simp)) ?_
            refine DW.ret ?_
            simp [Try.results38]
          · have hbi : ¬ b = i := by
              have : ¬ (b : Int) = i := by simpa using hc4
              omega
            rw [if_neg hbi] at hR
            have hT := rD_take1_ByteArray out
            have hTl := rD_len_ByteArray out
            have hbb2 : (out.length + 1) * 16 ≤ 140737488355328 := by omega
            have hbb3 : out.length + 1 ≤ 140737488355328 := by omega
            have hRd : rD [s.extract b i] = [T.sc (.string (s.extract b i))] := rfl
            have hbi1 : (b : Int) ≤ i := by omega
            have hil1 : (i : Int) ≤ s.size := by omega
            refine DW.skip ?_
            refine DW.seq ?_
            cases lg
            · have hw7 : IntKind.i64.wrap ((i : Int) - b) = (i : Int) - b := wr _ (by omega) (by omega)
              rw [Bool.false_or] at hR
              obtain ⟨lg2, hlg2⟩ : ∃ x, decide (7 < (i : Int) - b) = x := ⟨_, rfl⟩
              rw [hlg2] at hR
              refine DW.reg (by simp (maxSteps := 200000) (disch := first | omega | (simp; done) | fail) [wrapI, leT, leF, ltT, ltF, eqF, nleT, nleF, nltT, nltF, g0i, g1i, g1, g1j, g2i, hd, hd2, hw, e0, e1i, hdc, hdc2, hT, hTl, hbb2, hbb3, hbi1, hil1, hil, hbi0, hw7, hlg2]; rfl) ?_
              refine DW.seq ?_
              refine DW.reg (by simp [g0i, g1i, g1, g1j, g2i, hd, hd2, hw, e0, e1i, hdc, hdc2, hT, hTl, hbb2, hbb3, hbi1, hil1, hil, hbi0, hw7, hlg2]; rfl) ?_
              have hR2 := hR
              refine DW.norm [(0, _), (4, _), (5, _), (6, _), (8, _)] [(76, _)] [] (by simp [g0i, g1i, g1, g1j, g2i, hd, hd2, hw, e0, e1i, hdc, hdc2, hT, hTl, hbb2, hbb3, hbi1, hil1, hil, hbi0, hw7, hlg2]; exact ⟨rfl, rfl, rfl, rfl, rfl⟩) (by simp [g0i, g1i, g1, g1j, g2i, hd, hd2, hw, e0, e1i, hdc, hdc2, hT, hTl, hbb2, hbb3, hbi1, hil1, hil, hbi0, hw7, hlg2]; rfl) (by simp [g0i, g1i, g1, g1j, g2i, hd, hd2, hw, e0, e1i, hdc, hdc2, hT, hTl, hbb2, hbb3, hbi1, hil1, hil, hbi0, hw7, hlg2]) (by rfl) ?_
              refine DW.reg (by simp (maxSteps := 200000) (disch := first | omega | (simp; done) | fail) [wrapI, leT, leF, ltT, ltF, eqF, nleT, nleF, nltT, nltF, g0i, g1i, g1, g1j, g2i, hd, hd2, hw, e0, e1i, hdc, hdc2, hT, hTl, hbb2, hbb3, hbi1, hil1, hil, hbi0, hw7, hlg2]; rfl) ?_
              refine DW.reg (by simp (maxSteps := 200000) (disch := first | omega | (simp; done) | fail) [wrapI, leT, leF, ltT, ltF, eqF, nleT, nleF, nltT, nltF, g0i, g1i, g1, g1j, g2i, hd, hd2, hw, e0, e1i, hdc, hdc2, hT, hTl, hbb2, hbb3, hbi1, hil1, hil, hbi0, hw7, hlg2]; rfl) ?_
              exact ⟨(i + 1, i + 1, lg2, out ++ [s.extract b i]), ⟨by simp only; omega, by simp only; omega, by simp only; omega, by simp; omega, hR2⟩, by simp only; omega, by simp [hw], by simp [rD_append, hRd], by simp, by rfl⟩
            · rw [Bool.true_or] at hR
              refine DW.reg (by simp (maxSteps := 200000) (disch := first | omega | (simp; done) | fail) [wrapI, leT, leF, ltT, ltF, eqF, nleT, nleF, nltT, nltF, g0i, g1i, g1, g1j, g2i, hd, hd2, hw, e0, e1i, hdc, hdc2, hT, hTl, hbb2, hbb3, hbi1, hil1, hil, hbi0]; rfl) ?_
              refine DW.seq ?_
              refine DW.reg (by simp [g0i, g1i, g1, g1j, g2i, hd, hd2, hw, e0, e1i, hdc, hdc2, hT, hTl, hbb2, hbb3, hbi1, hil1, hil, hbi0]; rfl) ?_
              have hR2 := hR
              refine DW.norm [(0, _), (4, _), (5, _), (6, _), (8, _)] [(76, _)] [] (by simp [g0i, g1i, g1, g1j, g2i, hd, hd2, hw, e0, e1i, hdc, hdc2, hT, hTl, hbb2, hbb3, hbi1, hil1, hil, hbi0]; exact ⟨rfl, rfl, rfl, rfl, rfl⟩) (by simp [g0i, g1i, g1, g1j, g2i, hd, hd2, hw, e0, e1i, hdc, hdc2, hT, hTl, hbb2, hbb3, hbi1, hil1, hil, hbi0]; rfl) (by simp [g0i, g1i, g1, g1j, g2i, hd, hd2, hw, e0, e1i, hdc, hdc2, hT, hTl, hbb2, hbb3, hbi1, hil1, hil, hbi0]) (by rfl) ?_
              refine DW.reg (by simp (maxSteps := 200000) (disch := first | omega | (simp; done) | fail) [wrapI, leT, leF, ltT, ltF, eqF, nleT, nleF, nltT, nltF, g0i, g1i, g1, g1j, g2i, hd, hd2, hw, e0, e1i, hdc, hdc2, hT, hTl, hbb2, hbb3, hbi1, hil1, hil, hbi0]; rfl) ?_
              refine DW.reg (by simp (maxSteps := 200000) (disch := first | omega | (simp; done) | fail) [wrapI, leT, leF, ltT, ltF, eqF, nleT, nleF, nltT, nltF, g0i, g1i, g1, g1j, g2i, hd, hd2, hw, e0, e1i, hdc, hdc2, hT, hTl, hbb2, hbb3, hbi1, hil1, hil, hbi0]; rfl) ?_
              exact ⟨(i + 1, i + 1, true, out ++ [s.extract b i]), ⟨by simp only; omega, by simp only; omega, by simp only; omega, by simp; omega, hR2⟩, by simp only; omega, by simp [hw], by simp [rD_append, hRd], by simp, by rfl⟩
      · have hil : i = s.size + 1 := by
          have : ¬ i ≤ s.size := by simpa using hc2
          omega
        rw [show s.size + 1 - i = 0 by omega, splW] at hR
        refine DW.exit ?_
        refine DW.seq ?_
        refine DW.seq ?_
        refine DW.reg (by simp (maxSteps := 200000) (disch := first | omega | (simp; done) | fail) [wrapI, leT, leF, ltT, ltF, eqF, nleT, nleF, nltT, nltF, g0i, g1i, g1, g1j, g2i, hd, hd2]; rfl) ?_
        refine DW.condB (by simp (maxSteps := 200000) (disch := first | omega | (simp; done) | fail) [wrapI, leT, leF, ltT, ltF, eqF, nleT, nleF, nltT, nltF, g0i, g1i, g1, g1j, g2i, hd, hd2]; exact rfl) (fun hc3 => ?_) (fun hc3 => ?_)
        · have hl : lg = true := by simpa using hc3
          rw [hl, if_pos rfl] at hR
          rw [← hR]
          refine DW.seq ?_
          refine DW.reg (by simp (maxSteps := 200000) (disch := first | omega | (simp; done) | fail) [wrapI, leT, leF, ltT, ltF, eqF, nleT, nleF, nltT, nltF, g0i, g1i, g1, g1j, g2i, hd, hd2]; rfl) ?_
          refine DW.ghost (Ghost.nlRow 2 1000 1 (by simp) (by simp)) ?_
          refine DW.ret ?_
          simp [Try.results38]
        · have hl : lg = false := by simpa using hc3
          rw [hl, if_neg (by simp)] at hR
          rw [← hR]
          refine DW.skip ?_
          refine DW.seq ?_
          refine DW.reg (by simp (maxSteps := 200000) (disch := first | omega | (simp; done) | fail) [wrapI, leT, leF, ltT, ltF, eqF, nleT, nleF, nltT, nltF, g0i, g1i, g1, g1j, g2i, hd, hd2]; rfl) ?_
          refine DW.ret ?_
          simp [Try.results38]
end Go.Proofs.Ytciieaidbiejmaa.DM
