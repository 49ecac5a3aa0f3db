import Derived.Test.YtciieaidbiejmaaAS12
import Derived.Test.YtciieaidbiejmaaAS11
import Derived.Test.YtciieaidbiejmaaAS10
namespace Go.Proofs.Ytciieaidbiejmaa.DM
set_option linter.unusedVariables false
set_option linter.unusedSimpArgs false
set_option maxRecDepth 4000
set_option maxHeartbeats 8000000
theorem lookW_ne (l : List Item) (ns : List ByteArray) : ∀ (f i : Nat), lookW l ns f i ≠ 0
  | 0, i => by unfold lookW; decide
  | f + 1, i => by
    unfold lookW
    split
    · decide
    · split
      · decide
      · exact lookW_ne l ns f (i + 1)
theorem lookUp_zero {l : List Item} {p : ByteArray} (h : lookUp l p = 0) (hr : ¬ p = rootB) : 0 ≤ itemAt l p := by
  unfold lookUp at h
  rw [if_neg hr] at h
  by_cases h0 : 0 ≤ itemAt l p
  · exact h0
  · rw [if_neg h0] at h
    split at h
    · rename_i hc; exact absurd h hc
    · exact absurd h (lookW_ne _ _ _ _)
theorem dir_root (l : List Item) : isDirV l rootB = true := by unfold isDirV; rw [if_pos rfl]
theorem at_ix {l : List Item} {p : ByteArray} (h : 0 ≤ itemAt l p) : itemAt l p = (itemIx l p : Int) ∧ itemIx l p < l.length := by
  unfold itemAt at h ⊢
  split at h
  · rename_i hl; rw [if_pos hl]; exact ⟨rfl, hl⟩
  · omega
theorem asked_spec (g : Geo) (l : List Item) (a : Ask) (hs : Small l) (ht : a.Text.size ≤ 2 ^ 40) (hto : a.To.size ≤ 2 ^ 40) : Spec Try.prog 6 [raGeo g, raV l, raAsk a] [some 1, some 5] (dV (askedM g l a).1 ++ Result.d (askedM g l a).2) [raGeo g, raV l, raAsk a] := by
  refine Spec.intro Try.func6 rfl rfl Try.ntmps6 rfl (by simp) ?_
  have hl := hs.1
  have e1 : askedM g l a = if askGood a = false then (l, failsR 16) else if a.Kind = 1 ∨ a.Kind = 2 then newM g l a else if lookUp l a.Path ≠ 0 then (l, failsR (lookUp l a.Path)) else askDrop g l a := rfl
  rw [e1]
  clear e1
  have hlk := lookUp_spec l a.Path (by omega)
  have hdr := dirV_spec l a.Path (by omega)
  have hit := itemAt_spec l a.Path (by omega)
  have hT0 := rD_take_Item l
  have hL0 := rD_len_Item l
  refine DW.seq ?_
  refine DW.reg (by simp (maxSteps := 200000) (disch := first | omega | (simp; done) | fail) [wrapI, leT, leF, ltT, ltF, eqF, nleT, nleF, nltT, nltF, hT0, hL0]; rfl) ?_
  refine DW.seq ?_
  refine DW.regs ?_
  refine RegO.opN 1 (by simp [hT0, hL0]; rfl) ?_
  refine RegO.step rfl (OpStep.callA rfl (by simp [hT0, hL0]; exact ⟨rfl, rfl⟩) (by simp [hT0, hL0]; rfl) (by exact same_spec l hl) (by simp) (by simp [hT0, hL0]; rfl)) ?_
  refine RegO.opN 2 (by simp [hT0, hL0]; rfl) ?_
  refine RegO.nil ?_
  refine DW.norm [(3, _), (4, _), (5, _), (6, _), (7, _), (8, _)] [(3, _), (4, _), (5, _), (6, _), (7, _), (8, _)] [] (by simp [hT0, hL0]; exact ⟨rfl, rfl, rfl, rfl, rfl, rfl⟩) (by simp [hT0, hL0]; exact ⟨rfl, rfl, rfl, rfl, rfl, rfl⟩) (by simp [hT0, hL0]) (by rfl) ?_
  refine DW.seq ?_
  refine DW.seq ?_
  refine DW.regs ?_
  refine RegO.opN 1 (by simp (maxSteps := 200000) (disch := first | omega | (simp; done) | fail) [wrapI, leT, leF, ltT, ltF, eqF, nleT, nleF, nltT, nltF, hT0, hL0]; rfl) ?_
  refine RegO.step rfl (OpStep.callA rfl (by simp (maxSteps := 200000) (disch := first | omega | (simp; done) | fail) [wrapI, leT, leF, ltT, ltF, eqF, nleT, nleF, nltT, nltF, hT0, hL0]; exact ⟨rfl, rfl⟩) (by simp (maxSteps := 200000) (disch := first | omega | (simp; done) | fail) [wrapI, leT, leF, ltT, ltF, eqF, nleT, nleF, nltT, nltF, hT0, hL0]; rfl) (by exact askGood_spec a) (by simp) (by simp (maxSteps := 200000) (disch := first | omega | (simp; done) | fail) [wrapI, leT, leF, ltT, ltF, eqF, nleT, nleF, nltT, nltF, hT0, hL0]; rfl)) ?_
  refine RegO.opN 1 (by simp (maxSteps := 200000) (disch := first | omega | (simp; done) | fail) [wrapI, leT, leF, ltT, ltF, eqF, nleT, nleF, nltT, nltF, hT0, hL0]; rfl) ?_
  refine RegO.nil ?_
  refine DW.norm [(3, _), (4, _), (5, _), (6, _), (7, _), (8, _), (16, _)] [(3, _), (4, _), (5, _), (6, _), (7, _), (8, _)] [] (by simp [hT0, hL0]; exact ⟨rfl, rfl, rfl, rfl, rfl, rfl, rfl⟩) (by simp [hT0, hL0]; exact ⟨rfl, rfl, rfl, rfl, rfl, rfl⟩) (by simp [hT0, hL0]) (by rfl) ?_
  refine DW.condB (by simp (maxSteps := 200000) (disch := first | omega | (simp; done) | fail) [wrapI, leT, leF, ltT, ltF, eqF, nleT, nleF, nltT, nltF, hT0, hL0]; exact rfl) (fun hc0 => ?_) (fun hc0 => ?_)
  · have hy0 : askGood a = false := by simpa using hc0
    rw [if_pos hy0]
    refine DW.seq ?_
    refine DW.drawn mixed (by kernel_rfl) ?_
    refine RegD.addN 1 (by simp [hT0, hL0]; (first | (simp (disch := omega) only [wrapI, ltF, if_false]; done) | (simp (disch := omega) only [wrapI, ltF, if_false]; first | exact ⟨rfl, rfl⟩ | rfl) | skip); (first | done | exact ⟨rfl, rfl⟩ | rfl)) ?_
    refine RegD.cert (Cert.callHA rfl (by simp) rfl (by decide) (by simp [hT0, hL0]; exact ⟨rfl, rfl⟩) (by simp [hT0, hL0]; rfl) (by exact fails_spec 16) rfl (by simp) (by simp) (by simp; rfl) rfl) ?_
    refine RegD.heavyF (by simp) (by simp [hT0, hL0]; rfl) ?_
    refine RegD.heavyF (by simp) (by simp [hT0, hL0]; rfl) ?_
    refine RegD.nil ⟨by kernel_rfl, ?_⟩
    refine DW.ret ?_
    simp [Try.results6, failsR]
  · have hy0 : ¬ askGood a = false := by simpa using hc0
    rw [if_neg hy0]
    refine DW.skip ?_
    refine DW.seq ?_
    refine DW.seq ?_
    have hsp : a.Kind = 1 ∨ (¬ a.Kind = 1 ∧ a.Kind = 2) ∨ (¬ a.Kind = 1 ∧ ¬ a.Kind = 2) := by omega
    rcases hsp with g0 | ⟨g0, g1⟩ | ⟨g0, g1⟩
    · have g0b : (a.Kind == 1) = true := by simpa using g0
      rw [if_pos (show a.Kind = 1 ∨ a.Kind = 2 from .inl g0)]
      have hnws := newM_spec g l a hl
      obtain ⟨nwl, nwr, hnw⟩ : ∃ x y, newM g l a = (x, y) := ⟨_, _, rfl⟩
      rw [hnw] at hnws ⊢
      simp only at hnws ⊢
      obtain ⟨r1, r2, r3, r4, r5⟩ := nwr
      have z1 := rD_take_Item nwl
      have z2 := rD_len_Item nwl
      have z3 := rD_take1_ByteArray r5
      have z4 := rD_len_ByteArray r5
      refine DW.reg (by simp (maxSteps := 200000) (disch := first | omega | (simp; done) | fail) [wrapI, leT, leF, ltT, ltF, eqF, nleT, nleF, nltT, nltF, hT0, hL0, g0b, z1, z2, z3, z4]; rfl) ?_
      refine DW.norm [(3, _), (4, _), (5, _), (6, _), (7, _), (8, _), (26, _)] [(3, _), (4, _), (5, _), (6, _), (7, _), (8, _)] [] (by simp [hT0, hL0, g0b, z1, z2, z3, z4]; exact ⟨rfl, rfl, rfl, rfl, rfl, rfl, rfl⟩) (by simp [hT0, hL0, g0b, z1, z2, z3, z4]; exact ⟨rfl, rfl, rfl, rfl, rfl, rfl⟩) (by simp [hT0, hL0, g0b, z1, z2, z3, z4]) (by rfl) ?_
      refine DW.condT (by simp (maxSteps := 200000) (disch := first | omega | (simp; done) | fail) [wrapI, leT, leF, ltT, ltF, eqF, nleT, nleF, nltT, nltF, hT0, hL0, g0b, z1, z2, z3, z4]) ?_
      refine DW.seq ?_
      refine DW.regs ?_
      refine RegO.opN 3 (by simp [hT0, hL0, g0b, z1, z2, z3, z4]; rfl) ?_
      refine RegO.step rfl (OpStep.callA rfl (by simp [hT0, hL0, g0b, z1, z2, z3, z4]; exact ⟨rfl, rfl⟩) (by simp [hT0, hL0, g0b, z1, z2, z3, z4]; rfl) (by exact hnws) (by simp) (by simp [hT0, hL0, g0b, z1, z2, z3, z4]; rfl)) ?_
      refine RegO.opN 4 (by simp [hT0, hL0, g0b, z1, z2, z3, z4]; rfl) ?_
      refine RegO.nil ?_
      refine DW.ret ?_
      simp [Try.results6, failsR]
    · have g0b : (a.Kind == 1) = false := by simpa using g0
      have g1b : (a.Kind == 2) = true := by simpa using g1
      rw [if_pos (show a.Kind = 1 ∨ a.Kind = 2 from .inr g1)]
      have hnws := newM_spec g l a hl
      obtain ⟨nwl, nwr, hnw⟩ : ∃ x y, newM g l a = (x, y) := ⟨_, _, rfl⟩
      rw [hnw] at hnws ⊢
      simp only at hnws ⊢
      obtain ⟨r1, r2, r3, r4, r5⟩ := nwr
      have z1 := rD_take_Item nwl
      have z2 := rD_len_Item nwl
      have z3 := rD_take1_ByteArray r5
      have z4 := rD_len_ByteArray r5
      refine DW.reg (by simp (maxSteps := 200000) (disch := first | omega | (simp; done) | fail) [wrapI, leT, leF, ltT, ltF, eqF, nleT, nleF, nltT, nltF, hT0, hL0, g0b, g1b, z1, z2, z3, z4]; rfl) ?_
      refine DW.norm [(3, _), (4, _), (5, _), (6, _), (7, _), (8, _), (26, _)] [(3, _), (4, _), (5, _), (6, _), (7, _), (8, _)] [] (by simp [hT0, hL0, g0b, g1b, z1, z2, z3, z4]; exact ⟨rfl, rfl, rfl, rfl, rfl, rfl, rfl⟩) (by simp [hT0, hL0, g0b, g1b, z1, z2, z3, z4]; exact ⟨rfl, rfl, rfl, rfl, rfl, rfl⟩) (by simp [hT0, hL0, g0b, g1b, z1, z2, z3, z4]) (by rfl) ?_
      refine DW.condT (by simp (maxSteps := 200000) (disch := first | omega | (simp; done) | fail) [wrapI, leT, leF, ltT, ltF, eqF, nleT, nleF, nltT, nltF, hT0, hL0, g0b, g1b, z1, z2, z3, z4]) ?_
      refine DW.seq ?_
      refine DW.regs ?_
      refine RegO.opN 3 (by simp [hT0, hL0, g0b, g1b, z1, z2, z3, z4]; rfl) ?_
      refine RegO.step rfl (OpStep.callA rfl (by simp [hT0, hL0, g0b, g1b, z1, z2, z3, z4]; exact ⟨rfl, rfl⟩) (by simp [hT0, hL0, g0b, g1b, z1, z2, z3, z4]; rfl) (by exact hnws) (by simp) (by simp [hT0, hL0, g0b, g1b, z1, z2, z3, z4]; rfl)) ?_
      refine RegO.opN 4 (by simp [hT0, hL0, g0b, g1b, z1, z2, z3, z4]; rfl) ?_
      refine RegO.nil ?_
      refine DW.ret ?_
      simp [Try.results6, failsR]
    · have g0b : (a.Kind == 1) = false := by simpa using g0
      have g1b : (a.Kind == 2) = false := by simpa using g1
      rw [if_neg (show ¬ (a.Kind = 1 ∨ a.Kind = 2) from fun h => h.elim g0 g1)]
      refine DW.reg (by simp (maxSteps := 200000) (disch := first | omega | (simp; done) | fail) [wrapI, leT, leF, ltT, ltF, eqF, nleT, nleF, nltT, nltF, hT0, hL0, g0b, g1b]; rfl) ?_
      refine DW.norm [(3, _), (4, _), (5, _), (6, _), (7, _), (8, _), (26, _)] [(3, _), (4, _), (5, _), (6, _), (7, _), (8, _)] [] (by simp [hT0, hL0, g0b, g1b]; exact ⟨rfl, rfl, rfl, rfl, rfl, rfl, rfl⟩) (by simp [hT0, hL0, g0b, g1b]; exact ⟨rfl, rfl, rfl, rfl, rfl, rfl⟩) (by simp [hT0, hL0, g0b, g1b]) (by rfl) ?_
      refine DW.condF (by simp (maxSteps := 200000) (disch := first | omega | (simp; done) | fail) [wrapI, leT, leF, ltT, ltF, eqF, nleT, nleF, nltT, nltF, hT0, hL0, g0b, g1b]) ?_
      refine DW.skip ?_
      refine DW.seq ?_
      refine DW.regs ?_
      refine RegO.opN 3 (by simp (maxSteps := 200000) (disch := first | omega | (simp; done) | fail) [wrapI, leT, leF, ltT, ltF, eqF, nleT, nleF, nltT, nltF, hT0, hL0, g0b, g1b]; rfl) ?_
      refine RegO.step rfl (OpStep.callA rfl (by simp (maxSteps := 200000) (disch := first | omega | (simp; done) | fail) [wrapI, leT, leF, ltT, ltF, eqF, nleT, nleF, nltT, nltF, hT0, hL0, g0b, g1b]; exact ⟨rfl, rfl⟩) (by simp (maxSteps := 200000) (disch := first | omega | (simp; done) | fail) [wrapI, leT, leF, ltT, ltF, eqF, nleT, nleF, nltT, nltF, hT0, hL0, g0b, g1b]; rfl) (by exact hlk) (by simp) (by simp (maxSteps := 200000) (disch := first | omega | (simp; done) | fail) [wrapI, leT, leF, ltT, ltF, eqF, nleT, nleF, nltT, nltF, hT0, hL0, g0b, g1b]; rfl)) ?_
      refine RegO.opN 1 (by simp (maxSteps := 200000) (disch := first | omega | (simp; done) | fail) [wrapI, leT, leF, ltT, ltF, eqF, nleT, nleF, nltT, nltF, hT0, hL0, g0b, g1b]; rfl) ?_
      refine RegO.nil ?_
      refine DW.norm [(3, _), (4, _), (5, _), (6, _), (7, _), (8, _), (9, _)] [(3, _), (4, _), (5, _), (6, _), (7, _), (8, _)] [] (by simp [hT0, hL0, g0b, g1b]; exact ⟨rfl, rfl, rfl, rfl, rfl, rfl, rfl⟩) (by simp [hT0, hL0, g0b, g1b]; exact ⟨rfl, rfl, rfl, rfl, rfl, rfl⟩) (by simp [hT0, hL0, g0b, g1b]) (by rfl) ?_
      refine DW.seq ?_
      refine DW.seq ?_
      refine DW.reg (by simp (maxSteps := 200000) (disch := first | omega | (simp; done) | fail) [wrapI, leT, leF, ltT, ltF, eqF, nleT, nleF, nltT, nltF, hT0, hL0, g0b, g1b]; rfl) ?_
      refine DW.condB (by simp (maxSteps := 200000) (disch := first | omega | (simp; done) | fail) [wrapI, leT, leF, ltT, ltF, eqF, nleT, nleF, nltT, nltF, hT0, hL0, g0b, g1b]; exact rfl) (fun hc2 => ?_) (fun hc2 => ?_)
      · have hlu : lookUp l a.Path ≠ 0 := by simpa using hc2
        rw [if_pos hlu]
        refine DW.seq ?_
        refine DW.drawn mixed (by kernel_rfl) ?_
        refine RegD.addN 2 (by simp [hT0, hL0, g0b, g1b]; (first | (simp (disch := omega) only [wrapI, ltF, if_false]; done) | (simp (disch := omega) only [wrapI, ltF, if_false]; first | exact ⟨rfl, rfl⟩ | rfl) | skip); (first | done | exact ⟨rfl, rfl⟩ | rfl)) ?_
        refine RegD.cert (Cert.callHA rfl (by simp) rfl (by decide) (by simp [hT0, hL0, g0b, g1b]; exact ⟨rfl, rfl⟩) (by simp [hT0, hL0, g0b, g1b]; rfl) (by exact fails_spec (lookUp l a.Path)) rfl (by simp) (by simp) (by simp; rfl) rfl) ?_
        refine RegD.heavyF (by simp) (by simp [hT0, hL0, g0b, g1b]; rfl) ?_
        refine RegD.heavyF (by simp) (by simp [hT0, hL0, g0b, g1b]; rfl) ?_
        refine RegD.nil ⟨by kernel_rfl, ?_⟩
        refine DW.ret ?_
        simp [Try.results6, failsR]
      · have hlu : ¬ lookUp l a.Path ≠ 0 := by simpa using hc2
        rw [if_neg hlu]
        have hlu0 : lookUp l a.Path = 0 := by simpa using hlu
        have hix : isDirV l a.Path = false → itemAt l a.Path = (itemIx l a.Path : Int) ∧ itemIx l a.Path < l.length := fun h => at_ix (lookUp_zero hlu0 fun e => by rw [e, dir_root] at h; cases h)
        have hAD : askDrop g l a = if a.Kind = 3 then unlinkM l a else if a.Kind = 4 then rmdirM l a else if a.Kind = 5 then renameM l a else askFile g l a := rfl
        rw [hAD]
        clear hAD
        refine DW.skip ?_
        refine DW.seq ?_
        refine DW.regs ?_
        refine RegO.opN 3 (by simp (maxSteps := 200000) (disch := first | omega | (simp; done) | fail) [wrapI, leT, leF, ltT, ltF, eqF, nleT, nleF, nltT, nltF, hT0, hL0, g0b, g1b]; rfl) ?_
        refine RegO.step rfl (OpStep.callA rfl (by simp (maxSteps := 200000) (disch := first | omega | (simp; done) | fail) [wrapI, leT, leF, ltT, ltF, eqF, nleT, nleF, nltT, nltF, hT0, hL0, g0b, g1b]; exact ⟨rfl, rfl⟩) (by simp (maxSteps := 200000) (disch := first | omega | (simp; done) | fail) [wrapI, leT, leF, ltT, ltF, eqF, nleT, nleF, nltT, nltF, hT0, hL0, g0b, g1b]; rfl) (by exact hdr) (by simp) (by simp (maxSteps := 200000) (disch := first | omega | (simp; done) | fail) [wrapI, leT, leF, ltT, ltF, eqF, nleT, nleF, nltT, nltF, hT0, hL0, g0b, g1b]; rfl)) ?_
        refine RegO.opN 1 (by simp (maxSteps := 200000) (disch := first | omega | (simp; done) | fail) [wrapI, leT, leF, ltT, ltF, eqF, nleT, nleF, nltT, nltF, hT0, hL0, g0b, g1b]; rfl) ?_
        refine RegO.nil ?_
        refine DW.norm [(3, _), (4, _), (5, _), (6, _), (7, _), (8, _), (10, _)] [(3, _), (4, _), (5, _), (6, _), (7, _), (8, _)] [] (by simp [hT0, hL0, g0b, g1b]; exact ⟨rfl, rfl, rfl, rfl, rfl, rfl, rfl⟩) (by simp [hT0, hL0, g0b, g1b]; exact ⟨rfl, rfl, rfl, rfl, rfl, rfl⟩) (by simp [hT0, hL0, g0b, g1b]) (by rfl) ?_
        refine DW.seq ?_
        refine DW.regs ?_
        refine RegO.opN 3 (by simp (maxSteps := 200000) (disch := first | omega | (simp; done) | fail) [wrapI, leT, leF, ltT, ltF, eqF, nleT, nleF, nltT, nltF, hT0, hL0, g0b, g1b]; rfl) ?_
        refine RegO.step rfl (OpStep.callA rfl (by simp (maxSteps := 200000) (disch := first | omega | (simp; done) | fail) [wrapI, leT, leF, ltT, ltF, eqF, nleT, nleF, nltT, nltF, hT0, hL0, g0b, g1b]; exact ⟨rfl, rfl⟩) (by simp (maxSteps := 200000) (disch := first | omega | (simp; done) | fail) [wrapI, leT, leF, ltT, ltF, eqF, nleT, nleF, nltT, nltF, hT0, hL0, g0b, g1b]; rfl) (by exact hit) (by simp) (by simp (maxSteps := 200000) (disch := first | omega | (simp; done) | fail) [wrapI, leT, leF, ltT, ltF, eqF, nleT, nleF, nltT, nltF, hT0, hL0, g0b, g1b]; rfl)) ?_
        refine RegO.opN 1 (by simp (maxSteps := 200000) (disch := first | omega | (simp; done) | fail) [wrapI, leT, leF, ltT, ltF, eqF, nleT, nleF, nltT, nltF, hT0, hL0, g0b, g1b]; rfl) ?_
        refine RegO.nil ?_
        refine DW.norm [(3, _), (4, _), (5, _), (6, _), (7, _), (8, _), (10, _), (11, _)] [(3, _), (4, _), (5, _), (6, _), (7, _), (8, _)] [] (by simp [hT0, hL0, g0b, g1b]; exact ⟨rfl, rfl, rfl, rfl, rfl, rfl, rfl, rfl⟩) (by simp [hT0, hL0, g0b, g1b]; exact ⟨rfl, rfl, rfl, rfl, rfl, rfl⟩) (by simp [hT0, hL0, g0b, g1b]) (by rfl) ?_
        refine DW.seq ?_
        refine DW.seq ?_
        refine DW.reg (by simp (maxSteps := 200000) (disch := first | omega | (simp; done) | fail) [wrapI, leT, leF, ltT, ltF, eqF, nleT, nleF, nltT, nltF, hT0, hL0, g0b, g1b]; rfl) ?_
        refine DW.norm [(3, _), (4, _), (5, _), (6, _), (7, _), (8, _), (10, _), (11, _), (51, _)] [(3, _), (4, _), (5, _), (6, _), (7, _), (8, _)] [] (by simp [hT0, hL0, g0b, g1b]; exact ⟨rfl, rfl, rfl, rfl, rfl, rfl, rfl, rfl, rfl⟩) (by simp [hT0, hL0, g0b, g1b]; exact ⟨rfl, rfl, rfl, rfl, rfl, rfl⟩) (by simp [hT0, hL0, g0b, g1b]) (by rfl) ?_
        refine DW.block ?_
        refine DW.seq ?_
        refine DW.reg (by simp (maxSteps := 200000) (disch := first | omega | (simp; done) | fail) [wrapI, leT, leF, ltT, ltF, eqF, nleT, nleF, nltT, nltF, hT0, hL0, g0b, g1b]; rfl) ?_
        refine DW.condB (by simp (maxSteps := 200000) (disch := first | omega | (simp; done) | fail) [wrapI, leT, leF, ltT, ltF, eqF, nleT, nleF, nltT, nltF, hT0, hL0, g0b, g1b]; exact rfl) (fun hc3 => ?_) (fun hc3 => ?_)
        · have k3 : a.Kind = 3 := by simpa using hc3
          rw [if_pos k3]
          unfold unlinkM
          refine DW.seq ?_
          refine DW.seq ?_
          refine DW.reg (by simp (maxSteps := 200000) (disch := first | omega | (simp; done) | fail) [wrapI, leT, leF, ltT, ltF, eqF, nleT, nleF, nltT, nltF, hT0, hL0, g0b, g1b]; rfl) ?_
          refine DW.condB (by simp (maxSteps := 200000) (disch := first | omega | (simp; done) | fail) [wrapI, leT, leF, ltT, ltF, eqF, nleT, nleF, nltT, nltF, hT0, hL0, g0b, g1b]; exact rfl) (fun hc4 => ?_) (fun hc4 => ?_)
          · have hy4 : isDirV l a.Path = true := by simpa using hc4
            rw [if_pos hy4]
            refine DW.seq ?_
            refine DW.drawn mixed (by kernel_rfl) ?_
            refine RegD.addN 1 (by simp [hT0, hL0, g0b, g1b]; (first | (simp (disch := omega) only [wrapI, ltF, if_false]; done) | (simp (disch := omega) only [wrapI, ltF, if_false]; first | exact ⟨rfl, rfl⟩ | rfl) | skip); (first | done | exact ⟨rfl, rfl⟩ | rfl)) ?_
            refine RegD.cert (Cert.callHA rfl (by simp) rfl (by decide) (by simp [hT0, hL0, g0b, g1b]; exact ⟨rfl, rfl⟩) (by simp [hT0, hL0, g0b, g1b]; rfl) (by exact fails_spec 5) rfl (by simp) (by simp) (by simp; rfl) rfl) ?_
            refine RegD.heavyF (by simp) (by simp [hT0, hL0, g0b, g1b]; rfl) ?_
            refine RegD.heavyF (by simp) (by simp [hT0, hL0, g0b, g1b]; rfl) ?_
            refine RegD.nil ⟨by kernel_rfl, ?_⟩
            refine DW.ret ?_
            simp [Try.results6, failsR]
          · have hy4 : ¬ isDirV l a.Path = true := by simpa using hc4
            rw [if_neg hy4]
            refine DW.skip ?_
            refine DW.seq ?_
            refine DW.regs ?_
            refine RegO.opN 3 (by simp [hT0, hL0, g0b, g1b]; rfl) ?_
            refine RegO.step rfl (OpStep.callA rfl (by simp [hT0, hL0, g0b, g1b]; exact ⟨rfl, rfl⟩) (by simp [hT0, hL0, g0b, g1b]; rfl) (by exact dropItem_spec l a.Path hl) (by simp) (by simp [hT0, hL0, g0b, g1b]; rfl)) ?_
            refine RegO.opN 3 (by simp [hT0, hL0, g0b, g1b]; rfl) ?_
            refine RegO.nil ?_
            refine DW.ghost (Ghost.wide 7 [4] 1 (by simp; rfl) (by simp)) ?_
            refine DW.ret ?_
            simp [Try.results6, failsR]
        · have k3 : ¬ a.Kind = 3 := by simpa using hc3
          rw [if_neg k3]
          refine DW.seq ?_
          refine DW.reg (by simp (maxSteps := 200000) (disch := first | omega | (simp; done) | fail) [wrapI, leT, leF, ltT, ltF, eqF, nleT, nleF, nltT, nltF, hT0, hL0, g0b, g1b]; rfl) ?_
          refine DW.condB (by simp (maxSteps := 200000) (disch := first | omega | (simp; done) | fail) [wrapI, leT, leF, ltT, ltF, eqF, nleT, nleF, nltT, nltF, hT0, hL0, g0b, g1b]; exact rfl) (fun hc5 => ?_) (fun hc5 => ?_)
          · have k4 : a.Kind = 4 := by simpa using hc5
            rw [if_pos k4]
            unfold rmdirM
            refine DW.seq ?_
            refine DW.block ?_
            refine DW.seq ?_
            refine DW.reg (by simp (maxSteps := 200000) (disch := first | omega | (simp; done) | fail) [wrapI, leT, leF, ltT, ltF, eqF, nleT, nleF, nltT, nltF, hT0, hL0, g0b, g1b]; rfl) ?_
            refine DW.condB (by simp (maxSteps := 200000) (disch := first | omega | (simp; done) | fail) [wrapI, leT, leF, ltT, ltF, eqF, nleT, nleF, nltT, nltF, hT0, hL0, g0b, g1b]; exact rfl) (fun hc6 => ?_) (fun hc6 => ?_)
            · have hy6 : a.Path = rootB := by simpa [rootB_iff] using hc6
              rw [if_pos hy6]
              refine DW.seq ?_
              refine DW.drawn mixed (by kernel_rfl) ?_
              refine RegD.addN 1 (by simp [hT0, hL0, g0b, g1b]; (first | (simp (disch := omega) only [wrapI, ltF, if_false]; done) | (simp (disch := omega) only [wrapI, ltF, if_false]; first | exact ⟨rfl, rfl⟩ | rfl) | skip); (first | done | exact ⟨rfl, rfl⟩ | rfl)) ?_
              refine RegD.cert (Cert.callHA rfl (by simp) rfl (by decide) (by simp [hT0, hL0, g0b, g1b]; exact ⟨rfl, rfl⟩) (by simp [hT0, hL0, g0b, g1b]; rfl) (by exact fails_spec 9) rfl (by simp) (by simp) (by simp; rfl) rfl) ?_
              refine RegD.heavyF (by simp) (by simp [hT0, hL0, g0b, g1b]; rfl) ?_
              refine RegD.heavyF (by simp) (by simp [hT0, hL0, g0b, g1b]; rfl) ?_
              refine RegD.nil ⟨by kernel_rfl, ?_⟩
              refine DW.ret ?_
              simp [Try.results6, failsR]
            · have hy6 : ¬ a.Path = rootB := by simpa [rootB_iff] using hc6
              rw [if_neg hy6]
              refine DW.seq ?_
              refine DW.reg (by simp (maxSteps := 200000) (disch := first | omega | (simp; done) | fail) [wrapI, leT, leF, ltT, ltF, eqF, nleT, nleF, nltT, nltF, hT0, hL0, g0b, g1b]; rfl) ?_
              refine DW.condB (by simp (maxSteps := 200000) (disch := first | omega | (simp; done) | fail) [wrapI, leT, leF, ltT, ltF, eqF, nleT, nleF, nltT, nltF, hT0, hL0, g0b, g1b]; exact rfl) (fun hc7 => ?_) (fun hc7 => ?_)
              · have hy7 : isDirV l a.Path = false := by simpa using hc7
                rw [if_pos hy7]
                refine DW.seq ?_
                refine DW.drawn mixed (by kernel_rfl) ?_
                refine RegD.addN 1 (by simp [hT0, hL0, g0b, g1b]; (first | (simp (disch := omega) only [wrapI, ltF, if_false]; done) | (simp (disch := omega) only [wrapI, ltF, if_false]; first | exact ⟨rfl, rfl⟩ | rfl) | skip); (first | done | exact ⟨rfl, rfl⟩ | rfl)) ?_
                refine RegD.cert (Cert.callHA rfl (by simp) rfl (by decide) (by simp [hT0, hL0, g0b, g1b]; exact ⟨rfl, rfl⟩) (by simp [hT0, hL0, g0b, g1b]; rfl) (by exact fails_spec 4) rfl (by simp) (by simp) (by simp; rfl) rfl) ?_
                refine RegD.heavyF (by simp) (by simp [hT0, hL0, g0b, g1b]; rfl) ?_
                refine RegD.heavyF (by simp) (by simp [hT0, hL0, g0b, g1b]; rfl) ?_
                refine RegD.nil ⟨by kernel_rfl, ?_⟩
                refine DW.ret ?_
                simp [Try.results6, failsR]
              · have hy7 : ¬ isDirV l a.Path = false := by simpa using hc7
                rw [if_neg hy7]
                refine DW.seq ?_
                refine DW.regs ?_
                refine RegO.opN 3 (by simp (maxSteps := 200000) (disch := first | omega | (simp; done) | fail) [wrapI, leT, leF, ltT, ltF, eqF, nleT, nleF, nltT, nltF, hT0, hL0, g0b, g1b]; rfl) ?_
                refine RegO.step rfl (OpStep.callA rfl (by simp (maxSteps := 200000) (disch := first | omega | (simp; done) | fail) [wrapI, leT, leF, ltT, ltF, eqF, nleT, nleF, nltT, nltF, hT0, hL0, g0b, g1b]; exact ⟨rfl, rfl⟩) (by simp (maxSteps := 200000) (disch := first | omega | (simp; done) | fail) [wrapI, leT, leF, ltT, ltF, eqF, nleT, nleF, nltT, nltF, hT0, hL0, g0b, g1b]; rfl) (by exact kidsOf_spec l a.Path hl) (by simp) (by simp (maxSteps := 200000) (disch := first | omega | (simp; done) | fail) [wrapI, leT, leF, ltT, ltF, eqF, nleT, nleF, nltT, nltF, hT0, hL0, g0b, g1b]; rfl)) ?_
                refine RegO.opN 3 (by simp (maxSteps := 200000) (disch := first | omega | (simp; done) | fail) [wrapI, leT, leF, ltT, ltF, eqF, nleT, nleF, nltT, nltF, hT0, hL0, g0b, g1b]; rfl) ?_
                refine RegO.nil ?_
                refine DW.condB (by simp (maxSteps := 200000) (disch := first | omega | (simp; done) | fail) [wrapI, leT, leF, ltT, ltF, eqF, nleT, nleF, nltT, nltF, hT0, hL0, g0b, g1b]; exact rfl) (fun hc8 => ?_) (fun hc8 => ?_)
                · have hy8 : 0 < (kidsOf l a.Path).length := by
                    have : (0 : Int) < (kidsOf l a.Path).length := by simpa using hc8
                    omega
                  rw [if_pos hy8]
                  refine DW.seq ?_
                  refine DW.drawn mixed (by kernel_rfl) ?_
                  refine RegD.addN 1 (by simp [hT0, hL0, g0b, g1b]; (first | (simp (disch := omega) only [wrapI, ltF, if_false]; done) | (simp (disch := omega) only [wrapI, ltF, if_false]; first | exact ⟨rfl, rfl⟩ | rfl) | skip); (first | done | exact ⟨rfl, rfl⟩ | rfl)) ?_
                  refine RegD.cert (Cert.callHA rfl (by simp) rfl (by decide) (by simp [hT0, hL0, g0b, g1b]; exact ⟨rfl, rfl⟩) (by simp [hT0, hL0, g0b, g1b]; rfl) (by exact fails_spec 10) rfl (by simp) (by simp) (by simp; rfl) rfl) ?_
                  refine RegD.heavyF (by simp) (by simp [hT0, hL0, g0b, g1b]; rfl) ?_
                  refine RegD.heavyF (by simp) (by simp [hT0, hL0, g0b, g1b]; rfl) ?_
                  refine RegD.nil ⟨by kernel_rfl, ?_⟩
                  refine DW.ret ?_
                  simp [Try.results6, failsR]
                · have hy8 : ¬ 0 < (kidsOf l a.Path).length := by
                    have : ¬ (0 : Int) < (kidsOf l a.Path).length := by simpa using hc8
                    omega
                  rw [if_neg hy8]
                  refine DW.skip ?_
                  refine DW.seq ?_
                  refine DW.regs ?_
                  refine RegO.opN 3 (by simp [hT0, hL0, g0b, g1b]; rfl) ?_
                  refine RegO.step rfl (OpStep.callA rfl (by simp [hT0, hL0, g0b, g1b]; exact ⟨rfl, rfl⟩) (by simp [hT0, hL0, g0b, g1b]; rfl) (by exact dropItem_spec l a.Path hl) (by simp) (by simp [hT0, hL0, g0b, g1b]; rfl)) ?_
                  refine RegO.opN 3 (by simp [hT0, hL0, g0b, g1b]; rfl) ?_
                  refine RegO.nil ?_
                  refine DW.ghost (Ghost.wide 7 [4] 1 (by simp; rfl) (by simp)) ?_
                  refine DW.ret ?_
                  simp [Try.results6, failsR]
          · have k4 : ¬ a.Kind = 4 := by simpa using hc5
            rw [if_neg k4]
            refine DW.seq ?_
            refine DW.reg (by simp (maxSteps := 200000) (disch := first | omega | (simp; done) | fail) [wrapI, leT, leF, ltT, ltF, eqF, nleT, nleF, nltT, nltF, hT0, hL0, g0b, g1b]; rfl) ?_
            refine DW.condB (by simp (maxSteps := 200000) (disch := first | omega | (simp; done) | fail) [wrapI, leT, leF, ltT, ltF, eqF, nleT, nleF, nltT, nltF, hT0, hL0, g0b, g1b]; exact rfl) (fun hc9 => ?_) (fun hc9 => ?_)
            · have k5 : a.Kind = 5 := by simpa using hc9
              rw [if_pos k5]
              have hrns := renameM_spec l a hs hto
              obtain ⟨rnl, rnr, hrn⟩ : ∃ x y, renameM l a = (x, y) := ⟨_, _, rfl⟩
              rw [hrn] at hrns ⊢
              simp only at hrns ⊢
              obtain ⟨r1, r2, r3, r4, r5⟩ := rnr
              have z1 := rD_take_Item rnl
              have z2 := rD_len_Item rnl
              have z3 := rD_take1_ByteArray r5
              have z4 := rD_len_ByteArray r5
              refine DW.seq ?_
              refine DW.regs ?_
              refine RegO.opN 2 (by simp [hT0, hL0, g0b, g1b, z1, z2, z3, z4]; rfl) ?_
              refine RegO.step rfl (OpStep.callA rfl (by simp [hT0, hL0, g0b, g1b, z1, z2, z3, z4]; exact ⟨rfl, rfl⟩) (by simp [hT0, hL0, g0b, g1b, z1, z2, z3, z4]; rfl) (by exact hrns) (by simp) (by simp [hT0, hL0, g0b, g1b, z1, z2, z3, z4]; rfl)) ?_
              refine RegO.opN 4 (by simp [hT0, hL0, g0b, g1b, z1, z2, z3, z4]; rfl) ?_
              refine RegO.nil ?_
              refine DW.ret ?_
              simp [Try.results6, failsR]
            · have k5 : ¬ a.Kind = 5 := by simpa using hc9
              rw [if_neg k5]
              unfold askFile
              refine DW.seq ?_
              refine DW.seq ?_
              refine DW.reg (by simp (maxSteps := 200000) (disch := first | omega | (simp; done) | fail) [wrapI, leT, leF, ltT, ltF, eqF, nleT, nleF, nltT, nltF, hT0, hL0, g0b, g1b]; rfl) ?_
              refine DW.condB (by simp (maxSteps := 200000) (disch := first | omega | (simp; done) | fail) [wrapI, leT, leF, ltT, ltF, eqF, nleT, nleF, nltT, nltF, hT0, hL0, g0b, g1b]; exact rfl) (fun hc10 => ?_) (fun hc10 => ?_)
              · have k6 : a.Kind = 6 := by simpa using hc10
                have k6b : (a.Kind == 6) = true := by simpa using k6
                rw [if_pos (show a.Kind = 6 ∨ a.Kind = 7 ∨ a.Kind = 8 from .inl k6)]
                refine DW.skip ?_
                refine DW.condT (by simp (maxSteps := 200000) (disch := first | omega | (simp; done) | fail) [wrapI, leT, leF, ltT, ltF, eqF, nleT, nleF, nltT, nltF, hT0, hL0, g0b, g1b, k6b]) ?_
                refine DW.seq ?_
                refine DW.seq ?_
                refine DW.reg (by simp (maxSteps := 200000) (disch := first | omega | (simp; done) | fail) [wrapI, leT, leF, ltT, ltF, eqF, nleT, nleF, nltT, nltF, hT0, hL0, g0b, g1b, k6b]; rfl) ?_
                refine DW.condB (by simp (maxSteps := 200000) (disch := first | omega | (simp; done) | fail) [wrapI, leT, leF, ltT, ltF, eqF, nleT, nleF, nltT, nltF, hT0, hL0, g0b, g1b, k6b]; exact rfl) (fun hc12 => ?_) (fun hc12 => ?_)
                · have hy12 : isDirV l a.Path = true := by simpa using hc12
                  rw [if_pos hy12]
                  refine DW.seq ?_
                  refine DW.drawn mixed (by kernel_rfl) ?_
                  refine RegD.addN 1 (by simp [hT0, hL0, g0b, g1b, k6b]; (first | (simp (disch := omega) only [wrapI, ltF, if_false]; done) | (simp (disch := omega) only [wrapI, ltF, if_false]; first | exact ⟨rfl, rfl⟩ | rfl) | skip); (first | done | exact ⟨rfl, rfl⟩ | rfl)) ?_
                  refine RegD.cert (Cert.callHA rfl (by simp) rfl (by decide) (by simp [hT0, hL0, g0b, g1b, k6b]; exact ⟨rfl, rfl⟩) (by simp [hT0, hL0, g0b, g1b, k6b]; rfl) (by exact fails_spec 5) rfl (by simp) (by simp) (by simp; rfl) rfl) ?_
                  refine RegD.heavyF (by simp) (by simp [hT0, hL0, g0b, g1b, k6b]; rfl) ?_
                  refine RegD.heavyF (by simp) (by simp [hT0, hL0, g0b, g1b, k6b]; rfl) ?_
                  refine RegD.nil ⟨by kernel_rfl, ?_⟩
                  refine DW.ret ?_
                  simp [Try.results6, failsR]
                · have hy12 : ¬ isDirV l a.Path = true := by simpa using hc12
                  rw [if_neg hy12]
                  obtain ⟨hia, hil⟩ := hix (by simpa using hy12)
                  have hfls := fileM_spec g l (itemIx l a.Path) a hs hil ht
                  obtain ⟨fll, flr, hfl⟩ : ∃ x y, fileM g l (itemIx l a.Path) a = (x, y) := ⟨_, _, rfl⟩
                  rw [hfl] at hfls ⊢
                  simp only at hfls ⊢
                  obtain ⟨r1, r2, r3, r4, r5⟩ := flr
                  have z1 := rD_take_Item fll
                  have z2 := rD_len_Item fll
                  have z3 := rD_take1_ByteArray r5
                  have z4 := rD_len_ByteArray r5
                  refine DW.skip ?_
                  refine DW.seq ?_
                  refine DW.regs ?_
                  refine RegO.opN 4 (by simp [hT0, hL0, g0b, g1b, k6b, hia, z1, z2, z3, z4]; rfl) ?_
                  refine RegO.step rfl (OpStep.callA rfl (by simp [hT0, hL0, g0b, g1b, k6b, hia, z1, z2, z3, z4]; exact ⟨rfl, rfl⟩) (by simp [hT0, hL0, g0b, g1b, k6b, hia, z1, z2, z3, z4]; rfl) (by exact hfls) (by simp) (by simp [hT0, hL0, g0b, g1b, k6b, hia, z1, z2, z3, z4]; rfl)) ?_
                  refine RegO.opN 4 (by simp [hT0, hL0, g0b, g1b, k6b, hia, z1, z2, z3, z4]; rfl) ?_
                  refine RegO.nil ?_
                  refine DW.ret ?_
                  simp [Try.results6, failsR]
              · have k6n : ¬ a.Kind = 6 := by simpa using hc10
                refine DW.seq ?_
                refine DW.reg (by simp (maxSteps := 200000) (disch := first | omega | (simp; done) | fail) [wrapI, leT, leF, ltT, ltF, eqF, nleT, nleF, nltT, nltF, hT0, hL0, g0b, g1b]; rfl) ?_
                refine DW.condB (by simp (maxSteps := 200000) (disch := first | omega | (simp; done) | fail) [wrapI, leT, leF, ltT, ltF, eqF, nleT, nleF, nltT, nltF, hT0, hL0, g0b, g1b]; exact rfl) (fun hc13 => ?_) (fun hc13 => ?_)
                · have k7 : a.Kind = 7 := by simpa using hc13
                  have k7b : (a.Kind == 7) = true := by simpa using k7
                  rw [if_pos (show a.Kind = 6 ∨ a.Kind = 7 ∨ a.Kind = 8 from .inr (.inl k7))]
                  refine DW.skip ?_
                  refine DW.condT (by simp (maxSteps := 200000) (disch := first | omega | (simp; done) | fail) [wrapI, leT, leF, ltT, ltF, eqF, nleT, nleF, nltT, nltF, hT0, hL0, g0b, g1b, k7b]) ?_
                  refine DW.seq ?_
                  refine DW.seq ?_
                  refine DW.reg (by simp (maxSteps := 200000) (disch := first | omega | (simp; done) | fail) [wrapI, leT, leF, ltT, ltF, eqF, nleT, nleF, nltT, nltF, hT0, hL0, g0b, g1b, k7b]; rfl) ?_
                  refine DW.condB (by simp (maxSteps := 200000) (disch := first | omega | (simp; done) | fail) [wrapI, leT, leF, ltT, ltF, eqF, nleT, nleF, nltT, nltF, hT0, hL0, g0b, g1b, k7b]; exact rfl) (fun hc15 => ?_) (fun hc15 => ?_)
                  · have hy15 : isDirV l a.Path = true := by simpa using hc15
                    rw [if_pos hy15]
                    refine DW.seq ?_
                    refine DW.drawn mixed (by kernel_rfl) ?_
                    refine RegD.addN 1 (by simp [hT0, hL0, g0b, g1b, k7b]; (first | (simp (disch := omega) only [wrapI, ltF, if_false]; done) | (simp (disch := omega) only [wrapI, ltF, if_false]; first | exact ⟨rfl, rfl⟩ | rfl) | skip); (first | done | exact ⟨rfl, rfl⟩ | rfl)) ?_
                    refine RegD.cert (Cert.callHA rfl (by simp) rfl (by decide) (by simp [hT0, hL0, g0b, g1b, k7b]; exact ⟨rfl, rfl⟩) (by simp [hT0, hL0, g0b, g1b, k7b]; rfl) (by exact fails_spec 5) rfl (by simp) (by simp) (by simp; rfl) rfl) ?_
                    refine RegD.heavyF (by simp) (by simp [hT0, hL0, g0b, g1b, k7b]; rfl) ?_
                    refine RegD.heavyF (by simp) (by simp [hT0, hL0, g0b, g1b, k7b]; rfl) ?_
                    refine RegD.nil ⟨by kernel_rfl, ?_⟩
                    refine DW.ret ?_
                    simp [Try.results6, failsR]
                  · have hy15 : ¬ isDirV l a.Path = true := by simpa using hc15
                    rw [if_neg hy15]
                    obtain ⟨hia, hil⟩ := hix (by simpa using hy15)
                    have hfls := fileM_spec g l (itemIx l a.Path) a hs hil ht
                    obtain ⟨fll, flr, hfl⟩ : ∃ x y, fileM g l (itemIx l a.Path) a = (x, y) := ⟨_, _, rfl⟩
                    rw [hfl] at hfls ⊢
                    simp only at hfls ⊢
                    obtain ⟨r1, r2, r3, r4, r5⟩ := flr
                    have z1 := rD_take_Item fll
                    have z2 := rD_len_Item fll
                    have z3 := rD_take1_ByteArray r5
                    have z4 := rD_len_ByteArray r5
                    refine DW.skip ?_
                    refine DW.seq ?_
                    refine DW.regs ?_
                    refine RegO.opN 4 (by simp [hT0, hL0, g0b, g1b, k7b, hia, z1, z2, z3, z4]; rfl) ?_
                    refine RegO.step rfl (OpStep.callA rfl (by simp [hT0, hL0, g0b, g1b, k7b, hia, z1, z2, z3, z4]; exact ⟨rfl, rfl⟩) (by simp [hT0, hL0, g0b, g1b, k7b, hia, z1, z2, z3, z4]; rfl) (by exact hfls) (by simp) (by simp [hT0, hL0, g0b, g1b, k7b, hia, z1, z2, z3, z4]; rfl)) ?_
                    refine RegO.opN 4 (by simp [hT0, hL0, g0b, g1b, k7b, hia, z1, z2, z3, z4]; rfl) ?_
                    refine RegO.nil ?_
                    refine DW.ret ?_
                    simp [Try.results6, failsR]
                · have k7n : ¬ a.Kind = 7 := by simpa using hc13
                  refine DW.reg (by simp (maxSteps := 200000) (disch := first | omega | (simp; done) | fail) [wrapI, leT, leF, ltT, ltF, eqF, nleT, nleF, nltT, nltF, hT0, hL0, g0b, g1b]; rfl) ?_
                  refine DW.condB (by simp (maxSteps := 200000) (disch := first | omega | (simp; done) | fail) [wrapI, leT, leF, ltT, ltF, eqF, nleT, nleF, nltT, nltF, hT0, hL0, g0b, g1b]; exact rfl) (fun hc16 => ?_) (fun hc16 => ?_)
                  · have k8 : a.Kind = 8 := by simpa using hc16
                    rw [if_pos (show a.Kind = 6 ∨ a.Kind = 7 ∨ a.Kind = 8 from .inr (.inr k8))]
                    refine DW.seq ?_
                    refine DW.seq ?_
                    refine DW.reg (by simp (maxSteps := 200000) (disch := first | omega | (simp; done) | fail) [wrapI, leT, leF, ltT, ltF, eqF, nleT, nleF, nltT, nltF, hT0, hL0, g0b, g1b]; rfl) ?_
                    refine DW.condB (by simp (maxSteps := 200000) (disch := first | omega | (simp; done) | fail) [wrapI, leT, leF, ltT, ltF, eqF, nleT, nleF, nltT, nltF, hT0, hL0, g0b, g1b]; exact rfl) (fun hc17 => ?_) (fun hc17 => ?_)
                    · have hy17 : isDirV l a.Path = true := by simpa using hc17
                      rw [if_pos hy17]
                      refine DW.seq ?_
                      refine DW.drawn mixed (by kernel_rfl) ?_
                      refine RegD.addN 1 (by simp [hT0, hL0, g0b, g1b]; (first | (simp (disch := omega) only [wrapI, ltF, if_false]; done) | (simp (disch := omega) only [wrapI, ltF, if_false]; first | exact ⟨rfl, rfl⟩ | rfl) | skip); (first | done | exact ⟨rfl, rfl⟩ | rfl)) ?_
                      refine RegD.cert (Cert.callHA rfl (by simp) rfl (by decide) (by simp [hT0, hL0, g0b, g1b]; exact ⟨rfl, rfl⟩) (by simp [hT0, hL0, g0b, g1b]; rfl) (by exact fails_spec 5) rfl (by simp) (by simp) (by simp; rfl) rfl) ?_
                      refine RegD.heavyF (by simp) (by simp [hT0, hL0, g0b, g1b]; rfl) ?_
                      refine RegD.heavyF (by simp) (by simp [hT0, hL0, g0b, g1b]; rfl) ?_
                      refine RegD.nil ⟨by kernel_rfl, ?_⟩
                      refine DW.ret ?_
                      simp [Try.results6, failsR]
                    · have hy17 : ¬ isDirV l a.Path = true := by simpa using hc17
                      rw [if_neg hy17]
                      obtain ⟨hia, hil⟩ := hix (by simpa using hy17)
                      have hfls := fileM_spec g l (itemIx l a.Path) a hs hil ht
                      obtain ⟨fll, flr, hfl⟩ : ∃ x y, fileM g l (itemIx l a.Path) a = (x, y) := ⟨_, _, rfl⟩
                      rw [hfl] at hfls ⊢
                      simp only at hfls ⊢
                      obtain ⟨r1, r2, r3, r4, r5⟩ := flr
                      have z1 := rD_take_Item fll
                      have z2 := rD_len_Item fll
                      have z3 := rD_take1_ByteArray r5
                      have z4 := rD_len_ByteArray r5
                      refine DW.skip ?_
                      refine DW.seq ?_
                      refine DW.regs ?_
                      refine RegO.opN 4 (by simp [hT0, hL0, g0b, g1b, hia, z1, z2, z3, z4]; rfl) ?_
                      refine RegO.step rfl (OpStep.callA rfl (by simp [hT0, hL0, g0b, g1b, hia, z1, z2, z3, z4]; exact ⟨rfl, rfl⟩) (by simp [hT0, hL0, g0b, g1b, hia, z1, z2, z3, z4]; rfl) (by exact hfls) (by simp) (by simp [hT0, hL0, g0b, g1b, hia, z1, z2, z3, z4]; rfl)) ?_
                      refine RegO.opN 4 (by simp [hT0, hL0, g0b, g1b, hia, z1, z2, z3, z4]; rfl) ?_
                      refine RegO.nil ?_
                      refine DW.ret ?_
                      simp [Try.results6, failsR]
                  · have k8n : ¬ a.Kind = 8 := by simpa using hc16
                    rw [if_neg (show ¬ (a.Kind = 6 ∨ a.Kind = 7 ∨ a.Kind = 8) from fun h => h.elim k6n fun h => h.elim k7n k8n)]
                    unfold askRest
                    refine DW.seq ?_
                    refine DW.reg (by simp (maxSteps := 200000) (disch := first | omega | (simp; done) | fail) [wrapI, leT, leF, ltT, ltF, eqF, nleT, nleF, nltT, nltF, hT0, hL0, g0b, g1b]; rfl) ?_
                    refine DW.condB (by simp (maxSteps := 200000) (disch := first | omega | (simp; done) | fail) [wrapI, leT, leF, ltT, ltF, eqF, nleT, nleF, nltT, nltF, hT0, hL0, g0b, g1b]; exact rfl) (fun hc18 => ?_) (fun hc18 => ?_)
                    · have k9 : a.Kind = 9 := by simpa using hc18
                      rw [if_pos k9]
                      refine DW.seq ?_
                      refine DW.seq ?_
                      refine DW.reg (by simp (maxSteps := 200000) (disch := first | omega | (simp; done) | fail) [wrapI, leT, leF, ltT, ltF, eqF, nleT, nleF, nltT, nltF, hT0, hL0, g0b, g1b]; rfl) ?_
                      refine DW.condB (by simp (maxSteps := 200000) (disch := first | omega | (simp; done) | fail) [wrapI, leT, leF, ltT, ltF, eqF, nleT, nleF, nltT, nltF, hT0, hL0, g0b, g1b]; exact rfl) (fun hc19 => ?_) (fun hc19 => ?_)
                      · have hy19 : isDirV l a.Path = true := by simpa using hc19
                        rw [if_pos hy19]
                        refine DW.seq ?_
                        refine DW.reg (by simp [hT0, hL0, g0b, g1b]; rfl) ?_
                        refine DW.ghost (Ghost.wide 7 [4] 1 (by simp; rfl) (by simp)) ?_
                        refine DW.ret ?_
                        simp [Try.results6, failsR]
                      · have hy19 : ¬ isDirV l a.Path = true := by simpa using hc19
                        rw [if_neg hy19]
                        obtain ⟨hia, hil⟩ := hix (by simpa using hy19)
                        have hd := rR_drop_Item l (itemIx l a.Path) hil
                        have hil1 : (itemIx l a.Path : Int) < l.length := by omega
                        have htx : textAt l (itemIx l a.Path) = l[itemIx l a.Path].Text := by unfold textAt; rw [List.getElem?_eq_getElem hil]
                        rw [htx]
                        generalize l[itemIx l a.Path] = c at hd ⊢
                        refine DW.skip ?_
                        refine DW.seq ?_
                        refine DW.drawnK (fun j => if j = 9 then [1, 2, 3, 4, 5, 6, 7, 8] else []) (fun _ => [116, 117, 118, 119, 120, 121, 122, 123]) (fun _ => (fun v => pzV 6 [0] (pzV 8 [0] v))) mixed (by kernel_rfl) ?_
                        refine RegK.cert (cert_of_addF (by simp [hT0, hL0, g0b, g1b, hia, hd, hil1]; rfl)) (by intro j; by_cases h : j = 9 <;> simp [h]) ?_
                        refine RegK.add (by simp [hT0, hL0, g0b, g1b, hia, hd, hil1]; rfl) (by simp) ?_
                        refine RegK.add (by simp [hT0, hL0, g0b, g1b, hia, hd, hil1]; rfl) (by simp) ?_
                        refine RegK.add (by simp [hT0, hL0, g0b, g1b, hia, hd, hil1]; rfl) (by simp) ?_
                        refine RegK.add (by simp [hT0, hL0, g0b, g1b, hia, hd, hil1]; rfl) (by simp) ?_
                        refine RegK.add (by simp [hT0, hL0, g0b, g1b, hia, hd, hil1]; rfl) (by simp) ?_
                        refine RegK.add (by simp [hT0, hL0, g0b, g1b, hia, hd, hil1]; rfl) (by simp) ?_
                        refine RegK.add (by simp [hT0, hL0, g0b, g1b, hia, hd, hil1]; rfl) (by simp) ?_
                        refine RegK.add (by simp [hT0, hL0, g0b, g1b, hia, hd, hil1]; rfl) (by simp) ?_
                        refine RegK.swapS [6, 115] rfl (fun e' he => by
                          have h6 := he 6 (by simp)
                          have h115 := he 115 (by simp)
                          simp [hT0, hL0, g0b, g1b, hia, hd, hil1] at h6 h115
                          simp [h6, h115, hT0, hL0, g0b, g1b, hia, hd, hil1]; exact ⟨rfl, rfl⟩) (by simp) (by simp) (by simp) (by
                          intro k hk d L R hp
                          simp at hk
                          rcases hk with rfl | rfl | rfl | rfl | rfl | rfl | rfl | rfl
                          all_goals (simp at hp; obtain ⟨rfl, rfl, rfl⟩ := hp; simp)
                        ) ?_
                        refine RegK.heavyF (by simp) (by simp [hT0, hL0, g0b, g1b, hia, hd, hil1]; rfl) (by simp) ?_
                        refine ⟨by kernel_rfl, ?_⟩
                        refine DW.ghost (Ghost.wide 7 [4] 1 (by simp; rfl) (by simp)) ?_
                        refine DW.ret ?_
                        simp [Try.results6, failsR]
                    · have k9 : ¬ a.Kind = 9 := by simpa using hc18
                      rw [if_neg k9]
                      refine DW.seq ?_
                      refine DW.reg (by simp (maxSteps := 200000) (disch := first | omega | (simp; done) | fail) [wrapI, leT, leF, ltT, ltF, eqF, nleT, nleF, nltT, nltF, hT0, hL0, g0b, g1b]; rfl) ?_
                      refine DW.condB (by simp (maxSteps := 200000) (disch := first | omega | (simp; done) | fail) [wrapI, leT, leF, ltT, ltF, eqF, nleT, nleF, nltT, nltF, hT0, hL0, g0b, g1b]; exact rfl) (fun hc20 => ?_) (fun hc20 => ?_)
                      · have k10 : a.Kind = 10 := by simpa using hc20
                        rw [if_pos k10]
                        refine DW.seq ?_
                        refine DW.seq ?_
                        refine DW.reg (by simp (maxSteps := 200000) (disch := first | omega | (simp; done) | fail) [wrapI, leT, leF, ltT, ltF, eqF, nleT, nleF, nltT, nltF, hT0, hL0, g0b, g1b]; rfl) ?_
                        refine DW.condB (by simp (maxSteps := 200000) (disch := first | omega | (simp; done) | fail) [wrapI, leT, leF, ltT, ltF, eqF, nleT, nleF, nltT, nltF, hT0, hL0, g0b, g1b]; exact rfl) (fun hc21 => ?_) (fun hc21 => ?_)
                        · have hy21 : isDirV l a.Path = false := by simpa using hc21
                          rw [if_pos hy21]
                          refine DW.seq ?_
                          refine DW.drawn mixed (by kernel_rfl) ?_
                          refine RegD.addN 1 (by simp [hT0, hL0, g0b, g1b]; (first | (simp (disch := omega) only [wrapI, ltF, if_false]; done) | (simp (disch := omega) only [wrapI, ltF, if_false]; first | exact ⟨rfl, rfl⟩ | rfl) | skip); (first | done | exact ⟨rfl, rfl⟩ | rfl)) ?_
                          refine RegD.cert (Cert.callHA rfl (by simp) rfl (by decide) (by simp [hT0, hL0, g0b, g1b]; exact ⟨rfl, rfl⟩) (by simp [hT0, hL0, g0b, g1b]; rfl) (by exact fails_spec 4) rfl (by simp) (by simp) (by simp; rfl) rfl) ?_
                          refine RegD.heavyF (by simp) (by simp [hT0, hL0, g0b, g1b]; rfl) ?_
                          refine RegD.heavyF (by simp) (by simp [hT0, hL0, g0b, g1b]; rfl) ?_
                          refine RegD.nil ⟨by kernel_rfl, ?_⟩
                          refine DW.ret ?_
                          simp [Try.results6, failsR]
                        · have hy21 : ¬ isDirV l a.Path = false := by simpa using hc21
                          rw [if_neg hy21]
                          refine DW.skip ?_
                          refine DW.seq ?_
                          refine DW.drawnK (fun j => if j = 6 then [5] else []) (fun _ => [135]) (fun _ => (fun v => pzV 6 [0] (pzV 8 [0] v))) mixed (by kernel_rfl) ?_
                          refine RegK.cert (cert_of_addF (by simp [hT0, hL0, g0b, g1b]; rfl)) (by intro j; by_cases h : j = 6 <;> simp [h]) ?_
                          refine RegK.cert (cert_of_addF (by simp [hT0, hL0, g0b, g1b]; rfl)) (by intro j; by_cases h : j = 6 <;> simp [h]) ?_
                          refine RegK.cert (cert_of_addF (by simp [hT0, hL0, g0b, g1b]; rfl)) (by intro j; by_cases h : j = 6 <;> simp [h]) ?_
                          refine RegK.cert (cert_of_addF (by simp [hT0, hL0, g0b, g1b]; rfl)) (by intro j; by_cases h : j = 6 <;> simp [h]) ?_
                          refine RegK.cert (Cert.callHA rfl (by simp) rfl (by decide) (by simp [hT0, hL0, g0b, g1b]; exact ⟨rfl, rfl⟩) (by simp [hT0, hL0, g0b, g1b]; rfl) (by exact kidsOf_spec l a.Path hl) rfl (by simp) (by simp) (by simp; rfl) rfl) (by intro j; by_cases h : j = 6 <;> simp [h]) ?_
                          refine RegK.add (by simp [hT0, hL0, g0b, g1b]; rfl) (by simp) ?_
                          refine RegK.swapS [6, 130] rfl (fun e' he => by
                            have h6 := he 6 (by simp)
                            have h130 := he 130 (by simp)
                            simp [hT0, hL0, g0b, g1b] at h6 h130
                            simp [h6, h130, hT0, hL0, g0b, g1b]; exact ⟨rfl, rfl⟩) (by simp) (by simp) (by simp) (by
                            intro k hk d L R hp
                            simp at hk
                            subst hk
                            all_goals (simp at hp; obtain ⟨rfl, rfl, rfl⟩ := hp; simp)
                          ) ?_
                          refine RegK.heavyF (by simp) (by simp [hT0, hL0, g0b, g1b]; rfl) (by simp) ?_
                          refine ⟨by kernel_rfl, ?_⟩
                          refine DW.ret ?_
                          simp [Try.results6, failsR]
                      · have k10 : ¬ a.Kind = 10 := by simpa using hc20
                        rw [if_neg k10]
                        refine DW.skip ?_
                        refine DW.seq ?_
                        refine DW.reg (by simp [hT0, hL0, g0b, g1b]; rfl) ?_
                        refine DW.ghost (Ghost.wide 7 [4] 1 (by simp; rfl) (by simp)) ?_
                        refine DW.ret ?_
                        simp [Try.results6, failsR]
end Go.Proofs.Ytciieaidbiejmaa.DM
