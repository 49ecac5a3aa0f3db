import Derived.Test.YtciieaidbiejmaaDoorLT8
namespace Go.Proofs.YtciieaidbiejmaaDoor.DM
set_option linter.unusedVariables false
set_option linter.unusedSimpArgs false
set_option maxRecDepth 4000
set_option maxHeartbeats 8000000
theorem s7 : (⟨#[116, 101, 110, 97, 110, 116, 32]⟩ : ByteArray).size = 7 := rfl
theorem s6 : (⟨#[115, 101, 97, 108, 115, 32]⟩ : ByteArray).size = 6 := rfl
theorem specWorldLines_spec (w : World) (hw : Row.sz w ≤ 2 ^ 36) : Spec Tryd.prog 24 [raWorld w] [none] [dr (worldL w)] [raWorld w] := by
  refine Spec.intro Tryd.func24 rfl rfl Tryd.ntmps24 rfl (by simp) ?_
  have hz := World_sz w
  have hs := System_sz w.System
  have hll := szL_len w.Views
  have hsl := szL_len w.System.Seals
  refine DW.seq ?_
  refine DW.reg (by simp (maxSteps := 200000) (disch := first | omega | (simp; done) | fail) [wrapI, leT, leF, ltT, ltF, eqF, nleT, nleF, nltT, nltF]; rfl) ?_
  refine DW.seq ?_
  refine DW.reg (by simp (maxSteps := 200000) (disch := first | omega | (simp; done) | fail) [wrapI, leT, leF, ltT, ltF, eqF, nleT, nleF, nltT, nltF]; rfl) ?_
  refine DW.ghost (Ghost.nlRow 3 26 1 (by simp) (by simp)) ?_
  refine DW.seq ?_
  refine DW.seq ?_
  refine DW.reg (by simp (maxSteps := 200000) (disch := first | omega | (simp; done) | fail) [wrapI, leT, leF, ltT, ltF, eqF, nleT, nleF, nltT, nltF]; rfl) ?_
  refine DW.block ?_
  refine DW.loopS (α := Nat) (fun i => i ≤ w.Views.length) (fun i => w.Views.length - i) (fun i => [(4, vi i), (3, .v (.one (.sl 26 [] 0 (wlTo w.Views i).length)))]) (fun i => [(26, .ow () 1 (wlTo w.Views i).length (rD (wlTo w.Views i)))]) [(1, _)] [(1, _)] [] 0 (Nat.zero_le _) (by simp [wlTo]; exact rfl) (by simp [wlTo]; exact rfl) (by simp) (by rfl) ?_
  intro i hi
  refine DW.seq ?_
  refine DW.seq ?_
  refine DW.reg (by simp (maxSteps := 200000) (disch := first | omega | (simp; done) | fail) [wrapI, leT, leF, ltT, ltF, eqF, nleT, nleF, nltT, nltF]; rfl) ?_
  refine DW.condB (by simp (maxSteps := 200000) (disch := first | omega | (simp; done) | fail) [wrapI, leT, leF, ltT, ltF, eqF, nleT, nleF, nltT, nltF]; exact rfl) (fun hc0 => ?_) (fun hc0 => ?_)
  · have hlt : i < w.Views.length := by simpa using hc0
    have hlt1 : (i : Int) < w.Views.length := by omega
    have hd := rR_drop_View w.Views i hlt
    simp only [Nat.mul_one] at hd
    have hws := wlTo_succ w.Views i hlt
    have hsa := szL_at w.Views i hlt
    have hwz := wlTo_sz w.Views (by omega) i (by omega)
    generalize w.Views[i] = c at hd hws hsa
    have hcz := View_sz c
    have hcl := szL_len c.Items
    have hdz := decB_size (i : Int) (by omega) (by omega)
    have hvl := viewL_len c.Items
    generalize hN : (wlTo w.Views i).length = n at *
    have hb1 : (n + 1) * 16 ≤ 140737488355328 := by omega
    have hb2 : n + 1 ≤ 140737488355328 := by omega
    have hb3 : n ≤ 140737488355327 := by omega
    have hb4 : (n + 1 + c.Items.length) * 16 ≤ 140737488355328 := by omega
    have hb5 : n + 1 + c.Items.length ≤ 140737488355328 := by omega
    have htk : List.take n (rD (wlTo w.Views i)) = rD (wlTo w.Views i) := List.take_of_length_le (by rw [rD_len_ByteArray, hN]; omega)
    have hrl : (rD (wlTo w.Views i)).length = n := by rw [rD_len_ByteArray, hN]; omega
    have htk1 : ∀ x : D, List.take (n + 1) (rD (wlTo w.Views i) ++ [x]) = rD (wlTo w.Views i) ++ [x] := fun x => List.take_of_length_le (by simp [hrl])
    have htv : List.take c.Items.length (rD (viewL c.Items)) = rD (viewL c.Items) := List.take_of_length_le (by rw [rD_len_ByteArray, hvl]; omega)
    have hvr : (rD (viewL c.Items)).length = c.Items.length := by rw [rD_len_ByteArray, hvl]; omega
    have hnx : (wlTo w.Views (i + 1)).length = n + 1 + c.Items.length := by rw [hws]; simp [hN, hvl]; omega
    refine DW.skip ?_
    refine DW.seq ?_
    refine DW.block ?_
    refine DW.seq ?_
    refine DW.regs ?_
    refine RegO.opN 2 (by simp [hlt1, hd, hb1, hb2, hb3, hb4, hb5, hvl, htk, hrl, htk1, htv, hvr, s7]; rfl) ?_
    refine RegO.step rfl (OpStep.callA rfl (by simp [hlt1, hd, hb1, hb2, hb3, hb4, hb5, hvl, htk, hrl, htk1, htv, hvr, s7]; exact ⟨rfl, rfl⟩) (by simp [hlt1, hd, hb1, hb2, hb3, hb4, hb5, hvl, htk, hrl, htk1, htv, hvr, s7]; rfl) (by exact specDecimal_spec (i : Int) (by omega) (by omega)) (by simp) (by simp [hlt1, hd, hb1, hb2, hb3, hb4, hb5, hvl, htk, hrl, htk1, htv, hvr, s7]; rfl)) ?_
    refine RegO.opN 1 (by simp (maxSteps := 200000) (disch := first | omega | (simp; done) | fail) [wrapI, leT, leF, ltT, ltF, eqF, nleT, nleF, nltT, nltF, hlt1, hd, hb1, hb2, hb3, hb4, hb5, hvl, htk, hrl, htk1, htv, hvr, s7]; rfl) ?_
    refine RegO.opN 3 (by simp [hlt1, hd, hb1, hb2, hb3, hb4, hb5, hvl, htk, hrl, htk1, htv, hvr, s7]; rfl) ?_
    refine RegO.nil ?_
    refine DW.norm [(1, _), (3, _), (4, _)] [(1, _), (18, _)] [] (by simp [hlt1, hd, hb1, hb2, hb3, hb4, hb5, hvl, htk, hrl, htk1, htv, hvr, s7]; exact ⟨rfl, rfl, rfl⟩) (by simp [hlt1, hd, hb1, hb2, hb3, hb4, hb5, hvl, htk, hrl, htk1, htv, hvr, s7]; exact ⟨rfl, rfl⟩) (by simp [hlt1, hd, hb1, hb2, hb3, hb4, hb5, hvl, htk, hrl, htk1, htv, hvr, s7]) (by rfl) ?_
    refine DW.regs ?_
    refine RegO.opN 6 (by simp [hlt1, hd, hb1, hb2, hb3, hb4, hb5, hvl, htk, hrl, htk1, htv, hvr, s7]; rfl) ?_
    refine RegO.step rfl (OpStep.callA rfl (by simp [hlt1, hd, hb1, hb2, hb3, hb4, hb5, hvl, htk, hrl, htk1, htv, hvr, s7]; exact ⟨rfl, rfl⟩) (by simp [hlt1, hd, hb1, hb2, hb3, hb4, hb5, hvl, htk, hrl, htk1, htv, hvr, s7]; rfl) (by exact specViewLines_spec c (by omega)) (by simp) (by simp [hlt1, hd, hb1, hb2, hb3, hb4, hb5, hvl, htk, hrl, htk1, htv, hvr, s7]; rfl)) ?_
    refine RegO.opN 2 (by simp [hlt1, hd, hb1, hb2, hb3, hb4, hb5, hvl, htk, hrl, htk1, htv, hvr, s7]; rfl) ?_
    refine RegO.nil ?_
    refine DW.norm [(1, _), (3, _), (4, _)] [(1, _), (26, _)] [] (by simp [hlt1, hd, hb1, hb2, hb3, hb4, hb5, hvl, htk, hrl, htk1, htv, hvr, s7]; exact ⟨rfl, rfl, rfl⟩) (by simp [hlt1, hd, hb1, hb2, hb3, hb4, hb5, hvl, htk, hrl, htk1, htv, hvr, s7]; exact ⟨rfl, rfl⟩) (by simp [hlt1, hd, hb1, hb2, hb3, hb4, hb5, hvl, htk, hrl, htk1, htv, hvr, s7]) (by rfl) ?_
    refine DW.reg (by simp (maxSteps := 200000) (disch := first | omega | (simp; done) | fail) [wrapI, leT, leF, ltT, ltF, eqF, nleT, nleF, nltT, nltF, hlt1, hd, hb1, hb2, hb3, hb4, hb5, hvl, htk, hrl, htk1, htv, hvr, s7]; rfl) ?_
    exact ⟨i + 1, hlt, by omega, by simp [hnx]; try omega, by simp [hnx]; simp [hws, rD_append, rD, Row.d, tenB]; try omega, by simp, by rfl⟩
  · have hil : i = w.Views.length := by
      have : ¬ i < w.Views.length := by simpa using hc0
      omega
    subst hil
    have hwz := wlTo_sz w.Views (by omega) w.Views.length (Nat.le_refl _)
    rw [List.take_length] at hwz
    have hdz := decB_size (w.System.Seals.length : Int) (by omega) (by omega)
    have hF1 : ((wlTo w.Views w.Views.length).length + 1) * 16 ≤ 140737488355328 := by omega
    have hF2 : (wlTo w.Views w.Views.length).length + 1 ≤ 140737488355328 := by omega
    have hF3 : (wlTo w.Views w.Views.length).length ≤ 140737488355327 := by omega
    have hF4 : List.take (wlTo w.Views w.Views.length).length (rD (wlTo w.Views w.Views.length)) = rD (wlTo w.Views w.Views.length) := List.take_of_length_le (by rw [rD_len_ByteArray]; omega)
    have hF5 : (rD (wlTo w.Views w.Views.length)).length = (wlTo w.Views w.Views.length).length := by rw [rD_len_ByteArray]; omega
    refine DW.exit ?_
    refine DW.seq ?_
    refine DW.regs ?_
    refine RegO.opN 5 (by simp [hF1, hF2, hF3, hF4, hF5, s6]; rfl) ?_
    refine RegO.step rfl (OpStep.callA rfl (by simp [hF1, hF2, hF3, hF4, hF5, s6]; exact ⟨rfl, rfl⟩) (by simp [hF1, hF2, hF3, hF4, hF5, s6]; rfl) (by exact specDecimal_spec (w.System.Seals.length : Int) (by omega) (by omega)) (by simp) (by simp [hF1, hF2, hF3, hF4, hF5, s6]; rfl)) ?_
    refine RegO.opN 1 (by simp (maxSteps := 200000) (disch := first | omega | (simp; done) | fail) [wrapI, leT, leF, ltT, ltF, eqF, nleT, nleF, nltT, nltF, hF1, hF2, hF3, hF4, hF5, s6]; rfl) ?_
    refine RegO.opN 3 (by simp [hF1, hF2, hF3, hF4, hF5, s6]; rfl) ?_
    refine RegO.nil ?_
    refine DW.ret ?_
    have hwl : rD (worldL w) = rD (wlTo w.Views w.Views.length) ++ [T.sc (.string (⟨#[115, 101, 97, 108, 115, 32]⟩ ++ decB (w.System.Seals.length : Int)))] := by unfold worldL; rw [rD_append]; rfl
    have hwn : (worldL w).length = (wlTo w.Views w.Views.length).length + 1 := by simp [worldL]
    have htF : ∀ x : D, List.take ((wlTo w.Views w.Views.length).length + 1) (rD (wlTo w.Views w.Views.length) ++ [x]) = rD (wlTo w.Views w.Views.length) ++ [x] := fun x => List.take_of_length_le (by simp)
    simp [Tryd.results24, hwl, hwn, htF]
theorem implWorldLines_spec (w : World) (hw : Row.sz w ≤ 2 ^ 36) : Spec Tryd.prog 26 [raWorld w] [none] [dr (worldL w)] [raWorld w] := by
  refine Spec.intro Tryd.func26 rfl rfl Tryd.ntmps26 rfl (by simp) ?_
  have hz := World_sz w
  have hs := System_sz w.System
  have hll := szL_len w.Views
  have hsl := szL_len w.System.Seals
  refine DW.seq ?_
  refine DW.reg (by simp (maxSteps := 200000) (disch := first | omega | (simp; done) | fail) [wrapI, leT, leF, ltT, ltF, eqF, nleT, nleF, nltT, nltF]; rfl) ?_
  refine DW.seq ?_
  refine DW.reg (by simp (maxSteps := 200000) (disch := first | omega | (simp; done) | fail) [wrapI, leT, leF, ltT, ltF, eqF, nleT, nleF, nltT, nltF]; rfl) ?_
  refine DW.ghost (Ghost.nlRow 3 24 1 (by simp) (by simp)) ?_
  refine DW.seq ?_
  refine DW.seq ?_
  refine DW.reg (by simp (maxSteps := 200000) (disch := first | omega | (simp; done) | fail) [wrapI, leT, leF, ltT, ltF, eqF, nleT, nleF, nltT, nltF]; rfl) ?_
  refine DW.block ?_
  refine DW.loopS (α := Nat) (fun i => i ≤ w.Views.length) (fun i => w.Views.length - i) (fun i => [(10, vi i), (3, .v (.one (.sl 24 [] 0 (wlTo w.Views i).length)))]) (fun i => [(24, .ow () 1 (wlTo w.Views i).length (rD (wlTo w.Views i)))]) [(1, _), (8, _), (9, _)] [(1, _)] [] 0 (Nat.zero_le _) (by simp [wlTo]; exact ⟨rfl, rfl, rfl⟩) (by simp [wlTo]; exact rfl) (by simp) (by rfl) ?_
  intro i hi
  refine DW.seq ?_
  refine DW.reg (by simp (maxSteps := 200000) (disch := first | omega | (simp; done) | fail) [wrapI, leT, leF, ltT, ltF, eqF, nleT, nleF, nltT, nltF]; rfl) ?_
  refine DW.seq ?_
  refine DW.condB (by simp (maxSteps := 200000) (disch := first | omega | (simp; done) | fail) [wrapI, leT, leF, ltT, ltF, eqF, nleT, nleF, nltT, nltF]; exact rfl) (fun hc0 => ?_) (fun hc0 => ?_)
  · have hlt : i < w.Views.length := by simpa using hc0
    have hlt1 : (i : Int) < w.Views.length := by omega
    have hd := rR_drop_View w.Views i hlt
    simp only [Nat.mul_one] at hd
    have hws := wlTo_succ w.Views i hlt
    have hsa := szL_at w.Views i hlt
    have hwz := wlTo_sz w.Views (by omega) i (by omega)
    generalize w.Views[i] = c at hd hws hsa
    have hcz := View_sz c
    have hcl := szL_len c.Items
    have hdz := decB_size (i : Int) (by omega) (by omega)
    have hvl := viewL_len c.Items
    generalize hN : (wlTo w.Views i).length = n at *
    have hb1 : (n + 1) * 16 ≤ 140737488355328 := by omega
    have hb2 : n + 1 ≤ 140737488355328 := by omega
    have hb3 : n ≤ 140737488355327 := by omega
    have hb4 : (n + 1 + c.Items.length) * 16 ≤ 140737488355328 := by omega
    have hb5 : n + 1 + c.Items.length ≤ 140737488355328 := by omega
    have htk : List.take n (rD (wlTo w.Views i)) = rD (wlTo w.Views i) := List.take_of_length_le (by rw [rD_len_ByteArray, hN]; omega)
    have hrl : (rD (wlTo w.Views i)).length = n := by rw [rD_len_ByteArray, hN]; omega
    have htk1 : ∀ x : D, List.take (n + 1) (rD (wlTo w.Views i) ++ [x]) = rD (wlTo w.Views i) ++ [x] := fun x => List.take_of_length_le (by simp [hrl])
    have htv : List.take c.Items.length (rD (viewL c.Items)) = rD (viewL c.Items) := List.take_of_length_le (by rw [rD_len_ByteArray, hvl]; omega)
    have hvr : (rD (viewL c.Items)).length = c.Items.length := by rw [rD_len_ByteArray, hvl]; omega
    have hnx : (wlTo w.Views (i + 1)).length = n + 1 + c.Items.length := by rw [hws]; simp [hN, hvl]; omega
    refine DW.skip ?_
    refine DW.seq ?_
    refine DW.block ?_
    refine DW.seq ?_
    refine DW.reg (by simp [hlt1, hd, hb1, hb2, hb3, hb4, hb5, hvl, htk, hrl, htk1, htv, hvr, s7]; rfl) ?_
    refine DW.norm [(1, _), (3, _), (4, _), (5, _), (8, _), (9, _), (10, _)] [(1, _), (24, _), (5, _)] [] (by simp [hlt1, hd, hb1, hb2, hb3, hb4, hb5, hvl, htk, hrl, htk1, htv, hvr, s7]; exact ⟨rfl, rfl, rfl, rfl, rfl, rfl, rfl⟩) (by simp [hlt1, hd, hb1, hb2, hb3, hb4, hb5, hvl, htk, hrl, htk1, htv, hvr, s7]; exact ⟨rfl, rfl, rfl⟩) (by simp [hlt1, hd, hb1, hb2, hb3, hb4, hb5, hvl, htk, hrl, htk1, htv, hvr, s7]) (by rfl) ?_
    refine DW.seq ?_
    refine DW.regs ?_
    refine RegO.opN 2 (by simp [hlt1, hd, hb1, hb2, hb3, hb4, hb5, hvl, htk, hrl, htk1, htv, hvr, s7]; rfl) ?_
    refine RegO.step rfl (OpStep.callA rfl (by simp [hlt1, hd, hb1, hb2, hb3, hb4, hb5, hvl, htk, hrl, htk1, htv, hvr, s7]; exact ⟨rfl, rfl⟩) (by simp [hlt1, hd, hb1, hb2, hb3, hb4, hb5, hvl, htk, hrl, htk1, htv, hvr, s7]; rfl) (by exact implDecimal_spec (i : Int) (by omega) (by omega)) (by simp) (by simp [hlt1, hd, hb1, hb2, hb3, hb4, hb5, hvl, htk, hrl, htk1, htv, hvr, s7]; rfl)) ?_
    refine RegO.opN 1 (by simp (maxSteps := 200000) (disch := first | omega | (simp; done) | fail) [wrapI, leT, leF, ltT, ltF, eqF, nleT, nleF, nltT, nltF, hlt1, hd, hb1, hb2, hb3, hb4, hb5, hvl, htk, hrl, htk1, htv, hvr, s7]; rfl) ?_
    refine RegO.opN 3 (by simp [hlt1, hd, hb1, hb2, hb3, hb4, hb5, hvl, htk, hrl, htk1, htv, hvr, s7]; rfl) ?_
    refine RegO.nil ?_
    refine DW.norm [(1, _), (3, _), (5, _), (8, _), (9, _), (10, _)] [(1, _), (20, _), (5, _)] [] (by simp [hlt1, hd, hb1, hb2, hb3, hb4, hb5, hvl, htk, hrl, htk1, htv, hvr, s7]; exact ⟨rfl, rfl, rfl, rfl, rfl, rfl⟩) (by simp [hlt1, hd, hb1, hb2, hb3, hb4, hb5, hvl, htk, hrl, htk1, htv, hvr, s7]; exact ⟨rfl, rfl, rfl⟩) (by simp [hlt1, hd, hb1, hb2, hb3, hb4, hb5, hvl, htk, hrl, htk1, htv, hvr, s7]) (by rfl) ?_
    refine DW.regs ?_
    refine RegO.opN 2 (by simp [hlt1, hd, hb1, hb2, hb3, hb4, hb5, hvl, htk, hrl, htk1, htv, hvr, s7]; rfl) ?_
    refine RegO.step rfl (OpStep.callA rfl (by simp [hlt1, hd, hb1, hb2, hb3, hb4, hb5, hvl, htk, hrl, htk1, htv, hvr, s7]; exact ⟨rfl, rfl⟩) (by simp [hlt1, hd, hb1, hb2, hb3, hb4, hb5, hvl, htk, hrl, htk1, htv, hvr, s7]; rfl) (by exact implViewLines_spec c (by omega)) (by simp) (by simp [hlt1, hd, hb1, hb2, hb3, hb4, hb5, hvl, htk, hrl, htk1, htv, hvr, s7]; rfl)) ?_
    refine RegO.opN 2 (by simp [hlt1, hd, hb1, hb2, hb3, hb4, hb5, hvl, htk, hrl, htk1, htv, hvr, s7]; rfl) ?_
    refine RegO.nil ?_
    refine DW.norm [(1, _), (3, _), (8, _), (9, _), (10, _)] [(1, _), (24, _)] [] (by simp [hlt1, hd, hb1, hb2, hb3, hb4, hb5, hvl, htk, hrl, htk1, htv, hvr, s7]; exact ⟨rfl, rfl, rfl, rfl, rfl⟩) (by simp [hlt1, hd, hb1, hb2, hb3, hb4, hb5, hvl, htk, hrl, htk1, htv, hvr, s7]; exact ⟨rfl, rfl⟩) (by simp [hlt1, hd, hb1, hb2, hb3, hb4, hb5, hvl, htk, hrl, htk1, htv, hvr, s7]) (by rfl) ?_
    refine DW.reg (by simp (maxSteps := 200000) (disch := first | omega | (simp; done) | fail) [wrapI, leT, leF, ltT, ltF, eqF, nleT, nleF, nltT, nltF, hlt1, hd, hb1, hb2, hb3, hb4, hb5, hvl, htk, hrl, htk1, htv, hvr, s7]; rfl) ?_
    exact ⟨i + 1, hlt, by omega, by simp [hnx]; try omega, by simp [hnx]; simp [hws, rD_append, rD, Row.d, tenB]; try omega, by simp, by rfl⟩
  · have hil : i = w.Views.length := by
      have : ¬ i < w.Views.length := by simpa using hc0
      omega
    subst hil
    have hwz := wlTo_sz w.Views (by omega) w.Views.length (Nat.le_refl _)
    rw [List.take_length] at hwz
    have hdz := decB_size (w.System.Seals.length : Int) (by omega) (by omega)
    have hF1 : ((wlTo w.Views w.Views.length).length + 1) * 16 ≤ 140737488355328 := by omega
    have hF2 : (wlTo w.Views w.Views.length).length + 1 ≤ 140737488355328 := by omega
    have hF3 : (wlTo w.Views w.Views.length).length ≤ 140737488355327 := by omega
    have hF4 : List.take (wlTo w.Views w.Views.length).length (rD (wlTo w.Views w.Views.length)) = rD (wlTo w.Views w.Views.length) := List.take_of_length_le (by rw [rD_len_ByteArray]; omega)
    have hF5 : (rD (wlTo w.Views w.Views.length)).length = (wlTo w.Views w.Views.length).length := by rw [rD_len_ByteArray]; omega
    refine DW.exit ?_
    refine DW.seq ?_
    refine DW.regs ?_
    refine RegO.opN 5 (by simp [hF1, hF2, hF3, hF4, hF5, s6]; rfl) ?_
    refine RegO.step rfl (OpStep.callA rfl (by simp [hF1, hF2, hF3, hF4, hF5, s6]; exact ⟨rfl, rfl⟩) (by simp [hF1, hF2, hF3, hF4, hF5, s6]; rfl) (by exact implDecimal_spec (w.System.Seals.length : Int) (by omega) (by omega)) (by simp) (by simp [hF1, hF2, hF3, hF4, hF5, s6]; rfl)) ?_
    refine RegO.opN 1 (by simp (maxSteps := 200000) (disch := first | omega | (simp; done) | fail) [wrapI, leT, leF, ltT, ltF, eqF, nleT, nleF, nltT, nltF, hF1, hF2, hF3, hF4, hF5, s6]; rfl) ?_
    refine RegO.opN 3 (by simp [hF1, hF2, hF3, hF4, hF5, s6]; rfl) ?_
    refine RegO.nil ?_
    refine DW.ret ?_
    have hwl : rD (worldL w) = rD (wlTo w.Views w.Views.length) ++ [T.sc (.string (⟨#[115, 101, 97, 108, 115, 32]⟩ ++ decB (w.System.Seals.length : Int)))] := by unfold worldL; rw [rD_append]; rfl
    have hwn : (worldL w).length = (wlTo w.Views w.Views.length).length + 1 := by simp [worldL]
    have htF : ∀ x : D, List.take ((wlTo w.Views w.Views.length).length + 1) (rD (wlTo w.Views w.Views.length) ++ [x]) = rD (wlTo w.Views w.Views.length) ++ [x] := fun x => List.take_of_length_le (by simp)
    simp [Tryd.results26, hwl, hwn, htF]
end Go.Proofs.YtciieaidbiejmaaDoor.DM
