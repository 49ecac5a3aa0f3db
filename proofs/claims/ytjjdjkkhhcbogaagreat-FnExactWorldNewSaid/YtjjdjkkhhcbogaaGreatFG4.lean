import Derived.Test.YtjjdjkkhhcbogaaGreatFG3
namespace Go.Proofs.YtjjdjkkhhcbogaaGreat.DM
set_option linter.unusedVariables false
set_option linter.unusedSimpArgs false
set_option maxRecDepth 4000
set_option maxHeartbeats 8000000
theorem specPagesWith_spec (l : List Int) (x : Int) (hl : l.length < 2 ^ 36) : Spec Tryz.prog 45 [ra l, ri x] [none] [dr (pagesWith l x)] [ra l, ri x] := by
  refine Spec.intro Tryz.func45 rfl rfl Tryz.ntmps45 rfl (by simp) ?_
  refine DW.seq ?_
  refine DW.reg (by simp (maxSteps := 200000) (disch := first | omega | (simp; done) | fail) [wrapI, leT, leF, ltT, ltF, eqF, nleT, nleF, nltT, nltF]; rfl) ?_
  refine DW.seq ?_
  refine DW.reg (by simp (maxSteps := 200000) (disch := first | omega | (simp; done) | fail) [wrapI, leT, leF, ltT, ltF, eqF, nleT, nleF, nltT, nltF]; rfl) ?_
  refine DW.seq ?_
  refine DW.seq ?_
  refine DW.reg (by simp (maxSteps := 200000) (disch := first | omega | (simp; done) | fail) [wrapI, leT, leF, ltT, ltF, eqF, nleT, nleF, nltT, nltF]; rfl) ?_
  refine DW.ghost (Ghost.nlRow 5 23 1 (by simp) (by simp)) ?_
  refine DW.block ?_
  refine DW.loopS (α := Nat) (fun i => i ≤ l.length) (fun i => l.length - i) (fun i => [(6, vi i), (5, .v (.one (.sl 23 [] 0 (pagesW l x i).length)))]) (fun i => [(23, .ow () 1 (pagesW l x i).length (rD (pagesW l x i)))]) [(0, _), (1, _)] [] [] 0 (by simp) (by simp [pagesW]; exact ⟨rfl, rfl⟩) (by simp [pagesW]) (by simp) (by rfl) ?_
  intro i hi
  refine DW.seq ?_
  refine DW.seq ?_
  refine DW.reg (by simp (maxSteps := 200000) (disch := first | omega | (simp; done) | fail) [wrapI, leT, leF, ltT, ltF, eqF, nleT, nleF, nltT, nltF]; rfl) ?_
  refine DW.condB (by simp (maxSteps := 200000) (disch := first | omega | (simp; done) | fail) [wrapI, leT, leF, ltT, ltF, eqF, nleT, nleF, nltT, nltF]; exact rfl) (fun hc0 => ?_) (fun hc0 => ?_)
  · have hlt : i < l.length := by simpa using hc0
    have hd := rR_get_Int l i hlt
    have hR := pagesW_succ l x i hlt
    have hrl := pagesW_len l x i
    have b1 : ((pagesW l x i).length + 1) * 8 ≤ 140737488355328 := by omega
    have b2 : (pagesW l x i).length + 1 ≤ 140737488355328 := by omega
    generalize l[i] = c at hd hR
    have hRd : rD [(i : Int)] = [T.sc (.int .i64 i)] := rfl
    refine DW.skip ?_
    refine DW.seq ?_
    refine DW.block ?_
    refine DW.seq ?_
    refine DW.reg (by simp (maxSteps := 200000) (disch := first | omega | (simp; done) | fail) [wrapI, leT, leF, ltT, ltF, eqF, nleT, nleF, nltT, nltF, b1, b2, hd]; rfl) ?_
    refine DW.condB (by simp (maxSteps := 200000) (disch := first | omega | (simp; done) | fail) [wrapI, leT, leF, ltT, ltF, eqF, nleT, nleF, nltT, nltF, b1, b2]; exact rfl) (fun hc1 => ?_) (fun hc1 => ?_)
    · have hcc : c = x := by simpa using hc1
      simp [hcc] at hR
      refine DW.reg (by simp [b1, b2]; rfl) ?_
      refine DW.norm [(0, _), (1, _), (5, _), (6, _)] [(23, _)] [] (by simp [b1, b2]; exact ⟨rfl, rfl, rfl, rfl⟩) (by simp [b1, b2]; rfl) (by simp [b1, b2]) (by rfl) ?_
      refine DW.reg (by simp (maxSteps := 200000) (disch := first | omega | (simp; done) | fail) [wrapI, leT, leF, ltT, ltF, eqF, nleT, nleF, nltT, nltF, b1, b2]; rfl) ?_
      exact ⟨i + 1, hlt, by omega, by simp (disch := omega) [hR, wrapI], by simp [hR, rD_append, hRd], by simp, by rfl⟩
    · have hcc : ¬ c = x := by simpa using hc1
      simp [hcc] at hR
      refine DW.skip ?_
      refine DW.reg (by simp (maxSteps := 200000) (disch := first | omega | (simp; done) | fail) [wrapI, leT, leF, ltT, ltF, eqF, nleT, nleF, nltT, nltF, b1, b2]; rfl) ?_
      exact ⟨i + 1, hlt, by omega, by simp (disch := omega) [hR, wrapI], by simp [hR, rD_append, hRd], by simp, by rfl⟩
  · have hil : i = l.length := by
      have : ¬ i < l.length := by simpa using hc0
      omega
    subst hil
    refine DW.exit ?_
    refine DW.seq ?_
    refine DW.reg (by simp (maxSteps := 200000) (disch := first | omega | (simp; done) | fail) [wrapI, leT, leF, ltT, ltF, eqF, nleT, nleF, nltT, nltF]; rfl) ?_
    refine DW.ret ?_
    simp [Tryz.results45]
theorem implPagesWith_spec (l : List Int) (x : Int) (hl : l.length < 2 ^ 36) : Spec Tryz.prog 55 [ra l, ri x] [none] [dr (pagesWith l x)] [ra l, ri x] := by
  refine Spec.intro Tryz.func55 rfl rfl Tryz.ntmps55 rfl (by simp) ?_
  refine DW.seq ?_
  refine DW.reg (by simp (maxSteps := 200000) (disch := first | omega | (simp; done) | fail) [wrapI, leT, leF, ltT, ltF, eqF, nleT, nleF, nltT, nltF]; rfl) ?_
  refine DW.seq ?_
  refine DW.reg (by simp (maxSteps := 200000) (disch := first | omega | (simp; done) | fail) [wrapI, leT, leF, ltT, ltF, eqF, nleT, nleF, nltT, nltF]; rfl) ?_
  refine DW.seq ?_
  refine DW.seq ?_
  refine DW.reg (by simp (maxSteps := 200000) (disch := first | omega | (simp; done) | fail) [wrapI, leT, leF, ltT, ltF, eqF, nleT, nleF, nltT, nltF]; rfl) ?_
  refine DW.ghost (Ghost.nlRow 5 22 1 (by simp) (by simp)) ?_
  refine DW.block ?_
  refine DW.loopS (α := Nat) (fun i => i ≤ l.length) (fun i => l.length - i) (fun i => [(11, vi i), (5, .v (.one (.sl 22 [] 0 (pagesW l x i).length)))]) (fun i => [(22, .ow () 1 (pagesW l x i).length (rD (pagesW l x i)))]) [(1, _), (9, _), (10, _)] [] [] 0 (by simp) (by simp [pagesW]; exact ⟨rfl, rfl, rfl⟩) (by simp [pagesW]) (by simp) (by rfl) ?_
  intro i hi
  refine DW.seq ?_
  refine DW.reg (by simp (maxSteps := 200000) (disch := first | omega | (simp; done) | fail) [wrapI, leT, leF, ltT, ltF, eqF, nleT, nleF, nltT, nltF]; rfl) ?_
  refine DW.seq ?_
  refine DW.condB (by simp (maxSteps := 200000) (disch := first | omega | (simp; done) | fail) [wrapI, leT, leF, ltT, ltF, eqF, nleT, nleF, nltT, nltF]; exact rfl) (fun hc0 => ?_) (fun hc0 => ?_)
  · have hlt : i < l.length := by simpa using hc0
    have hd := rR_get_Int l i hlt
    have hR := pagesW_succ l x i hlt
    have hrl := pagesW_len l x i
    have b1 : ((pagesW l x i).length + 1) * 8 ≤ 140737488355328 := by omega
    have b2 : (pagesW l x i).length + 1 ≤ 140737488355328 := by omega
    generalize l[i] = c at hd hR
    have hRd : rD [(i : Int)] = [T.sc (.int .i64 i)] := rfl
    refine DW.skip ?_
    refine DW.seq ?_
    refine DW.block ?_
    refine DW.seq ?_
    refine DW.reg (by simp (maxSteps := 200000) (disch := first | omega | (simp; done) | fail) [wrapI, leT, leF, ltT, ltF, eqF, nleT, nleF, nltT, nltF, b1, b2, hd]; rfl) ?_
    refine DW.seq ?_
    refine DW.reg (by simp (maxSteps := 200000) (disch := first | omega | (simp; done) | fail) [wrapI, leT, leF, ltT, ltF, eqF, nleT, nleF, nltT, nltF, b1, b2]; rfl) ?_
    refine DW.condB (by simp (maxSteps := 200000) (disch := first | omega | (simp; done) | fail) [wrapI, leT, leF, ltT, ltF, eqF, nleT, nleF, nltT, nltF, b1, b2]; exact rfl) (fun hc1 => ?_) (fun hc1 => ?_)
    · have hcc : c = x := by simpa using hc1
      simp [hcc] at hR
      refine DW.reg (by simp [b1, b2]; rfl) ?_
      refine DW.norm [(1, _), (5, _), (9, _), (10, _), (11, _)] [(22, _)] [] (by simp [b1, b2]; exact ⟨rfl, rfl, rfl, rfl, rfl⟩) (by simp [b1, b2]; rfl) (by simp [b1, b2]) (by rfl) ?_
      refine DW.reg (by simp (maxSteps := 200000) (disch := first | omega | (simp; done) | fail) [wrapI, leT, leF, ltT, ltF, eqF, nleT, nleF, nltT, nltF, b1, b2]; rfl) ?_
      exact ⟨i + 1, hlt, by omega, by simp (disch := omega) [hR, wrapI], by simp [hR, rD_append, hRd], by simp, by rfl⟩
    · have hcc : ¬ c = x := by simpa using hc1
      simp [hcc] at hR
      refine DW.skip ?_
      refine DW.reg (by simp (maxSteps := 200000) (disch := first | omega | (simp; done) | fail) [wrapI, leT, leF, ltT, ltF, eqF, nleT, nleF, nltT, nltF, b1, b2]; rfl) ?_
      exact ⟨i + 1, hlt, by omega, by simp (disch := omega) [hR, wrapI], by simp [hR, rD_append, hRd], by simp, by rfl⟩
  · have hil : i = l.length := by
      have : ¬ i < l.length := by simpa using hc0
      omega
    subst hil
    refine DW.exit ?_
    refine DW.seq ?_
    refine DW.reg (by simp (maxSteps := 200000) (disch := first | omega | (simp; done) | fail) [wrapI, leT, leF, ltT, ltF, eqF, nleT, nleF, nltT, nltF]; rfl) ?_
    refine DW.ret ?_
    simp [Tryz.results55]
/-- The first place from i on where something holds; -1. -/
def idxFrom {α : Type} (p : α → Bool) (l : List α) (i : Nat) : Int := if h : i < l.length then (if p l[i] = true then (i : Int) else idxFrom p l (i + 1)) else -1
termination_by l.length - i
theorem idxFrom_any {α : Type} (p : α → Bool) (l : List α) : ∀ (n i : Nat), n = l.length - i → (0 ≤ idxFrom p l i ↔ (l.drop i).any p = true)
  | n, i, hn => by
    rw [idxFrom]
    split
    · rename_i h
      rw [List.drop_eq_getElem_cons h, List.any_cons]
      split
      · rename_i hp
        simp [hp]
      · rename_i hp
        cases n with
        | zero => omega
        | succ n => rw [idxFrom_any p l n (i + 1) (by omega)]; simp [hp]
    · rename_i h
      rw [List.drop_eq_nil_of_le (by omega)]
      simp
def idxF {α : Type} (p : α → Bool) (l : List α) : Int := idxFrom p l 0
theorem idxF_any {α : Type} (p : α → Bool) (l : List α) : decide (0 ≤ idxF p l) = l.any p := by
  have := idxFrom_any p l _ 0 rfl
  rw [List.drop_zero] at this
  cases h : l.any p with
  | true => exact decide_eq_true (this.2 h)
  | false => exact decide_eq_false fun h' => by rw [this.1 h'] at h; cases h
theorem stAll_any (l : List Int) : (l.any fun x => !inB x 0 2) = !stAll l := by
  simp only [stAll]
  induction l with
  | nil => rfl
  | cons x l ih => rw [List.any_cons, List.all_cons, ih]; cases inB x 0 2 <;> simp
theorem stAll_bad {l : List Int} {i : Nat} (h : i < l.length) (hb : inB l[i] 0 2 = false) : stAll l = false := by
  cases ha : stAll l with
  | false => rfl
  | true =>
    simp only [stAll, List.all_eq_true] at ha
    rw [ha _ (List.getElem_mem h)] at hb; cases hb
theorem stAll_take {l : List Int} {i : Nat} (h : i < l.length) (ht : stAll (l.take i) = true) (hb : inB l[i] 0 2 = true) : stAll (l.take (i + 1)) = true := by
  rw [take_succ' l i h]
  simp only [stAll, List.all_append, List.all_cons, List.all_nil, Bool.and_true, Bool.and_eq_true] at ht ⊢
  exact ⟨ht, hb⟩

theorem statesOk1_spec (x : Int) : Spec Tryz.prog 123 [ri x] [none] [db (!inB x 0 2)] [ri x] := by
  refine Spec.intro Tryz.func123 rfl rfl Tryz.ntmps123 rfl (by simp) ?_
  refine DW.seq ?_
  refine DW.reg (by simp (maxSteps := 200000) (disch := first | omega | (simp; done) | fail) [wrapI, leT, leF, ltT, ltF, eqF, nleT, nleF, nltT, nltF]; rfl) ?_
  refine DW.seq ?_
  refine DW.regs ?_
  refine RegO.opN 1 (by simp (maxSteps := 200000) (disch := first | omega | (simp; done) | fail) [wrapI, leT, leF, ltT, ltF, eqF, nleT, nleF, nltT, nltF]; rfl) ?_
  refine RegO.step rfl (OpStep.callA rfl (by simp (maxSteps := 200000) (disch := first | omega | (simp; done) | fail) [wrapI, leT, leF, ltT, ltF, eqF, nleT, nleF, nltT, nltF]; exact ⟨rfl, rfl⟩) (by simp (maxSteps := 200000) (disch := first | omega | (simp; done) | fail) [wrapI, leT, leF, ltT, ltF, eqF, nleT, nleF, nltT, nltF]; rfl) (by exact within_spec _ _ _) (by simp) (by simp (maxSteps := 200000) (disch := first | omega | (simp; done) | fail) [wrapI, leT, leF, ltT, ltF, eqF, nleT, nleF, nltT, nltF]; rfl)) ?_
  refine RegO.opN 2 (by simp (maxSteps := 200000) (disch := first | omega | (simp; done) | fail) [wrapI, leT, leF, ltT, ltF, eqF, nleT, nleF, nltT, nltF]; rfl) ?_
  refine RegO.nil ?_
  refine DW.ret ?_
  simp [Tryz.results123]
theorem indexFuncI_spec (l : List Int) (hl : l.length < 2 ^ 36) : Spec Tryz.prog 166 [ra l, rFn 123] [none] [di (idxF (fun x => !inB x 0 2) l)] [ra l, rFn 123] := by
  refine Spec.intro Tryz.func166 rfl rfl Tryz.ntmps166 rfl (by simp) ?_
  refine DW.seq ?_
  refine DW.reg (by simp (maxSteps := 200000) (disch := first | omega | (simp; done) | fail) [wrapI, leT, leF, ltT, ltF, eqF, nleT, nleF, nltT, nltF]; rfl) ?_
  refine DW.seq ?_
  refine DW.seq ?_
  refine DW.reg (by simp (maxSteps := 200000) (disch := first | omega | (simp; done) | fail) [wrapI, leT, leF, ltT, ltF, eqF, nleT, nleF, nltT, nltF]; rfl) ?_
  refine DW.block ?_
  refine DW.loopS (α := Nat) (fun i => i ≤ l.length ∧ idxFrom (fun x => !inB x 0 2) l i = idxF (fun x => !inB x 0 2) l) (fun i => l.length - i) (fun i => [(8, vi i)]) (fun i => []) [(0, _), (1, _), (7, _)] [] [] 0 (⟨Nat.zero_le _, rfl⟩) (by simp; exact ⟨rfl, rfl, rfl⟩) (by simp) (by simp) (by rfl) ?_
  rintro i ⟨hi, hx⟩
  refine DW.seq ?_
  refine DW.reg (by simp (maxSteps := 200000) (disch := first | omega | (simp; done) | fail) [wrapI, leT, leF, ltT, ltF, eqF, nleT, nleF, nltT, nltF]; rfl) ?_
  refine DW.seq ?_
  refine DW.condB (by simp (maxSteps := 200000) (disch := first | omega | (simp; done) | fail) [wrapI, leT, leF, ltT, ltF, eqF, nleT, nleF, nltT, nltF]; exact rfl) (fun hc0 => ?_) (fun hc0 => ?_)
  · have hlt : i < l.length := by simpa using hc0
    have hd := rR_get_Int l i hlt
    rw [idxFrom, dif_pos hlt] at hx
    generalize l[i] = c at hd hx
    refine DW.skip ?_
    refine DW.seq ?_
    refine DW.block ?_
    refine DW.seq ?_
    refine DW.reg (by simp (maxSteps := 200000) (disch := first | omega | (simp; done) | fail) [wrapI, leT, leF, ltT, ltF, eqF, nleT, nleF, nltT, nltF]; rfl) ?_
    refine DW.seq ?_
    refine DW.regs ?_
    refine RegO.opN 5 (by simp (maxSteps := 200000) (disch := first | omega | (simp; done) | fail) [wrapI, leT, leF, ltT, ltF, eqF, nleT, nleF, nltT, nltF, hd]; rfl) ?_
    refine RegO.step rfl (OpStep.callA rfl (by simp (maxSteps := 200000) (disch := first | omega | (simp; done) | fail) [wrapI, leT, leF, ltT, ltF, eqF, nleT, nleF, nltT, nltF, hd]; exact ⟨rfl, rfl⟩) (by simp (maxSteps := 200000) (disch := first | omega | (simp; done) | fail) [wrapI, leT, leF, ltT, ltF, eqF, nleT, nleF, nltT, nltF, hd]; rfl) (by exact statesOk1_spec _) (by simp) (by simp (maxSteps := 200000) (disch := first | omega | (simp; done) | fail) [wrapI, leT, leF, ltT, ltF, eqF, nleT, nleF, nltT, nltF, hd]; rfl)) ?_
    refine RegO.nil ?_
    refine DW.condB (by simp (maxSteps := 200000) (disch := first | omega | (simp; done) | fail) [wrapI, leT, leF, ltT, ltF, eqF, nleT, nleF, nltT, nltF]; exact rfl) (fun hc1 => ?_) (fun hc1 => ?_)
    · have hcc : inB c 0 2 = false := by simpa using hc1
      simp [hcc] at hx
      refine DW.seq ?_
      refine DW.reg (by simp (maxSteps := 200000) (disch := first | omega | (simp; done) | fail) [wrapI, leT, leF, ltT, ltF, eqF, nleT, nleF, nltT, nltF]; rfl) ?_
      refine DW.ret ?_
      simp [Tryz.results166, ← hx]
    · have hcc : inB c 0 2 = true := by simpa using hc1
      simp [hcc] at hx
      refine DW.skip ?_
      refine DW.reg (by simp (maxSteps := 200000) (disch := first | omega | (simp; done) | fail) [wrapI, leT, leF, ltT, ltF, eqF, nleT, nleF, nltT, nltF]; rfl) ?_
      exact ⟨i + 1, ⟨hlt, hx⟩, by omega, by simp, by simp, by simp, by rfl⟩
  · have hil : i = l.length := by
      have : ¬ i < l.length := by simpa using hc0
      omega
    subst hil
    rw [idxFrom, dif_neg (Nat.lt_irrefl _)] at hx
    refine DW.exit ?_
    refine DW.seq ?_
    refine DW.reg (by simp (maxSteps := 200000) (disch := first | omega | (simp; done) | fail) [wrapI, leT, leF, ltT, ltF, eqF, nleT, nleF, nltT, nltF]; rfl) ?_
    refine DW.ret ?_
    simp [Tryz.results166, ← hx]
theorem containsFuncI_spec (l : List Int) (hl : l.length < 2 ^ 36) : Spec Tryz.prog 122 [ra l, rFn 123] [none] [db (!stAll l)] [ra l, rFn 123] := by
  refine Spec.intro Tryz.func122 rfl rfl Tryz.ntmps122 rfl (by simp) ?_
  refine DW.seq ?_
  refine DW.reg (by simp (maxSteps := 200000) (disch := first | omega | (simp; done) | fail) [wrapI, leT, leF, ltT, ltF, eqF, nleT, nleF, nltT, nltF]; rfl) ?_
  refine DW.seq ?_
  refine DW.regs ?_
  refine RegO.opN 2 (by simp (maxSteps := 200000) (disch := first | omega | (simp; done) | fail) [wrapI, leT, leF, ltT, ltF, eqF, nleT, nleF, nltT, nltF]; rfl) ?_
  refine RegO.step rfl (OpStep.callA rfl (by simp (maxSteps := 200000) (disch := first | omega | (simp; done) | fail) [wrapI, leT, leF, ltT, ltF, eqF, nleT, nleF, nltT, nltF]; exact ⟨rfl, rfl⟩) (by simp (maxSteps := 200000) (disch := first | omega | (simp; done) | fail) [wrapI, leT, leF, ltT, ltF, eqF, nleT, nleF, nltT, nltF]; rfl) (by exact indexFuncI_spec _ hl) (by simp) (by simp (maxSteps := 200000) (disch := first | omega | (simp; done) | fail) [wrapI, leT, leF, ltT, ltF, eqF, nleT, nleF, nltT, nltF]; rfl)) ?_
  refine RegO.opN 2 (by simp (maxSteps := 200000) (disch := first | omega | (simp; done) | fail) [wrapI, leT, leF, ltT, ltF, eqF, nleT, nleF, nltT, nltF]; rfl) ?_
  refine RegO.nil ?_
  refine DW.ret ?_
  simp [Tryz.results122, idxF_any, stAll_any]
theorem implStatesOk_spec (l : List Int) (n : Int) (hl : l.length < 2 ^ 36) : Spec Tryz.prog 57 [ra l, ri n] [none] [db (stOk l n)] [ra l, ri n] := by
  refine Spec.intro Tryz.func57 rfl rfl Tryz.ntmps57 rfl (by simp) ?_
  refine DW.seq ?_
  refine DW.reg (by simp (maxSteps := 200000) (disch := first | omega | (simp; done) | fail) [wrapI, leT, leF, ltT, ltF, eqF, nleT, nleF, nltT, nltF]; rfl) ?_
  refine DW.seq ?_
  have h3 : inB n 1 12 = false ∨ (inB n 1 12 = true ∧ ¬ (l.length : Int) = n) ∨ (inB n 1 12 = true ∧ n = (l.length : Int)) := by
    by_cases h : n = (l.length : Int) <;> cases inB n 1 12 <;> simp [h] <;> omega
  rcases h3 with g0 | ⟨g0, g1⟩ | ⟨g0, rfl⟩
  · skip
    refine DW.regs ?_
    refine RegO.opN 1 (by simp (maxSteps := 200000) (disch := first | omega | (simp; done) | fail) [wrapI, leT, leF, ltT, ltF, eqF, nleT, nleF, nltT, nltF, g0]; rfl) ?_
    refine RegO.step rfl (OpStep.callA rfl (by simp (maxSteps := 200000) (disch := first | omega | (simp; done) | fail) [wrapI, leT, leF, ltT, ltF, eqF, nleT, nleF, nltT, nltF, g0]; exact ⟨rfl, rfl⟩) (by simp (maxSteps := 200000) (disch := first | omega | (simp; done) | fail) [wrapI, leT, leF, ltT, ltF, eqF, nleT, nleF, nltT, nltF, g0]; rfl) (by exact within_spec _ _ _) (by simp) (by simp (maxSteps := 200000) (disch := first | omega | (simp; done) | fail) [wrapI, leT, leF, ltT, ltF, eqF, nleT, nleF, nltT, nltF, g0]; rfl)) ?_
    refine RegO.opN 12 (by simp (maxSteps := 200000) (disch := first | omega | (simp; done) | fail) [wrapI, leT, leF, ltT, ltF, eqF, nleT, nleF, nltT, nltF, g0]; rfl) ?_
    refine RegO.nil ?_
    refine DW.ret ?_
    simp [Tryz.results57, stOk, g0]
  · have g2 : ((l.length : Int) == n) = false := by simpa using g1
    refine DW.regs ?_
    refine RegO.opN 1 (by simp (maxSteps := 200000) (disch := first | omega | (simp; done) | fail) [wrapI, leT, leF, ltT, ltF, eqF, nleT, nleF, nltT, nltF, g0, g1, g2]; rfl) ?_
    refine RegO.step rfl (OpStep.callA rfl (by simp (maxSteps := 200000) (disch := first | omega | (simp; done) | fail) [wrapI, leT, leF, ltT, ltF, eqF, nleT, nleF, nltT, nltF, g0, g1, g2]; exact ⟨rfl, rfl⟩) (by simp (maxSteps := 200000) (disch := first | omega | (simp; done) | fail) [wrapI, leT, leF, ltT, ltF, eqF, nleT, nleF, nltT, nltF, g0, g1, g2]; rfl) (by exact within_spec _ _ _) (by simp) (by simp (maxSteps := 200000) (disch := first | omega | (simp; done) | fail) [wrapI, leT, leF, ltT, ltF, eqF, nleT, nleF, nltT, nltF, g0, g1, g2]; rfl)) ?_
    refine RegO.opN 12 (by simp (maxSteps := 200000) (disch := first | omega | (simp; done) | fail) [wrapI, leT, leF, ltT, ltF, eqF, nleT, nleF, nltT, nltF, g0, g1, g2]; rfl) ?_
    refine RegO.nil ?_
    refine DW.ret ?_
    simp [Tryz.results57, stOk, g0, g1, g2]
  · skip
    refine DW.regs ?_
    refine RegO.opN 1 (by simp (maxSteps := 200000) (disch := first | omega | (simp; done) | fail) [wrapI, leT, leF, ltT, ltF, eqF, nleT, nleF, nltT, nltF, g0]; rfl) ?_
    refine RegO.step rfl (OpStep.callA rfl (by simp (maxSteps := 200000) (disch := first | omega | (simp; done) | fail) [wrapI, leT, leF, ltT, ltF, eqF, nleT, nleF, nltT, nltF, g0]; exact ⟨rfl, rfl⟩) (by simp (maxSteps := 200000) (disch := first | omega | (simp; done) | fail) [wrapI, leT, leF, ltT, ltF, eqF, nleT, nleF, nltT, nltF, g0]; rfl) (by exact within_spec _ _ _) (by simp) (by simp (maxSteps := 200000) (disch := first | omega | (simp; done) | fail) [wrapI, leT, leF, ltT, ltF, eqF, nleT, nleF, nltT, nltF, g0]; rfl)) ?_
    refine RegO.opN 8 (by simp (maxSteps := 200000) (disch := first | omega | (simp; done) | fail) [wrapI, leT, leF, ltT, ltF, eqF, nleT, nleF, nltT, nltF, g0]; rfl) ?_
    refine RegO.stepT (by simp (maxSteps := 200000) (disch := first | omega | (simp; done) | fail) [wrapI, leT, leF, ltT, ltF, eqF, nleT, nleF, nltT, nltF, g0]) (OpStep.callA rfl (by simp (maxSteps := 200000) (disch := first | omega | (simp; done) | fail) [wrapI, leT, leF, ltT, ltF, eqF, nleT, nleF, nltT, nltF, g0]; exact ⟨rfl, rfl⟩) (by simp (maxSteps := 200000) (disch := first | omega | (simp; done) | fail) [wrapI, leT, leF, ltT, ltF, eqF, nleT, nleF, nltT, nltF, g0]; rfl) (by exact containsFuncI_spec _ hl) (by simp) (by simp (maxSteps := 200000) (disch := first | omega | (simp; done) | fail) [wrapI, leT, leF, ltT, ltF, eqF, nleT, nleF, nltT, nltF, g0]; rfl)) ?_
    refine RegO.opN 3 (by simp (maxSteps := 200000) (disch := first | omega | (simp; done) | fail) [wrapI, leT, leF, ltT, ltF, eqF, nleT, nleF, nltT, nltF, g0]; rfl) ?_
    refine RegO.nil ?_
    refine DW.ret ?_
    simp [Tryz.results57, stOk, g0]
theorem specStatesOk_spec (l : List Int) (n : Int) (hl : l.length < 2 ^ 36) : Spec Tryz.prog 47 [ra l, ri n] [none] [db (stOk l n)] [ra l, ri n] := by
  refine Spec.intro Tryz.func47 rfl rfl Tryz.ntmps47 rfl (by simp) ?_
  refine DW.seq ?_
  refine DW.reg (by simp (maxSteps := 200000) (disch := first | omega | (simp; done) | fail) [wrapI, leT, leF, ltT, ltF, eqF, nleT, nleF, nltT, nltF]; rfl) ?_
  refine DW.seq ?_
  refine DW.seq ?_
  refine DW.reg (by simp (maxSteps := 200000) (disch := first | omega | (simp; done) | fail) [wrapI, leT, leF, ltT, ltF, eqF, nleT, nleF, nltT, nltF]; rfl) ?_
  refine DW.block ?_
  refine DW.loopS (α := Nat) (fun i => i ≤ l.length ∧ stAll (l.take i) = true) (fun i => l.length - i) (fun i => [(5, vi i)]) (fun i => []) [(0, _), (1, _)] [] [] 0 (⟨Nat.zero_le _, rfl⟩) (by simp; exact ⟨rfl, rfl⟩) (by simp) (by simp) (by rfl) ?_
  rintro i ⟨hi, hx⟩
  refine DW.seq ?_
  refine DW.seq ?_
  refine DW.reg (by simp (maxSteps := 200000) (disch := first | omega | (simp; done) | fail) [wrapI, leT, leF, ltT, ltF, eqF, nleT, nleF, nltT, nltF]; rfl) ?_
  refine DW.condB (by simp (maxSteps := 200000) (disch := first | omega | (simp; done) | fail) [wrapI, leT, leF, ltT, ltF, eqF, nleT, nleF, nltT, nltF]; exact rfl) (fun hc0 => ?_) (fun hc0 => ?_)
  · have hlt : i < l.length := by simpa using hc0
    have hd := rR_get_Int l i hlt
    refine DW.skip ?_
    refine DW.seq ?_
    refine DW.block ?_
    refine DW.seq ?_
    refine DW.regs ?_
    refine RegO.opN 4 (by simp (maxSteps := 200000) (disch := first | omega | (simp; done) | fail) [wrapI, leT, leF, ltT, ltF, eqF, nleT, nleF, nltT, nltF, hd]; rfl) ?_
    refine RegO.step rfl (OpStep.callA rfl (by simp (maxSteps := 200000) (disch := first | omega | (simp; done) | fail) [wrapI, leT, leF, ltT, ltF, eqF, nleT, nleF, nltT, nltF, hd]; exact ⟨rfl, rfl⟩) (by simp (maxSteps := 200000) (disch := first | omega | (simp; done) | fail) [wrapI, leT, leF, ltT, ltF, eqF, nleT, nleF, nltT, nltF, hd]; rfl) (by exact l01In_spec _ _ _) (by simp) (by simp (maxSteps := 200000) (disch := first | omega | (simp; done) | fail) [wrapI, leT, leF, ltT, ltF, eqF, nleT, nleF, nltT, nltF, hd]; rfl)) ?_
    refine RegO.opN 1 (by simp (maxSteps := 200000) (disch := first | omega | (simp; done) | fail) [wrapI, leT, leF, ltT, ltF, eqF, nleT, nleF, nltT, nltF, hd]; rfl) ?_
    refine RegO.nil ?_
    refine DW.condB (by simp (maxSteps := 200000) (disch := first | omega | (simp; done) | fail) [wrapI, leT, leF, ltT, ltF, eqF, nleT, nleF, nltT, nltF]; exact rfl) (fun hc1 => ?_) (fun hc1 => ?_)
    · have hcc : inB l[i] 0 2 = false := by simpa using hc1
      have hx0 := stAll_bad hlt hcc
      refine DW.seq ?_
      refine DW.reg (by simp (maxSteps := 200000) (disch := first | omega | (simp; done) | fail) [wrapI, leT, leF, ltT, ltF, eqF, nleT, nleF, nltT, nltF]; rfl) ?_
      refine DW.ret ?_
      simp [Tryz.results47, stOk, hx0]
    · have hcc : inB l[i] 0 2 = true := by simpa using hc1
      refine DW.skip ?_
      refine DW.reg (by simp (maxSteps := 200000) (disch := first | omega | (simp; done) | fail) [wrapI, leT, leF, ltT, ltF, eqF, nleT, nleF, nltT, nltF]; rfl) ?_
      exact ⟨i + 1, ⟨hlt, stAll_take hlt hx hcc⟩, by omega, by simp, by simp, by simp, by rfl⟩
  · have hil : i = l.length := by
      have : ¬ i < l.length := by simpa using hc0
      omega
    subst hil
    rw [List.take_length] at hx
    refine DW.exit ?_
    refine DW.seq ?_
    have h3 : (¬ (l.length : Int) = n) ∨ n = (l.length : Int) := by omega
    rcases h3 with g0 | rfl
    · have g2 : ((l.length : Int) == n) = false := by simpa using g0
      refine DW.reg (by simp (maxSteps := 200000) (disch := first | omega | (simp; done) | fail) [wrapI, leT, leF, ltT, ltF, eqF, nleT, nleF, nltT, nltF, g0, g2]; rfl) ?_
      refine DW.ret ?_
      simp [Tryz.results47, stOk, hx, g0, g2]
    · skip
      refine DW.regs ?_
      refine RegO.opN 6 (by simp (maxSteps := 200000) (disch := first | omega | (simp; done) | fail) [wrapI, leT, leF, ltT, ltF, eqF, nleT, nleF, nltT, nltF]; rfl) ?_
      refine RegO.stepT (by simp (maxSteps := 200000) (disch := first | omega | (simp; done) | fail) [wrapI, leT, leF, ltT, ltF, eqF, nleT, nleF, nltT, nltF]) (OpStep.callA rfl (by simp (maxSteps := 200000) (disch := first | omega | (simp; done) | fail) [wrapI, leT, leF, ltT, ltF, eqF, nleT, nleF, nltT, nltF]; exact ⟨rfl, rfl⟩) (by simp (maxSteps := 200000) (disch := first | omega | (simp; done) | fail) [wrapI, leT, leF, ltT, ltF, eqF, nleT, nleF, nltT, nltF]; rfl) (by exact l01In_spec _ _ _) (by simp) (by simp (maxSteps := 200000) (disch := first | omega | (simp; done) | fail) [wrapI, leT, leF, ltT, ltF, eqF, nleT, nleF, nltT, nltF]; rfl)) ?_
      refine RegO.opN 2 (by simp (maxSteps := 200000) (disch := first | omega | (simp; done) | fail) [wrapI, leT, leF, ltT, ltF, eqF, nleT, nleF, nltT, nltF]; rfl) ?_
      refine RegO.nil ?_
      refine DW.ret ?_
      simp [Tryz.results47, stOk, hx]
end Go.Proofs.YtjjdjkkhhcbogaaGreat.DM
