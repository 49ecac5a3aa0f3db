import Derived.Test.YtjjdjkkhhcbogaaGreatFG6
namespace Go.Proofs.YtjjdjkkhhcbogaaGreat.DM
set_option linter.unusedVariables false
set_option linter.unusedSimpArgs false
set_option maxRecDepth 4000
set_option maxHeartbeats 8000000
theorem rD_setI (l : List Int) (i : Nat) (v : Int) : (rD l).set i (.sc (.int .i64 v)) = rD (l.set i v) := by rw [rD_ints, rD_ints, List.map_set]
theorem cloneInt_spec (l : List Int) (hl : l.length ≤ 2 ^ 36) : Spec Tryz.prog 126 [ra l] [none] [dr l] [ra l] := by
  refine Spec.intro Tryz.func126 rfl rfl Tryz.ntmps126 rfl (by simp) ?_
  have c1 : l.length * 8 ≤ 140737488355328 := by omega
  have c2 : l.length ≤ 140737488355328 := by omega
  refine DW.seq ?_
  refine DW.reg (by simp [c1, c2]; rfl) ?_
  refine DW.seq ?_
  refine DW.seq ?_
  refine DW.regs ?_
  refine RegO.opN 1 (by simp; rfl) ?_
  refine RegO.stepE rfl (OpStepE.eqNil (n := l.length) rfl rfl (by decide) Tryz.underlying24 (by simp [rowLen])) ?_
  rintro s1 ⟨b, hb, rfl⟩
  refine RegO.nil ?_
  refine DW.condB (by simp [c1, c2]; exact rfl) (fun hc0 => ?_) (fun hc0 => ?_)
  · have hl0 : l = [] := List.length_eq_zero_iff.1 (hb hc0)
    subst hl0
    refine DW.seq ?_
    refine DW.reg (by simp [c1, c2]; rfl) ?_
    refine DW.ghost (Ghost.nlRow 2 1000 1 (by simp) (by simp)) ?_
    refine DW.ret ?_
    simp [Tryz.results126]
  · refine DW.skip ?_
    refine DW.seq ?_
    refine DW.reg (by simp [c1, c2]; rfl) ?_
    refine DW.ret ?_
    simp [Tryz.results126]
theorem specWithState_spec (l ps : List Int) (x : Int) (hl : l.length ≤ 2 ^ 36) (hp : ps.length ≤ 2 ^ 36) : Spec Tryz.prog 52 [ra l, ra ps, ri x] [none] [dr (withSt l x ps)] [ra l, ra ps, ri x] := by
  refine Spec.intro Tryz.func52 rfl rfl Tryz.ntmps52 rfl (by simp) ?_
  have c1 : l.length * 8 ≤ 140737488355328 := by omega
  have c2 : l.length ≤ 140737488355328 := by omega
  refine DW.seq ?_
  refine DW.reg (by simp (maxSteps := 200000) (disch := first | omega | (simp; done) | fail) [wrapI, leT, leF, ltT, ltF, eqF, nleT, nleF, nltT, nltF]; rfl) ?_
  refine DW.seq ?_
  refine DW.reg (by simp [c1, c2]; rfl) ?_
  refine DW.norm [(1, _), (2, _), (7, _)] [(11, _)] [] (by simp; exact ⟨rfl, rfl, rfl⟩) (by simp; rfl) (by simp) (by rfl) ?_
  refine DW.seq ?_
  refine DW.seq ?_
  refine DW.reg (by simp (maxSteps := 200000) (disch := first | omega | (simp; done) | fail) [wrapI, leT, leF, ltT, ltF, eqF, nleT, nleF, nltT, nltF]; rfl) ?_
  refine DW.block ?_
  refine DW.loopS (α := Nat) (fun i => i ≤ ps.length) (fun i => ps.length - i) (fun i => [(8, vi i)]) (fun i => [(11, .ow () 1 l.length (rD (withSt l x (ps.take i))))]) [(1, _), (2, _), (7, _)] [] [] 0 (by simp) (by simp; exact ⟨rfl, rfl, rfl⟩) (by simp [withSt]) (by simp) (by rfl) ?_
  intro i hi
  refine DW.seq ?_
  refine DW.seq ?_
  refine DW.reg (by simp (maxSteps := 200000) (disch := first | omega | (simp; done) | fail) [wrapI, leT, leF, ltT, ltF, eqF, nleT, nleF, nltT, nltF]; rfl) ?_
  refine DW.condB (by simp (maxSteps := 200000) (disch := first | omega | (simp; done) | fail) [wrapI, leT, leF, ltT, ltF, eqF, nleT, nleF, nltT, nltF]; exact rfl) (fun hc0 => ?_) (fun hc0 => ?_)
  · have hlt : i < ps.length := by simpa using hc0
    have hlt1 : (i : Int) < ps.length := by omega
    have hd := rR_get_Int ps i hlt
    have hw := wr ((i : Int) + 1) (by omega) (by omega)
    have hws := wr ((l.length : Int) - 1) (by omega) (by omega)
    have hW := withSt_snoc x (ps.take i) l ps[i]
    rw [← take_succ' ps i hlt] at hW
    have hwl : (withSt l x (ps.take i)).length = l.length := withSt_len _ _ _
    rw [hwl] at hW
    generalize ps[i] = p at hd hW
    generalize (withSt l x (ps.take i)) = o at hW hwl ⊢
    refine DW.skip ?_
    refine DW.seq ?_
    refine DW.block ?_
    refine DW.seq ?_
    refine DW.regs ?_
    refine RegO.opN 7 (by simp (maxSteps := 200000) (disch := first | omega | (simp; done) | fail) [wrapI, leT, leF, ltT, ltF, eqF, nleT, nleF, nltT, nltF, hlt1, hd, hw, hws]; rfl) ?_
    refine RegO.step rfl (OpStep.callA rfl (by simp (maxSteps := 200000) (disch := first | omega | (simp; done) | fail) [wrapI, leT, leF, ltT, ltF, eqF, nleT, nleF, nltT, nltF, hlt1, hd, hw, hws]; exact ⟨rfl, rfl⟩) (by simp (maxSteps := 200000) (disch := first | omega | (simp; done) | fail) [wrapI, leT, leF, ltT, ltF, eqF, nleT, nleF, nltT, nltF, hlt1, hd, hw, hws]; rfl) (by exact l01In_spec _ _ _) (by simp) (by simp (maxSteps := 200000) (disch := first | omega | (simp; done) | fail) [wrapI, leT, leF, ltT, ltF, eqF, nleT, nleF, nltT, nltF, hlt1, hd, hw, hws]; rfl)) ?_
    refine RegO.nil ?_
    refine DW.condB (by simp (maxSteps := 200000) (disch := first | omega | (simp; done) | fail) [wrapI, leT, leF, ltT, ltF, eqF, nleT, nleF, nltT, nltF, hlt1, hd, hw, hws]; exact rfl) (fun hc1 => ?_) (fun hc1 => ?_)
    · have hb : inB p 0 ((l.length : Int) - 1) = true := by simpa [hws] using hc1
      rw [if_pos hb] at hW
      have hb2 := inB_iff.1 hb
      have hp0 : 0 ≤ p := by omega
      have hp1 : p < l.length := by omega
      obtain ⟨j, rfl⟩ := Int.eq_ofNat_of_zero_le hp0
      have hjl : j < o.length := by omega
      rw [Int.toNat_natCast] at hW
      have hoj := rD_get_Int o j hjl
      have hset := rD_setI o j x
      have hW2 := hW
      refine DW.reg (by simp [hlt1, hd, hw, hws, hp0, hp1, hoj, hset]; rfl) ?_
      refine DW.norm [(1, _), (2, _), (7, _), (8, _)] [(11, _)] [] (by simp [hlt1, hd, hw, hws, hp0, hp1, hoj, hset]; exact ⟨rfl, rfl, rfl, rfl⟩) (by simp [hlt1, hd, hw, hws, hp0, hp1, hoj, hset]; rfl) (by simp [hlt1, hd, hw, hws, hp0, hp1, hoj, hset]) (by rfl) ?_
      refine DW.reg (by simp (maxSteps := 200000) (disch := first | omega | (simp; done) | fail) [wrapI, leT, leF, ltT, ltF, eqF, nleT, nleF, nltT, nltF, hlt1, hd, hw, hws, hp0, hp1, hoj, hset]; rfl) ?_
      exact ⟨i + 1, hlt, by omega, by simp, by simp [hW2], by simp, by rfl⟩
    · have hb : inB p 0 ((l.length : Int) - 1) = false := by simpa [hws] using hc1
      rw [if_neg (by rw [hb]; simp)] at hW
      have hW2 := hW
      refine DW.skip ?_
      refine DW.reg (by simp (maxSteps := 200000) (disch := first | omega | (simp; done) | fail) [wrapI, leT, leF, ltT, ltF, eqF, nleT, nleF, nltT, nltF, hlt1, hd, hw, hws]; rfl) ?_
      exact ⟨i + 1, hlt, by omega, by simp, by simp [hW2], by simp, by rfl⟩
  · have hil : i = ps.length := by
      have : ¬ i < ps.length := by simpa using hc0
      omega
    subst hil
    rw [List.take_length]
    have hT := rD_take1_Int (withSt l x ps)
    rw [withSt_len] at hT
    refine DW.exit ?_
    refine DW.seq ?_
    refine DW.reg (by simp (maxSteps := 200000) (disch := first | omega | (simp; done) | fail) [wrapI, leT, leF, ltT, ltF, eqF, nleT, nleF, nltT, nltF]; rfl) ?_
    refine DW.ret ?_
    simp [Tryz.results52, withSt_len, hT]
theorem implWithState_spec (l ps : List Int) (x : Int) (hl : l.length ≤ 2 ^ 36) (hp : ps.length ≤ 2 ^ 36) : Spec Tryz.prog 63 [ra l, ra ps, ri x] [none] [dr (withSt l x ps)] [ra l, ra ps, ri x] := by
  refine Spec.intro Tryz.func63 rfl rfl Tryz.ntmps63 rfl (by simp) ?_
  have c1 : l.length * 8 ≤ 140737488355328 := by omega
  have c2 : l.length ≤ 140737488355328 := by omega
  refine DW.seq ?_
  refine DW.reg (by simp (maxSteps := 200000) (disch := first | omega | (simp; done) | fail) [wrapI, leT, leF, ltT, ltF, eqF, nleT, nleF, nltT, nltF]; rfl) ?_
  refine DW.seq ?_
  refine DW.regs ?_
  refine RegO.opN 1 (by simp (maxSteps := 200000) (disch := first | omega | (simp; done) | fail) [wrapI, leT, leF, ltT, ltF, eqF, nleT, nleF, nltT, nltF, c1, c2]; rfl) ?_
  refine RegO.step rfl (OpStep.callA rfl (by simp (maxSteps := 200000) (disch := first | omega | (simp; done) | fail) [wrapI, leT, leF, ltT, ltF, eqF, nleT, nleF, nltT, nltF, c1, c2]; exact ⟨rfl, rfl⟩) (by simp (maxSteps := 200000) (disch := first | omega | (simp; done) | fail) [wrapI, leT, leF, ltT, ltF, eqF, nleT, nleF, nltT, nltF, c1, c2]; rfl) (by exact cloneInt_spec _ hl) (by simp) (by simp (maxSteps := 200000) (disch := first | omega | (simp; done) | fail) [wrapI, leT, leF, ltT, ltF, eqF, nleT, nleF, nltT, nltF, c1, c2]; rfl)) ?_
  refine RegO.opN 1 (by simp (maxSteps := 200000) (disch := first | omega | (simp; done) | fail) [wrapI, leT, leF, ltT, ltF, eqF, nleT, nleF, nltT, nltF, c1, c2]; rfl) ?_
  refine RegO.nil ?_
  refine DW.seq ?_
  refine DW.seq ?_
  refine DW.reg (by simp (maxSteps := 200000) (disch := first | omega | (simp; done) | fail) [wrapI, leT, leF, ltT, ltF, eqF, nleT, nleF, nltT, nltF]; rfl) ?_
  refine DW.block ?_
  refine DW.loopS (α := Nat) (fun i => i ≤ ps.length) (fun i => ps.length - i) (fun i => [(14, vi i)]) (fun i => [(11, .hold [.ow () 1 l.length (rD (withSt l x (ps.take i)))])]) [(2, _), (7, _), (12, _), (13, _)] [] [] 0 (by simp) (by simp; exact ⟨rfl, rfl, rfl, rfl⟩) (by simp [withSt]) (by simp) (by rfl) ?_
  intro i hi
  refine DW.seq ?_
  refine DW.reg (by simp (maxSteps := 200000) (disch := first | omega | (simp; done) | fail) [wrapI, leT, leF, ltT, ltF, eqF, nleT, nleF, nltT, nltF]; rfl) ?_
  refine DW.seq ?_
  refine DW.condB (by simp (maxSteps := 200000) (disch := first | omega | (simp; done) | fail) [wrapI, leT, leF, ltT, ltF, eqF, nleT, nleF, nltT, nltF]; exact rfl) (fun hc0 => ?_) (fun hc0 => ?_)
  · have hlt : i < ps.length := by simpa using hc0
    have hlt1 : (i : Int) < ps.length := by omega
    have hd := rR_get_Int ps i hlt
    have hw := wr ((i : Int) + 1) (by omega) (by omega)
    have hws := wr ((l.length : Int) - 1) (by omega) (by omega)
    have hW := withSt_snoc x (ps.take i) l ps[i]
    rw [← take_succ' ps i hlt] at hW
    have hwl : (withSt l x (ps.take i)).length = l.length := withSt_len _ _ _
    rw [hwl] at hW
    generalize ps[i] = p at hd hW
    generalize (withSt l x (ps.take i)) = o at hW hwl ⊢
    refine DW.skip ?_
    refine DW.seq ?_
    refine DW.block ?_
    refine DW.seq ?_
    refine DW.reg (by simp (maxSteps := 200000) (disch := first | omega | (simp; done) | fail) [wrapI, leT, leF, ltT, ltF, eqF, nleT, nleF, nltT, nltF, hlt1, hd, hw, hws]; rfl) ?_
    refine DW.seq ?_
    refine DW.regs ?_
    refine RegO.opN 4 (by simp (maxSteps := 200000) (disch := first | omega | (simp; done) | fail) [wrapI, leT, leF, ltT, ltF, eqF, nleT, nleF, nltT, nltF, hlt1, hd, hw, hws]; rfl) ?_
    refine RegO.step rfl (OpStep.callA rfl (by simp (maxSteps := 200000) (disch := first | omega | (simp; done) | fail) [wrapI, leT, leF, ltT, ltF, eqF, nleT, nleF, nltT, nltF, hlt1, hd, hw, hws]; exact ⟨rfl, rfl⟩) (by simp (maxSteps := 200000) (disch := first | omega | (simp; done) | fail) [wrapI, leT, leF, ltT, ltF, eqF, nleT, nleF, nltT, nltF, hlt1, hd, hw, hws]; rfl) (by exact within_spec _ _ _) (by simp) (by simp (maxSteps := 200000) (disch := first | omega | (simp; done) | fail) [wrapI, leT, leF, ltT, ltF, eqF, nleT, nleF, nltT, nltF, hlt1, hd, hw, hws]; rfl)) ?_
    refine RegO.nil ?_
    refine DW.condB (by simp (maxSteps := 200000) (disch := first | omega | (simp; done) | fail) [wrapI, leT, leF, ltT, ltF, eqF, nleT, nleF, nltT, nltF, hlt1, hd, hw, hws]; exact rfl) (fun hc1 => ?_) (fun hc1 => ?_)
    · have hb : inB p 0 ((l.length : Int) - 1) = true := by simpa [hws] using hc1
      rw [if_pos hb] at hW
      have hb2 := inB_iff.1 hb
      have hp0 : 0 ≤ p := by omega
      have hp1 : p < l.length := by omega
      obtain ⟨j, rfl⟩ := Int.eq_ofNat_of_zero_le hp0
      have hjl : j < o.length := by omega
      rw [Int.toNat_natCast] at hW
      have hoj := rD_get_Int o j hjl
      have hset := rD_setI o j x
      have hW2 := hW
      refine DW.reg (by simp [hlt1, hd, hw, hws, hp0, hp1, hoj, hset]; rfl) ?_
      refine DW.norm [(2, _), (7, _), (12, _), (13, _), (14, _)] [(11, _)] [] (by simp [hlt1, hd, hw, hws, hp0, hp1, hoj, hset]; exact ⟨rfl, rfl, rfl, rfl, rfl⟩) (by simp [hlt1, hd, hw, hws, hp0, hp1, hoj, hset]; rfl) (by simp [hlt1, hd, hw, hws, hp0, hp1, hoj, hset]) (by rfl) ?_
      refine DW.reg (by simp (maxSteps := 200000) (disch := first | omega | (simp; done) | fail) [wrapI, leT, leF, ltT, ltF, eqF, nleT, nleF, nltT, nltF, hlt1, hd, hw, hws, hp0, hp1, hoj, hset]; rfl) ?_
      exact ⟨i + 1, hlt, by omega, by simp, by simp [hW2], by simp, by rfl⟩
    · have hb : inB p 0 ((l.length : Int) - 1) = false := by simpa [hws] using hc1
      rw [if_neg (by rw [hb]; simp)] at hW
      have hW2 := hW
      refine DW.skip ?_
      refine DW.reg (by simp (maxSteps := 200000) (disch := first | omega | (simp; done) | fail) [wrapI, leT, leF, ltT, ltF, eqF, nleT, nleF, nltT, nltF, hlt1, hd, hw, hws]; rfl) ?_
      exact ⟨i + 1, hlt, by omega, by simp, by simp [hW2], by simp, by rfl⟩
  · have hil : i = ps.length := by
      have : ¬ i < ps.length := by simpa using hc0
      omega
    subst hil
    rw [List.take_length]
    have hT := rD_take1_Int (withSt l x ps)
    rw [withSt_len] at hT
    refine DW.exit ?_
    refine DW.seq ?_
    refine DW.reg (by simp (maxSteps := 200000) (disch := first | omega | (simp; done) | fail) [wrapI, leT, leF, ltT, ltF, eqF, nleT, nleF, nltT, nltF]; rfl) ?_
    refine DW.ret ?_
    simp [Tryz.results63, withSt_len, hT]
@[simp] theorem writesR_take (x : Int) (ws : List ByteArray) (i : Nat) : (rD (writesFrom x ws i)).take (i * 2) = rD (writesFrom x ws i) := by have := rD_take_Write (writesFrom x ws i); rwa [writesFrom_len] at this
@[simp] theorem writesR_len (x : Int) (ws : List ByteArray) (i : Nat) : (rD (writesFrom x ws i)).length = i * 2 := by rw [rD_len_Write, writesFrom_len]
theorem impl_writesAt_spec (x : Int) (ws : List ByteArray) (h0 : 0 ≤ x) (h1 : x ≤ 1000000) (hl : ws.length ≤ 1000000) : Spec Tryz.prog 58 [ri x, ra ws] [none] [dr (writesOf x ws)] [ri x, ra ws] := by
  refine Spec.intro Tryz.func58 rfl rfl Tryz.ntmps58 rfl (by simp) ?_
  refine DW.seq ?_
  refine DW.reg (by simp (maxSteps := 200000) (disch := first | omega | (simp; done) | fail) [wrapI, leT, leF, ltT, ltF, eqF, nleT, nleF, nltT, nltF]; rfl) ?_
  refine DW.seq ?_
  refine DW.reg (by simp (maxSteps := 200000) (disch := first | omega | (simp; done) | fail) [wrapI, leT, leF, ltT, ltF, eqF, nleT, nleF, nltT, nltF]; rfl) ?_
  refine DW.ghost (Ghost.nlRow 5 23 2 (by simp) (by simp)) ?_
  refine DW.seq ?_
  refine DW.seq ?_
  refine DW.reg (by simp (maxSteps := 200000) (disch := first | omega | (simp; done) | fail) [wrapI, leT, leF, ltT, ltF, eqF, nleT, nleF, nltT, nltF]; rfl) ?_
  refine DW.block ?_
  refine DW.loopS (α := Nat) (fun i => i ≤ ws.length) (fun i => ws.length - i) (fun i => [(11, vi i), (5, .v (.one (.sl 23 [] 0 i)))]) (fun i => [(23, .ow () 2 i (rD (writesFrom (x) ws i)))]) [(0, _), (9, _), (10, _)] [] [] 0 (by simp) (by simp; exact ⟨rfl, rfl, rfl⟩) (by simp [writesFrom]) (by simp) (by rfl) ?_
  intro i hi
  refine DW.seq ?_
  refine DW.reg (by simp (maxSteps := 200000) (disch := first | omega | (simp; done) | fail) [wrapI, leT, leF, ltT, ltF, eqF, nleT, nleF, nltT, nltF]; rfl) ?_
  refine DW.seq ?_
  refine DW.condB (by simp (maxSteps := 200000) (disch := first | omega | (simp; done) | fail) [wrapI, leT, leF, ltT, ltF, eqF, nleT, nleF, nltT, nltF]; exact rfl) (fun hc0 => ?_) (fun hc0 => ?_)
  · have hlt : i < ws.length := by simpa using hc0
    have hlt1 : (i : Int) < ws.length := by omega
    have hd := rR_get_ByteArray ws i hlt
    have hw := wr ((i : Int) + 1) (by omega) (by omega)
    have hwa := wr (x + (i : Int)) (by omega) (by omega)
    have hR := writesFrom_succ (x) ws i hlt
    have b1 : (i + 1) * 24 ≤ 140737488355328 := by omega
    have b2 : i + 1 ≤ 140737488355328 := by omega
    have b3 : (i + 1) * 2 ≤ i * 2 + 2 := by omega
    generalize ws[i] = c at hd hR
    have hRd : rD [(⟨x + (i : Int), c⟩ : Write)] = [T.sc (.int .i64 (x + (i : Int))), T.sc (.string c)] := rfl
    refine DW.skip ?_
    refine DW.seq ?_
    refine DW.block ?_
    refine DW.seq ?_
    refine DW.reg (by simp (maxSteps := 200000) (disch := first | omega | (simp; done) | fail) [wrapI, leT, leF, ltT, ltF, eqF, nleT, nleF, nltT, nltF, hlt1, hd, hw, hwa, b1, b2, b3]; rfl) ?_
    refine DW.reg (by simp [hlt1, hd, hw, hwa, b1, b2, b3]; rfl) ?_
    refine DW.norm [(0, _), (5, _), (9, _), (10, _), (11, _)] [(23, _)] [] (by simp [hlt1, hd, hw, hwa, b1, b2, b3]; exact ⟨rfl, rfl, rfl, rfl, rfl⟩) (by simp [hlt1, hd, hw, hwa, b1, b2, b3]; rfl) (by simp [hlt1, hd, hw, hwa, b1, b2, b3]) (by rfl) ?_
    refine DW.reg (by simp (maxSteps := 200000) (disch := first | omega | (simp; done) | fail) [wrapI, leT, leF, ltT, ltF, eqF, nleT, nleF, nltT, nltF, hlt1, hd, hw, hwa, b1, b2, b3]; rfl) ?_
    exact ⟨i + 1, hlt, by omega, by simp, by simp [hR, rD_append, hRd], by simp, by rfl⟩
  · have hil : i = ws.length := by
      have : ¬ i < ws.length := by simpa using hc0
      omega
    subst hil
    refine DW.exit ?_
    refine DW.seq ?_
    refine DW.reg (by simp (maxSteps := 200000) (disch := first | omega | (simp; done) | fail) [wrapI, leT, leF, ltT, ltF, eqF, nleT, nleF, nltT, nltF]; rfl) ?_
    refine DW.ret ?_
    simp [Tryz.results58]
theorem l21Page_spec (g : Geo) (t p : Int) (b : ByteArray) (hg : GeoIn g) (hp : 0 ≤ p ∧ p ≤ 1000) (hb : b.size ≤ 20000) (h0 : 0 ≤ pageAt g t p) (h1 : pageAt g t p ≤ 1000000) : Spec Tryz.prog 48 [raGeo g, ri t, ri p, rs b] [none] [dr (writesOf (pageAt g t p) (wordsB b))] [raGeo g, ri t, ri p, rs b] := by
  refine Spec.intro Tryz.func48 rfl rfl Tryz.ntmps48 rfl (by simp) ?_
  have hwl : (wordsB b).length ≤ 2508 := by simp; omega
  obtain ⟨ws, hws⟩ : ∃ ws, ws = wordsB b := ⟨_, rfl⟩
  have hS : Spec Tryz.prog 115 [rs b] [none] [dr ws] [rs b] := hws ▸ specWordsOf_spec b hb
  rw [← hws] at hwl ⊢
  refine DW.seq ?_
  refine DW.reg (by simp (maxSteps := 200000) (disch := first | omega | (simp; done) | fail) [wrapI, leT, leF, ltT, ltF, eqF, nleT, nleF, nltT, nltF]; rfl) ?_
  refine DW.seq ?_
  refine DW.regs ?_
  refine RegO.opN 1 (by simp (maxSteps := 200000) (disch := first | omega | (simp; done) | fail) [wrapI, leT, leF, ltT, ltF, eqF, nleT, nleF, nltT, nltF]; rfl) ?_
  refine RegO.step rfl (OpStep.callA rfl (by simp (maxSteps := 200000) (disch := first | omega | (simp; done) | fail) [wrapI, leT, leF, ltT, ltF, eqF, nleT, nleF, nltT, nltF]; exact ⟨rfl, rfl⟩) (by simp (maxSteps := 200000) (disch := first | omega | (simp; done) | fail) [wrapI, leT, leF, ltT, ltF, eqF, nleT, nleF, nltT, nltF]; rfl) (by exact hS) (by simp) (by simp (maxSteps := 200000) (disch := first | omega | (simp; done) | fail) [wrapI, leT, leF, ltT, ltF, eqF, nleT, nleF, nltT, nltF]; rfl)) ?_
  refine RegO.opN 1 (by simp (maxSteps := 200000) (disch := first | omega | (simp; done) | fail) [wrapI, leT, leF, ltT, ltF, eqF, nleT, nleF, nltT, nltF]; rfl) ?_
  refine RegO.nil ?_
  refine DW.seq ?_
  refine DW.reg (by simp (maxSteps := 200000) (disch := first | omega | (simp; done) | fail) [wrapI, leT, leF, ltT, ltF, eqF, nleT, nleF, nltT, nltF]; rfl) ?_
  refine DW.ghost (Ghost.nlRow 10 34 2 (by simp) (by simp)) ?_
  refine DW.seq ?_
  refine DW.seq ?_
  refine DW.reg (by simp (maxSteps := 200000) (disch := first | omega | (simp; done) | fail) [wrapI, leT, leF, ltT, ltF, eqF, nleT, nleF, nltT, nltF]; rfl) ?_
  refine DW.block ?_
  refine DW.loopS (α := Nat) (fun i => i ≤ ws.length) (fun i => ws.length - i) (fun i => [(11, vi i), (10, .v (.one (.sl 34 [] 0 i)))]) (fun i => [(34, .ow () 2 i (rD (writesFrom (pageAt g t p) ws i)))]) [(1, _), (2, _), (4, _), (9, _)] [(4, _), (13, _)] [] 0 (by simp) (by simp; exact ⟨rfl, rfl, rfl, rfl⟩) (by simp [writesFrom]; exact ⟨rfl, rfl⟩) (by simp) (by rfl) ?_
  intro i hi
  refine DW.seq ?_
  refine DW.seq ?_
  refine DW.reg (by simp (maxSteps := 200000) (disch := first | omega | (simp; done) | fail) [wrapI, leT, leF, ltT, ltF, eqF, nleT, nleF, nltT, nltF]; rfl) ?_
  refine DW.condB (by simp (maxSteps := 200000) (disch := first | omega | (simp; done) | fail) [wrapI, leT, leF, ltT, ltF, eqF, nleT, nleF, nltT, nltF]; exact rfl) (fun hc0 => ?_) (fun hc0 => ?_)
  · have hlt : i < ws.length := by simpa using hc0
    have hlt1 : (i : Int) < ws.length := by omega
    have hd := rD_get_ByteArray ws i hlt
    have hw := wr ((i : Int) + 1) (by omega) (by omega)
    have hwa := wr (pageAt g t p + (i : Int)) (by omega) (by omega)
    have hR := writesFrom_succ (pageAt g t p) ws i hlt
    have b1 : (i + 1) * 24 ≤ 140737488355328 := by omega
    have b2 : i + 1 ≤ 140737488355328 := by omega
    have b3 : (i + 1) * 2 ≤ i * 2 + 2 := by omega
    generalize ws[i] = c at hd hR
    have hRd : rD [(⟨pageAt g t p + (i : Int), c⟩ : Write)] = [T.sc (.int .i64 (pageAt g t p + (i : Int))), T.sc (.string c)] := rfl
    refine DW.skip ?_
    refine DW.seq ?_
    refine DW.block ?_
    refine DW.drawn mixed (by kernel_rfl) ?_
    refine RegD.addN 4 (by simp [hlt1, hd, hw, hwa, b1, b2, b3]; (first | (simp (disch := omega) only [wrapI]; done) | (simp (disch := omega) only [wrapI]; exact ⟨rfl, rfl⟩) | skip); (first | done | exact ⟨rfl, rfl⟩ | rfl)) ?_
    refine RegD.cert (Cert.callA rfl (by simp) rfl (by decide) (by simp [hlt1, hd, hw, hwa, b1, b2, b3]; exact ⟨rfl, rfl⟩) (by simp [hlt1, hd, hw, hwa, b1, b2, b3]; rfl) (by exact specPageAt_spec g t p hg hp) rfl (by simp) (by simp; rfl) rfl) ?_
    refine RegD.addN 7 (by simp [hlt1, hd, hw, hwa, b1, b2, b3]; (first | (simp (disch := omega) only [wrapI]; done) | (simp (disch := omega) only [wrapI]; exact ⟨rfl, rfl⟩) | skip); (first | done | exact ⟨rfl, rfl⟩ | rfl)) ?_
    refine RegD.cert (Cert.buildRo (rcs := [.sc (.int .i64 (pageAt g t p + (i : Int))), .sc (.string c)]) rfl rfl rfl (by decide) (by simp; exact ⟨rfl, rfl⟩) (by simp; rfl) (by simp; rfl) (by rfl) (by decide) (by decide) (by simp [hlt1, hd, hw, hwa, b1, b2, b3]; rfl) (by simp [hlt1, hd, hw, hwa, b1, b2, b3]; rfl) (by rfl) (by simp)) ?_
    refine RegD.heavyF (by simp) (by simp [hlt1, hd, hw, hwa, b1, b2, b3]; rfl) ?_
    refine RegD.addN 1 (by simp [hlt1, hd, hw, hwa, b1, b2, b3]; (first | (simp (disch := omega) only [wrapI]; done) | (simp (disch := omega) only [wrapI]; exact ⟨rfl, rfl⟩) | skip); (first | done | exact ⟨rfl, rfl⟩ | rfl)) ?_
    refine RegD.nil ⟨by kernel_rfl, ?_⟩
    refine DW.norm [(1, _), (2, _), (4, _), (9, _), (10, _), (11, _)] [(34, _), (4, _), (13, _)] [] (by simp [hlt1, hd, hw, hwa, b1, b2, b3]; exact ⟨rfl, rfl, rfl, rfl, rfl, rfl⟩) (by simp [hlt1, hd, hw, hwa, b1, b2, b3]; exact ⟨rfl, rfl, rfl⟩) (by simp [hlt1, hd, hw, hwa, b1, b2, b3]) (by rfl) ?_
    refine DW.reg (by simp (maxSteps := 200000) (disch := first | omega | (simp; done) | fail) [wrapI, leT, leF, ltT, ltF, eqF, nleT, nleF, nltT, nltF, hlt1, hd, hw, hwa, b1, b2, b3]; rfl) ?_
    exact ⟨i + 1, hlt, by omega, by simp, by simp [hR, rD_append, hRd], by simp, by rfl⟩
  · have hil : i = ws.length := by
      have : ¬ i < ws.length := by simpa using hc0
      omega
    subst hil
    refine DW.exit ?_
    refine DW.seq ?_
    refine DW.reg (by simp (maxSteps := 200000) (disch := first | omega | (simp; done) | fail) [wrapI, leT, leF, ltT, ltF, eqF, nleT, nleF, nltT, nltF]; rfl) ?_
    refine DW.ret ?_
    simp [Tryz.results48]
theorem l21States_spec (g : Geo) (t : Int) (l : List Int) (ok : stOk l l.length = true) (h0 : 0 ≤ placeIn g t 36) (h1 : placeIn g t 36 ≤ 1000000) : Spec Tryz.prog 51 [raGeo g, ri t, ra l] [none] [dr (writesOf (placeIn g t 36) (stWords l))] [raGeo g, ri t, ra l] := by
  refine Spec.intro Tryz.func51 rfl rfl Tryz.ntmps51 rfl (by simp) ?_
  have hwl : (stWords l).length ≤ 2508 := by simp [stWords, ok]
  refine DW.seq ?_
  refine DW.reg (by simp (maxSteps := 200000) (disch := first | omega | (simp; done) | fail) [wrapI, leT, leF, ltT, ltF, eqF, nleT, nleF, nltT, nltF]; rfl) ?_
  refine DW.seq ?_
  refine DW.regs ?_
  refine RegO.opN 1 (by simp (maxSteps := 200000) (disch := first | omega | (simp; done) | fail) [wrapI, leT, leF, ltT, ltF, eqF, nleT, nleF, nltT, nltF]; rfl) ?_
  refine RegO.step rfl (OpStep.callA rfl (by simp (maxSteps := 200000) (disch := first | omega | (simp; done) | fail) [wrapI, leT, leF, ltT, ltF, eqF, nleT, nleF, nltT, nltF]; exact ⟨rfl, rfl⟩) (by simp (maxSteps := 200000) (disch := first | omega | (simp; done) | fail) [wrapI, leT, leF, ltT, ltF, eqF, nleT, nleF, nltT, nltF]; rfl) (by exact specStatesWords_spec l ok) (by simp) (by simp (maxSteps := 200000) (disch := first | omega | (simp; done) | fail) [wrapI, leT, leF, ltT, ltF, eqF, nleT, nleF, nltT, nltF]; rfl)) ?_
  refine RegO.opN 1 (by simp (maxSteps := 200000) (disch := first | omega | (simp; done) | fail) [wrapI, leT, leF, ltT, ltF, eqF, nleT, nleF, nltT, nltF]; rfl) ?_
  refine RegO.nil ?_
  generalize stWords l = ws at *
  refine DW.seq ?_
  refine DW.reg (by simp (maxSteps := 200000) (disch := first | omega | (simp; done) | fail) [wrapI, leT, leF, ltT, ltF, eqF, nleT, nleF, nltT, nltF]; rfl) ?_
  refine DW.ghost (Ghost.nlRow 8 31 2 (by simp) (by simp)) ?_
  refine DW.seq ?_
  refine DW.seq ?_
  refine DW.reg (by simp (maxSteps := 200000) (disch := first | omega | (simp; done) | fail) [wrapI, leT, leF, ltT, ltF, eqF, nleT, nleF, nltT, nltF]; rfl) ?_
  refine DW.block ?_
  refine DW.loopS (α := Nat) (fun i => i ≤ ws.length) (fun i => ws.length - i) (fun i => [(9, vi i), (8, .v (.one (.sl 31 [] 0 i)))]) (fun i => [(31, .ow () 2 i (rD (writesFrom (placeIn g t 36) ws i)))]) [(1, _), (3, _), (7, _)] [(3, _), (11, _)] [] 0 (by simp) (by simp; exact ⟨rfl, rfl, rfl⟩) (by simp [writesFrom]; exact ⟨rfl, rfl⟩) (by simp) (by rfl) ?_
  intro i hi
  refine DW.seq ?_
  refine DW.seq ?_
  refine DW.reg (by simp (maxSteps := 200000) (disch := first | omega | (simp; done) | fail) [wrapI, leT, leF, ltT, ltF, eqF, nleT, nleF, nltT, nltF]; rfl) ?_
  refine DW.condB (by simp (maxSteps := 200000) (disch := first | omega | (simp; done) | fail) [wrapI, leT, leF, ltT, ltF, eqF, nleT, nleF, nltT, nltF]; exact rfl) (fun hc0 => ?_) (fun hc0 => ?_)
  · have hlt : i < ws.length := by simpa using hc0
    have hlt1 : (i : Int) < ws.length := by omega
    have hd := rD_get_ByteArray ws i hlt
    have hw := wr ((i : Int) + 1) (by omega) (by omega)
    have hwa := wr (placeIn g t 36 + (i : Int)) (by omega) (by omega)
    have hR := writesFrom_succ (placeIn g t 36) ws i hlt
    have b1 : (i + 1) * 24 ≤ 140737488355328 := by omega
    have b2 : i + 1 ≤ 140737488355328 := by omega
    have b3 : (i + 1) * 2 ≤ i * 2 + 2 := by omega
    generalize ws[i] = c at hd hR
    have hRd : rD [(⟨placeIn g t 36 + (i : Int), c⟩ : Write)] = [T.sc (.int .i64 (placeIn g t 36 + (i : Int))), T.sc (.string c)] := rfl
    refine DW.skip ?_
    refine DW.seq ?_
    refine DW.block ?_
    refine DW.drawn mixed (by kernel_rfl) ?_
    refine RegD.addN 3 (by simp [hlt1, hd, hw, hwa, b1, b2, b3]; (first | (simp (disch := omega) only [wrapI]; done) | (simp (disch := omega) only [wrapI]; exact ⟨rfl, rfl⟩) | skip); (first | done | exact ⟨rfl, rfl⟩ | rfl)) ?_
    refine RegD.cert (Cert.callA rfl (by simp) rfl (by decide) (by simp [hlt1, hd, hw, hwa, b1, b2, b3]; exact ⟨rfl, rfl⟩) (by simp [hlt1, hd, hw, hwa, b1, b2, b3]; rfl) (by exact l11At_spec g t 36 (by omega) (by omega)) rfl (by simp) (by simp; rfl) rfl) ?_
    refine RegD.addN 7 (by simp [hlt1, hd, hw, hwa, b1, b2, b3]; (first | (simp (disch := omega) only [wrapI]; done) | (simp (disch := omega) only [wrapI]; exact ⟨rfl, rfl⟩) | skip); (first | done | exact ⟨rfl, rfl⟩ | rfl)) ?_
    refine RegD.cert (Cert.buildRo (rcs := [.sc (.int .i64 (placeIn g t 36 + (i : Int))), .sc (.string c)]) rfl rfl rfl (by decide) (by simp; exact ⟨rfl, rfl⟩) (by simp; rfl) (by simp; rfl) (by rfl) (by decide) (by decide) (by simp [hlt1, hd, hw, hwa, b1, b2, b3]; rfl) (by simp [hlt1, hd, hw, hwa, b1, b2, b3]; rfl) (by rfl) (by simp)) ?_
    refine RegD.heavyF (by simp) (by simp [hlt1, hd, hw, hwa, b1, b2, b3]; rfl) ?_
    refine RegD.addN 1 (by simp [hlt1, hd, hw, hwa, b1, b2, b3]; (first | (simp (disch := omega) only [wrapI]; done) | (simp (disch := omega) only [wrapI]; exact ⟨rfl, rfl⟩) | skip); (first | done | exact ⟨rfl, rfl⟩ | rfl)) ?_
    refine RegD.nil ⟨by kernel_rfl, ?_⟩
    refine DW.norm [(1, _), (3, _), (7, _), (8, _), (9, _)] [(31, _), (3, _), (11, _)] [] (by simp [hlt1, hd, hw, hwa, b1, b2, b3]; exact ⟨rfl, rfl, rfl, rfl, rfl⟩) (by simp [hlt1, hd, hw, hwa, b1, b2, b3]; exact ⟨rfl, rfl, rfl⟩) (by simp [hlt1, hd, hw, hwa, b1, b2, b3]) (by rfl) ?_
    refine DW.reg (by simp (maxSteps := 200000) (disch := first | omega | (simp; done) | fail) [wrapI, leT, leF, ltT, ltF, eqF, nleT, nleF, nltT, nltF, hlt1, hd, hw, hwa, b1, b2, b3]; rfl) ?_
    exact ⟨i + 1, hlt, by omega, by simp, by simp [hR, rD_append, hRd], by simp, by rfl⟩
  · have hil : i = ws.length := by
      have : ¬ i < ws.length := by simpa using hc0
      omega
    subst hil
    refine DW.exit ?_
    refine DW.seq ?_
    refine DW.reg (by simp (maxSteps := 200000) (disch := first | omega | (simp; done) | fail) [wrapI, leT, leF, ltT, ltF, eqF, nleT, nleF, nltT, nltF]; rfl) ?_
    refine DW.ret ?_
    simp [Tryz.results51]
end Go.Proofs.YtjjdjkkhhcbogaaGreat.DM
