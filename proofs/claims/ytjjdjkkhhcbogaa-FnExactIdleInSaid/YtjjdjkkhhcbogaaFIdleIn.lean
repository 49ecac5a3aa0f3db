import Derived.Test.YtjjdjkkhhcbogaaFIdleFam
namespace Go.Proofs.Ytjjdjkkhhcbogaa.DM
set_option linter.unusedVariables false
set_option linter.unusedSimpArgs false
set_option maxRecDepth 4000
set_option maxHeartbeats 8000000
/-- The jobs that are not busy. -/
def idleIn (l : List Job) (n : Nat) : List Int := ((List.range n).filter fun i => match l[i]? with | some j => !j.Busy | none => false).map fun (i : Nat) => (i : Int)
theorem idleIn_succ (l : List Job) (i : Nat) (h : i < l.length) : idleIn l (i + 1) = idleIn l i ++ (if l[i].Busy = true then [] else [(i : Int)]) := by
  simp only [idleIn, List.range_succ, List.filter_append, List.map_append]; congr 1; cases hb : l[i].Busy <;> simp [h, hb]
theorem idleIn_len (l : List Job) (n : Nat) : (idleIn l n).length ≤ n := by
  have := List.length_filter_le (fun i => match l[i]? with | some j => !j.Busy | none => false) (List.range n)
  simpa [idleIn] using this
theorem szL_int : ∀ l : List Int, szL l = l.length
  | [] => rfl
  | x :: l => by simp only [szL, szL_int l, List.length_cons]; show 1 + 0 + l.length = _; omega
theorem specIdleIn_spec (s : System) (h : Row.sz s ≤ 2 ^ 36) : Spec Try.prog 57 [raSystem s] [none] [dr (idleIn s.Jobs s.Jobs.length)] [raSystem s] := by
  refine Spec.intro Try.func57 rfl rfl Try.ntmps57 rfl (by simp) ?_
  have hz := System_sz s
  have hll := szL_len s.Jobs
  refine DW.seq ?_
  refine DW.reg (by simp; rfl) ?_
  refine DW.seq ?_
  refine DW.reg (by simp; rfl) ?_
  refine DW.seq ?_
  refine DW.seq ?_
  refine DW.reg (by simp; rfl) ?_
  refine DW.ghost (Ghost.nlRow 3 23 1 (by simp) (by simp)) ?_
  refine DW.block ?_
  refine DW.loopS (α := Nat) (fun i => i ≤ s.Jobs.length) (fun i => s.Jobs.length - i) (fun i => [(4, vi i), (3, .v (.one (.sl 23 [] 0 (idleIn s.Jobs i).length)))]) (fun i => [(23, .ow () 1 (idleIn s.Jobs i).length (rD (idleIn s.Jobs i)))]) [(1, _)] [(1, _)] [] 0 (by simp) (by simp [idleIn]; rfl) (by simp [idleIn]; rfl) (by simp) (by rfl) ?_
  intro i hi
  refine DW.seq ?_
  refine DW.seq ?_
  refine DW.reg (by simp; rfl) ?_
  refine DW.condB (by simp; exact rfl) (fun hc0 => ?_) (fun hc0 => ?_)
  · have hlt : i < s.Jobs.length := by simpa using hc0
    have hd := rR_drop_Job s.Jobs i hlt
    have hR := idleIn_succ s.Jobs i hlt
    have hlt' : (i : Int) < s.Jobs.length := by omega
    have w1 : IntKind.i64.wrap ((i : Int) + 1) = ((i + 1 : Nat) : Int) := (wr _ (by omega) (by omega)).trans (by omega)
    have hrl := idleIn_len s.Jobs i
    have hb1 : ((idleIn s.Jobs i).length + 1) * 8 ≤ 140737488355328 := by omega
    have hb2 : (idleIn s.Jobs i).length + 1 ≤ 140737488355328 := by omega
    generalize s.Jobs[i] = c at hd hR
    have hRd : rD [(i : Int)] = [T.sc (.int .i64 i)] := rfl
    refine DW.skip ?_
    refine DW.seq ?_
    refine DW.block ?_
    refine DW.seq ?_
    refine DW.reg (by simp [hb1, hb2, hd, hlt']; rfl) ?_
    refine DW.condB (by simp [hb1, hb2]; exact rfl) (fun hc1 => ?_) (fun hc1 => ?_)
    · have hcc : c.Busy = false := by simpa using hc1
      simp [hcc] at hR
      refine DW.reg (by simp [hb1, hb2]; rfl) ?_
      refine DW.reg (by simp [hb1, hb2, w1]; rfl) ?_
      exact ⟨i + 1, hlt, by omega, by simp [hR], by simp [hR, rD_append, hRd], by simp, by rfl⟩
    · have hcc : c.Busy = true := by simpa using hc1
      simp [hcc] at hR
      refine DW.skip ?_
      refine DW.reg (by simp [hb1, hb2, w1]; rfl) ?_
      exact ⟨i + 1, hlt, by omega, by simp [hR], by simp [hR, rD_append, hRd], by simp, by rfl⟩
  · have hil : i = s.Jobs.length := by
      have : ¬ i < s.Jobs.length := by simpa using hc0
      omega
    subst hil
    refine DW.exit ?_
    refine DW.seq ?_
    refine DW.reg (by simp; rfl) ?_
    refine DW.ret ?_
    simp [Try.results57]
theorem implIdleIn_spec (s : System) (h : Row.sz s ≤ 2 ^ 36) : Spec Try.prog 59 [raSystem s] [none] [dr (idleIn s.Jobs s.Jobs.length)] [raSystem s] := by
  refine Spec.intro Try.func59 rfl rfl Try.ntmps59 rfl (by simp) ?_
  have hz := System_sz s
  have hll := szL_len s.Jobs
  refine DW.seq ?_
  refine DW.reg (by simp; rfl) ?_
  refine DW.seq ?_
  refine DW.reg (by simp; rfl) ?_
  refine DW.seq ?_
  refine DW.seq ?_
  refine DW.reg (by simp; rfl) ?_
  refine DW.ghost (Ghost.nlRow 3 21 1 (by simp) (by simp)) ?_
  refine DW.block ?_
  refine DW.loopS (α := Nat) (fun i => i ≤ s.Jobs.length) (fun i => s.Jobs.length - i) (fun i => [(10, vi i), (3, .v (.one (.sl 21 [] 0 (idleIn s.Jobs i).length)))]) (fun i => [(21, .ow () 1 (idleIn s.Jobs i).length (rD (idleIn s.Jobs i)))]) [(8, _), (9, _)] [] [] 0 (by simp) (by simp [idleIn]; exact ⟨rfl, rfl⟩) (by simp [idleIn]) (by simp) (by rfl) ?_
  intro i hi
  refine DW.seq ?_
  refine DW.reg (by simp; rfl) ?_
  refine DW.seq ?_
  refine DW.condB (by simp; exact rfl) (fun hc0 => ?_) (fun hc0 => ?_)
  · have hlt : i < s.Jobs.length := by simpa using hc0
    have hd := rR_drop_Job s.Jobs i hlt
    have hR := idleIn_succ s.Jobs i hlt
    have hlt' : (i : Int) < s.Jobs.length := by omega
    have w1 : IntKind.i64.wrap ((i : Int) + 1) = ((i + 1 : Nat) : Int) := (wr _ (by omega) (by omega)).trans (by omega)
    have hrl := idleIn_len s.Jobs i
    have hb1 : ((idleIn s.Jobs i).length + 1) * 8 ≤ 140737488355328 := by omega
    have hb2 : (idleIn s.Jobs i).length + 1 ≤ 140737488355328 := by omega
    generalize s.Jobs[i] = c at hd hR
    have hRd : rD [(i : Int)] = [T.sc (.int .i64 i)] := rfl
    refine DW.skip ?_
    refine DW.seq ?_
    refine DW.block ?_
    refine DW.seq ?_
    refine DW.reg (by simp [hb1, hb2, hd, hlt']; rfl) ?_
    refine DW.seq ?_
    refine DW.reg (by simp [hb1, hb2]; rfl) ?_
    refine DW.condB (by simp [hb1, hb2]; exact rfl) (fun hc1 => ?_) (fun hc1 => ?_)
    · have hcc : c.Busy = false := by simpa using hc1
      simp [hcc] at hR
      refine DW.reg (by simp [hb1, hb2]; rfl) ?_
      refine DW.reg (by simp [hb1, hb2, w1]; rfl) ?_
      exact ⟨i + 1, hlt, by omega, by simp [hR], by simp [hR, rD_append, hRd], by simp, by rfl⟩
    · have hcc : c.Busy = true := by simpa using hc1
      simp [hcc] at hR
      refine DW.skip ?_
      refine DW.reg (by simp [hb1, hb2, w1]; rfl) ?_
      exact ⟨i + 1, hlt, by omega, by simp [hR], by simp [hR, rD_append, hRd], by simp, by rfl⟩
  · have hil : i = s.Jobs.length := by
      have : ¬ i < s.Jobs.length := by simpa using hc0
      omega
    subst hil
    refine DW.exit ?_
    refine DW.seq ?_
    refine DW.reg (by simp; rfl) ?_
    refine DW.ret ?_
    simp [Try.results59]
end Go.Proofs.Ytjjdjkkhhcbogaa.DM
