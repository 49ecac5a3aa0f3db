import Derived.Test.YtciieaidbiejmaaAS1
namespace Go.Proofs.Ytciieaidbiejmaa.DM
set_option linter.unusedVariables false
set_option linter.unusedSimpArgs false
set_option maxRecDepth 4000
set_option maxHeartbeats 8000000
theorem joinN0 : joinN [] = ByteArray.empty := rfl
theorem rD_takeB (l : List ByteArray) (n : Nat) : (rD l).take n = rD (l.take n) := by
  have h : ∀ l : List ByteArray, rD l = l.map fun x => (.sc (.string x) : D) := by
    intro l
    induction l with
    | nil => rfl
    | cons x l ih => rw [rD_cons, ih]; rfl
  rw [h, h, List.map_take]
theorem joinPath_spec (l : List ByteArray) (hl : l.length ≤ 60) (hx60 : ∀ x ∈ l, x.size ≤ 60) : Spec Try.prog 39 [ra l] [none] [ds (joinP l)] [ra l] := by
  refine Spec.intro Try.func39 rfl rfl Try.ntmps39 rfl (by simp) ?_
  refine DW.seq ?_
  refine DW.reg (by simp (maxSteps := 200000) (disch := first | omega | (simp; done) | fail) [wrapI, leT, leF, ltT, ltF, eqF, nleT, nleF, nltT, nltF]; rfl) ?_
  refine DW.seq ?_
  refine DW.seq ?_
  refine DW.reg (by simp (maxSteps := 200000) (disch := first | omega | (simp; done) | fail) [wrapI, leT, leF, ltT, ltF, eqF, nleT, nleF, nltT, nltF]; rfl) ?_
  refine DW.condB (by simp (maxSteps := 200000) (disch := first | omega | (simp; done) | fail) [wrapI, leT, leF, ltT, ltF, eqF, nleT, nleF, nltT, nltF]; exact rfl) (fun hc0 => ?_) (fun hc0 => ?_)
  · have hl0 : l.length = 0 := by
      have : (l.length : Int) = 0 := by simpa using hc0
      omega
    have hres : joinP l = rootB := by unfold joinP; rw [if_pos hl0]
    rw [hres]
    refine DW.seq ?_
    refine DW.reg (by simp (maxSteps := 200000) (disch := first | omega | (simp; done) | fail) [wrapI, leT, leF, ltT, ltF, eqF, nleT, nleF, nltT, nltF]; rfl) ?_
    refine DW.ret ?_
    simp [Try.results39]
  · have hl0 : ¬ l.length = 0 := by
      have : ¬ (l.length : Int) = 0 := by simpa using hc0
      omega
    have hres : joinP l = joinN l := by unfold joinP; rw [if_neg hl0]
    rw [hres]
    refine DW.skip ?_
    refine DW.seq ?_
    refine DW.reg (by simp (maxSteps := 200000) (disch := first | omega | (simp; done) | fail) [wrapI, leT, leF, ltT, ltF, eqF, nleT, nleF, nltT, nltF]; rfl) ?_
    refine DW.seq ?_
    refine DW.seq ?_
    refine DW.reg (by simp (maxSteps := 200000) (disch := first | omega | (simp; done) | fail) [wrapI, leT, leF, ltT, ltF, eqF, nleT, nleF, nltT, nltF]; rfl) ?_
    refine DW.block ?_
    refine DW.loopS (α := Nat) (fun i => i ≤ l.length) (fun i => l.length - i) (fun i => [(4, vi i), (3, vs (joinN (l.take i)))]) (fun i => []) [(0, _)] [] [] 0 (Nat.zero_le _) (by simp [joinN0]; exact rfl) (by simp [joinN0]) (by simp) (by rfl) ?_
    intro i hi
    refine DW.seq ?_
    refine DW.seq ?_
    refine DW.reg (by simp (maxSteps := 200000) (disch := first | omega | (simp; done) | fail) [wrapI, leT, leF, ltT, ltF, eqF, nleT, nleF, nltT, nltF]; rfl) ?_
    refine DW.condB (by simp (maxSteps := 200000) (disch := first | omega | (simp; done) | fail) [wrapI, leT, leF, ltT, ltF, eqF, nleT, nleF, nltT, nltF]; exact rfl) (fun hc1 => ?_) (fun hc1 => ?_)
    · have hlt : i < l.length := by simpa using hc1
      have hlt1 : (i : Int) < l.length := by omega
      have hd := rR_get_ByteArray l i hlt
      have hw := wr ((i : Int) + 1) (by omega) (by omega)
      have hR := joinN_succ l i hlt
      have hsz := joinN_size (l.take i) 60 (fun x hx => hx60 x (List.mem_of_mem_take hx))
      rw [List.length_take, Nat.min_eq_left hi] at hsz
      have hs3 : i * 61 ≤ 60 * 61 := Nat.mul_le_mul_right _ (by omega)
      have hxs := hx60 _ (List.getElem_mem hlt)
      generalize l[i] = x at hd hR hxs
      generalize joinN (l.take i) = s0 at hR hsz ⊢
      have hr1 : rootB.size = 1 := rfl
      have hs1 : ¬ (9223372036854775807 : Int) < (s0.size : Int) + (rootB.size : Int) := by omega
      have hsa : (s0 ++ rootB).size = s0.size + 1 := by rw [ByteArray.size_append]; rfl
      have hs2 : ¬ (9223372036854775807 : Int) < ((s0 ++ rootB).size : Int) + (x.size : Int) := by omega
      refine DW.skip ?_
      refine DW.seq ?_
      refine DW.block ?_
      refine DW.reg (by simp (maxSteps := 200000) (disch := first | omega | (simp; done) | fail) [wrapI, leT, leF, ltT, ltF, eqF, nleT, nleF, nltT, nltF, hlt1, hd, hw, hsz, hxs, hs1, hs2]; rfl) ?_
      refine DW.reg (by simp (maxSteps := 200000) (disch := first | omega | (simp; done) | fail) [wrapI, leT, leF, ltT, ltF, eqF, nleT, nleF, nltT, nltF, hlt1, hd, hw, hsz, hxs, hs1, hs2]; rfl) ?_
      exact ⟨i + 1, hlt, by omega, by simp [hR, hw], by simp, by simp, by rfl⟩
    · have hil : i = l.length := by
        have : ¬ i < l.length := by simpa using hc1
        omega
      subst hil
      rw [List.take_length]
      refine DW.exit ?_
      refine DW.seq ?_
      refine DW.reg (by simp (maxSteps := 200000) (disch := first | omega | (simp; done) | fail) [wrapI, leT, leF, ltT, ltF, eqF, nleT, nleF, nltT, nltF]; rfl) ?_
      refine DW.ret ?_
      simp [Try.results39]
theorem parentOf_spec (s : ByteArray) : Spec Try.prog 40 [rs s] [none] [ds (parentOf s)] [rs s] := by
  refine Spec.intro Try.func40 rfl rfl Try.ntmps40 rfl (by simp) ?_
  have hbd := splitP_bd s
  obtain ⟨ns, code, hns⟩ : ∃ ns code, splitP s = (ns, code) := ⟨_, _, rfl⟩
  have hsp := splitPath_spec s
  rw [hns] at hsp hbd
  simp only at hsp hbd
  have hT := rD_take1_ByteArray ns
  have hTl := rD_len_ByteArray ns
  refine DW.seq ?_
  refine DW.reg (by simp (maxSteps := 200000) (disch := first | omega | (simp; done) | fail) [wrapI, leT, leF, ltT, ltF, eqF, nleT, nleF, nltT, nltF, hT, hTl]; rfl) ?_
  refine DW.seq ?_
  refine DW.regs ?_
  refine RegO.opN 1 (by simp (maxSteps := 200000) (disch := first | omega | (simp; done) | fail) [wrapI, leT, leF, ltT, ltF, eqF, nleT, nleF, nltT, nltF, hT, hTl]; rfl) ?_
  refine RegO.step rfl (OpStep.callA rfl (by simp (maxSteps := 200000) (disch := first | omega | (simp; done) | fail) [wrapI, leT, leF, ltT, ltF, eqF, nleT, nleF, nltT, nltF, hT, hTl]; exact ⟨rfl, rfl⟩) (by simp (maxSteps := 200000) (disch := first | omega | (simp; done) | fail) [wrapI, leT, leF, ltT, ltF, eqF, nleT, nleF, nltT, nltF, hT, hTl]; rfl) (by exact hsp) (by simp) (by simp (maxSteps := 200000) (disch := first | omega | (simp; done) | fail) [wrapI, leT, leF, ltT, ltF, eqF, nleT, nleF, nltT, nltF, hT, hTl]; rfl)) ?_
  refine RegO.opN 5 (by simp (maxSteps := 200000) (disch := first | omega | (simp; done) | fail) [wrapI, leT, leF, ltT, ltF, eqF, nleT, nleF, nltT, nltF, hT, hTl]; rfl) ?_
  refine RegO.nil ?_
  refine DW.seq ?_
  refine DW.seq ?_
  have h3 : (¬ code = 0) ∨ (code = 0 ∧ ns.length = 0) ∨ (code = 0 ∧ ¬ ns.length = 0) := by omega
  rcases h3 with g0 | ⟨g0, g1⟩ | ⟨g0, g1⟩
  · have hres : parentOf s = ByteArray.empty := by simp [parentOf, hns, g0]
    rw [hres]
    have g0b : (code != 0) = true := by simpa using g0
    refine DW.reg (by simp (maxSteps := 200000) (disch := first | omega | (simp; done) | fail) [wrapI, leT, leF, ltT, ltF, eqF, nleT, nleF, nltT, nltF, hT, hTl, g0b]; rfl) ?_
    refine DW.condT (by simp (maxSteps := 200000) (disch := first | omega | (simp; done) | fail) [wrapI, leT, leF, ltT, ltF, eqF, nleT, nleF, nltT, nltF, hT, hTl, g0b]) ?_
    refine DW.seq ?_
    refine DW.reg (by simp (maxSteps := 200000) (disch := first | omega | (simp; done) | fail) [wrapI, leT, leF, ltT, ltF, eqF, nleT, nleF, nltT, nltF, hT, hTl, g0b]; rfl) ?_
    refine DW.ret ?_
    simp [Try.results40]
  · have hres : parentOf s = ByteArray.empty := by simp [parentOf, hns, g0, g1]
    rw [hres]
    have g0b : (code != 0) = false := by simpa using g0
    have g1b : ((ns.length : Int) == 0) = true := by rw [beq_iff_eq]; omega
    refine DW.reg (by simp (maxSteps := 200000) (disch := first | omega | (simp; done) | fail) [wrapI, leT, leF, ltT, ltF, eqF, nleT, nleF, nltT, nltF, hT, hTl, g0b, g1b]; rfl) ?_
    refine DW.condT (by simp (maxSteps := 200000) (disch := first | omega | (simp; done) | fail) [wrapI, leT, leF, ltT, ltF, eqF, nleT, nleF, nltT, nltF, hT, hTl, g0b, g1b]) ?_
    refine DW.seq ?_
    refine DW.reg (by simp (maxSteps := 200000) (disch := first | omega | (simp; done) | fail) [wrapI, leT, leF, ltT, ltF, eqF, nleT, nleF, nltT, nltF, hT, hTl, g0b, g1b]; rfl) ?_
    refine DW.ret ?_
    simp [Try.results40]
  · have g0b : (code != 0) = false := by simpa using g0
    have g1b : ((ns.length : Int) == 0) = false := by rw [beq_eq_false_iff_ne]; omega
    obtain ⟨n, hn⟩ : ∃ n, n = ns.length - 1 := ⟨_, rfl⟩
    have wn : IntKind.i64.wrap ((ns.length : Int) - 1) = (n : Int) := (wr _ (by omega) (by omega)).trans (by omega)
    have wn2 : (ns.length : Int) - 1 = (n : Int) := by omega
    have wn3 : IntKind.i64.wrap (n : Int) = (n : Int) := wr _ (by omega) (by omega)
    have hnl : n ≤ ns.length := by omega
    have hnl1 : n < ns.length := by omega
    have hnl2 : (n : Int) ≤ ns.length := by omega
    have hnl3 : (n : Int) < ns.length := by omega
    have hres : parentOf s = joinP (ns.take n) := by simp [parentOf, hns, g0, g1, hn]
    rw [hres]
    have hTk : List.take n (rD ns) = rD (ns.take n) := rD_takeB ns n
    have hTk2 : (ns.take n).length = n := by rw [List.length_take]; omega
    have hjp := joinPath_spec (ns.take n) (by omega) (fun x hx => hbd.2 x (List.mem_of_mem_take hx))
    simp only [ra, hTk2] at hjp
    refine DW.reg (by simp (maxSteps := 200000) (disch := first | omega | (simp; done) | fail) [wrapI, leT, leF, ltT, ltF, eqF, nleT, nleF, nltT, nltF, hT, hTl, g0b, g1b, wn, wn2, wn3, hnl, hnl1, hnl2, hnl3, hTk, hTk2]; rfl) ?_
    refine DW.condF (by simp (maxSteps := 200000) (disch := first | omega | (simp; done) | fail) [wrapI, leT, leF, ltT, ltF, eqF, nleT, nleF, nltT, nltF, hT, hTl, g0b, g1b, wn, wn2, wn3, hnl, hnl1, hnl2, hnl3, hTk, hTk2]) ?_
    refine DW.skip ?_
    refine DW.seq ?_
    refine DW.regs ?_
    refine RegO.opN 5 (by simp (maxSteps := 200000) (disch := first | omega | (simp; done) | fail) [wrapI, leT, leF, ltT, ltF, eqF, nleT, nleF, nltT, nltF, hT, hTl, g0b, g1b, wn, wn2, wn3, hnl, hnl1, hnl2, hnl3, hTk, hTk2]; rfl) ?_
    refine RegO.step rfl (OpStep.callA rfl (by simp (maxSteps := 200000) (disch := first | omega | (simp; done) | fail) [wrapI, leT, leF, ltT, ltF, eqF, nleT, nleF, nltT, nltF, hT, hTl, g0b, g1b, wn, wn2, wn3, hnl, hnl1, hnl2, hnl3, hTk, hTk2]; exact ⟨rfl, rfl⟩) (by simp (maxSteps := 200000) (disch := first | omega | (simp; done) | fail) [wrapI, leT, leF, ltT, ltF, eqF, nleT, nleF, nltT, nltF, hT, hTl, g0b, g1b, wn, wn2, wn3, hnl, hnl1, hnl2, hnl3, hTk, hTk2]; rfl) (by exact hjp) (by simp) (by simp (maxSteps := 200000) (disch := first | omega | (simp; done) | fail) [wrapI, leT, leF, ltT, ltF, eqF, nleT, nleF, nltT, nltF, hT, hTl, g0b, g1b, wn, wn2, wn3, hnl, hnl1, hnl2, hnl3, hTk, hTk2]; rfl)) ?_
    refine RegO.opN 1 (by simp (maxSteps := 200000) (disch := first | omega | (simp; done) | fail) [wrapI, leT, leF, ltT, ltF, eqF, nleT, nleF, nltT, nltF, hT, hTl, g0b, g1b, wn, wn2, wn3, hnl, hnl1, hnl2, hnl3, hTk, hTk2]; rfl) ?_
    refine RegO.nil ?_
    refine DW.ret ?_
    simp [Try.results40]
theorem lastOf_spec (s : ByteArray) : Spec Try.prog 41 [rs s] [none] [ds (lastOf s)] [rs s] := by
  refine Spec.intro Try.func41 rfl rfl Try.ntmps41 rfl (by simp) ?_
  have hbd := splitP_bd s
  obtain ⟨ns, code, hns⟩ : ∃ ns code, splitP s = (ns, code) := ⟨_, _, rfl⟩
  have hsp := splitPath_spec s
  rw [hns] at hsp hbd
  simp only at hsp hbd
  have hT := rD_take1_ByteArray ns
  have hTl := rD_len_ByteArray ns
  refine DW.seq ?_
  refine DW.reg (by simp (maxSteps := 200000) (disch := first | omega | (simp; done) | fail) [wrapI, leT, leF, ltT, ltF, eqF, nleT, nleF, nltT, nltF, hT, hTl]; rfl) ?_
  refine DW.seq ?_
  refine DW.regs ?_
  refine RegO.opN 1 (by simp (maxSteps := 200000) (disch := first | omega | (simp; done) | fail) [wrapI, leT, leF, ltT, ltF, eqF, nleT, nleF, nltT, nltF, hT, hTl]; rfl) ?_
  refine RegO.step rfl (OpStep.callA rfl (by simp (maxSteps := 200000) (disch := first | omega | (simp; done) | fail) [wrapI, leT, leF, ltT, ltF, eqF, nleT, nleF, nltT, nltF, hT, hTl]; exact ⟨rfl, rfl⟩) (by simp (maxSteps := 200000) (disch := first | omega | (simp; done) | fail) [wrapI, leT, leF, ltT, ltF, eqF, nleT, nleF, nltT, nltF, hT, hTl]; rfl) (by exact hsp) (by simp) (by simp (maxSteps := 200000) (disch := first | omega | (simp; done) | fail) [wrapI, leT, leF, ltT, ltF, eqF, nleT, nleF, nltT, nltF, hT, hTl]; rfl)) ?_
  refine RegO.opN 5 (by simp (maxSteps := 200000) (disch := first | omega | (simp; done) | fail) [wrapI, leT, leF, ltT, ltF, eqF, nleT, nleF, nltT, nltF, hT, hTl]; rfl) ?_
  refine RegO.nil ?_
  refine DW.seq ?_
  refine DW.seq ?_
  have h3 : (¬ code = 0) ∨ (code = 0 ∧ ns.length = 0) ∨ (code = 0 ∧ ¬ ns.length = 0) := by omega
  rcases h3 with g0 | ⟨g0, g1⟩ | ⟨g0, g1⟩
  · have hres : lastOf s = ByteArray.empty := by simp [lastOf, hns, g0]
    rw [hres]
    have g0b : (code != 0) = true := by simpa using g0
    refine DW.reg (by simp (maxSteps := 200000) (disch := first | omega | (simp; done) | fail) [wrapI, leT, leF, ltT, ltF, eqF, nleT, nleF, nltT, nltF, hT, hTl, g0b]; rfl) ?_
    refine DW.condT (by simp (maxSteps := 200000) (disch := first | omega | (simp; done) | fail) [wrapI, leT, leF, ltT, ltF, eqF, nleT, nleF, nltT, nltF, hT, hTl, g0b]) ?_
    refine DW.seq ?_
    refine DW.reg (by simp (maxSteps := 200000) (disch := first | omega | (simp; done) | fail) [wrapI, leT, leF, ltT, ltF, eqF, nleT, nleF, nltT, nltF, hT, hTl, g0b]; rfl) ?_
    refine DW.ret ?_
    simp [Try.results41]
  · have hres : lastOf s = ByteArray.empty := by simp [lastOf, hns, g0, g1]
    rw [hres]
    have g0b : (code != 0) = false := by simpa using g0
    have g1b : ((ns.length : Int) == 0) = true := by rw [beq_iff_eq]; omega
    refine DW.reg (by simp (maxSteps := 200000) (disch := first | omega | (simp; done) | fail) [wrapI, leT, leF, ltT, ltF, eqF, nleT, nleF, nltT, nltF, hT, hTl, g0b, g1b]; rfl) ?_
    refine DW.condT (by simp (maxSteps := 200000) (disch := first | omega | (simp; done) | fail) [wrapI, leT, leF, ltT, ltF, eqF, nleT, nleF, nltT, nltF, hT, hTl, g0b, g1b]) ?_
    refine DW.seq ?_
    refine DW.reg (by simp (maxSteps := 200000) (disch := first | omega | (simp; done) | fail) [wrapI, leT, leF, ltT, ltF, eqF, nleT, nleF, nltT, nltF, hT, hTl, g0b, g1b]; rfl) ?_
    refine DW.ret ?_
    simp [Try.results41]
  · have g0b : (code != 0) = false := by simpa using g0
    have g1b : ((ns.length : Int) == 0) = false := by rw [beq_eq_false_iff_ne]; omega
    obtain ⟨n, hn⟩ : ∃ n, n = ns.length - 1 := ⟨_, rfl⟩
    have wn : IntKind.i64.wrap ((ns.length : Int) - 1) = (n : Int) := (wr _ (by omega) (by omega)).trans (by omega)
    have wn2 : (ns.length : Int) - 1 = (n : Int) := by omega
    have wn3 : IntKind.i64.wrap (n : Int) = (n : Int) := wr _ (by omega) (by omega)
    have hnl : n ≤ ns.length := by omega
    have hnl1 : n < ns.length := by omega
    have hnl2 : (n : Int) ≤ ns.length := by omega
    have hnl3 : (n : Int) < ns.length := by omega
    have hres : lastOf s = ns[n] := by simp [lastOf, hns, g0, g1, ← hn, List.getElem?_eq_getElem hnl1]
    rw [hres]
    have hTk := rD_get_ByteArray ns n hnl1
    have hTk2 : ∀ h : n < (rD ns).length, (rD ns)[n]'h = T.sc (.string ns[n]) := fun h => by rw [List.getElem?_eq_getElem h] at hTk; exact Option.some.inj hTk
    refine DW.reg (by simp (maxSteps := 200000) (disch := first | omega | (simp; done) | fail) [wrapI, leT, leF, ltT, ltF, eqF, nleT, nleF, nltT, nltF, hT, hTl, g0b, g1b, wn, wn2, wn3, hnl, hnl1, hnl2, hnl3, hTk, hTk2]; rfl) ?_
    refine DW.condF (by simp (maxSteps := 200000) (disch := first | omega | (simp; done) | fail) [wrapI, leT, leF, ltT, ltF, eqF, nleT, nleF, nltT, nltF, hT, hTl, g0b, g1b, wn, wn2, wn3, hnl, hnl1, hnl2, hnl3, hTk, hTk2]) ?_
    refine DW.skip ?_
    refine DW.seq ?_
    refine DW.reg (by simp (maxSteps := 200000) (disch := first | omega | (simp; done) | fail) [wrapI, leT, leF, ltT, ltF, eqF, nleT, nleF, nltT, nltF, hT, hTl, g0b, g1b, wn, wn2, wn3, hnl, hnl1, hnl2, hnl3, hTk, hTk2]; rfl) ?_
    refine DW.ret ?_
    simp [Try.results41]
theorem isUnder_spec (p f : ByteArray) : Spec Try.prog 42 [rs p, rs f] [none] [db (isUnder p f)] [rs p, rs f] := by
  refine Spec.intro Try.func42 rfl rfl Try.ntmps42 rfl (by simp) ?_
  have hb1 := splitP_bd p
  have hb2 := splitP_bd f
  obtain ⟨x, c1, hx⟩ : ∃ x c1, splitP p = (x, c1) := ⟨_, _, rfl⟩
  obtain ⟨y, c2, hy⟩ : ∃ y c2, splitP f = (y, c2) := ⟨_, _, rfl⟩
  have hs1 := splitPath_spec p
  have hs2 := splitPath_spec f
  have hU : isUnder p f = (decide (c1 = 0) && (decide (c2 = 0) && (decide (y.length < x.length) && preP x y y.length))) := by simp [isUnder, hx, hy]
  rw [hx] at hs1 hb1
  rw [hy] at hs2 hb2
  simp only at hs1 hs2 hb1 hb2
  rw [hU]
  clear hx hy hU
  refine DW.seq ?_
  refine DW.reg (by simp (maxSteps := 200000) (disch := first | omega | (simp; done) | fail) [wrapI, leT, leF, ltT, ltF, eqF, nleT, nleF, nltT, nltF]; rfl) ?_
  refine DW.seq ?_
  refine DW.regs ?_
  refine RegO.opN 1 (by simp (maxSteps := 200000) (disch := first | omega | (simp; done) | fail) [wrapI, leT, leF, ltT, ltF, eqF, nleT, nleF, nltT, nltF]; rfl) ?_
  refine RegO.step rfl (OpStep.callA rfl (by simp (maxSteps := 200000) (disch := first | omega | (simp; done) | fail) [wrapI, leT, leF, ltT, ltF, eqF, nleT, nleF, nltT, nltF]; exact ⟨rfl, rfl⟩) (by simp (maxSteps := 200000) (disch := first | omega | (simp; done) | fail) [wrapI, leT, leF, ltT, ltF, eqF, nleT, nleF, nltT, nltF]; rfl) (by exact hs1) (by simp) (by simp (maxSteps := 200000) (disch := first | omega | (simp; done) | fail) [wrapI, leT, leF, ltT, ltF, eqF, nleT, nleF, nltT, nltF]; rfl)) ?_
  refine RegO.opN 5 (by simp (maxSteps := 200000) (disch := first | omega | (simp; done) | fail) [wrapI, leT, leF, ltT, ltF, eqF, nleT, nleF, nltT, nltF]; rfl) ?_
  refine RegO.nil ?_
  refine DW.norm [(1, _), (5, _), (6, _)] [(12, _)] [] (by simp; exact ⟨rfl, rfl, rfl⟩) (by simp; rfl) (by simp) (by rfl) ?_
  refine DW.seq ?_
  refine DW.regs ?_
  refine RegO.opN 1 (by simp (maxSteps := 200000) (disch := first | omega | (simp; done) | fail) [wrapI, leT, leF, ltT, ltF, eqF, nleT, nleF, nltT, nltF]; rfl) ?_
  refine RegO.step rfl (OpStep.callA rfl (by simp (maxSteps := 200000) (disch := first | omega | (simp; done) | fail) [wrapI, leT, leF, ltT, ltF, eqF, nleT, nleF, nltT, nltF]; exact ⟨rfl, rfl⟩) (by simp (maxSteps := 200000) (disch := first | omega | (simp; done) | fail) [wrapI, leT, leF, ltT, ltF, eqF, nleT, nleF, nltT, nltF]; rfl) (by exact hs2) (by simp) (by simp (maxSteps := 200000) (disch := first | omega | (simp; done) | fail) [wrapI, leT, leF, ltT, ltF, eqF, nleT, nleF, nltT, nltF]; rfl)) ?_
  refine RegO.opN 5 (by simp (maxSteps := 200000) (disch := first | omega | (simp; done) | fail) [wrapI, leT, leF, ltT, ltF, eqF, nleT, nleF, nltT, nltF]; rfl) ?_
  refine RegO.nil ?_
  refine DW.norm [(5, _), (6, _), (7, _), (8, _)] [(12, _), (17, _)] [] (by simp; exact ⟨rfl, rfl, rfl, rfl⟩) (by simp; exact ⟨rfl, rfl⟩) (by simp) (by rfl) ?_
  refine DW.seq ?_
  refine DW.seq ?_
  have h4 : (¬ c1 = 0) ∨ (c1 = 0 ∧ ¬ c2 = 0) ∨ (c1 = 0 ∧ c2 = 0 ∧ x.length ≤ y.length) ∨ (c1 = 0 ∧ c2 = 0 ∧ y.length < x.length) := by omega
  rcases h4 with g0 | ⟨g0, g1⟩ | ⟨g0, g1, g2⟩ | ⟨g0, g1, g2⟩
  · have g0b : (c1 != 0) = true := by simpa using g0
    rw [decide_eq_false g0, Bool.false_and]
    refine DW.reg (by simp (maxSteps := 200000) (disch := first | omega | (simp; done) | fail) [wrapI, leT, leF, ltT, ltF, eqF, nleT, nleF, nltT, nltF, g0b]; rfl) ?_
    refine DW.condT (by simp (maxSteps := 200000) (disch := first | omega | (simp; done) | fail) [wrapI, leT, leF, ltT, ltF, eqF, nleT, nleF, nltT, nltF, g0b]) ?_
    refine DW.seq ?_
    refine DW.reg (by simp (maxSteps := 200000) (disch := first | omega | (simp; done) | fail) [wrapI, leT, leF, ltT, ltF, eqF, nleT, nleF, nltT, nltF, g0b]; rfl) ?_
    refine DW.ret ?_
    simp [Try.results42]
  · have g0b : (c1 != 0) = false := by simpa using g0
    have g1b : (c2 != 0) = true := by simpa using g1
    rw [decide_eq_false g1, Bool.false_and, Bool.and_false]
    refine DW.reg (by simp (maxSteps := 200000) (disch := first | omega | (simp; done) | fail) [wrapI, leT, leF, ltT, ltF, eqF, nleT, nleF, nltT, nltF, g0b, g1b]; rfl) ?_
    refine DW.condT (by simp (maxSteps := 200000) (disch := first | omega | (simp; done) | fail) [wrapI, leT, leF, ltT, ltF, eqF, nleT, nleF, nltT, nltF, g0b, g1b]) ?_
    refine DW.seq ?_
    refine DW.reg (by simp (maxSteps := 200000) (disch := first | omega | (simp; done) | fail) [wrapI, leT, leF, ltT, ltF, eqF, nleT, nleF, nltT, nltF, g0b, g1b]; rfl) ?_
    refine DW.ret ?_
    simp [Try.results42]
  · have g0b : (c1 != 0) = false := by simpa using g0
    have g1b : (c2 != 0) = false := by simpa using g1
    have g2b : (x.length : Int) ≤ y.length := by omega
    rw [decide_eq_false (show ¬ y.length < x.length by omega), Bool.false_and, Bool.and_false, Bool.and_false]
    refine DW.reg (by simp (maxSteps := 200000) (disch := first | omega | (simp; done) | fail) [wrapI, leT, leF, ltT, ltF, eqF, nleT, nleF, nltT, nltF, g0b, g1b, g2, g2b]; rfl) ?_
    refine DW.condT (by simp (maxSteps := 200000) (disch := first | omega | (simp; done) | fail) [wrapI, leT, leF, ltT, ltF, eqF, nleT, nleF, nltT, nltF, g0b, g1b, g2, g2b]) ?_
    refine DW.seq ?_
    refine DW.reg (by simp (maxSteps := 200000) (disch := first | omega | (simp; done) | fail) [wrapI, leT, leF, ltT, ltF, eqF, nleT, nleF, nltT, nltF, g0b, g1b, g2, g2b]; rfl) ?_
    refine DW.ret ?_
    simp [Try.results42]
  · have g0b : (c1 != 0) = false := by simpa using g0
    have g1b : (c2 != 0) = false := by simpa using g1
    have g2b : ¬ (x.length : Int) ≤ y.length := by omega
    have g2c : ¬ x.length ≤ y.length := by omega
    rw [decide_eq_true g0, decide_eq_true g1, decide_eq_true g2, Bool.true_and, Bool.true_and, Bool.true_and]
    refine DW.reg (by simp (maxSteps := 200000) (disch := first | omega | (simp; done) | fail) [wrapI, leT, leF, ltT, ltF, eqF, nleT, nleF, nltT, nltF, g0b, g1b, g2b, g2c]; rfl) ?_
    refine DW.condF (by simp (maxSteps := 200000) (disch := first | omega | (simp; done) | fail) [wrapI, leT, leF, ltT, ltF, eqF, nleT, nleF, nltT, nltF, g0b, g1b, g2b, g2c]) ?_
    refine DW.skip ?_
    refine DW.seq ?_
    refine DW.seq ?_
    refine DW.reg (by simp (maxSteps := 200000) (disch := first | omega | (simp; done) | fail) [wrapI, leT, leF, ltT, ltF, eqF, nleT, nleF, nltT, nltF, g0b, g1b, g2b, g2c]; rfl) ?_
    refine DW.block ?_
    refine DW.loopS (α := Nat) (fun i => i ≤ y.length ∧ preP x y i = true) (fun i => y.length - i) (fun i => [(9, vi i)]) (fun i => []) [(5, _), (7, _)] [(12, _), (17, _)] [] 0 (⟨Nat.zero_le _, rfl⟩) (by simp; exact ⟨rfl, rfl⟩) (by simp; exact ⟨rfl, rfl⟩) (by simp) (by rfl) ?_
    rintro i ⟨hi, hall⟩
    refine DW.seq ?_
    refine DW.seq ?_
    refine DW.reg (by simp (maxSteps := 200000) (disch := first | omega | (simp; done) | fail) [wrapI, leT, leF, ltT, ltF, eqF, nleT, nleF, nltT, nltF, g0b, g1b, g2b, g2c]; rfl) ?_
    refine DW.condB (by simp (maxSteps := 200000) (disch := first | omega | (simp; done) | fail) [wrapI, leT, leF, ltT, ltF, eqF, nleT, nleF, nltT, nltF, g0b, g1b, g2b, g2c]; exact rfl) (fun hc1 => ?_) (fun hc1 => ?_)
    · have hlt : i < y.length := by simpa using hc1
      have hlt1 : (i : Int) < y.length := by omega
      have hltx : i < x.length := by omega
      have hltx1 : (i : Int) < x.length := by omega
      have hd := rD_get_ByteArray y i hlt
      have hdx := rD_get_ByteArray x i hltx
      have hw := wr ((i : Int) + 1) (by omega) (by omega)
      have hS := preP_succ x y i
      have hN := fun h => preP_no (a := x) (b := y) (j := y.length) h hlt
      rw [List.getElem?_eq_getElem hlt, List.getElem?_eq_getElem hltx] at hS hN
      generalize y[i] = y1 at hd hS hN
      generalize x[i] = x1 at hdx hS hN
      have hso : decide (some x1 = some y1) = decide (x1 = y1) := by simp
      rw [hso] at hS hN
      refine DW.skip ?_
      refine DW.seq ?_
      refine DW.block ?_
      refine DW.seq ?_
      refine DW.drawn mixed (by kernel_rfl) ?_
      refine RegD.addN 9 (by simp [g0b, g1b, g2b, g2c, hlt1, hd, hdx, hw, hltx1]; (first | (simp (disch := omega) only [wrapI, ltF, if_false]; done) | (simp (disch := omega) only [wrapI, ltF, if_false]; first | exact ⟨rfl, rfl⟩ | rfl) | skip); (first | done | exact ⟨rfl, rfl⟩ | rfl)) ?_
      refine RegD.nil ⟨by kernel_rfl, ?_⟩
      refine DW.condB (by simp (maxSteps := 200000) (disch := first | omega | (simp; done) | fail) [wrapI, leT, leF, ltT, ltF, eqF, nleT, nleF, nltT, nltF, g0b, g1b, g2b, g2c, hlt1, hd, hdx, hw, hltx1]; exact rfl) (fun hc2 => ?_) (fun hc2 => ?_)
      · have hxy : ¬ x1 = y1 := by simpa using hc2
        rw [hN (decide_eq_false hxy)]
        refine DW.seq ?_
        refine DW.reg (by simp (maxSteps := 200000) (disch := first | omega | (simp; done) | fail) [wrapI, leT, leF, ltT, ltF, eqF, nleT, nleF, nltT, nltF, g0b, g1b, g2b, g2c, hlt1, hd, hdx, hw, hltx1]; rfl) ?_
        refine DW.ret ?_
        simp [Try.results42]
      · have hxy : x1 = y1 := by simpa using hc2
        rw [hall, decide_eq_true hxy] at hS
        refine DW.skip ?_
        refine DW.reg (by simp (maxSteps := 200000) (disch := first | omega | (simp; done) | fail) [wrapI, leT, leF, ltT, ltF, eqF, nleT, nleF, nltT, nltF, g0b, g1b, g2b, g2c, hlt1, hd, hdx, hw, hltx1]; rfl) ?_
        exact ⟨i + 1, ⟨hlt, hS⟩, by omega, by simp [hw], by simp, by simp, by rfl⟩
    · have hil : i = y.length := by
        have : ¬ i < y.length := by simpa using hc1
        omega
      subst hil
      rw [hall]
      refine DW.exit ?_
      refine DW.seq ?_
      refine DW.reg (by simp (maxSteps := 200000) (disch := first | omega | (simp; done) | fail) [wrapI, leT, leF, ltT, ltF, eqF, nleT, nleF, nltT, nltF, g0b, g1b, g2b, g2c]; rfl) ?_
      refine DW.ret ?_
      simp [Try.results42]
end Go.Proofs.Ytciieaidbiejmaa.DM
