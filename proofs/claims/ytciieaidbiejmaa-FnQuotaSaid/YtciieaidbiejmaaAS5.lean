import Derived.Test.YtciieaidbiejmaaAS3
namespace Go.Proofs.Ytciieaidbiejmaa.DM
set_option linter.unusedVariables false
set_option linter.unusedSimpArgs false
set_option maxRecDepth 4000
set_option maxHeartbeats 8000000
theorem dropItem_spec (l : List Item) (p : ByteArray) (hl : l.length ≤ 1048576) : Spec Try.prog 23 [raV l, rs p] [some 1] (dV (dropI l p)) [raV l, rs p] := by
  refine Spec.intro Try.func23 rfl rfl Try.ntmps23 rfl (by simp) ?_
  refine DW.seq ?_
  refine DW.reg (by simp (maxSteps := 200000) (disch := first | omega | (simp; done) | fail) [wrapI, leT, leF, ltT, ltF, eqF, nleT, nleF, nltT, nltF]; rfl) ?_
  refine DW.seq ?_
  refine DW.reg (by simp; rfl) ?_
  refine DW.ghost (Ghost.wide 5 [0] 3 (by simp; rfl) (by simp)) ?_
  refine DW.norm [(1, _), (2, _), (4, _), (5, _)] [(2, _), (4, _), (5, _)] [] (by simp; exact ⟨rfl, rfl, rfl, rfl⟩) (by simp; exact ⟨rfl, rfl, rfl⟩) (by simp) (by rfl) ?_
  refine DW.seq ?_
  refine DW.seq ?_
  refine DW.reg (by simp (maxSteps := 200000) (disch := first | omega | (simp; done) | fail) [wrapI, leT, leF, ltT, ltF, eqF, nleT, nleF, nltT, nltF]; rfl) ?_
  refine DW.block ?_
  refine DW.loopS (α := Nat) (fun i => i ≤ l.length) (fun i => l.length - i) (fun i => [(6, vi i)]) (fun i => [(5, .ow () 1 1 (dV (dropI (l.take i) p)))]) [(1, _), (2, _), (4, _), (5, _)] [(2, _), (4, _)] [] 0 (Nat.zero_le _) (by simp [dropI]; exact ⟨rfl, rfl, rfl, rfl⟩) (by simp [dropI]; exact ⟨rfl, rfl⟩) (by simp) (by rfl) ?_
  intro i hi
  refine DW.seq ?_
  refine DW.seq ?_
  refine DW.reg (by simp (maxSteps := 200000) (disch := first | omega | (simp; done) | fail) [wrapI, leT, leF, ltT, ltF, eqF, nleT, nleF, nltT, nltF]; rfl) ?_
  refine DW.condB (by simp (maxSteps := 200000) (disch := first | omega | (simp; done) | fail) [wrapI, leT, leF, ltT, ltF, eqF, nleT, nleF, nltT, nltF]; exact rfl) (fun hc0 => ?_) (fun hc0 => ?_)
  · have hlt : i < l.length := by simpa using hc0
    have hlt1 : (i : Int) < l.length := by omega
    have hd := rR_drop_Item l i hlt
    have hw := wr ((i : Int) + 1) (by omega) (by omega)
    have hS := dropI_succ l p i hlt
    have hkl : (dropI (l.take i) p).length ≤ i := by have := List.length_filter_le (fun x => !onP p x) (l.take i); rw [List.length_take] at this; unfold dropI; omega
    generalize (dropI (l.take i) p) = K0 at *
    generalize hci : l[i] = c at *
    have b1 : (K0.length + 1) * 40 ≤ 140737488355328 := by omega
    have b2 : K0.length + 1 ≤ 140737488355328 := by omega
    have b3 : (K0.length + 1) * 3 ≤ K0.length * 3 + 3 := by omega
    have hTl := rD_len_Item K0
    have hT := take_snocI K0 c
    refine DW.skip ?_
    refine DW.seq ?_
    refine DW.block ?_
    refine DW.seq ?_
    refine DW.reg (by simp (maxSteps := 200000) (disch := first | omega | (simp; done) | fail) [wrapI, leT, leF, ltT, ltF, eqF, nleT, nleF, nltT, nltF, hlt1, hd, hw, b1, b2, b3, hTl, hT]; rfl) ?_
    refine DW.condB (by simp (maxSteps := 200000) (disch := first | omega | (simp; done) | fail) [wrapI, leT, leF, ltT, ltF, eqF, nleT, nleF, nltT, nltF, hlt1, hd, hw, b1, b2, b3, hTl, hT]; exact rfl) (fun hc1 => ?_) (fun hc1 => ?_)
    · have hcp : ¬ c.Path = p := by simpa using hc1
      rw [if_neg hcp] at hS
      have hRd := rD_snocI K0 c
      refine DW.drawn mixed (by kernel_rfl) ?_
      refine RegD.addN 7 (by simp [hlt1, hd, hw, b1, b2, b3, hTl, hT]; (first | (simp (disch := omega) only [wrapI, ltF, if_false]; done) | (simp (disch := omega) only [wrapI, ltF, if_false]; first | exact ⟨rfl, rfl⟩ | rfl) | skip); (first | done | exact ⟨rfl, rfl⟩ | rfl)) ?_
      refine RegD.cert (Cert.buildRo (rcs := Item.r c) rfl rfl rfl (by decide) (by simp; exact ⟨rfl, rfl⟩) (by simp; rfl) (by simp; rfl) (by rfl) (by decide) (by decide) (by simp [hlt1, hd, hw, b1, b2, b3, hTl, hT]; rfl) (by simp [hlt1, hd, hw, b1, b2, b3, hTl, hT]; rfl) (by rfl) (by simp)) ?_
      refine RegD.heavyF (by simp) (by simp [hlt1, hd, hw, b1, b2, b3, hTl, hT]; rfl) ?_
      refine RegD.addN 1 (by simp [hlt1, hd, hw, b1, b2, b3, hTl, hT]; (first | (simp (disch := omega) only [wrapI, ltF, if_false]; done) | (simp (disch := omega) only [wrapI, ltF, if_false]; first | exact ⟨rfl, rfl⟩ | rfl) | skip); (first | done | exact ⟨rfl, rfl⟩ | rfl)) ?_
      refine RegD.heavyF (by simp) (by simp [hlt1, hd, hw, b1, b2, b3, hTl, hT]; rfl) ?_
      refine RegD.nil ⟨by kernel_rfl, ?_⟩
      refine DW.norm [(1, _), (2, _), (4, _), (5, _), (6, _)] [(2, _), (4, _), (5, _)] [] (by simp [hlt1, hd, hw, b1, b2, b3, hTl, hT, hRd]; exact ⟨rfl, rfl, rfl, rfl, rfl⟩) (by simp [hlt1, hd, hw, b1, b2, b3, hTl, hT, hRd]; exact ⟨rfl, rfl, rfl⟩) (by simp [hlt1, hd, hw, b1, b2, b3, hTl, hT, hRd]) (by rfl) ?_
      refine DW.reg (by simp (maxSteps := 200000) (disch := first | omega | (simp; done) | fail) [wrapI, leT, leF, ltT, ltF, eqF, nleT, nleF, nltT, nltF, hlt1, hd, hw, b1, b2, b3, hTl, hT]; rfl) ?_
      exact ⟨i + 1, hlt, by omega, by simp, by simp [hS, hRd], by simp, by rfl⟩
    · have hcp : c.Path = p := by simpa using hc1
      rw [if_pos hcp] at hS
      have hRd : True := trivial
      refine DW.skip ?_
      refine DW.reg (by simp (maxSteps := 200000) (disch := first | omega | (simp; done) | fail) [wrapI, leT, leF, ltT, ltF, eqF, nleT, nleF, nltT, nltF, hlt1, hd, hw, b1, b2, b3, hTl, hT]; rfl) ?_
      exact ⟨i + 1, hlt, by omega, by simp, by simp [hS, hRd], by simp, by rfl⟩
  · have hil : i = l.length := by
      have : ¬ i < l.length := by simpa using hc0
      omega
    subst hil
    rw [List.take_length]
    refine DW.exit ?_
    refine DW.seq ?_
    refine DW.reg (by simp; rfl) ?_
    refine DW.ret ?_
    simp [Try.results23]
theorem putItem_spec (l : List Item) (x : Item) (hl : l.length ≤ 1048576) : Spec Try.prog 37 [raV l, raItem x] [some 1] (dV (putF x false l)) [raV l, raItem x] := by
  refine Spec.intro Try.func37 rfl rfl Try.ntmps37 rfl (by simp) ?_
  refine DW.seq ?_
  refine DW.reg (by simp (maxSteps := 200000) (disch := first | omega | (simp; done) | fail) [wrapI, leT, leF, ltT, ltF, eqF, nleT, nleF, nltT, nltF]; rfl) ?_
  refine DW.seq ?_
  refine DW.reg (by simp; rfl) ?_
  refine DW.ghost (Ghost.wide 5 [0] 3 (by simp; rfl) (by simp)) ?_
  refine DW.norm [(2, _), (3, _), (4, _), (5, _)] [(2, _), (3, _), (4, _), (5, _)] [] (by simp; exact ⟨rfl, rfl, rfl, rfl⟩) (by simp; exact ⟨rfl, rfl, rfl, rfl⟩) (by simp) (by rfl) ?_
  refine DW.seq ?_
  refine DW.reg (by simp (maxSteps := 200000) (disch := first | omega | (simp; done) | fail) [wrapI, leT, leF, ltT, ltF, eqF, nleT, nleF, nltT, nltF]; rfl) ?_
  refine DW.seq ?_
  refine DW.seq ?_
  refine DW.reg (by simp (maxSteps := 200000) (disch := first | omega | (simp; done) | fail) [wrapI, leT, leF, ltT, ltF, eqF, nleT, nleF, nltT, nltF]; rfl) ?_
  refine DW.block ?_
  refine DW.loopS (α := Nat × Bool × List Item) (fun a => a.1 ≤ l.length ∧ a.2.2.length ≤ a.1 + a.2.1.toNat ∧ a.2.2 ++ putF x a.2.1 (l.drop a.1) = putF x false l) (fun a => l.length - a.1) (fun a => [(7, vi a.1), (6, vb a.2.1)]) (fun a => [(5, .ow () 1 1 (dV a.2.2))]) [(2, _), (3, _), (4, _), (5, _)] [(2, _), (3, _), (4, _)] [] (0, false, []) (⟨Nat.zero_le _, by simp, by simp⟩) (by simp; exact ⟨rfl, rfl, rfl, rfl⟩) (by simp; exact ⟨rfl, rfl, rfl⟩) (by simp) (by rfl) ?_
  rintro ⟨i, lg, K0⟩ ⟨hi, hkl, hR⟩
  simp only at hi hkl hR ⊢
  refine DW.seq ?_
  refine DW.seq ?_
  refine DW.reg (by simp (maxSteps := 200000) (disch := first | omega | (simp; done) | fail) [wrapI, leT, leF, ltT, ltF, eqF, nleT, nleF, nltT, nltF]; rfl) ?_
  refine DW.condB (by simp (maxSteps := 200000) (disch := first | omega | (simp; done) | fail) [wrapI, leT, leF, ltT, ltF, eqF, nleT, nleF, nltT, nltF]; exact rfl) (fun hc0 => ?_) (fun hc0 => ?_)
  · have hlt : i < l.length := by simpa using hc0
    have hlt1 : (i : Int) < l.length := by omega
    have hd := rR_drop_Item l i hlt
    have hw := wr ((i : Int) + 1) (by omega) (by omega)
    rw [List.drop_eq_getElem_cons hlt, putF_split] at hR
    generalize hci : l[i] = c at *
    obtain ⟨gt, hgt⟩ : ∃ b, gtS c.Path x.Path = b := ⟨_, rfl⟩
    rw [hgt] at hR
    have hlgn := Bool.toNat_le lg
    have b1 : (K0.length + 1) * 40 ≤ 140737488355328 := by omega
    have b2 : K0.length + 1 ≤ 140737488355328 := by omega
    have b3 : (K0.length + 1) * 3 ≤ K0.length * 3 + 3 := by omega
    have hTl := rD_len_Item K0
    have hT := take_snocI K0 x
    refine DW.skip ?_
    refine DW.seq ?_
    refine DW.block ?_
    refine DW.seq ?_
    refine DW.seq ?_
    have hsp : (lg = true) ∨ (lg = false ∧ gt = false) ∨ (lg = false ∧ gt = true) := by cases lg <;> cases gt <;> simp
    rcases hsp with rfl | ⟨rfl, rfl⟩ | ⟨rfl, rfl⟩
    · simp only [Bool.toNat_true] at hkl
      simp only [Bool.not_true, Bool.false_and, Bool.false_eq_true, if_false, List.nil_append, Bool.true_or] at hR
      have hK1l : K0.length ≤ i + 1 := by omega
      have hT1 := take_snocI K0 c
      have hTl1 := rD_len_Item K0
      have b11 : (K0.length + 1) * 40 ≤ 140737488355328 := by omega
      have b12 : K0.length + 1 ≤ 140737488355328 := by omega
      have b13 : (K0.length + 1) * 3 ≤ K0.length * 3 + 3 := by omega
      refine DW.drawn mixed (by kernel_rfl) ?_
      refine RegD.addN 13 (by simp [hlt1, hd, hw, b1, b2, b3, hTl, hT, hT1, hTl1, b11, b12, b13]; (first | (simp (disch := omega) only [wrapI, ltF, if_false]; done) | (simp (disch := omega) only [wrapI, ltF, if_false]; first | exact ⟨rfl, rfl⟩ | rfl) | skip); (first | done | exact ⟨rfl, rfl⟩ | rfl)) ?_
      refine RegD.nil ⟨by kernel_rfl, ?_⟩
      refine DW.norm [(2, _), (3, _), (4, _), (5, _), (6, _), (7, _), (28, _)] [(2, _), (3, _), (4, _), (5, _)] [] (by simp [hlt1, hd, hw, b1, b2, b3, hTl, hT, hT1, hTl1, b11, b12, b13]; exact ⟨rfl, rfl, rfl, rfl, rfl, rfl, rfl⟩) (by simp [hlt1, hd, hw, b1, b2, b3, hTl, hT, hT1, hTl1, b11, b12, b13]; exact ⟨rfl, rfl, rfl, rfl⟩) (by simp [hlt1, hd, hw, b1, b2, b3, hTl, hT, hT1, hTl1, b11, b12, b13]) (by rfl) ?_
      refine DW.condF (by simp (maxSteps := 200000) (disch := first | omega | (simp; done) | fail) [wrapI, leT, leF, ltT, ltF, eqF, nleT, nleF, nltT, nltF, hlt1, hd, hw, b1, b2, b3, hTl, hT, hT1, hTl1, b11, b12, b13]) ?_
      refine DW.skip ?_
      refine DW.seq ?_
      refine DW.drawn mixed (by kernel_rfl) ?_
      refine RegD.addN 9 (by simp [hlt1, hd, hw, b1, b2, b3, hTl, hT, hT1, hTl1, b11, b12, b13]; (first | (simp (disch := omega) only [wrapI, ltF, if_false]; done) | (simp (disch := omega) only [wrapI, ltF, if_false]; first | exact ⟨rfl, rfl⟩ | rfl) | skip); (first | done | exact ⟨rfl, rfl⟩ | rfl)) ?_
      refine RegD.nil ⟨by kernel_rfl, ?_⟩
      refine DW.condB (by simp (maxSteps := 200000) (disch := first | omega | (simp; done) | fail) [wrapI, leT, leF, ltT, ltF, eqF, nleT, nleF, nltT, nltF, hlt1, hd, hw, b1, b2, b3, hTl, hT, hT1, hTl1, b11, b12, b13]; exact rfl) (fun hc2 => ?_) (fun hc2 => ?_)
      · have hT9 : True := trivial
        have hcp : ¬ c.Path = x.Path := by simpa using hc2
        rw [if_neg hcp] at hR
        have hRd := rD_snocI K0 c
        refine DW.drawn mixed (by kernel_rfl) ?_
        refine RegD.addN 7 (by simp [hlt1, hd, hw, b1, b2, b3, hTl, hT, hT1, hTl1, b11, b12, b13, hT9]; (first | (simp (disch := omega) only [wrapI, ltF, if_false]; done) | (simp (disch := omega) only [wrapI, ltF, if_false]; first | exact ⟨rfl, rfl⟩ | rfl) | skip); (first | done | exact ⟨rfl, rfl⟩ | rfl)) ?_
        refine RegD.cert (Cert.buildRo (rcs := Item.r c) rfl rfl rfl (by decide) (by simp; exact ⟨rfl, rfl⟩) (by simp; rfl) (by simp; rfl) (by rfl) (by decide) (by decide) (by simp [hlt1, hd, hw, b1, b2, b3, hTl, hT, hT1, hTl1, b11, b12, b13, hT9]; rfl) (by simp [hlt1, hd, hw, b1, b2, b3, hTl, hT, hT1, hTl1, b11, b12, b13, hT9]; rfl) (by rfl) (by simp)) ?_
        refine RegD.heavyF (by simp) (by simp [hlt1, hd, hw, b1, b2, b3, hTl, hT, hT1, hTl1, b11, b12, b13, hT9]; rfl) ?_
        refine RegD.addN 1 (by simp [hlt1, hd, hw, b1, b2, b3, hTl, hT, hT1, hTl1, b11, b12, b13, hT9]; (first | (simp (disch := omega) only [wrapI, ltF, if_false]; done) | (simp (disch := omega) only [wrapI, ltF, if_false]; first | exact ⟨rfl, rfl⟩ | rfl) | skip); (first | done | exact ⟨rfl, rfl⟩ | rfl)) ?_
        refine RegD.heavyF (by simp) (by simp [hlt1, hd, hw, b1, b2, b3, hTl, hT, hT1, hTl1, b11, b12, b13, hT9]; rfl) ?_
        refine RegD.nil ⟨by kernel_rfl, ?_⟩
        refine DW.norm [(2, _), (3, _), (4, _), (5, _), (6, _), (7, _)] [(2, _), (3, _), (4, _), (5, _)] [] (by simp [hlt1, hd, hw, b1, b2, b3, hTl, hT, hT1, hTl1, b11, b12, b13, hT9]; exact ⟨rfl, rfl, rfl, rfl, rfl, rfl⟩) (by simp [hlt1, hd, hw, b1, b2, b3, hTl, hT, hT1, hTl1, b11, b12, b13, hT9]; exact ⟨rfl, rfl, rfl, rfl⟩) (by simp [hlt1, hd, hw, b1, b2, b3, hTl, hT, hT1, hTl1, b11, b12, b13, hT9]) (by rfl) ?_
        refine DW.reg (by simp (maxSteps := 200000) (disch := first | omega | (simp; done) | fail) [wrapI, leT, leF, ltT, ltF, eqF, nleT, nleF, nltT, nltF, hlt1, hd, hw, b1, b2, b3, hTl, hT, hT1, hTl1, b11, b12, b13, hT9]; rfl) ?_
        exact ⟨(i + 1, true, K0 ++ [c]), ⟨by simp only; omega, by simp; omega, by simpa using hR⟩, by simp only; omega, by simp [hw], by simp [← hRd], by simp, by rfl⟩
      · have hcp : c.Path = x.Path := by simpa using hc2
        rw [if_pos hcp] at hR
        have hRd : True := trivial
        refine DW.skip ?_
        refine DW.reg (by simp (maxSteps := 200000) (disch := first | omega | (simp; done) | fail) [wrapI, leT, leF, ltT, ltF, eqF, nleT, nleF, nltT, nltF, hlt1, hd, hw, b1, b2, b3, hTl, hT, hT1, hTl1, b11, b12, b13]; rfl) ?_
        exact ⟨(i + 1, true, K0), ⟨by simp only; omega, by simp; omega, by simpa using hR⟩, by simp only; omega, by simp [hw], by simp, by simp, by rfl⟩
    · simp only [Bool.toNat_false, Nat.add_zero] at hkl
      simp only [Bool.not_false, Bool.true_and, Bool.false_eq_true, if_false, List.nil_append, Bool.false_or] at hR
      have hK1l : K0.length ≤ i + 1 := by omega
      have hT1 := take_snocI K0 c
      have hTl1 := rD_len_Item K0
      have b11 : (K0.length + 1) * 40 ≤ 140737488355328 := by omega
      have b12 : K0.length + 1 ≤ 140737488355328 := by omega
      have b13 : (K0.length + 1) * 3 ≤ K0.length * 3 + 3 := by omega
      refine DW.drawn mixed (by kernel_rfl) ?_
      refine RegD.addN 13 (by simp [hlt1, hd, hw, b1, b2, b3, hTl, hT, hgt, hT1, hTl1, b11, b12, b13]; (first | (simp (disch := omega) only [wrapI, ltF, if_false]; done) | (simp (disch := omega) only [wrapI, ltF, if_false]; first | exact ⟨rfl, rfl⟩ | rfl) | skip); (first | done | exact ⟨rfl, rfl⟩ | rfl)) ?_
      refine RegD.nil ⟨by kernel_rfl, ?_⟩
      refine DW.norm [(2, _), (3, _), (4, _), (5, _), (6, _), (7, _), (28, _)] [(2, _), (3, _), (4, _), (5, _)] [] (by simp [hlt1, hd, hw, b1, b2, b3, hTl, hT, hgt, hT1, hTl1, b11, b12, b13]; exact ⟨rfl, rfl, rfl, rfl, rfl, rfl, rfl⟩) (by simp [hlt1, hd, hw, b1, b2, b3, hTl, hT, hgt, hT1, hTl1, b11, b12, b13]; exact ⟨rfl, rfl, rfl, rfl⟩) (by simp [hlt1, hd, hw, b1, b2, b3, hTl, hT, hgt, hT1, hTl1, b11, b12, b13]) (by rfl) ?_
      refine DW.condF (by simp (maxSteps := 200000) (disch := first | omega | (simp; done) | fail) [wrapI, leT, leF, ltT, ltF, eqF, nleT, nleF, nltT, nltF, hlt1, hd, hw, b1, b2, b3, hTl, hT, hgt, hT1, hTl1, b11, b12, b13]) ?_
      refine DW.skip ?_
      refine DW.seq ?_
      refine DW.drawn mixed (by kernel_rfl) ?_
      refine RegD.addN 9 (by simp [hlt1, hd, hw, b1, b2, b3, hTl, hT, hgt, hT1, hTl1, b11, b12, b13]; (first | (simp (disch := omega) only [wrapI, ltF, if_false]; done) | (simp (disch := omega) only [wrapI, ltF, if_false]; first | exact ⟨rfl, rfl⟩ | rfl) | skip); (first | done | exact ⟨rfl, rfl⟩ | rfl)) ?_
      refine RegD.nil ⟨by kernel_rfl, ?_⟩
      refine DW.condB (by simp (maxSteps := 200000) (disch := first | omega | (simp; done) | fail) [wrapI, leT, leF, ltT, ltF, eqF, nleT, nleF, nltT, nltF, hlt1, hd, hw, b1, b2, b3, hTl, hT, hgt, hT1, hTl1, b11, b12, b13]; exact rfl) (fun hc2 => ?_) (fun hc2 => ?_)
      · have hT9 : True := trivial
        have hcp : ¬ c.Path = x.Path := by simpa using hc2
        rw [if_neg hcp] at hR
        have hRd := rD_snocI K0 c
        refine DW.drawn mixed (by kernel_rfl) ?_
        refine RegD.addN 7 (by simp [hlt1, hd, hw, b1, b2, b3, hTl, hT, hgt, hT1, hTl1, b11, b12, b13, hT9]; (first | (simp (disch := omega) only [wrapI, ltF, if_false]; done) | (simp (disch := omega) only [wrapI, ltF, if_false]; first | exact ⟨rfl, rfl⟩ | rfl) | skip); (first | done | exact ⟨rfl, rfl⟩ | rfl)) ?_
        refine RegD.cert (Cert.buildRo (rcs := Item.r c) rfl rfl rfl (by decide) (by simp; exact ⟨rfl, rfl⟩) (by simp; rfl) (by simp; rfl) (by rfl) (by decide) (by decide) (by simp [hlt1, hd, hw, b1, b2, b3, hTl, hT, hgt, hT1, hTl1, b11, b12, b13, hT9]; rfl) (by simp [hlt1, hd, hw, b1, b2, b3, hTl, hT, hgt, hT1, hTl1, b11, b12, b13, hT9]; rfl) (by rfl) (by simp)) ?_
        refine RegD.heavyF (by simp) (by simp [hlt1, hd, hw, b1, b2, b3, hTl, hT, hgt, hT1, hTl1, b11, b12, b13, hT9]; rfl) ?_
        refine RegD.addN 1 (by simp [hlt1, hd, hw, b1, b2, b3, hTl, hT, hgt, hT1, hTl1, b11, b12, b13, hT9]; (first | (simp (disch := omega) only [wrapI, ltF, if_false]; done) | (simp (disch := omega) only [wrapI, ltF, if_false]; first | exact ⟨rfl, rfl⟩ | rfl) | skip); (first | done | exact ⟨rfl, rfl⟩ | rfl)) ?_
        refine RegD.heavyF (by simp) (by simp [hlt1, hd, hw, b1, b2, b3, hTl, hT, hgt, hT1, hTl1, b11, b12, b13, hT9]; rfl) ?_
        refine RegD.nil ⟨by kernel_rfl, ?_⟩
        refine DW.norm [(2, _), (3, _), (4, _), (5, _), (6, _), (7, _)] [(2, _), (3, _), (4, _), (5, _)] [] (by simp [hlt1, hd, hw, b1, b2, b3, hTl, hT, hgt, hT1, hTl1, b11, b12, b13, hT9]; exact ⟨rfl, rfl, rfl, rfl, rfl, rfl⟩) (by simp [hlt1, hd, hw, b1, b2, b3, hTl, hT, hgt, hT1, hTl1, b11, b12, b13, hT9]; exact ⟨rfl, rfl, rfl, rfl⟩) (by simp [hlt1, hd, hw, b1, b2, b3, hTl, hT, hgt, hT1, hTl1, b11, b12, b13, hT9]) (by rfl) ?_
        refine DW.reg (by simp (maxSteps := 200000) (disch := first | omega | (simp; done) | fail) [wrapI, leT, leF, ltT, ltF, eqF, nleT, nleF, nltT, nltF, hlt1, hd, hw, b1, b2, b3, hTl, hT, hgt, hT1, hTl1, b11, b12, b13, hT9]; rfl) ?_
        exact ⟨(i + 1, false, K0 ++ [c]), ⟨by simp only; omega, by simp; omega, by simpa using hR⟩, by simp only; omega, by simp [hw], by simp [← hRd], by simp, by rfl⟩
      · have hcp : c.Path = x.Path := by simpa using hc2
        rw [if_pos hcp] at hR
        have hRd : True := trivial
        refine DW.skip ?_
        refine DW.reg (by simp (maxSteps := 200000) (disch := first | omega | (simp; done) | fail) [wrapI, leT, leF, ltT, ltF, eqF, nleT, nleF, nltT, nltF, hlt1, hd, hw, b1, b2, b3, hTl, hT, hgt, hT1, hTl1, b11, b12, b13]; rfl) ?_
        exact ⟨(i + 1, false, K0), ⟨by simp only; omega, by simp; omega, by simpa using hR⟩, by simp only; omega, by simp [hw], by simp, by simp, by rfl⟩
    · simp only [Bool.toNat_false, Nat.add_zero] at hkl
      simp only [Bool.not_false, Bool.true_and, if_true, Bool.false_or] at hR
      obtain ⟨K1, hK1⟩ : ∃ K1, K0 ++ [x] = K1 := ⟨_, rfl⟩
      have hRx : rD K0 ++ [T.sc (.string x.Path), T.sc (.bool x.Dir), T.sc (.string x.Text)] = rD K1 := by rw [← hK1]; exact rD_snocI K0 x
      have hlx : K0.length + 1 = K1.length := by rw [← hK1]; simp
      rw [List.append_assoc, ← List.append_assoc, hK1] at hR
      have hK1l : K1.length ≤ i + 1 := by omega
      have hT1 := take_snocI K1 c
      have hTl1 := rD_len_Item K1
      have b11 : (K1.length + 1) * 40 ≤ 140737488355328 := by omega
      have b12 : K1.length + 1 ≤ 140737488355328 := by omega
      have b13 : (K1.length + 1) * 3 ≤ K1.length * 3 + 3 := by omega
      refine DW.drawn mixed (by kernel_rfl) ?_
      refine RegD.addN 13 (by simp [hlt1, hd, hw, b1, b2, b3, hTl, hT, hgt, hT1, hTl1, b11, b12, b13]; (first | (simp (disch := omega) only [wrapI, ltF, if_false]; done) | (simp (disch := omega) only [wrapI, ltF, if_false]; first | exact ⟨rfl, rfl⟩ | rfl) | skip); (first | done | exact ⟨rfl, rfl⟩ | rfl)) ?_
      refine RegD.nil ⟨by kernel_rfl, ?_⟩
      refine DW.norm [(2, _), (3, _), (4, _), (5, _), (6, _), (7, _), (28, _)] [(2, _), (3, _), (4, _), (5, _)] [] (by simp [hlt1, hd, hw, b1, b2, b3, hTl, hT, hgt, hT1, hTl1, b11, b12, b13]; exact ⟨rfl, rfl, rfl, rfl, rfl, rfl, rfl⟩) (by simp [hlt1, hd, hw, b1, b2, b3, hTl, hT, hgt, hT1, hTl1, b11, b12, b13]; exact ⟨rfl, rfl, rfl, rfl⟩) (by simp [hlt1, hd, hw, b1, b2, b3, hTl, hT, hgt, hT1, hTl1, b11, b12, b13]) (by rfl) ?_
      refine DW.condT (by simp (maxSteps := 200000) (disch := first | omega | (simp; done) | fail) [wrapI, leT, leF, ltT, ltF, eqF, nleT, nleF, nltT, nltF, hlt1, hd, hw, b1, b2, b3, hTl, hT, hgt, hT1, hTl1, b11, b12, b13]) ?_
      refine DW.seq ?_
      refine DW.reg (by simp [hlt1, hd, hw, b1, b2, b3, hTl, hT, hgt, hT1, hTl1, b11, b12, b13]; rfl) ?_
      refine DW.norm [(2, _), (3, _), (4, _), (5, _), (7, _)] [(2, _), (3, _), (4, _), (5, _)] [] (by simp [hlt1, hd, hw, b1, b2, b3, hTl, hT, hgt, hT1, hTl1, b11, b12, b13, hRx, hlx]; exact ⟨rfl, rfl, rfl, rfl, rfl⟩) (by simp [hlt1, hd, hw, b1, b2, b3, hTl, hT, hgt, hT1, hTl1, b11, b12, b13, hRx, hlx]; exact ⟨rfl, rfl, rfl, rfl⟩) (by simp [hlt1, hd, hw, b1, b2, b3, hTl, hT, hgt, hT1, hTl1, b11, b12, b13, hRx, hlx]) (by rfl) ?_
      refine DW.reg (by simp (maxSteps := 200000) (disch := first | omega | (simp; done) | fail) [wrapI, leT, leF, ltT, ltF, eqF, nleT, nleF, nltT, nltF, hlt1, hd, hw, b1, b2, b3, hTl, hT, hgt, hT1, hTl1, b11, b12, b13]; rfl) ?_
      refine DW.norm [(2, _), (3, _), (4, _), (5, _), (6, _), (7, _)] [(2, _), (3, _), (4, _), (5, _)] [] (by simp [hlt1, hd, hw, b1, b2, b3, hTl, hT, hgt, hT1, hTl1, b11, b12, b13]; exact ⟨rfl, rfl, rfl, rfl, rfl, rfl⟩) (by simp [hlt1, hd, hw, b1, b2, b3, hTl, hT, hgt, hT1, hTl1, b11, b12, b13]; exact ⟨rfl, rfl, rfl, rfl⟩) (by simp [hlt1, hd, hw, b1, b2, b3, hTl, hT, hgt, hT1, hTl1, b11, b12, b13]) (by rfl) ?_
      refine DW.seq ?_
      refine DW.drawn mixed (by kernel_rfl) ?_
      refine RegD.addN 9 (by simp [hlt1, hd, hw, b1, b2, b3, hTl, hT, hgt, hT1, hTl1, b11, b12, b13]; (first | (simp (disch := omega) only [wrapI, ltF, if_false]; done) | (simp (disch := omega) only [wrapI, ltF, if_false]; first | exact ⟨rfl, rfl⟩ | rfl) | skip); (first | done | exact ⟨rfl, rfl⟩ | rfl)) ?_
      refine RegD.nil ⟨by kernel_rfl, ?_⟩
      refine DW.condB (by simp (maxSteps := 200000) (disch := first | omega | (simp; done) | fail) [wrapI, leT, leF, ltT, ltF, eqF, nleT, nleF, nltT, nltF, hlt1, hd, hw, b1, b2, b3, hTl, hT, hgt, hT1, hTl1, b11, b12, b13]; exact rfl) (fun hc2 => ?_) (fun hc2 => ?_)
      · have hT9 : True := trivial
        have hcp : ¬ c.Path = x.Path := by simpa using hc2
        rw [if_neg hcp] at hR
        have hRd := rD_snocI K1 c
        refine DW.drawn mixed (by kernel_rfl) ?_
        refine RegD.addN 7 (by simp [hlt1, hd, hw, b1, b2, b3, hTl, hT, hgt, hT1, hTl1, b11, b12, b13, hT9]; (first | (simp (disch := omega) only [wrapI, ltF, if_false]; done) | (simp (disch := omega) only [wrapI, ltF, if_false]; first | exact ⟨rfl, rfl⟩ | rfl) | skip); (first | done | exact ⟨rfl, rfl⟩ | rfl)) ?_
        refine RegD.cert (Cert.buildRo (rcs := Item.r c) rfl rfl rfl (by decide) (by simp; exact ⟨rfl, rfl⟩) (by simp; rfl) (by simp; rfl) (by rfl) (by decide) (by decide) (by simp [hlt1, hd, hw, b1, b2, b3, hTl, hT, hgt, hT1, hTl1, b11, b12, b13, hT9]; rfl) (by simp [hlt1, hd, hw, b1, b2, b3, hTl, hT, hgt, hT1, hTl1, b11, b12, b13, hT9]; rfl) (by rfl) (by simp)) ?_
        refine RegD.heavyF (by simp) (by simp [hlt1, hd, hw, b1, b2, b3, hTl, hT, hgt, hT1, hTl1, b11, b12, b13, hT9]; rfl) ?_
        refine RegD.addN 1 (by simp [hlt1, hd, hw, b1, b2, b3, hTl, hT, hgt, hT1, hTl1, b11, b12, b13, hT9]; (first | (simp (disch := omega) only [wrapI, ltF, if_false]; done) | (simp (disch := omega) only [wrapI, ltF, if_false]; first | exact ⟨rfl, rfl⟩ | rfl) | skip); (first | done | exact ⟨rfl, rfl⟩ | rfl)) ?_
        refine RegD.heavyF (by simp) (by simp [hlt1, hd, hw, b1, b2, b3, hTl, hT, hgt, hT1, hTl1, b11, b12, b13, hT9]; rfl) ?_
        refine RegD.nil ⟨by kernel_rfl, ?_⟩
        refine DW.norm [(2, _), (3, _), (4, _), (5, _), (6, _), (7, _)] [(2, _), (3, _), (4, _), (5, _)] [] (by simp [hlt1, hd, hw, b1, b2, b3, hTl, hT, hgt, hT1, hTl1, b11, b12, b13, hT9]; exact ⟨rfl, rfl, rfl, rfl, rfl, rfl⟩) (by simp [hlt1, hd, hw, b1, b2, b3, hTl, hT, hgt, hT1, hTl1, b11, b12, b13, hT9]; exact ⟨rfl, rfl, rfl, rfl⟩) (by simp [hlt1, hd, hw, b1, b2, b3, hTl, hT, hgt, hT1, hTl1, b11, b12, b13, hT9]) (by rfl) ?_
        refine DW.reg (by simp (maxSteps := 200000) (disch := first | omega | (simp; done) | fail) [wrapI, leT, leF, ltT, ltF, eqF, nleT, nleF, nltT, nltF, hlt1, hd, hw, b1, b2, b3, hTl, hT, hgt, hT1, hTl1, b11, b12, b13, hT9]; rfl) ?_
        exact ⟨(i + 1, true, K1 ++ [c]), ⟨by simp only; omega, by simp; omega, by simpa using hR⟩, by simp only; omega, by simp [hw], by simp [← hRd], by simp, by rfl⟩
      · have hcp : c.Path = x.Path := by simpa using hc2
        rw [if_pos hcp] at hR
        have hRd : True := trivial
        refine DW.skip ?_
        refine DW.reg (by simp (maxSteps := 200000) (disch := first | omega | (simp; done) | fail) [wrapI, leT, leF, ltT, ltF, eqF, nleT, nleF, nltT, nltF, hlt1, hd, hw, b1, b2, b3, hTl, hT, hgt, hT1, hTl1, b11, b12, b13]; rfl) ?_
        exact ⟨(i + 1, true, K1), ⟨by simp only; omega, by simp; omega, by simpa using hR⟩, by simp only; omega, by simp [hw], by simp, by simp, by rfl⟩
  · have hil : i = l.length := by
      have : ¬ i < l.length := by simpa using hc0
      omega
    rw [hil, List.drop_length] at hR
    refine DW.exit ?_
    refine DW.seq ?_
    refine DW.seq ?_
    refine DW.reg (by simp (maxSteps := 200000) (disch := first | omega | (simp; done) | fail) [wrapI, leT, leF, ltT, ltF, eqF, nleT, nleF, nltT, nltF]; rfl) ?_
    refine DW.condB (by simp (maxSteps := 200000) (disch := first | omega | (simp; done) | fail) [wrapI, leT, leF, ltT, ltF, eqF, nleT, nleF, nltT, nltF]; exact rfl) (fun hc1 => ?_) (fun hc1 => ?_)
    · have hlg : lg = false := by simpa using hc1
      rw [hlg] at hR
      have hRe : putF x false l = K0 ++ [x] := by rw [← hR]; rfl
      rw [hRe]
      have hRd := rD_snocI K0 x
      have hTz : List.take ((K0.length + 1) * 3) (rD (K0 ++ [x])) = rD (K0 ++ [x]) := by have := rD_take_Item (K0 ++ [x]); simpa using this
      have hlgn := Bool.toNat_le lg
      have b1 : (K0.length + 1) * 40 ≤ 140737488355328 := by omega
      have b2 : K0.length + 1 ≤ 140737488355328 := by omega
      have b3 : (K0.length + 1) * 3 ≤ K0.length * 3 + 3 := by omega
      have hTl := rD_len_Item K0
      have hT := take_snocI K0 x
      refine DW.reg (by simp [b1, b2, b3, hTl, hT, hRd, hTz]; rfl) ?_
      refine DW.norm [(4, _), (5, _)] [(2, _), (3, _), (4, _), (5, _)] [] (by simp [b1, b2, b3, hTl, hT, hRd, hTz, hRd]; exact ⟨rfl, rfl⟩) (by simp [b1, b2, b3, hTl, hT, hRd, hTz, hRd]; exact ⟨rfl, rfl, rfl, rfl⟩) (by simp [b1, b2, b3, hTl, hT, hRd, hTz, hRd]) (by rfl) ?_
      refine DW.seq ?_
      refine DW.reg (by simp [b1, b2, b3, hTl, hT, hRd, hTz]; rfl) ?_
      refine DW.ret ?_
      simp [Try.results37, hTz]
    · have hlg : lg = true := by simpa using hc1
      rw [hlg] at hR
      have hRe : putF x false l = K0 := by rw [← hR]; simp [putF]
      rw [hRe]
      refine DW.skip ?_
      refine DW.seq ?_
      refine DW.reg (by simp; rfl) ?_
      refine DW.ret ?_
      simp [Try.results37]
end Go.Proofs.Ytciieaidbiejmaa.DM
