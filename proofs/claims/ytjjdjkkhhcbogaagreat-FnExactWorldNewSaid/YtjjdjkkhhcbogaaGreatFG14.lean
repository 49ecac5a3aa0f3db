import Derived.Test.YtjjdjkkhhcbogaaGreatFG13
namespace Go.Proofs.YtjjdjkkhhcbogaaGreat.DM
set_option linter.unusedVariables false
set_option linter.unusedSimpArgs false
set_option maxRecDepth 4000
set_option maxHeartbeats 8000000
def inoWs (g : Geo) (t : Int) (Ns : List Inode) (n : Nat) : List Write := (List.range n).flatMap fun (i : Nat) => match Ns[i]? with | some x => writesOf (inodeAt g t i) (inoWords x) | none => []
theorem inoWs_succ (g : Geo) (t : Int) (Ns : List Inode) (i : Nat) (h : i < Ns.length) : inoWs g t Ns (i + 1) = inoWs g t Ns i ++ writesOf (inodeAt g t i) (inoWords Ns[i]) := by
  simp [inoWs, List.range_succ, List.flatMap_append, h]
theorem inoWs_len (g : Geo) (t : Int) (Ns : List Inode) : ∀ n, n ≤ Ns.length → (inoWs g t Ns n).length = 8 * n
  | 0, _ => rfl
  | n + 1, h => by rw [inoWs_succ g t Ns n (by omega), List.length_append, inoWs_len g t Ns n (by omega), writesFrom_len, inoWords_len]; omega
def partW (g : Geo) (t : Int) (p : Part) : List Write := writesOf (placeIn g t 36) (stWords p.States) ++ inoWs g t p.Inodes p.Inodes.length
theorem inodeAt_bd {g : Geo} {t i : Int} (h : tenOk g t = true) (h0 : 0 ≤ i) (h1 : i < g.Inodes) : 0 ≤ inodeAt g t i ∧ inodeAt g t i ≤ 2000 := by
  have hii := (tenIn h).1.i
  unfold inodeAt
  rw [if_pos (inB_iff.2 ⟨h0, by omega⟩)]
  exact placeIn_bd h (by omega) (by omega)
theorem inoWs_at {g : Geo} {t : Int} {Ns : List Inode} (h : ∀ i, i < Ns.length → 0 ≤ inodeAt g t (i : Int)) : ∀ n, n ≤ Ns.length → ∀ w ∈ inoWs g t Ns n, 0 ≤ w.At
  | 0, _, w, hw => by simp [inoWs] at hw
  | n + 1, hn, w, hw => by
    rw [inoWs_succ g t Ns n (by omega)] at hw
    rcases List.mem_append.1 hw with hw | hw
    · exact inoWs_at h n (by omega) w hw
    · exact writesFrom_at _ _ _ (h n (by omega)) w hw

theorem specInodeWords_spec (x : Inode) (hx : simpN x) : Spec Tryz.prog 181 [raInode x] [none] [dr (inoWords x)] [raInode x] := by
  refine Spec.intro Tryz.func181 rfl rfl Tryz.ntmps181 rfl (by simp) ?_
  obtain ⟨⟨hk0, hk1⟩, hs, ⟨hg0, hg1⟩, hy, hr, he⟩ := simpI hx
  have hs0 : 0 ≤ x.Size := by omega
  have hs1 : x.Size < 2 ^ (8 * 2) := by omega
  have hy8 : x.Key.size ≤ 8 := by rw [hy]; simp
  refine DW.seq ?_
  refine DW.reg (by simp (maxSteps := 200000) (disch := first | omega | (simp; done) | fail) [wrapI, leT, leF, ltT, ltF, eqF, nleT, nleF, nltT, nltF]; rfl) ?_
  refine DW.seq ?_
  refine DW.seq ?_
  refine DW.regs ?_
  refine RegO.opN 1 (by simp (maxSteps := 200000) (disch := first | omega | (simp; done) | fail) [wrapI, leT, leF, ltT, ltF, eqF, nleT, nleF, nltT, nltF]; rfl) ?_
  refine RegO.step rfl (OpStep.callA rfl (by simp (maxSteps := 200000) (disch := first | omega | (simp; done) | fail) [wrapI, leT, leF, ltT, ltF, eqF, nleT, nleF, nltT, nltF]; exact ⟨rfl, rfl⟩) (by simp (maxSteps := 200000) (disch := first | omega | (simp; done) | fail) [wrapI, leT, leF, ltT, ltF, eqF, nleT, nleF, nltT, nltF]; rfl) (by exact specInodeOk_spec x hx) (by simp) (by simp (maxSteps := 200000) (disch := first | omega | (simp; done) | fail) [wrapI, leT, leF, ltT, ltF, eqF, nleT, nleF, nltT, nltF]; rfl)) ?_
  refine RegO.opN 1 (by simp (maxSteps := 200000) (disch := first | omega | (simp; done) | fail) [wrapI, leT, leF, ltT, ltF, eqF, nleT, nleF, nltT, nltF]; rfl) ?_
  refine RegO.nil ?_
  refine DW.condF (by simp (maxSteps := 200000) (disch := first | omega | (simp; done) | fail) [wrapI, leT, leF, ltT, ltF, eqF, nleT, nleF, nltT, nltF]) ?_
  refine DW.skip ?_
  refine DW.seq ?_
  refine DW.drawn mixed (by kernel_rfl) ?_
  refine RegD.addN 2 (by simp; (first | (simp (disch := omega) only [wrapI]; done) | (simp (disch := omega) only [wrapI]; exact ⟨rfl, rfl⟩) | skip); (first | done | exact ⟨rfl, rfl⟩ | rfl)) ?_
  refine RegD.cert (Cert.callA rfl (by simp) rfl (by decide) (by simp; exact ⟨rfl, rfl⟩) (by simp; rfl) (by exact specNumText_spec x.Kind 1 hk0 hk1 (by omega)) rfl (by simp) (by simp; rfl) rfl) ?_
  refine RegD.addN 2 (by simp; (first | (simp (disch := omega) only [wrapI]; done) | (simp (disch := omega) only [wrapI]; exact ⟨rfl, rfl⟩) | skip); (first | done | exact ⟨rfl, rfl⟩ | rfl)) ?_
  refine RegD.cert (Cert.callA rfl (by simp) rfl (by decide) (by simp; exact ⟨rfl, rfl⟩) (by simp; rfl) (by exact specNumText_spec x.Size 2 hs0 hs1 (by omega)) rfl (by simp) (by simp; rfl) rfl) ?_
  refine RegD.addN 3 (by simp; (first | (simp (disch := omega) only [wrapI]; done) | (simp (disch := omega) only [wrapI]; exact ⟨rfl, rfl⟩) | skip); (first | done | exact ⟨rfl, rfl⟩ | rfl)) ?_
  refine RegD.cert (Cert.callA rfl (by simp) rfl (by decide) (by simp; exact ⟨rfl, rfl⟩) (by simp; rfl) (by exact specNumText_spec x.Gen 2 hg0 hg1 (by omega)) rfl (by simp) (by simp; rfl) rfl) ?_
  refine RegD.addN 1 (by simp; (first | (simp (disch := omega) only [wrapI]; done) | (simp (disch := omega) only [wrapI]; exact ⟨rfl, rfl⟩) | skip); (first | done | exact ⟨rfl, rfl⟩ | rfl)) ?_
  refine RegD.cert (Cert.callA rfl (by simp) rfl (by decide) (by simp; exact ⟨rfl, rfl⟩) (by simp; rfl) (by exact wordText_spec _ (by simp)) rfl (by simp) (by simp; rfl) rfl) ?_
  refine RegD.addN 2 (by simp; (first | (simp (disch := omega) only [wrapI]; done) | (simp (disch := omega) only [wrapI]; exact ⟨rfl, rfl⟩) | skip); (first | done | exact ⟨rfl, rfl⟩ | rfl)) ?_
  refine RegD.cert (Cert.callA rfl (by simp) rfl (by decide) (by simp; exact ⟨rfl, rfl⟩) (by simp; rfl) (by exact wordText_spec _ hy8) rfl (by simp) (by simp; rfl) rfl) ?_
  refine RegD.cert (Cert.buildRo (rcs := [.sc (.string (padB (numB x.Kind 1 ++ numB x.Size 2 ++ numB x.Gen 2) 8)), .sc (.string (padB x.Key 8))]) rfl rfl rfl (by decide) (by simp; exact ⟨rfl, rfl⟩) (by simp; rfl) (by simp; rfl) (by rfl) (by decide) (by decide) (by simp; rfl) (by simp; rfl) (by rfl) (by simp)) ?_
  refine RegD.addN 1 (by simp; (first | (simp (disch := omega) only [wrapI]; done) | (simp (disch := omega) only [wrapI]; exact ⟨rfl, rfl⟩) | skip); (first | done | exact ⟨rfl, rfl⟩ | rfl)) ?_
  refine RegD.nil ⟨by kernel_rfl, ?_⟩
  refine DW.seq ?_
  refine DW.seq ?_
  refine DW.reg (by simp (maxSteps := 200000) (disch := first | omega | (simp; done) | fail) [wrapI, leT, leF, ltT, ltF, eqF, nleT, nleF, nltT, nltF]; rfl) ?_
  refine DW.block ?_
  refine DW.loopS (α := Unit) (fun u => True) (fun u => 0) (fun u => []) (fun u => []) [(1, _), (3, _), (4, _)] [(1, _), (25, _)] [] () (trivial) (by simp; exact ⟨rfl, rfl, rfl⟩) (by simp; exact ⟨rfl, rfl⟩) (by simp) (by rfl) ?_
  rintro ⟨⟩ -
  refine DW.seq ?_
  refine DW.seq ?_
  refine DW.reg (by simp (maxSteps := 200000) (disch := first | omega | (simp; done) | fail) [wrapI, leT, leF, ltT, ltF, eqF, nleT, nleF, nltT, nltF, hr]; rfl) ?_
  refine DW.condF (by simp (maxSteps := 200000) (disch := first | omega | (simp; done) | fail) [wrapI, leT, leF, ltT, ltF, eqF, nleT, nleF, nltT, nltF, hr]) ?_
  refine DW.exit ?_
  refine DW.seq ?_
  refine DW.seq ?_
  refine DW.reg (by simp (maxSteps := 200000) (disch := first | omega | (simp; done) | fail) [wrapI, leT, leF, ltT, ltF, eqF, nleT, nleF, nltT, nltF]; rfl) ?_
  refine DW.ghost (Ghost.move (id := 25) (id' := 64) (p := []) (by simp; rfl) (by simp; first | exact ⟨rfl, rfl, rfl⟩ | rfl) (by simp)) ?_
  refine DW.block ?_
  refine DW.loopS (α := Unit) (fun u => True) (fun u => 0) (fun u => []) (fun u => []) [(1, _), (3, _), (5, _)] [(1, _), (64, _)] [] () (trivial) (by simp; exact ⟨rfl, rfl, rfl⟩) (by simp; exact ⟨rfl, rfl⟩) (by simp) (by rfl) ?_
  rintro ⟨⟩ -
  refine DW.seq ?_
  refine DW.seq ?_
  refine DW.reg (by simp (maxSteps := 200000) (disch := first | omega | (simp; done) | fail) [wrapI, leT, leF, ltT, ltF, eqF, nleT, nleF, nltT, nltF, he]; rfl) ?_
  refine DW.condF (by simp (maxSteps := 200000) (disch := first | omega | (simp; done) | fail) [wrapI, leT, leF, ltT, ltF, eqF, nleT, nleF, nltT, nltF, he]) ?_
  refine DW.exit ?_
  refine DW.seq ?_
  refine DW.block ?_
  refine DW.loopS (α := Nat) (fun j => j ≤ 6) (fun j => 6 - j) (fun j => [(3, .v (.one (.sl 64 [] 0 (j + 2))))]) (fun j => [(64, .ow () 1 (j + 2) (rD (inoFill x j)))]) [] [] [] 0 (Nat.zero_le _) (by simp) (by simp; rfl) (by simp) (by rfl) ?_
  intro j hj
  refine DW.seq ?_
  refine DW.seq ?_
  refine DW.reg (by simp (maxSteps := 200000) (disch := first | omega | (simp; done) | fail) [wrapI, leT, leF, ltT, ltF, eqF, nleT, nleF, nltT, nltF]; rfl) ?_
  refine DW.condB (by simp (maxSteps := 200000) (disch := first | omega | (simp; done) | fail) [wrapI, leT, leF, ltT, ltF, eqF, nleT, nleF, nltT, nltF]; exact rfl) (fun hc3 => ?_) (fun hc3 => ?_)
  · have hlt : j + 1 ≤ 6 := by
      have : (j : Int) + 2 < 8 := by simpa using hc3
      omega
    have b1 : (j + 2 + 1) * 16 ≤ 140737488355328 := by omega
    have b2 : j + 2 + 1 ≤ 140737488355328 := by omega
    have b3 : j + 2 ≤ 140737488355327 := by omega
    have hT : (rD (inoFill x j)).take (j + 2) = rD (inoFill x j) := by have := rD_take1_ByteArray (inoFill x j); rwa [inoFill_len] at this
    have hR : rD (inoFill x (j + 1)) = rD (inoFill x j) ++ [T.sc (.string (zeros 8))] := by rw [inoFill_succ, rD_append]; rfl
    refine DW.skip ?_
    refine DW.block ?_
    refine DW.regs ?_
    refine RegO.opN 1 (by simp [b1, b2, b3, hT]; rfl) ?_
    refine RegO.step rfl (OpStep.callA rfl (by simp [b1, b2, b3, hT]; exact ⟨rfl, rfl⟩) (by simp [b1, b2, b3, hT]; rfl) (by exact zeroText_spec 8 (by omega)) (by simp) (by simp [b1, b2, b3, hT]; rfl)) ?_
    refine RegO.opN 3 (by simp [b1, b2, b3, hT]; rfl) ?_
    refine RegO.nil ?_
    exact ⟨j + 1, hlt, by omega, by simp <;> omega, by simp [hR] <;> omega, by simp, by rfl⟩
  · have hj6 : j = 6 := by
      have : ¬ (j : Int) + 2 < 8 := by simpa using hc3
      omega
    subst hj6
    have hT : (rD (inoFill x 6)).take 8 = rD (inoFill x 6) := by have := rD_take1_ByteArray (inoFill x 6); rwa [inoFill_len] at this
    refine DW.exit ?_
    refine DW.seq ?_
    refine DW.reg (by simp (maxSteps := 200000) (disch := first | omega | (simp; done) | fail) [wrapI, leT, leF, ltT, ltF, eqF, nleT, nleF, nltT, nltF]; rfl) ?_
    refine DW.ret ?_
    rw [← inoFill_all]
    simp [Tryz.results181, hT]
theorem implInodeText_spec (x : Inode) (hx : simpN x) : Spec Tryz.prog 140 [raInode x] [none] [dr (inoWords x)] [raInode x] := by
  refine Spec.intro Tryz.func140 rfl rfl Tryz.ntmps140 rfl (by simp) ?_
  obtain ⟨⟨hk0, hk1⟩, hs, ⟨hg0, hg1⟩, hy, hr, he⟩ := simpI hx
  have hs0 : 0 ≤ x.Size := by omega
  have hs1 : x.Size < 2 ^ (8 * 2) := by omega
  have hy8 : x.Key.size ≤ 8 := by rw [hy]; simp
  refine DW.seq ?_
  refine DW.reg (by simp (maxSteps := 200000) (disch := first | omega | (simp; done) | fail) [wrapI, leT, leF, ltT, ltF, eqF, nleT, nleF, nltT, nltF]; rfl) ?_
  refine DW.seq ?_
  refine DW.drawn mixed (by kernel_rfl) ?_
  refine RegD.addN 2 (by simp; (first | (simp (disch := omega) only [wrapI]; done) | (simp (disch := omega) only [wrapI]; exact ⟨rfl, rfl⟩) | skip); (first | done | exact ⟨rfl, rfl⟩ | rfl)) ?_
  refine RegD.cert (Cert.callA rfl (by simp) rfl (by decide) (by simp; exact ⟨rfl, rfl⟩) (by simp; rfl) (by exact implNumText_spec x.Kind 1 hk0 hk1 (by omega)) rfl (by simp) (by simp; rfl) rfl) ?_
  refine RegD.addN 2 (by simp; (first | (simp (disch := omega) only [wrapI]; done) | (simp (disch := omega) only [wrapI]; exact ⟨rfl, rfl⟩) | skip); (first | done | exact ⟨rfl, rfl⟩ | rfl)) ?_
  refine RegD.cert (Cert.callA rfl (by simp) rfl (by decide) (by simp; exact ⟨rfl, rfl⟩) (by simp; rfl) (by exact implNumText_spec x.Size 2 hs0 hs1 (by omega)) rfl (by simp) (by simp; rfl) rfl) ?_
  refine RegD.addN 3 (by simp; (first | (simp (disch := omega) only [wrapI]; done) | (simp (disch := omega) only [wrapI]; exact ⟨rfl, rfl⟩) | skip); (first | done | exact ⟨rfl, rfl⟩ | rfl)) ?_
  refine RegD.cert (Cert.callA rfl (by simp) rfl (by decide) (by simp; exact ⟨rfl, rfl⟩) (by simp; rfl) (by exact implNumText_spec x.Gen 2 hg0 hg1 (by omega)) rfl (by simp) (by simp; rfl) rfl) ?_
  refine RegD.addN 1 (by simp; (first | (simp (disch := omega) only [wrapI]; done) | (simp (disch := omega) only [wrapI]; exact ⟨rfl, rfl⟩) | skip); (first | done | exact ⟨rfl, rfl⟩ | rfl)) ?_
  refine RegD.cert (Cert.callA rfl (by simp) rfl (by decide) (by simp; exact ⟨rfl, rfl⟩) (by simp; rfl) (by exact implWordText_spec _ (by simp)) rfl (by simp) (by simp; rfl) rfl) ?_
  refine RegD.addN 2 (by simp; (first | (simp (disch := omega) only [wrapI]; done) | (simp (disch := omega) only [wrapI]; exact ⟨rfl, rfl⟩) | skip); (first | done | exact ⟨rfl, rfl⟩ | rfl)) ?_
  refine RegD.cert (Cert.callA rfl (by simp) rfl (by decide) (by simp; exact ⟨rfl, rfl⟩) (by simp; rfl) (by exact implWordText_spec _ hy8) rfl (by simp) (by simp; rfl) rfl) ?_
  refine RegD.cert (Cert.buildRo (rcs := [.sc (.string (padB (numB x.Kind 1 ++ numB x.Size 2 ++ numB x.Gen 2) 8)), .sc (.string (padB x.Key 8))]) rfl rfl rfl (by decide) (by simp; exact ⟨rfl, rfl⟩) (by simp; rfl) (by simp; rfl) (by rfl) (by decide) (by decide) (by simp; rfl) (by simp; rfl) (by rfl) (by simp)) ?_
  refine RegD.addN 1 (by simp; (first | (simp (disch := omega) only [wrapI]; done) | (simp (disch := omega) only [wrapI]; exact ⟨rfl, rfl⟩) | skip); (first | done | exact ⟨rfl, rfl⟩ | rfl)) ?_
  refine RegD.nil ⟨by kernel_rfl, ?_⟩
  refine DW.seq ?_
  refine DW.seq ?_
  refine DW.reg (by simp (maxSteps := 200000) (disch := first | omega | (simp; done) | fail) [wrapI, leT, leF, ltT, ltF, eqF, nleT, nleF, nltT, nltF, hr]; rfl) ?_
  refine DW.block ?_
  refine DW.loopS (α := Unit) (fun u => True) (fun u => 0) (fun u => []) (fun u => []) [(1, _), (3, _), (25, _), (26, _), (27, _)] [(1, _), (23, _)] [] () (trivial) (by simp; exact ⟨rfl, rfl, rfl, rfl, rfl⟩) (by simp; exact ⟨rfl, rfl⟩) (by simp) (by rfl) ?_
  rintro ⟨⟩ -
  refine DW.seq ?_
  refine DW.reg (by simp (maxSteps := 200000) (disch := first | omega | (simp; done) | fail) [wrapI, leT, leF, ltT, ltF, eqF, nleT, nleF, nltT, nltF]; rfl) ?_
  refine DW.seq ?_
  refine DW.condF (by simp (maxSteps := 200000) (disch := first | omega | (simp; done) | fail) [wrapI, leT, leF, ltT, ltF, eqF, nleT, nleF, nltT, nltF]) ?_
  refine DW.exit ?_
  refine DW.seq ?_
  refine DW.seq ?_
  refine DW.reg (by simp (maxSteps := 200000) (disch := first | omega | (simp; done) | fail) [wrapI, leT, leF, ltT, ltF, eqF, nleT, nleF, nltT, nltF, he]; rfl) ?_
  refine DW.ghost (Ghost.move (id := 23) (id' := 56) (p := []) (by simp; rfl) (by simp; first | exact ⟨rfl, rfl, rfl⟩ | rfl) (by simp)) ?_
  refine DW.block ?_
  refine DW.loopS (α := Unit) (fun u => True) (fun u => 0) (fun u => []) (fun u => []) [(3, _), (38, _), (39, _), (40, _)] [(1, _), (56, _)] [] () (trivial) (by simp; exact ⟨rfl, rfl, rfl, rfl⟩) (by simp; exact ⟨rfl, rfl⟩) (by simp) (by rfl) ?_
  rintro ⟨⟩ -
  refine DW.seq ?_
  refine DW.reg (by simp (maxSteps := 200000) (disch := first | omega | (simp; done) | fail) [wrapI, leT, leF, ltT, ltF, eqF, nleT, nleF, nltT, nltF]; rfl) ?_
  refine DW.seq ?_
  refine DW.condF (by simp (maxSteps := 200000) (disch := first | omega | (simp; done) | fail) [wrapI, leT, leF, ltT, ltF, eqF, nleT, nleF, nltT, nltF]) ?_
  refine DW.exit ?_
  refine DW.seq ?_
  refine DW.block ?_
  refine DW.loopS (α := Nat) (fun j => j ≤ 6) (fun j => 6 - j) (fun j => [(3, .v (.one (.sl 56 [] 0 (j + 2))))]) (fun j => [(56, .ow () 1 (j + 2) (rD (inoFill x j)))]) [] [] [] 0 (Nat.zero_le _) (by simp) (by simp; rfl) (by simp) (by rfl) ?_
  intro j hj
  refine DW.seq ?_
  refine DW.seq ?_
  refine DW.reg (by simp (maxSteps := 200000) (disch := first | omega | (simp; done) | fail) [wrapI, leT, leF, ltT, ltF, eqF, nleT, nleF, nltT, nltF]; rfl) ?_
  refine DW.condB (by simp (maxSteps := 200000) (disch := first | omega | (simp; done) | fail) [wrapI, leT, leF, ltT, ltF, eqF, nleT, nleF, nltT, nltF]; exact rfl) (fun hc2 => ?_) (fun hc2 => ?_)
  · have hlt : j + 1 ≤ 6 := by
      have : (j : Int) + 2 < 8 := by simpa using hc2
      omega
    have b1 : (j + 2 + 1) * 16 ≤ 140737488355328 := by omega
    have b2 : j + 2 + 1 ≤ 140737488355328 := by omega
    have b3 : j + 2 ≤ 140737488355327 := by omega
    have hT : (rD (inoFill x j)).take (j + 2) = rD (inoFill x j) := by have := rD_take1_ByteArray (inoFill x j); rwa [inoFill_len] at this
    have hR : rD (inoFill x (j + 1)) = rD (inoFill x j) ++ [T.sc (.string (zeros 8))] := by rw [inoFill_succ, rD_append]; rfl
    refine DW.skip ?_
    refine DW.block ?_
    refine DW.regs ?_
    refine RegO.opN 1 (by simp [b1, b2, b3, hT]; rfl) ?_
    refine RegO.step rfl (OpStep.callA rfl (by simp [b1, b2, b3, hT]; exact ⟨rfl, rfl⟩) (by simp [b1, b2, b3, hT]; rfl) (by exact zeroWord_spec) (by simp) (by simp [b1, b2, b3, hT]; rfl)) ?_
    refine RegO.opN 3 (by simp [b1, b2, b3, hT]; rfl) ?_
    refine RegO.nil ?_
    exact ⟨j + 1, hlt, by omega, by simp <;> omega, by simp [hR] <;> omega, by simp, by rfl⟩
  · have hj6 : j = 6 := by
      have : ¬ (j : Int) + 2 < 8 := by simpa using hc2
      omega
    subst hj6
    have hT : (rD (inoFill x 6)).take 8 = rD (inoFill x 6) := by have := rD_take1_ByteArray (inoFill x 6); rwa [inoFill_len] at this
    refine DW.exit ?_
    refine DW.seq ?_
    refine DW.reg (by simp (maxSteps := 200000) (disch := first | omega | (simp; done) | fail) [wrapI, leT, leF, ltT, ltF, eqF, nleT, nleF, nltT, nltF]; rfl) ?_
    refine DW.ret ?_
    rw [← inoFill_all]
    simp [Tryz.results140, hT]
end Go.Proofs.YtjjdjkkhhcbogaaGreat.DM
