import Derived.Test.YtjjdjkkhhcbogaaGreatFWoFam
import Derived.Test.YtjjdjkkhhcbogaaGreatFG18
namespace Go.Proofs.YtjjdjkkhhcbogaaGreat.DM
set_option linter.unusedVariables false
set_option linter.unusedSimpArgs false
set_option maxRecDepth 4000
set_option maxHeartbeats 8000000
@[simp] theorem rD_takem_View (l : List View) (k : Int) : (rD (mkL l k)).take l.length = rD (mkL l k) := by have h := rD_take1_View (mkL l k); rwa [mkL_len] at h
theorem szL_cells (n : Nat) : ∀ l : List Cell, (∀ c ∈ l, fitsC n c) → szL l = 17 * l.length
  | [], _ => rfl
  | c :: l, h => by
    have := szL_cells n l fun c' hc' => h c' (List.mem_cons_of_mem _ hc')
    have h1 := (h c List.mem_cons_self).2.2
    simp only [szL, this, List.length_cons, Cell_sz, h1]; omega
theorem stepsM_sz (m : Memory) (L : List Step) : Row.sz (stepsM m L) ≤ Row.sz m + 17 * (m.Cells.length + L.length) := by
  have hb := stepsM_bd L m
  cases h : memOk m.Kept m.Cells with
  | true =>
    have ho := stepsM_ok L h
    have := szL_cells _ _ (memOk_fits ho)
    rw [Memory_sz, Memory_sz, this]
    omega
  | false => rw [stepsM_bad L h]; omega
theorem memF_sz (g : Geo) (hg : GeoIn g) : ∀ t, t ≤ 3 → Row.sz (memF g t) ≤ 17000 + 20000 * t
  | 0, _ => by
    have h := linesN_bd hg
    rw [Memory_sz]; simp [memF, szL]; omega
  | t + 1, ht => by
    have ih := memF_sz g hg t (by omega)
    have h1 := stepsM_sz (memF g t) (partS g t)
    have h2 := partS_len g t hg
    have h3 := memF_bd g hg t
    rw [memF]; omega
theorem fmtM_sz (g : Geo) : Row.sz (fmtM g) ≤ 80000 := by
  unfold fmtM
  split
  · rename_i h
    have hg := geoIn h
    have ht := hg.t
    have := memF_sz g hg g.Tenants.toNat (by omega)
    omega
  · rw [Memory_sz]; simp [szL]

theorem szL_rep {α : Type} [Row α] (x : α) : ∀ n : Nat, szL (List.replicate n x) = n * (1 + Row.sz x)
  | 0 => by simp [szL]
  | n + 1 => by
    rw [List.replicate_succ, szL, szL_rep x n, Nat.succ_mul]; omega
theorem sysV_sz (g : Geo) : Row.sz (sysV g) ≤ 90000 := by
  unfold sysV
  split
  · rename_i h
    have hg := geoIn h
    have ht := hg.t
    have := fmtM_sz g
    have hj : Row.sz jobZ = 0 := by simp [jobZ, Job_sz, Ask_sz, Result_sz, szL]
    rw [System_sz]
    simp only [szL_rep, hj, Geo_sz, szL]
    omega
  · simp [System_sz, Memory_sz, Geo_sz, szL]

theorem worldV_pat (g : Geo) : (0 < (worldV g).System.Jobs.length ∧ (worldV g).System.Seals = [] ∧ 0 < (worldV g).Views.length ∧ 0 < (worldV g).Hoped.length) ∨ ((worldV g).System.Memory.Cells = [] ∧ (worldV g).System.Jobs = [] ∧ (worldV g).System.Seals = [] ∧ (worldV g).Views = [] ∧ (worldV g).Hoped = []) := by
  unfold worldV
  split
  · rename_i h
    have ht := (geoIn h).t
    simp only [sysV, h, if_true, List.length_replicate]
    exact .inl ⟨by omega, trivial, by omega, by omega⟩
  · exact .inr ⟨rfl, rfl, rfl, rfl, rfl⟩
theorem worldV_sz (g : Geo) : Row.sz (worldV g) ≤ 100000 := by
  unfold worldV
  split
  · rename_i h
    have hg := geoIn h
    have ht := hg.t
    have := sysV_sz g
    have hv : Row.sz (⟨[]⟩ : View) = 0 := by simp [View_sz, szL]
    rw [World_sz]
    simp only [szL_rep, hv, szL]
    omega
  · simp [World_sz, System_sz, Memory_sz, Geo_sz, szL]

theorem FnExactWorldNew_spec (g : Geo)  : Spec Tryz.prog 6 [raGeo g] [none] [db true] [raGeo g] := by
  refine Spec.intro Tryz.func6 rfl rfl Tryz.ntmps6 rfl (by simp) ?_
  obtain ⟨S, hS⟩ : ∃ S, S = worldV g := ⟨_, rfl⟩
  have hgz : Row.sz g ≤ 2 ^ 36 := by rw [Geo_sz]; omega
  have hr0 := worldV_sz g
  have hpat := worldV_pat g
  rw [← hS] at hr0 hpat
  have hr : Row.sz S ≤ 2 ^ 36 := by omega
  have c1 : World.ctT S ≤ 40 * Row.sz S := World_clT S
  have z1 : ¬ (1 + (World.ctT S : Int) < 0) := by omega
  refine DW.seq ?_
  refine DW.reg (by simp [z1]; rfl) ?_
  refine DW.norm [(1, _)] [(1, _)] [] (by simp [z1]; rfl) (by simp [z1]; rfl) (by simp [z1]) (by rfl) ?_
  refine DW.seq ?_
  refine DW.regs ?_
  refine RegO.opN 1 (by simp [z1]; rfl) ?_
  refine RegO.step rfl (OpStep.callA rfl (by simp [z1]; exact ⟨rfl, rfl⟩) (by simp [z1]; rfl) (by exact toGeo_spec _ (by first | assumption | simp [Row.sz])) (by simp) (by simp [z1]; rfl)) ?_
  refine RegO.step rfl (OpStep.callA rfl (by simp [z1]; exact ⟨rfl, rfl⟩) (by simp [z1]; rfl) (by exact (hS ▸ specWorldNew_spec g)) (by simp) (by simp [z1]; rfl)) ?_
  refine RegO.opN 6 (by simp [z1]; rfl) ?_
  refine RegO.nil ?_
  refine DW.norm [(1, _), (3, _), (4, _)] [(1, _), (3, _), (14, _)] [] (by simp [z1]; exact ⟨rfl, rfl, rfl⟩) (by simp [z1]; exact ⟨rfl, rfl, rfl⟩) (by simp [z1]) (by rfl) ?_
  refine DW.seq ?_
  refine DW.regs ?_
  refine RegO.opN 1 (by simp [z1]; rfl) ?_
  refine RegO.step rfl (OpStep.callA rfl (by simp [z1]; exact ⟨rfl, rfl⟩) (by simp [z1]; rfl) (by exact toGeo_spec _ (by first | assumption | simp [Row.sz])) (by simp) (by simp [z1]; rfl)) ?_
  refine RegO.step rfl (OpStep.callA rfl (by simp [z1]; exact ⟨rfl, rfl⟩) (by simp [z1]; rfl) (by exact (hS ▸ implWorldNew_spec g)) (by simp) (by simp [z1]; rfl)) ?_
  refine RegO.opN 6 (by simp [z1]; rfl) ?_
  refine RegO.nil ?_
  refine DW.norm [(1, _), (3, _), (4, _), (5, _), (6, _)] [(1, _), (3, _), (5, _), (14, _), (20, _)] [] (by simp [z1]; exact ⟨rfl, rfl, rfl, rfl, rfl⟩) (by simp [z1]; exact ⟨rfl, rfl, rfl, rfl, rfl⟩) (by simp [z1]) (by rfl) ?_
  refine DW.seq ?_
  refine DW.seq ?_
  refine DW.regs ?_
  refine RegO.opN 2 (by simp [z1]; rfl) ?_
  refine RegO.step rfl (OpStep.callA rfl (by simp [z1]; exact ⟨rfl, rfl⟩) (by simp [z1]; rfl) (by exact eqWorld_spec _ (by first | assumption | simp [Row.sz])) (by simp) (by simp [z1]; rfl)) ?_
  refine RegO.opN 6 (by simp [z1]; rfl) ?_
  refine RegO.nil ?_
  refine DW.norm [(1, _), (3, _), (4, _), (5, _), (31, _)] [(1, _), (3, _), (5, _), (14, _)] [] (by simp [z1]; exact ⟨rfl, rfl, rfl, rfl, rfl⟩) (by simp [z1]; exact ⟨rfl, rfl, rfl, rfl⟩) (by simp [z1]) (by rfl) ?_
  refine DW.condF (by simp [z1]) ?_
  refine DW.skip ?_
  refine DW.seq ?_
  refine DW.reg (by simp [z1]; rfl) ?_
  refine DW.norm [(1, _), (3, _), (4, _), (5, _), (7, _)] [(1, _), (3, _), (5, _), (14, _)] [] (by simp [z1]; exact ⟨rfl, rfl, rfl, rfl, rfl⟩) (by simp [z1]; exact ⟨rfl, rfl, rfl, rfl⟩) (by simp [z1]) (by rfl) ?_
  refine DW.seq ?_
  refine DW.regs ?_
  refine RegO.opN 2 (by simp [z1]; rfl) ?_
  refine RegO.step rfl (s1 := St [(1, _), (3, _), (4, _), (5, _), (7, _), (34, _)] [(1, _), (3, _), (5, _), (14, _)] []) (by rcases nil_or_pos2 S.System.Memory.Cells with ⟨m0, n0, p0⟩ | ⟨m0, n0, p0⟩ <;> rcases nil_or_pos2 S.System.Jobs with ⟨m1, n1, p1⟩ | ⟨m1, n1, p1⟩ <;> rcases nil_or_pos2 S.System.Seals with ⟨m2, n2, p2⟩ | ⟨m2, n2, p2⟩ <;> rcases nil_or_pos2 S.Views with ⟨m3, n3, p3⟩ | ⟨m3, n3, p3⟩ <;> rcases nil_or_pos2 S.Hoped with ⟨m4, n4, p4⟩ | ⟨m4, n4, p4⟩ <;> exact OpStep.st (OpStep.callL (io := 0) rfl (by simp [z1, m0, n0, p0, m1, n1, p1, m2, n2, p2, m3, n3, p3, m4, n4, p4, World.mkT, System.mkT]; rfl) (markWorld_spec S (1) (by omega) (by omega) (by assumption) (by assumption)) (by rfl) (by rfl) (by rfl) (by rfl) (by simp [lendL, FS.lend, z1, m0, n0, p0, m1, n1, p1, m2, n2, p2, m3, n3, p3, m4, n4, p4, World.mkT, System.mkT]; exact ⟨rfl, rfl⟩) (by simp [apartP]) (by simp) (by simp [z1, m0, n0, p0, m1, n1, p1, m2, n2, p2, m3, n3, p3, m4, n4, p4, World.mkT, System.mkT]; rfl) (by simp [rosOk]) (by simp) (by simp [backFS, hBack, pzsC, pzS, paCells, PC.tree, z1, m0, n0, p0, m1, n1, p1, m2, n2, p2, m3, n3, p3, m4, n4, p4, World.mkT, System.mkT]; rfl)) (by first | (simp [z1, m0, n0, p0, m1, n1, p1, m2, n2, p2, m3, n3, p3, m4, n4, p4, World.mkT, System.mkT]; done) | (simp [z1, m0, n0, p0, m1, n1, p1, m2, n2, p2, m3, n3, p3, m4, n4, p4, World.mkT, System.mkT]; exact ⟨rfl, rfl, rfl, rfl, rfl, rfl⟩)) (by first | (simp [z1, m0, n0, p0, m1, n1, p1, m2, n2, p2, m3, n3, p3, m4, n4, p4, World.mkT, System.mkT]; done) | (simp [z1, m0, n0, p0, m1, n1, p1, m2, n2, p2, m3, n3, p3, m4, n4, p4, World.mkT, System.mkT]; exact ⟨rfl, rfl, rfl, rfl⟩)) (by simp) (by rfl)) ?_
  refine RegO.opN 1 (by simp [z1]; rfl) ?_
  refine RegO.nil ?_
  refine DW.norm [(1, _), (3, _), (4, _), (5, _), (7, _)] [(1, _), (3, _), (5, _), (14, _)] [] (by simp [z1]; exact ⟨rfl, rfl, rfl, rfl, rfl⟩) (by simp [z1]; exact ⟨rfl, rfl, rfl, rfl⟩) (by simp [z1]) (by rfl) ?_
  refine DW.seq ?_
  refine DW.reg (by simp [z1]; rfl) ?_
  refine DW.norm [(1, _), (3, _), (4, _), (5, _), (7, _), (8, _)] [(1, _), (3, _), (5, _), (14, _)] [] (by simp [z1]; exact ⟨rfl, rfl, rfl, rfl, rfl, rfl⟩) (by simp [z1]; exact ⟨rfl, rfl, rfl, rfl⟩) (by simp [z1]) (by rfl) ?_
  refine DW.seq ?_
  refine DW.regs ?_
  refine RegO.opN 2 (by simp [z1]; rfl) ?_
  refine RegO.step rfl (OpStep.callA rfl (by simp [z1]; exact ⟨rfl, rfl⟩) (by simp [z1]; rfl) (by exact (by have h := heldWorld_spec S (1) (by omega) (by omega) (by assumption); simp only [raWorld, World.mkT, mkL_len] at h; exact h)) (by simp) (by simp [z1]; rfl)) ?_
  refine RegO.opN 1 (by simp [z1]; rfl) ?_
  refine RegO.nil ?_
  refine DW.norm [(1, _), (3, _), (4, _), (5, _), (7, _), (8, _)] [(1, _), (3, _), (5, _), (14, _)] [] (by simp [z1]; exact ⟨rfl, rfl, rfl, rfl, rfl, rfl⟩) (by simp [z1]; exact ⟨rfl, rfl, rfl, rfl⟩) (by simp [z1]) (by rfl) ?_
  refine DW.seq ?_
  refine DW.seq ?_
  refine DW.reg (by simp [z1]; rfl) ?_
  refine DW.norm [(1, _), (3, _), (4, _), (5, _), (7, _), (8, _), (39, _)] [(1, _), (3, _), (5, _), (14, _)] [] (by simp [z1]; exact ⟨rfl, rfl, rfl, rfl, rfl, rfl, rfl⟩) (by simp [z1]; exact ⟨rfl, rfl, rfl, rfl⟩) (by simp [z1]) (by rfl) ?_
  refine DW.condF (by simp [z1]) ?_
  refine DW.skip ?_
  refine DW.seq ?_
  refine DW.seq ?_
  refine DW.reg (by simp [z1]; rfl) ?_
  refine DW.norm [(1, _), (3, _), (4, _), (5, _), (7, _), (42, _)] [(1, _), (3, _), (5, _), (14, _)] [] (by simp [z1]; exact ⟨rfl, rfl, rfl, rfl, rfl, rfl⟩) (by simp [z1]; exact ⟨rfl, rfl, rfl, rfl⟩) (by simp [z1]) (by rfl) ?_
  refine DW.condF (by simp [z1]) ?_
  refine DW.skip ?_
  refine DW.seq ?_
  refine DW.regs ?_
  refine RegO.opN 1 (by simp [z1]; rfl) ?_
  refine RegO.step rfl (OpStep.callA rfl (by simp [z1]; exact ⟨rfl, rfl⟩) (by simp [z1]; rfl) (by exact toGeo_spec _ (by first | assumption | simp [Row.sz])) (by simp) (by simp [z1]; rfl)) ?_
  refine RegO.step rfl (OpStep.callA rfl (by simp [z1]; exact ⟨rfl, rfl⟩) (by simp [z1]; rfl) (by exact (hS ▸ implWorldNew_spec g)) (by simp) (by simp [z1]; rfl)) ?_
  refine RegO.opN 6 (by simp [z1]; rfl) ?_
  refine RegO.nil ?_
  refine DW.norm [(3, _), (4, _), (5, _), (7, _), (9, _), (10, _)] [(3, _), (5, _), (9, _), (14, _), (46, _)] [] (by simp [z1]; exact ⟨rfl, rfl, rfl, rfl, rfl, rfl⟩) (by simp [z1]; exact ⟨rfl, rfl, rfl, rfl, rfl⟩) (by simp [z1]) (by rfl) ?_
  refine DW.seq ?_
  refine DW.seq ?_
  refine DW.regs ?_
  refine RegO.opN 2 (by simp [z1]; rfl) ?_
  refine RegO.step rfl (OpStep.callA rfl (by simp [z1]; exact ⟨rfl, rfl⟩) (by simp [z1]; rfl) (by exact eqWorld_spec _ (by first | assumption | simp [Row.sz])) (by simp) (by simp [z1]; rfl)) ?_
  refine RegO.opN 6 (by simp [z1]; rfl) ?_
  refine RegO.nil ?_
  refine DW.norm [(5, _), (7, _), (57, _)] [(5, _)] [] (by simp [z1]; exact ⟨rfl, rfl, rfl⟩) (by simp [z1]; rfl) (by simp [z1]) (by rfl) ?_
  refine DW.condF (by simp [z1]) ?_
  refine DW.skip ?_
  refine DW.seq ?_
  refine DW.reg (by simp [z1]; rfl) ?_
  refine DW.norm [(5, _), (7, _), (8, _)] [(5, _)] [] (by simp [z1]; exact ⟨rfl, rfl, rfl⟩) (by simp [z1]; rfl) (by simp [z1]) (by rfl) ?_
  refine DW.seq ?_
  refine DW.regs ?_
  refine RegO.opN 2 (by simp [z1]; rfl) ?_
  refine RegO.step rfl (OpStep.callA rfl (by simp [z1]; exact ⟨rfl, rfl⟩) (by simp [z1]; rfl) (by exact (by have h := heldWorld_spec S (1) (by omega) (by omega) (by assumption); simp only [raWorld, World.mkT, mkL_len] at h; exact h)) (by simp) (by simp [z1]; rfl)) ?_
  refine RegO.opN 1 (by simp [z1]; rfl) ?_
  refine RegO.nil ?_
  refine DW.norm [(7, _), (8, _)] [] [] (by simp [z1]; exact ⟨rfl, rfl⟩) (by simp [z1]) (by simp [z1]) (by rfl) ?_
  refine DW.seq ?_
  refine DW.seq ?_
  refine DW.reg (by simp [z1]; rfl) ?_
  refine DW.norm [(7, _), (8, _), (62, _)] [] [] (by simp [z1]; exact ⟨rfl, rfl, rfl⟩) (by simp [z1]) (by simp [z1]) (by rfl) ?_
  refine DW.condF (by simp [z1]) ?_
  refine DW.skip ?_
  refine DW.seq ?_
  refine DW.seq ?_
  refine DW.reg (by simp [z1]; rfl) ?_
  refine DW.norm [(65, _)] [] [] (by simp [z1]; rfl) (by simp [z1]) (by simp [z1]) (by rfl) ?_
  refine DW.condF (by simp [z1]) ?_
  refine DW.skip ?_
  refine DW.seq ?_
  refine DW.reg (by simp [z1]; rfl) ?_
  refine DW.norm [(2, _)] [] [] (by simp [z1]; rfl) (by simp [z1]) (by simp [z1]) (by rfl) ?_
  refine DW.ret ?_
  simp [Tryz.results6]
end Go.Proofs.YtjjdjkkhhcbogaaGreat.DM
