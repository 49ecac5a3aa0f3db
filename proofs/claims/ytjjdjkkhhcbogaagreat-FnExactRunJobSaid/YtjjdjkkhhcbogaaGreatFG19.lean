import Derived.Test.YtjjdjkkhhcbogaaGreatFG3
import Derived.Test.YtjjdjkkhhcbogaaGreatFM13
import Derived.Test.YtjjdjkkhhcbogaaGreatDD
namespace Go.Proofs.YtjjdjkkhhcbogaaGreat.DM
set_option linter.unusedVariables false
set_option linter.unusedSimpArgs false
set_option maxRecDepth 4000
set_option maxHeartbeats 8000000
def jobZ : Job := ⟨⟨0, ByteArray.empty, ByteArray.empty, 0, 0, ByteArray.empty⟩, ⟨0, ByteArray.empty, 0, false, []⟩, [], [], 0, false, false⟩
theorem linesN_bd {g : Geo} (hg : GeoIn g) : 0 ≤ linesN g ∧ linesN g ≤ 1000 := by
  have hp := hg.p
  have hi := hg.i
  have h1 : 0 ≤ pw g ∧ pw g ≤ 134 := by unfold pw; omega
  have hm : 0 ≤ g.Tenants * pw g ∧ g.Tenants * pw g ≤ 3 * 134 := by
    have ht := hg.t
    exact ⟨Int.mul_nonneg (by omega) h1.1, Int.mul_le_mul ht.2 h1.2 h1.1 (by omega)⟩
  unfold linesN; omega
def placed (m : Memory) (g : Geo) : Bool := geoOk g && (memOk m.Kept m.Cells && decide (linesN g ≤ ((m.Kept.size / 16 : Nat) : Int)))
def atOk (j : Job) : Bool := inB j.At 0 j.Steps.length
def sysOk (s : System) : Bool := placed s.Memory s.Geo && (decide ((s.Jobs.length : Int) = s.Geo.Tenants) && s.Jobs.all atOk)
theorem memOk_16 {k : ByteArray} {l : List Cell} (h : memOk k l = true) : k.size % 16 = 0 ∧ k.size ≤ 16000 := by
  simp only [memOk, Bool.and_eq_true, beq_iff_eq, decide_eq_true_eq] at h
  exact ⟨h.1.2, h.2⟩
def idxB (l : List Job) : Int := match l.findIdx? (fun j => !atOk j) with
  | some i => i
  | none => -1
theorem idxB_none {l : List Job} (h : l.all atOk = true) : idxB l = -1 := by
  have : l.findIdx? (fun j => !atOk j) = none := by
    rw [List.findIdx?_eq_none_iff]
    intro x hx
    have := List.all_eq_true.1 h x hx
    simp [this]
  simp [idxB, this]
theorem idxB_some {l : List Job} {i : Nat} (hi : i < l.length) (h : (l.take i).all atOk = true) (hb : atOk l[i] = false) : idxB l = i := by
  have : l.findIdx? (fun j => !atOk j) = some i := by
    rw [List.findIdx?_eq_some_iff_getElem]
    refine ⟨hi, by simp [hb], fun j hj => ?_⟩
    have h1 : (l.take i)[j]'(by simp; omega) ∈ l.take i := List.getElem_mem _
    have h2 := List.all_eq_true.1 h _ h1
    rw [List.getElem_take] at h2
    simp [h2]
  simp [idxB, this]
theorem idxB_ge (l : List Job) : decide (0 ≤ idxB l) = !(l.all atOk) := by
  cases h : l.all atOk with
  | true => rw [idxB_none h]; rfl
  | false =>
    have h2 : (l.findIdx? fun j => !atOk j).isSome = true := by
      rw [List.findIdx?_isSome]
      simpa [List.any_eq_not_all_not] using h
    cases h3 : l.findIdx? fun j => !atOk j with
    | none => rw [h3] at h2; cases h2
    | some i => simp [idxB, h3]
theorem all_take_succ {α : Type} (p : α → Bool) (l : List α) (i : Nat) (h : i < l.length) : (l.take (i + 1)).all p = ((l.take i).all p && p l[i]) := by
  rw [List.take_succ_eq_append_getElem h, List.all_append]; simp

theorem l19Has_spec (k : ByteArray) (l : List Cell) (g : Geo) (hk : k.size < 2 ^ 40) (hl : l.length < 2 ^ 40) : Spec Tryz.prog 151 [raMemory ⟨k, l⟩, raGeo g] [none] [db (placed ⟨k, l⟩ g)] [raMemory ⟨k, l⟩, raGeo g] := by
  refine Spec.intro Tryz.func151 rfl rfl Tryz.ntmps151 rfl (by simp) ?_
  refine DW.seq ?_
  refine DW.reg (by simp (maxSteps := 200000) (disch := first | omega | (simp; done) | fail) [wrapI, leT, leF, ltT, ltF, eqF, nleT, nleF, nltT, nltF]; rfl) ?_
  refine DW.seq ?_
  have hsp : ((geoOk g) = false) ∨ ((geoOk g) = true ∧ (memOk k l) = false) ∨ ((geoOk g) = true ∧ (memOk k l) = true) := by
    cases (geoOk g) <;> cases (memOk k l) <;> simp
  rcases hsp with g0 | ⟨g0, g1⟩ | ⟨g0, g1⟩
  · skip
    refine DW.drawn mixed (by kernel_rfl) ?_
    refine RegD.addN 1 (by simp [g0]; (first | (simp (disch := omega) only [wrapI]; done) | (simp (disch := omega) only [wrapI]; exact ⟨rfl, rfl⟩) | skip); (first | done | exact ⟨rfl, rfl⟩ | rfl)) ?_
    refine RegD.cert (Cert.callA rfl (by simp) rfl (by decide) (by simp [g0]; exact ⟨rfl, rfl⟩) (by simp [g0]; rfl) (by exact specGeoOk_spec _) rfl (by simp) (by simp; rfl) rfl) ?_
    refine RegD.addN 13 (by simp [g0]; (first | (simp (disch := omega) only [wrapI]; done) | (simp (disch := omega) only [wrapI]; exact ⟨rfl, rfl⟩) | skip); (first | done | exact ⟨rfl, rfl⟩ | rfl)) ?_
    refine RegD.nil ⟨by kernel_rfl, ?_⟩
    refine DW.ret ?_
    simp [Tryz.results151, placed, g0]
  · skip
    refine DW.drawn mixed (by kernel_rfl) ?_
    refine RegD.addN 1 (by simp [g0, g1]; (first | (simp (disch := omega) only [wrapI]; done) | (simp (disch := omega) only [wrapI]; exact ⟨rfl, rfl⟩) | skip); (first | done | exact ⟨rfl, rfl⟩ | rfl)) ?_
    refine RegD.cert (Cert.callA rfl (by simp) rfl (by decide) (by simp [g0, g1]; exact ⟨rfl, rfl⟩) (by simp [g0, g1]; rfl) (by exact specGeoOk_spec _) rfl (by simp) (by simp; rfl) rfl) ?_
    refine RegD.addN 2 (by simp [g0, g1]; (first | (simp (disch := omega) only [wrapI]; done) | (simp (disch := omega) only [wrapI]; exact ⟨rfl, rfl⟩) | skip); (first | done | exact ⟨rfl, rfl⟩ | rfl)) ?_
    refine RegD.cert (Cert.callA rfl (by simp) rfl (by decide) (by simp [g0, g1]; exact ⟨rfl, rfl⟩) (by simp [g0, g1]; rfl) (by exact specOk_spec _ _ hk hl) rfl (by simp) (by simp; rfl) rfl) ?_
    refine RegD.addN 10 (by simp [g0, g1]; (first | (simp (disch := omega) only [wrapI]; done) | (simp (disch := omega) only [wrapI]; exact ⟨rfl, rfl⟩) | skip); (first | done | exact ⟨rfl, rfl⟩ | rfl)) ?_
    refine RegD.nil ⟨by kernel_rfl, ?_⟩
    refine DW.ret ?_
    simp [Tryz.results151, placed, g0, g1]
  · have hgi := geoIn g0
    obtain ⟨h16, hks⟩ := memOk_16 g1
    have hln := linesN_bd hgi
    have hqd : decide (linesN g ≤ ((k.size / 16 : Nat) : Int)) = decide (2 * linesN g ≤ (k.size : Int) / 8) := by congr 1; exact propext ⟨fun h => by omega, fun h => by omega⟩
    refine DW.drawn mixed (by kernel_rfl) ?_
    refine RegD.addN 1 (by simp [g0, g1]; (first | (simp (disch := omega) only [wrapI]; done) | (simp (disch := omega) only [wrapI]; exact ⟨rfl, rfl⟩) | skip); (first | done | exact ⟨rfl, rfl⟩ | rfl)) ?_
    refine RegD.cert (Cert.callA rfl (by simp) rfl (by decide) (by simp [g0, g1]; exact ⟨rfl, rfl⟩) (by simp [g0, g1]; rfl) (by exact specGeoOk_spec _) rfl (by simp) (by simp; rfl) rfl) ?_
    refine RegD.addN 2 (by simp [g0, g1]; (first | (simp (disch := omega) only [wrapI]; done) | (simp (disch := omega) only [wrapI]; exact ⟨rfl, rfl⟩) | skip); (first | done | exact ⟨rfl, rfl⟩ | rfl)) ?_
    refine RegD.cert (Cert.callA rfl (by simp) rfl (by decide) (by simp [g0, g1]; exact ⟨rfl, rfl⟩) (by simp [g0, g1]; rfl) (by exact specOk_spec _ _ hk hl) rfl (by simp) (by simp; rfl) rfl) ?_
    refine RegD.addN 3 (by simp [g0, g1]; (first | (simp (disch := omega) only [wrapI]; done) | (simp (disch := omega) only [wrapI]; exact ⟨rfl, rfl⟩) | skip); (first | done | exact ⟨rfl, rfl⟩ | rfl)) ?_
    refine RegD.cert (Cert.callA rfl (by simp) rfl (by decide) (by simp [g0, g1]; exact ⟨rfl, rfl⟩) (by simp [g0, g1]; rfl) (by exact l10Words_spec _ _ hk) rfl (by simp) (by simp; rfl) rfl) ?_
    refine RegD.addN 1 (by simp [g0, g1]; (first | (simp (disch := omega) only [wrapI]; done) | (simp (disch := omega) only [wrapI]; exact ⟨rfl, rfl⟩) | skip); (first | done | exact ⟨rfl, rfl⟩ | rfl)) ?_
    refine RegD.cert (Cert.callA rfl (by simp) rfl (by decide) (by simp [g0, g1]; exact ⟨rfl, rfl⟩) (by simp [g0, g1]; rfl) (by exact linesIn_spec g hgi) rfl (by simp) (by simp; rfl) rfl) ?_
    refine RegD.addN 4 (by simp [g0, g1]; (first | (simp (disch := omega) only [wrapI]; done) | (simp (disch := omega) only [wrapI]; exact ⟨rfl, rfl⟩) | skip); (first | done | exact ⟨rfl, rfl⟩ | rfl)) ?_
    refine RegD.nil ⟨by kernel_rfl, ?_⟩
    refine DW.ret ?_
    simp [Tryz.results151, placed, g0, g1]
    omega
theorem isPlaced_spec (k : ByteArray) (l : List Cell) (g : Geo) (hk : k.size < 2 ^ 40) (hl : l.length < 2 ^ 40) : Spec Tryz.prog 210 [raMemory ⟨k, l⟩, raGeo g] [none] [db (placed ⟨k, l⟩ g)] [raMemory ⟨k, l⟩, raGeo g] := by
  refine Spec.intro Tryz.func210 rfl rfl Tryz.ntmps210 rfl (by simp) ?_
  refine DW.seq ?_
  refine DW.reg (by simp (maxSteps := 200000) (disch := first | omega | (simp; done) | fail) [wrapI, leT, leF, ltT, ltF, eqF, nleT, nleF, nltT, nltF]; rfl) ?_
  refine DW.seq ?_
  have hsp : ((memOk k l) = false) ∨ ((memOk k l) = true ∧ (geoOk g) = false) ∨ ((memOk k l) = true ∧ (geoOk g) = true) := by
    cases (memOk k l) <;> cases (geoOk g) <;> simp
  rcases hsp with g0 | ⟨g0, g1⟩ | ⟨g0, g1⟩
  · skip
    refine DW.drawn mixed (by kernel_rfl) ?_
    refine RegD.addN 1 (by simp [g0]; (first | (simp (disch := omega) only [wrapI]; done) | (simp (disch := omega) only [wrapI]; exact ⟨rfl, rfl⟩) | skip); (first | done | exact ⟨rfl, rfl⟩ | rfl)) ?_
    refine RegD.cert (Cert.callA rfl (by simp) rfl (by decide) (by simp [g0]; exact ⟨rfl, rfl⟩) (by simp [g0]; rfl) (by exact memOk_spec _ _ hk hl) rfl (by simp) (by simp; rfl) rfl) ?_
    refine RegD.addN 14 (by simp [g0]; (first | (simp (disch := omega) only [wrapI]; done) | (simp (disch := omega) only [wrapI]; exact ⟨rfl, rfl⟩) | skip); (first | done | exact ⟨rfl, rfl⟩ | rfl)) ?_
    refine RegD.nil ⟨by kernel_rfl, ?_⟩
    refine DW.ret ?_
    simp [Tryz.results210, placed, g0]
  · skip
    refine DW.drawn mixed (by kernel_rfl) ?_
    refine RegD.addN 1 (by simp [g0, g1]; (first | (simp (disch := omega) only [wrapI]; done) | (simp (disch := omega) only [wrapI]; exact ⟨rfl, rfl⟩) | skip); (first | done | exact ⟨rfl, rfl⟩ | rfl)) ?_
    refine RegD.cert (Cert.callA rfl (by simp) rfl (by decide) (by simp [g0, g1]; exact ⟨rfl, rfl⟩) (by simp [g0, g1]; rfl) (by exact memOk_spec _ _ hk hl) rfl (by simp) (by simp; rfl) rfl) ?_
    refine RegD.addN 2 (by simp [g0, g1]; (first | (simp (disch := omega) only [wrapI]; done) | (simp (disch := omega) only [wrapI]; exact ⟨rfl, rfl⟩) | skip); (first | done | exact ⟨rfl, rfl⟩ | rfl)) ?_
    refine RegD.cert (Cert.callA rfl (by simp) rfl (by decide) (by simp [g0, g1]; exact ⟨rfl, rfl⟩) (by simp [g0, g1]; rfl) (by exact implGeoOk_spec _) rfl (by simp) (by simp; rfl) rfl) ?_
    refine RegD.addN 11 (by simp [g0, g1]; (first | (simp (disch := omega) only [wrapI]; done) | (simp (disch := omega) only [wrapI]; exact ⟨rfl, rfl⟩) | skip); (first | done | exact ⟨rfl, rfl⟩ | rfl)) ?_
    refine RegD.nil ⟨by kernel_rfl, ?_⟩
    refine DW.ret ?_
    simp [Tryz.results210, placed, g0, g1]
  · have hgi := geoIn g1
    obtain ⟨h16, hks⟩ := memOk_16 g0
    have hln := linesN_bd hgi
    have hqd : decide (linesN g ≤ ((k.size / 16 : Nat) : Int)) = decide (2 * linesN g ≤ (k.size : Int) / 8) := by congr 1; exact propext ⟨fun h => by omega, fun h => by omega⟩
    refine DW.drawn mixed (by kernel_rfl) ?_
    refine RegD.addN 1 (by simp [g0, g1]; (first | (simp (disch := omega) only [wrapI]; done) | (simp (disch := omega) only [wrapI]; exact ⟨rfl, rfl⟩) | skip); (first | done | exact ⟨rfl, rfl⟩ | rfl)) ?_
    refine RegD.cert (Cert.callA rfl (by simp) rfl (by decide) (by simp [g0, g1]; exact ⟨rfl, rfl⟩) (by simp [g0, g1]; rfl) (by exact memOk_spec _ _ hk hl) rfl (by simp) (by simp; rfl) rfl) ?_
    refine RegD.addN 2 (by simp [g0, g1]; (first | (simp (disch := omega) only [wrapI]; done) | (simp (disch := omega) only [wrapI]; exact ⟨rfl, rfl⟩) | skip); (first | done | exact ⟨rfl, rfl⟩ | rfl)) ?_
    refine RegD.cert (Cert.callA rfl (by simp) rfl (by decide) (by simp [g0, g1]; exact ⟨rfl, rfl⟩) (by simp [g0, g1]; rfl) (by exact implGeoOk_spec _) rfl (by simp) (by simp; rfl) rfl) ?_
    refine RegD.addN 7 (by simp [g0, g1]; (first | (simp (disch := omega) only [wrapI]; done) | (simp (disch := omega) only [wrapI]; exact ⟨rfl, rfl⟩) | skip); (first | done | exact ⟨rfl, rfl⟩ | rfl)) ?_
    refine RegD.cert (Cert.callA rfl (by simp) rfl (by decide) (by simp [g0, g1]; exact ⟨rfl, rfl⟩) (by simp [g0, g1]; rfl) (by exact lines_spec g hgi) rfl (by simp) (by simp; rfl) rfl) ?_
    refine RegD.addN 3 (by simp [g0, g1]; (first | (simp (disch := omega) only [wrapI]; done) | (simp (disch := omega) only [wrapI]; exact ⟨rfl, rfl⟩) | skip); (first | done | exact ⟨rfl, rfl⟩ | rfl)) ?_
    refine RegD.nil ⟨by kernel_rfl, ?_⟩
    refine DW.ret ?_
    simp [Tryz.results210, placed, g0, g1]
theorem specSystemOk_spec (S : System) (hS : Row.sz S ≤ 2 ^ 36) : Spec Tryz.prog 101 [raSystem S] [none] [db (sysOk S)] [raSystem S] := by
  refine Spec.intro Tryz.func101 rfl rfl Tryz.ntmps101 rfl (by simp) ?_
  have hz := System_sz S
  have hzm := Memory_sz S.Memory
  have hcl := szL_len S.Memory.Cells
  have hjl := szL_len S.Jobs
  have hk : S.Memory.Kept.size < 2 ^ 40 := by omega
  have hl : S.Memory.Cells.length < 2 ^ 40 := by omega
  refine DW.seq ?_
  refine DW.reg (by simp (maxSteps := 200000) (disch := first | omega | (simp; done) | fail) [wrapI, leT, leF, ltT, ltF, eqF, nleT, nleF, nltT, nltF]; rfl) ?_
  refine DW.seq ?_
  refine DW.seq ?_
  have hsp : ((placed S.Memory S.Geo) = false) ∨ ((placed S.Memory S.Geo) = true ∧ (decide ((S.Jobs.length : Int) = S.Geo.Tenants)) = false) ∨ ((placed S.Memory S.Geo) = true ∧ (decide ((S.Jobs.length : Int) = S.Geo.Tenants)) = true) := by
    cases (placed S.Memory S.Geo) <;> cases (decide ((S.Jobs.length : Int) = S.Geo.Tenants)) <;> simp
  rcases hsp with g0 | ⟨g0, g1⟩ | ⟨g0, g1⟩
  · have hj : True := trivial
    have hres : sysOk S = false := by simp [sysOk, g0]
    refine DW.regs ?_
    refine RegO.opN 4 (by simp (maxSteps := 200000) (disch := first | omega | (simp; done) | fail) [wrapI, leT, leF, ltT, ltF, eqF, nleT, nleF, nltT, nltF, g0, hj]; rfl) ?_
    refine RegO.step rfl (OpStep.callA rfl (by simp (maxSteps := 200000) (disch := first | omega | (simp; done) | fail) [wrapI, leT, leF, ltT, ltF, eqF, nleT, nleF, nltT, nltF, g0, hj]; exact ⟨rfl, rfl⟩) (by simp (maxSteps := 200000) (disch := first | omega | (simp; done) | fail) [wrapI, leT, leF, ltT, ltF, eqF, nleT, nleF, nltT, nltF, g0, hj]; rfl) (by exact l19Has_spec S.Memory.Kept S.Memory.Cells S.Geo hk hl) (by simp) (by simp (maxSteps := 200000) (disch := first | omega | (simp; done) | fail) [wrapI, leT, leF, ltT, ltF, eqF, nleT, nleF, nltT, nltF, g0, hj]; rfl)) ?_
    refine RegO.opN 10 (by simp (maxSteps := 200000) (disch := first | omega | (simp; done) | fail) [wrapI, leT, leF, ltT, ltF, eqF, nleT, nleF, nltT, nltF, g0, hj]; rfl) ?_
    refine RegO.nil ?_
    refine DW.condT (by simp (maxSteps := 200000) (disch := first | omega | (simp; done) | fail) [wrapI, leT, leF, ltT, ltF, eqF, nleT, nleF, nltT, nltF, g0, hj]) ?_
    refine DW.seq ?_
    refine DW.reg (by simp (maxSteps := 200000) (disch := first | omega | (simp; done) | fail) [wrapI, leT, leF, ltT, ltF, eqF, nleT, nleF, nltT, nltF, g0]; rfl) ?_
    refine DW.ret ?_
    rw [hres]
    simp [Tryz.results101]
  · have hj : ¬ (S.Jobs.length : Int) = S.Geo.Tenants := by simpa using g1
    have hres : sysOk S = false := by simp [sysOk, hj]
    refine DW.regs ?_
    refine RegO.opN 4 (by simp (maxSteps := 200000) (disch := first | omega | (simp; done) | fail) [wrapI, leT, leF, ltT, ltF, eqF, nleT, nleF, nltT, nltF, g0, hj]; rfl) ?_
    refine RegO.step rfl (OpStep.callA rfl (by simp (maxSteps := 200000) (disch := first | omega | (simp; done) | fail) [wrapI, leT, leF, ltT, ltF, eqF, nleT, nleF, nltT, nltF, g0, hj]; exact ⟨rfl, rfl⟩) (by simp (maxSteps := 200000) (disch := first | omega | (simp; done) | fail) [wrapI, leT, leF, ltT, ltF, eqF, nleT, nleF, nltT, nltF, g0, hj]; rfl) (by exact l19Has_spec S.Memory.Kept S.Memory.Cells S.Geo hk hl) (by simp) (by simp (maxSteps := 200000) (disch := first | omega | (simp; done) | fail) [wrapI, leT, leF, ltT, ltF, eqF, nleT, nleF, nltT, nltF, g0, hj]; rfl)) ?_
    refine RegO.opN 10 (by simp (maxSteps := 200000) (disch := first | omega | (simp; done) | fail) [wrapI, leT, leF, ltT, ltF, eqF, nleT, nleF, nltT, nltF, g0, hj]; rfl) ?_
    refine RegO.nil ?_
    refine DW.condT (by simp (maxSteps := 200000) (disch := first | omega | (simp; done) | fail) [wrapI, leT, leF, ltT, ltF, eqF, nleT, nleF, nltT, nltF, g0, hj]) ?_
    refine DW.seq ?_
    refine DW.reg (by simp (maxSteps := 200000) (disch := first | omega | (simp; done) | fail) [wrapI, leT, leF, ltT, ltF, eqF, nleT, nleF, nltT, nltF, g0]; rfl) ?_
    refine DW.ret ?_
    rw [hres]
    simp [Tryz.results101]
  · have hj : (S.Jobs.length : Int) = S.Geo.Tenants := by simpa using g1
    have hres : sysOk S = S.Jobs.all atOk := by simp [sysOk, g0, hj]
    refine DW.regs ?_
    refine RegO.opN 4 (by simp (maxSteps := 200000) (disch := first | omega | (simp; done) | fail) [wrapI, leT, leF, ltT, ltF, eqF, nleT, nleF, nltT, nltF, g0, hj]; rfl) ?_
    refine RegO.step rfl (OpStep.callA rfl (by simp (maxSteps := 200000) (disch := first | omega | (simp; done) | fail) [wrapI, leT, leF, ltT, ltF, eqF, nleT, nleF, nltT, nltF, g0, hj]; exact ⟨rfl, rfl⟩) (by simp (maxSteps := 200000) (disch := first | omega | (simp; done) | fail) [wrapI, leT, leF, ltT, ltF, eqF, nleT, nleF, nltT, nltF, g0, hj]; rfl) (by exact l19Has_spec S.Memory.Kept S.Memory.Cells S.Geo hk hl) (by simp) (by simp (maxSteps := 200000) (disch := first | omega | (simp; done) | fail) [wrapI, leT, leF, ltT, ltF, eqF, nleT, nleF, nltT, nltF, g0, hj]; rfl)) ?_
    refine RegO.opN 10 (by simp (maxSteps := 200000) (disch := first | omega | (simp; done) | fail) [wrapI, leT, leF, ltT, ltF, eqF, nleT, nleF, nltT, nltF, g0, hj]; rfl) ?_
    refine RegO.nil ?_
    refine DW.condF (by simp (maxSteps := 200000) (disch := first | omega | (simp; done) | fail) [wrapI, leT, leF, ltT, ltF, eqF, nleT, nleF, nltT, nltF, g0, hj]) ?_
    refine DW.skip ?_
    refine DW.seq ?_
    refine DW.seq ?_
    refine DW.reg (by simp (maxSteps := 200000) (disch := first | omega | (simp; done) | fail) [wrapI, leT, leF, ltT, ltF, eqF, nleT, nleF, nltT, nltF, g0]; rfl) ?_
    refine DW.block ?_
    refine DW.loopS (α := Nat) (fun i => i ≤ S.Jobs.length ∧ (S.Jobs.take i).all atOk = true) (fun i => S.Jobs.length - i) (fun i => [(3, vi i)]) (fun i => []) [(1, _)] [(1, _)] [] 0 (⟨Nat.zero_le _, by simp⟩) (by simp; exact rfl) (by simp; exact rfl) (by simp) (by rfl) ?_
    rintro i ⟨hi, hall⟩
    refine DW.seq ?_
    refine DW.seq ?_
    refine DW.reg (by simp (maxSteps := 200000) (disch := first | omega | (simp; done) | fail) [wrapI, leT, leF, ltT, ltF, eqF, nleT, nleF, nltT, nltF, g0]; rfl) ?_
    refine DW.condB (by simp (maxSteps := 200000) (disch := first | omega | (simp; done) | fail) [wrapI, leT, leF, ltT, ltF, eqF, nleT, nleF, nltT, nltF, g0]; exact rfl) (fun hc1 => ?_) (fun hc1 => ?_)
    · have hlt : i < S.Jobs.length := by simpa using hc1
      have hlt1 : (i : Int) < S.Jobs.length := by omega
      have hd := rR_drop_Job S.Jobs i hlt
      have ha := all_take_succ atOk S.Jobs i hlt
      have hmem := List.getElem_mem hlt
      generalize S.Jobs[i] = c at hd ha hmem
      refine DW.skip ?_
      refine DW.seq ?_
      refine DW.block ?_
      refine DW.seq ?_
      refine DW.drawn mixed (by kernel_rfl) ?_
      refine RegD.addN 13 (by simp [g0, hlt1, hd]; (first | (simp (disch := omega) only [wrapI]; done) | (simp (disch := omega) only [wrapI]; exact ⟨rfl, rfl⟩) | skip); (first | done | exact ⟨rfl, rfl⟩ | rfl)) ?_
      refine RegD.cert (Cert.callA rfl (by simp) rfl (by decide) (by simp [g0, hlt1, hd]; exact ⟨rfl, rfl⟩) (by simp [g0, hlt1, hd]; rfl) (by exact l01In_spec _ _ _) rfl (by simp) (by simp; rfl) rfl) ?_
      refine RegD.addN 1 (by simp [g0, hlt1, hd]; (first | (simp (disch := omega) only [wrapI]; done) | (simp (disch := omega) only [wrapI]; exact ⟨rfl, rfl⟩) | skip); (first | done | exact ⟨rfl, rfl⟩ | rfl)) ?_
      refine RegD.nil ⟨by kernel_rfl, ?_⟩
      refine DW.condB (by simp (maxSteps := 200000) (disch := first | omega | (simp; done) | fail) [wrapI, leT, leF, ltT, ltF, eqF, nleT, nleF, nltT, nltF, g0, hlt1, hd]; exact rfl) (fun hc2 => ?_) (fun hc2 => ?_)
      · have hc : atOk c = false := by simpa [atOk] using hc2
        have hall : S.Jobs.all atOk = false := by
          rw [List.all_eq_false]
          exact ⟨c, hmem, by simp [hc]⟩
        refine DW.seq ?_
        refine DW.reg (by simp (maxSteps := 200000) (disch := first | omega | (simp; done) | fail) [wrapI, leT, leF, ltT, ltF, eqF, nleT, nleF, nltT, nltF, g0, hlt1, hd]; rfl) ?_
        refine DW.ret ?_
        rw [hres, hall]
        simp [Tryz.results101]
      · have hc : atOk c = true := by simpa [atOk] using hc2
        refine DW.skip ?_
        refine DW.reg (by simp (maxSteps := 200000) (disch := first | omega | (simp; done) | fail) [wrapI, leT, leF, ltT, ltF, eqF, nleT, nleF, nltT, nltF, g0, hlt1, hd]; rfl) ?_
        exact ⟨i + 1, ⟨hlt, by rw [ha, hall, hc]; rfl⟩, by omega, by simp, by simp, by simp, by rfl⟩
    · have hil : i = S.Jobs.length := by
        have : ¬ i < S.Jobs.length := by simpa using hc1
        omega
      subst hil
      rw [List.take_length] at hall
      refine DW.exit ?_
      refine DW.seq ?_
      refine DW.reg (by simp (maxSteps := 200000) (disch := first | omega | (simp; done) | fail) [wrapI, leT, leF, ltT, ltF, eqF, nleT, nleF, nltT, nltF, g0]; rfl) ?_
      refine DW.ret ?_
      rw [hres, hall]
      simp [Tryz.results101]
theorem jobBad_spec (c : Job) : Spec Tryz.prog 212 [raJob c] [none] [db (!atOk c)] [raJob c] := by
  refine Spec.intro Tryz.func212 rfl rfl Tryz.ntmps212 rfl (by simp) ?_
  refine DW.seq ?_
  refine DW.reg (by simp (maxSteps := 200000) (disch := first | omega | (simp; done) | fail) [wrapI, leT, leF, ltT, ltF, eqF, nleT, nleF, nltT, nltF]; rfl) ?_
  refine DW.seq ?_
  refine DW.regs ?_
  refine RegO.opN 5 (by simp (maxSteps := 200000) (disch := first | omega | (simp; done) | fail) [wrapI, leT, leF, ltT, ltF, eqF, nleT, nleF, nltT, nltF]; rfl) ?_
  refine RegO.step rfl (OpStep.callA rfl (by simp (maxSteps := 200000) (disch := first | omega | (simp; done) | fail) [wrapI, leT, leF, ltT, ltF, eqF, nleT, nleF, nltT, nltF]; exact ⟨rfl, rfl⟩) (by simp (maxSteps := 200000) (disch := first | omega | (simp; done) | fail) [wrapI, leT, leF, ltT, ltF, eqF, nleT, nleF, nltT, nltF]; rfl) (by exact within_spec _ _ _) (by simp) (by simp (maxSteps := 200000) (disch := first | omega | (simp; done) | fail) [wrapI, leT, leF, ltT, ltF, eqF, nleT, nleF, nltT, nltF]; rfl)) ?_
  refine RegO.opN 2 (by simp (maxSteps := 200000) (disch := first | omega | (simp; done) | fail) [wrapI, leT, leF, ltT, ltF, eqF, nleT, nleF, nltT, nltF]; rfl) ?_
  refine RegO.nil ?_
  refine DW.ret ?_
  simp [Tryz.results212, atOk]
theorem indexJob_spec (l : List Job) (hl : l.length < 2 ^ 40) : Spec Tryz.prog 244 [ra l, rFn 212] [none] [di (idxB l)] [ra l, rFn 212] := by
  refine Spec.intro Tryz.func244 rfl rfl Tryz.ntmps244 rfl (by simp) ?_
  refine DW.seq ?_
  refine DW.reg (by simp (maxSteps := 200000) (disch := first | omega | (simp; done) | fail) [wrapI, leT, leF, ltT, ltF, eqF, nleT, nleF, nltT, nltF]; rfl) ?_
  refine DW.seq ?_
  refine DW.seq ?_
  refine DW.reg (by simp (maxSteps := 200000) (disch := first | omega | (simp; done) | fail) [wrapI, leT, leF, ltT, ltF, eqF, nleT, nleF, nltT, nltF]; rfl) ?_
  refine DW.block ?_
  refine DW.loopS (α := Nat) (fun i => i ≤ l.length ∧ (l.take i).all atOk = true) (fun i => l.length - i) (fun i => [(8, vi i)]) (fun i => []) [(0, _), (1, _), (7, _)] [] [] 0 (⟨Nat.zero_le _, by simp⟩) (by simp; exact ⟨rfl, rfl, rfl⟩) (by simp) (by simp) (by rfl) ?_
  rintro i ⟨hi, hall⟩
  refine DW.seq ?_
  refine DW.reg (by simp (maxSteps := 200000) (disch := first | omega | (simp; done) | fail) [wrapI, leT, leF, ltT, ltF, eqF, nleT, nleF, nltT, nltF]; rfl) ?_
  refine DW.seq ?_
  refine DW.condB (by simp (maxSteps := 200000) (disch := first | omega | (simp; done) | fail) [wrapI, leT, leF, ltT, ltF, eqF, nleT, nleF, nltT, nltF]; exact rfl) (fun hc0 => ?_) (fun hc0 => ?_)
  · have hlt : i < l.length := by simpa using hc0
    have hlt1 : (i : Int) < l.length := by omega
    have hd := rR_drop_Job l i hlt
    have ha := all_take_succ atOk l i hlt
    have hib := idxB_some hlt hall
    generalize l[i] = c at hd ha hib
    refine DW.skip ?_
    refine DW.seq ?_
    refine DW.block ?_
    refine DW.seq ?_
    refine DW.reg (by simp (maxSteps := 200000) (disch := first | omega | (simp; done) | fail) [wrapI, leT, leF, ltT, ltF, eqF, nleT, nleF, nltT, nltF, hlt1, hd]; rfl) ?_
    refine DW.seq ?_
    refine DW.regs ?_
    refine RegO.opN 5 (by simp (maxSteps := 200000) (disch := first | omega | (simp; done) | fail) [wrapI, leT, leF, ltT, ltF, eqF, nleT, nleF, nltT, nltF, hlt1, hd]; rfl) ?_
    refine RegO.step rfl (OpStep.callA rfl (by simp (maxSteps := 200000) (disch := first | omega | (simp; done) | fail) [wrapI, leT, leF, ltT, ltF, eqF, nleT, nleF, nltT, nltF, hlt1, hd]; exact ⟨rfl, rfl⟩) (by simp (maxSteps := 200000) (disch := first | omega | (simp; done) | fail) [wrapI, leT, leF, ltT, ltF, eqF, nleT, nleF, nltT, nltF, hlt1, hd]; rfl) (by exact jobBad_spec c) (by simp) (by simp (maxSteps := 200000) (disch := first | omega | (simp; done) | fail) [wrapI, leT, leF, ltT, ltF, eqF, nleT, nleF, nltT, nltF, hlt1, hd]; rfl)) ?_
    refine RegO.nil ?_
    refine DW.condB (by simp (maxSteps := 200000) (disch := first | omega | (simp; done) | fail) [wrapI, leT, leF, ltT, ltF, eqF, nleT, nleF, nltT, nltF, hlt1, hd]; exact rfl) (fun hc1 => ?_) (fun hc1 => ?_)
    · have hc : atOk c = false := by simpa using hc1
      have hres := hib hc
      refine DW.seq ?_
      refine DW.reg (by simp (maxSteps := 200000) (disch := first | omega | (simp; done) | fail) [wrapI, leT, leF, ltT, ltF, eqF, nleT, nleF, nltT, nltF, hlt1, hd]; rfl) ?_
      refine DW.ret ?_
      rw [hres]
      simp [Tryz.results244]
    · have hc : atOk c = true := by simpa using hc1
      refine DW.skip ?_
      refine DW.reg (by simp (maxSteps := 200000) (disch := first | omega | (simp; done) | fail) [wrapI, leT, leF, ltT, ltF, eqF, nleT, nleF, nltT, nltF, hlt1, hd]; rfl) ?_
      exact ⟨i + 1, ⟨hlt, by rw [ha, hall, hc]; rfl⟩, by omega, by simp, by simp, by simp, by rfl⟩
  · have hil : i = l.length := by
      have : ¬ i < l.length := by simpa using hc0
      omega
    subst hil
    rw [List.take_length] at hall
    have hres := idxB_none hall
    refine DW.exit ?_
    refine DW.seq ?_
    refine DW.reg (by simp (maxSteps := 200000) (disch := first | omega | (simp; done) | fail) [wrapI, leT, leF, ltT, ltF, eqF, nleT, nleF, nltT, nltF]; rfl) ?_
    refine DW.ret ?_
    rw [hres]
    simp [Tryz.results244]
theorem containsJob_spec (l : List Job) (hl : l.length < 2 ^ 40) : Spec Tryz.prog 211 [ra l, rFn 212] [none] [db (!(l.all atOk))] [ra l, rFn 212] := by
  refine Spec.intro Tryz.func211 rfl rfl Tryz.ntmps211 rfl (by simp) ?_
  refine DW.seq ?_
  refine DW.reg (by simp (maxSteps := 200000) (disch := first | omega | (simp; done) | fail) [wrapI, leT, leF, ltT, ltF, eqF, nleT, nleF, nltT, nltF]; rfl) ?_
  refine DW.seq ?_
  refine DW.regs ?_
  refine RegO.opN 2 (by simp (maxSteps := 200000) (disch := first | omega | (simp; done) | fail) [wrapI, leT, leF, ltT, ltF, eqF, nleT, nleF, nltT, nltF]; rfl) ?_
  refine RegO.step rfl (OpStep.callA rfl (by simp (maxSteps := 200000) (disch := first | omega | (simp; done) | fail) [wrapI, leT, leF, ltT, ltF, eqF, nleT, nleF, nltT, nltF]; exact ⟨rfl, rfl⟩) (by simp (maxSteps := 200000) (disch := first | omega | (simp; done) | fail) [wrapI, leT, leF, ltT, ltF, eqF, nleT, nleF, nltT, nltF]; rfl) (by exact indexJob_spec l hl) (by simp) (by simp (maxSteps := 200000) (disch := first | omega | (simp; done) | fail) [wrapI, leT, leF, ltT, ltF, eqF, nleT, nleF, nltT, nltF]; rfl)) ?_
  refine RegO.opN 2 (by simp (maxSteps := 200000) (disch := first | omega | (simp; done) | fail) [wrapI, leT, leF, ltT, ltF, eqF, nleT, nleF, nltT, nltF]; rfl) ?_
  refine RegO.nil ?_
  refine DW.ret ?_
  simp [Tryz.results211, idxB_ge]
theorem implSystemOk_spec (S : System) (hS : Row.sz S ≤ 2 ^ 36) : Spec Tryz.prog 160 [raSystem S] [none] [db (sysOk S)] [raSystem S] := by
  refine Spec.intro Tryz.func160 rfl rfl Tryz.ntmps160 rfl (by simp) ?_
  have hz := System_sz S
  have hzm := Memory_sz S.Memory
  have hcl := szL_len S.Memory.Cells
  have hjl := szL_len S.Jobs
  have hk : S.Memory.Kept.size < 2 ^ 40 := by omega
  have hl : S.Memory.Cells.length < 2 ^ 40 := by omega
  refine DW.seq ?_
  refine DW.reg (by simp (maxSteps := 200000) (disch := first | omega | (simp; done) | fail) [wrapI, leT, leF, ltT, ltF, eqF, nleT, nleF, nltT, nltF]; rfl) ?_
  refine DW.seq ?_
  have hsp : ((placed S.Memory S.Geo) = false) ∨ ((placed S.Memory S.Geo) = true ∧ (decide ((S.Jobs.length : Int) = S.Geo.Tenants)) = false) ∨ ((placed S.Memory S.Geo) = true ∧ (decide ((S.Jobs.length : Int) = S.Geo.Tenants)) = true) := by
    cases (placed S.Memory S.Geo) <;> cases (decide ((S.Jobs.length : Int) = S.Geo.Tenants)) <;> simp
  rcases hsp with g0 | ⟨g0, g1⟩ | ⟨g0, g1⟩
  · have hj : True := trivial
    have hjb : True := trivial
    have hres : sysOk S = false := by simp [sysOk, g0]
    refine DW.regs ?_
    refine RegO.opN 4 (by simp (maxSteps := 200000) (disch := first | omega | (simp; done) | fail) [wrapI, leT, leF, ltT, ltF, eqF, nleT, nleF, nltT, nltF, g0, hj, hjb]; rfl) ?_
    refine RegO.step rfl (OpStep.callA rfl (by simp (maxSteps := 200000) (disch := first | omega | (simp; done) | fail) [wrapI, leT, leF, ltT, ltF, eqF, nleT, nleF, nltT, nltF, g0, hj, hjb]; exact ⟨rfl, rfl⟩) (by simp (maxSteps := 200000) (disch := first | omega | (simp; done) | fail) [wrapI, leT, leF, ltT, ltF, eqF, nleT, nleF, nltT, nltF, g0, hj, hjb]; rfl) (by exact isPlaced_spec S.Memory.Kept S.Memory.Cells S.Geo hk hl) (by simp) (by simp (maxSteps := 200000) (disch := first | omega | (simp; done) | fail) [wrapI, leT, leF, ltT, ltF, eqF, nleT, nleF, nltT, nltF, g0, hj, hjb]; rfl)) ?_
    refine RegO.opN 16 (by simp (maxSteps := 200000) (disch := first | omega | (simp; done) | fail) [wrapI, leT, leF, ltT, ltF, eqF, nleT, nleF, nltT, nltF, g0, hj, hjb]; rfl) ?_
    refine RegO.nil ?_
    refine DW.ret ?_
    rw [hres]
    simp [Tryz.results160]
  · have hj : ¬ (S.Jobs.length : Int) = S.Geo.Tenants := by simpa using g1
    have hjb : ((S.Jobs.length : Int) == S.Geo.Tenants) = false := by simp [hj]
    have hres : sysOk S = false := by simp [sysOk, hj]
    refine DW.regs ?_
    refine RegO.opN 4 (by simp (maxSteps := 200000) (disch := first | omega | (simp; done) | fail) [wrapI, leT, leF, ltT, ltF, eqF, nleT, nleF, nltT, nltF, g0, hj, hjb]; rfl) ?_
    refine RegO.step rfl (OpStep.callA rfl (by simp (maxSteps := 200000) (disch := first | omega | (simp; done) | fail) [wrapI, leT, leF, ltT, ltF, eqF, nleT, nleF, nltT, nltF, g0, hj, hjb]; exact ⟨rfl, rfl⟩) (by simp (maxSteps := 200000) (disch := first | omega | (simp; done) | fail) [wrapI, leT, leF, ltT, ltF, eqF, nleT, nleF, nltT, nltF, g0, hj, hjb]; rfl) (by exact isPlaced_spec S.Memory.Kept S.Memory.Cells S.Geo hk hl) (by simp) (by simp (maxSteps := 200000) (disch := first | omega | (simp; done) | fail) [wrapI, leT, leF, ltT, ltF, eqF, nleT, nleF, nltT, nltF, g0, hj, hjb]; rfl)) ?_
    refine RegO.opN 16 (by simp (maxSteps := 200000) (disch := first | omega | (simp; done) | fail) [wrapI, leT, leF, ltT, ltF, eqF, nleT, nleF, nltT, nltF, g0, hj, hjb]; rfl) ?_
    refine RegO.nil ?_
    refine DW.ret ?_
    rw [hres]
    simp [Tryz.results160]
  · have hj : (S.Jobs.length : Int) = S.Geo.Tenants := by simpa using g1
    have hjb : ((S.Jobs.length : Int) == S.Geo.Tenants) = true := by simp [hj]
    have hres : sysOk S = S.Jobs.all atOk := by simp [sysOk, g0, hj]
    refine DW.regs ?_
    refine RegO.opN 4 (by simp (maxSteps := 200000) (disch := first | omega | (simp; done) | fail) [wrapI, leT, leF, ltT, ltF, eqF, nleT, nleF, nltT, nltF, g0, hj, hjb]; rfl) ?_
    refine RegO.step rfl (OpStep.callA rfl (by simp (maxSteps := 200000) (disch := first | omega | (simp; done) | fail) [wrapI, leT, leF, ltT, ltF, eqF, nleT, nleF, nltT, nltF, g0, hj, hjb]; exact ⟨rfl, rfl⟩) (by simp (maxSteps := 200000) (disch := first | omega | (simp; done) | fail) [wrapI, leT, leF, ltT, ltF, eqF, nleT, nleF, nltT, nltF, g0, hj, hjb]; rfl) (by exact isPlaced_spec S.Memory.Kept S.Memory.Cells S.Geo hk hl) (by simp) (by simp (maxSteps := 200000) (disch := first | omega | (simp; done) | fail) [wrapI, leT, leF, ltT, ltF, eqF, nleT, nleF, nltT, nltF, g0, hj, hjb]; rfl)) ?_
    refine RegO.opN 12 (by simp (maxSteps := 200000) (disch := first | omega | (simp; done) | fail) [wrapI, leT, leF, ltT, ltF, eqF, nleT, nleF, nltT, nltF, g0, hj, hjb]; rfl) ?_
    refine RegO.stepT (by simp (maxSteps := 200000) (disch := first | omega | (simp; done) | fail) [wrapI, leT, leF, ltT, ltF, eqF, nleT, nleF, nltT, nltF, g0, hj, hjb]) (OpStep.callA rfl (by simp (maxSteps := 200000) (disch := first | omega | (simp; done) | fail) [wrapI, leT, leF, ltT, ltF, eqF, nleT, nleF, nltT, nltF, g0, hj, hjb]; exact ⟨rfl, rfl⟩) (by simp (maxSteps := 200000) (disch := first | omega | (simp; done) | fail) [wrapI, leT, leF, ltT, ltF, eqF, nleT, nleF, nltT, nltF, g0, hj, hjb]; rfl) (by exact containsJob_spec S.Jobs (by omega)) (by simp) (by simp (maxSteps := 200000) (disch := first | omega | (simp; done) | fail) [wrapI, leT, leF, ltT, ltF, eqF, nleT, nleF, nltT, nltF, g0, hj, hjb]; rfl)) ?_
    refine RegO.opN 3 (by simp (maxSteps := 200000) (disch := first | omega | (simp; done) | fail) [wrapI, leT, leF, ltT, ltF, eqF, nleT, nleF, nltT, nltF, g0, hj, hjb]; rfl) ?_
    refine RegO.nil ?_
    refine DW.ret ?_
    rw [hres]
    simp [Tryz.results160]
end Go.Proofs.YtjjdjkkhhcbogaaGreat.DM
