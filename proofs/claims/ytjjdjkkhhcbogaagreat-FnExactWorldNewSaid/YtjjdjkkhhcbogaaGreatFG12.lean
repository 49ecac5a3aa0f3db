import Derived.Test.YtjjdjkkhhcbogaaGreatFG11
namespace Go.Proofs.YtjjdjkkhhcbogaaGreat.DM
set_option linter.unusedVariables false
set_option linter.unusedSimpArgs false
set_option maxRecDepth 4000
set_option maxHeartbeats 8000000
def inoC : List D := [.sc (.int .i64 0), .sc (.int .i64 0), .sc (.int .i64 0), .sc (.string ByteArray.empty), .ow () 0 0 [], .ow () 0 0 []]
def inoD : Nat → List D
  | 0 => []
  | n + 1 => [.sc (.int .i64 2), .sc (.int .i64 0), .sc (.int .i64 1), .sc (.string ByteArray.empty), .ow () 0 0 [], .ow () 0 0 []] ++ (List.replicate n inoC).flatten
@[simp] theorem inoD_len : ∀ n, (inoD n).length = n * 6
  | 0 => rfl
  | n + 1 => by simp [inoD, inoC]; omega
@[simp] theorem inoD_take (n : Nat) : (inoD n).take (n * 6) = inoD n := List.take_of_length_le (by simp)
theorem inoC_rt : ∀ n, toRTs (List.replicate n inoC).flatten = some (rR (List.replicate n freeN))
  | 0 => rfl
  | n + 1 => by
    rw [List.replicate_succ, List.flatten_cons, List.replicate_succ, rR_cons]
    exact toRTs_append rfl (inoC_rt n)
@[simp] theorem inoD_rt : ∀ n, toRTs (inoD n) = some (rR (inos n))
  | 0 => rfl
  | n + 1 => by
    rw [inoD, inos, rR_cons]
    exact toRTs_append rfl (inoC_rt n)
theorem inoC_nr : ∀ n, noRoL (List.replicate n inoC).flatten = true
  | 0 => rfl
  | n + 1 => by
    rw [List.replicate_succ, List.flatten_cons]
    exact noRoL_append rfl (inoC_nr n)
@[simp] theorem inoD_nr : ∀ n, noRoL (inoD n) = true
  | 0 => rfl
  | n + 1 => noRoL_append rfl (inoC_nr n)
def partD (g : Geo) : List D := [.sc (.int .i64 0), .ow () 1 g.Pages.toNat (rD (List.replicate g.Pages.toNat (0 : Int))), .ow () 6 g.Inodes.toNat (inoD g.Inodes.toNat)]
def inoWords (x : Inode) : List ByteArray := [padB (numB x.Kind 1 ++ numB x.Size 2 ++ numB x.Gen 2) 8, padB x.Key 8] ++ List.replicate 6 (zeros 8)
@[simp] theorem inoWords_len (x : Inode) : (inoWords x).length = 8 := by simp [inoWords]
abbrev simpN (x : Inode) : Prop := x = dirN ∨ x = freeN
theorem inos_simp (n : Nat) : ∀ x ∈ inos n, simpN x := fun x hx => by
  obtain ⟨i, hi, rfl⟩ := List.getElem_of_mem hx
  rw [inos_at]
  split
  · exact .inl rfl
  · exact .inr rfl
def inoBase (x : Inode) : List ByteArray := [padB (numB x.Kind 1 ++ numB x.Size 2 ++ numB x.Gen 2) 8, padB x.Key 8]
def inoFill (x : Inode) (j : Nat) : List ByteArray := inoBase x ++ List.replicate j (zeros 8)
theorem inoFill_succ (x : Inode) (j : Nat) : inoFill x (j + 1) = inoFill x j ++ [zeros 8] := by simp [inoFill, List.replicate_succ']
@[simp] theorem inoFill_len (x : Inode) (j : Nat) : (inoFill x j).length = j + 2 := by simp [inoFill, inoBase]
theorem inoFill_all (x : Inode) : inoFill x 6 = inoWords x := rfl

theorem specPartNew_spec (g : Geo) (hg : GeoIn g) : Spec Tryz.prog 77 [raGeo g] [some 3] (partD g) [raGeo g] := by
  refine Spec.intro Tryz.func77 rfl rfl Tryz.ntmps77 rfl (by simp) ?_
  have hip := hg.p
  have hii := hg.i
  have hit := hg.t
  have gk : geoOk g = true := by simp [geoOk, inB, hg.t, hg.p, hg.i, hg.q]
  obtain ⟨q, hq⟩ : ∃ q, q = g.Pages.toNat := ⟨_, rfl⟩
  have hP : g.Pages = (q : Int) := by omega
  obtain ⟨m, hm⟩ : ∃ m, g.Inodes.toNat = m + 1 := ⟨g.Inodes.toNat - 1, by omega⟩
  have hM : g.Inodes = ((m + 1 : Nat) : Int) := by omega
  have hrep : (List.replicate (m + 1) [T.sc (.int .i64 0), T.sc (.int .i64 0), T.sc (.int .i64 0), T.sc (.string ByteArray.empty), T.ow () 0 0 [], (T.ow () 0 0 [] : D)]).flatten = [T.sc (.int .i64 0), T.sc (.int .i64 0), T.sc (.int .i64 0), T.sc (.string ByteArray.empty), T.ow () 0 0 [], (T.ow () 0 0 [] : D)] ++ (List.replicate m [T.sc (.int .i64 0), T.sc (.int .i64 0), T.sc (.int .i64 0), T.sc (.string ByteArray.empty), T.ow () 0 0 [], (T.ow () 0 0 [] : D)]).flatten := by rw [List.replicate_succ, List.flatten_cons]
  have hm0 : (0 : Int) < (m : Int) + 1 := by omega
  have htk : List.take ((m + 1) * 6) (T.sc (.int .i64 0) :: T.sc (.int .i64 0) :: T.sc (.int .i64 0) :: T.sc (.string ByteArray.empty) :: T.ow () 0 0 [] :: T.ow () 0 0 [] :: (List.replicate m [T.sc (.int .i64 0), T.sc (.int .i64 0), T.sc (.int .i64 0), T.sc (.string ByteArray.empty), T.ow () 0 0 [], (T.ow () 0 0 [] : D)]).flatten) = T.sc (.int .i64 0) :: T.sc (.int .i64 0) :: T.sc (.int .i64 0) :: T.sc (.string ByteArray.empty) :: T.ow () 0 0 [] :: T.ow () 0 0 [] :: (List.replicate m [T.sc (.int .i64 0), T.sc (.int .i64 0), T.sc (.int .i64 0), T.sc (.string ByteArray.empty), T.ow () 0 0 [], (T.ow () 0 0 [] : D)]).flatten := List.take_of_length_le (by simp; omega)
  have htl : (m + 1) * 6 ≤ m * 6 + 6 := by omega
  have htk2 : List.take ((m + 1) * 6) (T.sc (.int .i64 2) :: T.sc (.int .i64 0) :: T.sc (.int .i64 1) :: T.sc (.string ByteArray.empty) :: T.ow () 0 0 [] :: T.ow () 0 0 [] :: (List.replicate m [T.sc (.int .i64 0), T.sc (.int .i64 0), T.sc (.int .i64 0), T.sc (.string ByteArray.empty), T.ow () 0 0 [], (T.ow () 0 0 [] : D)]).flatten) = T.sc (.int .i64 2) :: T.sc (.int .i64 0) :: T.sc (.int .i64 1) :: T.sc (.string ByteArray.empty) :: T.ow () 0 0 [] :: T.ow () 0 0 [] :: (List.replicate m [T.sc (.int .i64 0), T.sc (.int .i64 0), T.sc (.int .i64 0), T.sc (.string ByteArray.empty), T.ow () 0 0 [], (T.ow () 0 0 [] : D)]).flatten := List.take_of_length_le (by simp; omega)
  have c1 : 8 * (q : Int) ≤ 2 ^ 48 := by omega
  have c2 : q ≤ 2 ^ 48 := by omega
  have c3 : 88 * ((m + 1 : Nat) : Int) ≤ 2 ^ 48 := by omega
  have c4 : m + 1 ≤ 2 ^ 48 := by omega
  have c1b : 8 * q ≤ 2 ^ 48 := by omega
  have c3b : 88 * (m + 1) ≤ 2 ^ 48 := by omega
  have hfin : partD g = [.sc (.int .i64 0), .ow () 1 q (rD (List.replicate q (0 : Int))), .ow () 6 (m + 1) (inoD (m + 1))] := by unfold partD; rw [← hq, hm]
  refine DW.seq ?_
  refine DW.reg (by simp (maxSteps := 200000) (disch := first | omega | (simp; done) | fail) [wrapI, leT, leF, ltT, ltF, eqF, nleT, nleF, nltT, nltF, gk]; rfl) ?_
  refine DW.seq ?_
  refine DW.seq ?_
  refine DW.regs ?_
  refine RegO.opN 1 (by simp (maxSteps := 200000) (disch := first | omega | (simp; done) | fail) [wrapI, leT, leF, ltT, ltF, eqF, nleT, nleF, nltT, nltF, gk]; rfl) ?_
  refine RegO.step rfl (OpStep.callA rfl (by simp (maxSteps := 200000) (disch := first | omega | (simp; done) | fail) [wrapI, leT, leF, ltT, ltF, eqF, nleT, nleF, nltT, nltF, gk]; exact ⟨rfl, rfl⟩) (by simp (maxSteps := 200000) (disch := first | omega | (simp; done) | fail) [wrapI, leT, leF, ltT, ltF, eqF, nleT, nleF, nltT, nltF, gk]; rfl) (by exact specGeoOk_spec _) (by simp) (by simp (maxSteps := 200000) (disch := first | omega | (simp; done) | fail) [wrapI, leT, leF, ltT, ltF, eqF, nleT, nleF, nltT, nltF, gk]; rfl)) ?_
  refine RegO.opN 1 (by simp (maxSteps := 200000) (disch := first | omega | (simp; done) | fail) [wrapI, leT, leF, ltT, ltF, eqF, nleT, nleF, nltT, nltF, gk]; rfl) ?_
  refine RegO.nil ?_
  refine DW.condF (by simp (maxSteps := 200000) (disch := first | omega | (simp; done) | fail) [wrapI, leT, leF, ltT, ltF, eqF, nleT, nleF, nltT, nltF, gk]) ?_
  refine DW.skip ?_
  refine DW.seq ?_
  refine DW.drawn mixed (by kernel_rfl) ?_
  refine RegD.addN 2 (by simp [gk, hP, hM, c1, c2, c3, c4, c1b, c3b, hrep, htk, htl]; (first | (simp (disch := omega) only [wrapI]; done) | (simp (disch := omega) only [wrapI]; exact ⟨rfl, rfl⟩) | skip); (first | done | exact ⟨rfl, rfl⟩ | rfl)) ?_
  refine RegD.cert (Cert.makeSlice (n := q) rfl rfl rfl (by decide) (by simp; exact ⟨rfl, rfl⟩) (by simp; rfl) (by simp; rfl) (by rfl) (by decide) (by simp [gk, hP, hM, c1, c2, c3, c4, c1b, c3b, hrep, htk, htl]) (by simp [gk, hP, hM, c1, c2, c3, c4, c1b, c3b, hrep, htk, htl]) (by simp [gk, hP, hM, c1, c2, c3, c4, c1b, c3b, hrep, htk, htl]) (by simp [gk, hP, hM, c1, c2, c3, c4, c1b, c3b, hrep, htk, htl]) (by simp)) ?_
  refine RegD.addN 2 (by simp [gk, hP, hM, c1, c2, c3, c4, c1b, c3b, hrep, htk, htl]; (first | (simp (disch := omega) only [wrapI]; done) | (simp (disch := omega) only [wrapI]; exact ⟨rfl, rfl⟩) | skip); (first | done | exact ⟨rfl, rfl⟩ | rfl)) ?_
  refine RegD.cert (Cert.makeSlice (n := m + 1) rfl rfl rfl (by decide) (by simp; exact ⟨rfl, rfl⟩) (by simp; rfl) (by simp; rfl) (by rfl) (by decide) (by simp [gk, hP, hM, c1, c2, c3, c4, c1b, c3b, hrep, htk, htl]) (by simp [gk, hP, hM, c1, c2, c3, c4, c1b, c3b, hrep, htk, htl]) (by simp [gk, hP, hM, c1, c2, c3, c4, c1b, c3b, hrep, htk, htl]) (by simp [gk, hP, hM, c1, c2, c3, c4, c1b, c3b, hrep, htk, htl]) (by simp)) ?_
  refine RegD.addN 1 (by simp [gk, hP, hM, c1, c2, c3, c4, c1b, c3b, hrep, htk, htl]; (first | (simp (disch := omega) only [wrapI]; done) | (simp (disch := omega) only [wrapI]; exact ⟨rfl, rfl⟩) | skip); (first | done | exact ⟨rfl, rfl⟩ | rfl)) ?_
  refine RegD.cert (Cert.alloc rfl rfl rfl (by decide) (by simp; rfl) (by rfl) (by decide) (by simp)) ?_
  refine RegD.heavyF (by simp) (by simp [gk, hP, hM, c1, c2, c3, c4, c1b, c3b, hrep, htk, htl]; rfl) ?_
  refine RegD.nil ⟨by kernel_rfl, ?_⟩
  refine DW.seq ?_
  refine DW.reg (by simp [gk, hrep, hm0, htk, htl]; rfl) ?_
  refine DW.seq ?_
  refine DW.reg (by simp [gk, htk2, htl]; rfl) ?_
  refine DW.ret ?_
  rw [hfin]
  simp [Tryz.results77, rD_ints, inoD, inoC, htk2, htl]
theorem implPartNew_spec (g : Geo) (hg : GeoIn g) : Spec Tryz.prog 83 [raGeo g] [some 3] (partD g) [raGeo g] := by
  refine Spec.intro Tryz.func83 rfl rfl Tryz.ntmps83 rfl (by simp) ?_
  have hip := hg.p
  have hii := hg.i
  have hit := hg.t
  have gk : geoOk g = true := by simp [geoOk, inB, hg.t, hg.p, hg.i, hg.q]
  obtain ⟨q, hq⟩ : ∃ q, q = g.Pages.toNat := ⟨_, rfl⟩
  have hP : g.Pages = (q : Int) := by omega
  obtain ⟨m, hm⟩ : ∃ m, g.Inodes.toNat = m + 1 := ⟨g.Inodes.toNat - 1, by omega⟩
  have hM : g.Inodes = ((m + 1 : Nat) : Int) := by omega
  have hrep : (List.replicate (m + 1) [T.sc (.int .i64 0), T.sc (.int .i64 0), T.sc (.int .i64 0), T.sc (.string ByteArray.empty), T.ow () 0 0 [], (T.ow () 0 0 [] : D)]).flatten = [T.sc (.int .i64 0), T.sc (.int .i64 0), T.sc (.int .i64 0), T.sc (.string ByteArray.empty), T.ow () 0 0 [], (T.ow () 0 0 [] : D)] ++ (List.replicate m [T.sc (.int .i64 0), T.sc (.int .i64 0), T.sc (.int .i64 0), T.sc (.string ByteArray.empty), T.ow () 0 0 [], (T.ow () 0 0 [] : D)]).flatten := by rw [List.replicate_succ, List.flatten_cons]
  have hm0 : (0 : Int) < (m : Int) + 1 := by omega
  have htk : List.take ((m + 1) * 6) (T.sc (.int .i64 0) :: T.sc (.int .i64 0) :: T.sc (.int .i64 0) :: T.sc (.string ByteArray.empty) :: T.ow () 0 0 [] :: T.ow () 0 0 [] :: (List.replicate m [T.sc (.int .i64 0), T.sc (.int .i64 0), T.sc (.int .i64 0), T.sc (.string ByteArray.empty), T.ow () 0 0 [], (T.ow () 0 0 [] : D)]).flatten) = T.sc (.int .i64 0) :: T.sc (.int .i64 0) :: T.sc (.int .i64 0) :: T.sc (.string ByteArray.empty) :: T.ow () 0 0 [] :: T.ow () 0 0 [] :: (List.replicate m [T.sc (.int .i64 0), T.sc (.int .i64 0), T.sc (.int .i64 0), T.sc (.string ByteArray.empty), T.ow () 0 0 [], (T.ow () 0 0 [] : D)]).flatten := List.take_of_length_le (by simp; omega)
  have htl : (m + 1) * 6 ≤ m * 6 + 6 := by omega
  have htk2 : List.take ((m + 1) * 6) (T.sc (.int .i64 2) :: T.sc (.int .i64 0) :: T.sc (.int .i64 1) :: T.sc (.string ByteArray.empty) :: T.ow () 0 0 [] :: T.ow () 0 0 [] :: (List.replicate m [T.sc (.int .i64 0), T.sc (.int .i64 0), T.sc (.int .i64 0), T.sc (.string ByteArray.empty), T.ow () 0 0 [], (T.ow () 0 0 [] : D)]).flatten) = T.sc (.int .i64 2) :: T.sc (.int .i64 0) :: T.sc (.int .i64 1) :: T.sc (.string ByteArray.empty) :: T.ow () 0 0 [] :: T.ow () 0 0 [] :: (List.replicate m [T.sc (.int .i64 0), T.sc (.int .i64 0), T.sc (.int .i64 0), T.sc (.string ByteArray.empty), T.ow () 0 0 [], (T.ow () 0 0 [] : D)]).flatten := List.take_of_length_le (by simp; omega)
  have c1 : 8 * (q : Int) ≤ 2 ^ 48 := by omega
  have c2 : q ≤ 2 ^ 48 := by omega
  have c3 : 88 * ((m + 1 : Nat) : Int) ≤ 2 ^ 48 := by omega
  have c4 : m + 1 ≤ 2 ^ 48 := by omega
  have c1b : 8 * q ≤ 2 ^ 48 := by omega
  have c3b : 88 * (m + 1) ≤ 2 ^ 48 := by omega
  have hfin : partD g = [.sc (.int .i64 0), .ow () 1 q (rD (List.replicate q (0 : Int))), .ow () 6 (m + 1) (inoD (m + 1))] := by unfold partD; rw [← hq, hm]
  refine DW.seq ?_
  refine DW.reg (by simp (maxSteps := 200000) (disch := first | omega | (simp; done) | fail) [wrapI, leT, leF, ltT, ltF, eqF, nleT, nleF, nltT, nltF, gk]; rfl) ?_
  refine DW.seq ?_
  refine DW.seq ?_
  refine DW.regs ?_
  refine RegO.opN 1 (by simp (maxSteps := 200000) (disch := first | omega | (simp; done) | fail) [wrapI, leT, leF, ltT, ltF, eqF, nleT, nleF, nltT, nltF, gk]; rfl) ?_
  refine RegO.step rfl (OpStep.callA rfl (by simp (maxSteps := 200000) (disch := first | omega | (simp; done) | fail) [wrapI, leT, leF, ltT, ltF, eqF, nleT, nleF, nltT, nltF, gk]; exact ⟨rfl, rfl⟩) (by simp (maxSteps := 200000) (disch := first | omega | (simp; done) | fail) [wrapI, leT, leF, ltT, ltF, eqF, nleT, nleF, nltT, nltF, gk]; rfl) (by exact implGeoOk_spec _) (by simp) (by simp (maxSteps := 200000) (disch := first | omega | (simp; done) | fail) [wrapI, leT, leF, ltT, ltF, eqF, nleT, nleF, nltT, nltF, gk]; rfl)) ?_
  refine RegO.opN 1 (by simp (maxSteps := 200000) (disch := first | omega | (simp; done) | fail) [wrapI, leT, leF, ltT, ltF, eqF, nleT, nleF, nltT, nltF, gk]; rfl) ?_
  refine RegO.nil ?_
  refine DW.condF (by simp (maxSteps := 200000) (disch := first | omega | (simp; done) | fail) [wrapI, leT, leF, ltT, ltF, eqF, nleT, nleF, nltT, nltF, gk]) ?_
  refine DW.skip ?_
  refine DW.seq ?_
  refine DW.drawn mixed (by kernel_rfl) ?_
  refine RegD.addN 2 (by simp [gk, hP, hM, c1, c2, c3, c4, c1b, c3b, hrep, htk, htl]; (first | (simp (disch := omega) only [wrapI]; done) | (simp (disch := omega) only [wrapI]; exact ⟨rfl, rfl⟩) | skip); (first | done | exact ⟨rfl, rfl⟩ | rfl)) ?_
  refine RegD.cert (Cert.makeSlice (n := q) rfl rfl rfl (by decide) (by simp; exact ⟨rfl, rfl⟩) (by simp; rfl) (by simp; rfl) (by rfl) (by decide) (by simp [gk, hP, hM, c1, c2, c3, c4, c1b, c3b, hrep, htk, htl]) (by simp [gk, hP, hM, c1, c2, c3, c4, c1b, c3b, hrep, htk, htl]) (by simp [gk, hP, hM, c1, c2, c3, c4, c1b, c3b, hrep, htk, htl]) (by simp [gk, hP, hM, c1, c2, c3, c4, c1b, c3b, hrep, htk, htl]) (by simp)) ?_
  refine RegD.addN 2 (by simp [gk, hP, hM, c1, c2, c3, c4, c1b, c3b, hrep, htk, htl]; (first | (simp (disch := omega) only [wrapI]; done) | (simp (disch := omega) only [wrapI]; exact ⟨rfl, rfl⟩) | skip); (first | done | exact ⟨rfl, rfl⟩ | rfl)) ?_
  refine RegD.cert (Cert.makeSlice (n := m + 1) rfl rfl rfl (by decide) (by simp; exact ⟨rfl, rfl⟩) (by simp; rfl) (by simp; rfl) (by rfl) (by decide) (by simp [gk, hP, hM, c1, c2, c3, c4, c1b, c3b, hrep, htk, htl]) (by simp [gk, hP, hM, c1, c2, c3, c4, c1b, c3b, hrep, htk, htl]) (by simp [gk, hP, hM, c1, c2, c3, c4, c1b, c3b, hrep, htk, htl]) (by simp [gk, hP, hM, c1, c2, c3, c4, c1b, c3b, hrep, htk, htl]) (by simp)) ?_
  refine RegD.addN 1 (by simp [gk, hP, hM, c1, c2, c3, c4, c1b, c3b, hrep, htk, htl]; (first | (simp (disch := omega) only [wrapI]; done) | (simp (disch := omega) only [wrapI]; exact ⟨rfl, rfl⟩) | skip); (first | done | exact ⟨rfl, rfl⟩ | rfl)) ?_
  refine RegD.cert (Cert.alloc rfl rfl rfl (by decide) (by simp; rfl) (by rfl) (by decide) (by simp)) ?_
  refine RegD.heavyF (by simp) (by simp [gk, hP, hM, c1, c2, c3, c4, c1b, c3b, hrep, htk, htl]; rfl) ?_
  refine RegD.nil ⟨by kernel_rfl, ?_⟩
  refine DW.seq ?_
  refine DW.reg (by simp [gk, hrep, hm0, htk, htl]; rfl) ?_
  refine DW.seq ?_
  refine DW.reg (by simp [gk, htk2, htl]; rfl) ?_
  refine DW.ret ?_
  rw [hfin]
  simp [Tryz.results83, rD_ints, inoD, inoC, htk2, htl]
end Go.Proofs.YtjjdjkkhhcbogaaGreat.DM
