import Derived.Test.YtjjdjkkhhcbogaaGreatFScFam
import Derived.Test.YtjjdjkkhhcbogaaGreatFG10
namespace Go.Proofs.YtjjdjkkhhcbogaaGreat.DM
set_option linter.unusedVariables false
set_option linter.unusedSimpArgs false
set_option maxRecDepth 4000
set_option maxHeartbeats 8000000
theorem writesFrom_sz (x : Int) (ws : List ByteArray) (h : ∀ w ∈ ws, w.size ≤ 8) : ∀ n, n ≤ ws.length → szL (writesFrom x ws n) ≤ 9 * n
  | 0, _ => by simp [writesFrom]
  | n + 1, hn => by
    have ih := writesFrom_sz x ws h n (by omega)
    have hw := h _ (List.getElem_mem (show n < ws.length by omega))
    rw [writesFrom_succ x ws n (by omega), szL_append]
    simp only [szL, Write_sz]; omega
theorem szL_stores (ws : List Write) : szL (ws.map fun w => (⟨1, w.At, w.Word⟩ : Step)) = szL ws := by
  induction ws with
  | nil => rfl
  | cons w ws ih => simp only [List.map_cons, szL, ih, Write_sz, Step_sz]
theorem szL_flushes (l : List Int) : szL (l.map fun x => (⟨2, x, ByteArray.empty⟩ : Step)) = l.length := by
  induction l with
  | nil => rfl
  | cons x l ih => simp only [List.map_cons, szL, ih, Step_sz, List.length_cons]; simp; omega
theorem durable_sz (ws : List Write) : szL (durable ws) ≤ szL ws + ws.length + 1 := by
  have hl := linesOf_len ws
  unfold durable
  split
  · simp
  · rw [szL_append, szL_append, szL_stores, szL_flushes]
    simp only [szL, Step_sz]; simp; omega
theorem zeroPages_sz (g : Geo) (t : Int) : ∀ D : List Int, szL (zeroPages g t D) ≤ 36 * D.length
  | [] => Nat.le_refl _
  | p :: D => by
    have ih := zeroPages_sz g t D
    have h1 := writesFrom_sz (pageAt g t p) zero4 (fun w hw => by
      simp only [zero4, wordsB, wordsN, List.mem_map, List.mem_range] at hw
      obtain ⟨k, hk, rfl⟩ := hw
      rw [padB_size, ByteArray.size_extract]
      have := zeros_size 32
      omega) zero4.length (Nat.le_refl _)
    rw [zero4_len] at h1
    rw [zeroPages, szL_append, List.length_cons]
    unfold writesOf
    rw [zero4_len]; omega
theorem stWords_sz (l : List Int) : ∀ w ∈ stWords l, w.size ≤ 8 := fun w hw => by
  unfold stWords at hw
  split at hw
  · simp only [List.mem_cons, List.not_mem_nil, or_false] at hw
    rcases hw with rfl | rfl <;> rw [ByteArray.size_extract] <;> omega
  · simp at hw
theorem stWords_len (l : List Int) : (stWords l).length ≤ 2 := by unfold stWords; split <;> simp
theorem scrub_sz (g : Geo) (t : Int) (st : List Int) : szL (scrub g t st) ≤ 1000 := by
  unfold scrub
  split
  · simp
  · split
    · split
      · rename_i h1 h2 h3
        have hp := (stOk_pages h3).2
        have hD : (pagesWith st 1).length ≤ 12 := Nat.le_trans (pagesW_len _ _ _) hp
        have a1 := durable_sz (zeroPages g t (pagesWith st 1))
        have a2 := zeroPages_sz g t (pagesWith st 1)
        have a3 := zeroPages_len g t (pagesWith st 1)
        have b1 := durable_sz (writesOf (placeIn g t 36) (stWords (withSt st 0 (pagesWith st 1))))
        have b2 := writesFrom_sz (placeIn g t 36) _ (stWords_sz (withSt st 0 (pagesWith st 1))) _ (Nat.le_refl _)
        have b3 := stWords_len (withSt st 0 (pagesWith st 1))
        unfold writesOf at b1
        rw [writesFrom_len] at b1
        rw [szL_append]
        unfold writesOf
        omega
      · simp
    · simp

theorem FnExactScrubSteps_spec (g : Geo) (t : Int) (p : Part) (ho0 : Row.ok 281474976710656 p) : Spec Tryz.prog 3 [raGeo g, ri t, raPart p] [none] [db true] [raGeo g, ri t, raPart p] := by
  refine Spec.intro Tryz.func3 rfl rfl Tryz.ntmps3 rfl (by simp) ?_
  refine DW.seq ?_
  refine DW.reg (by simp; rfl) ?_
  refine DW.norm [(1, _), (3, _), (5, _)] [(3, _), (5, _)] [] (by simp; exact ⟨rfl, rfl, rfl⟩) (by simp; exact ⟨rfl, rfl⟩) (by simp) (by rfl) ?_
  refine DW.seq ?_
  refine DW.reg (by simp; rfl) ?_
  refine DW.norm [(1, _), (3, _), (5, _), (7, _)] [(3, _), (5, _)] [] (by simp; exact ⟨rfl, rfl, rfl, rfl⟩) (by simp; exact ⟨rfl, rfl⟩) (by simp) (by rfl) ?_
  refine DW.seq ?_
  refine DW.regs ?_
  refine RegO.opN 2 (by simp; rfl) ?_
  refine RegO.step rfl (OpStep.callA rfl (by simp; exact ⟨rfl, rfl⟩) (by simp; rfl) (by exact szPart_spec _ _ (by omega) (by omega) ho0) (by simp) (by simp; rfl)) ?_
  refine RegO.opN 1 (by simp; rfl) ?_
  refine RegO.nil ?_
  refine DW.norm [(1, _), (3, _), (5, _), (7, _)] [(3, _), (5, _)] [] (by simp; exact ⟨rfl, rfl, rfl, rfl⟩) (by simp; exact ⟨rfl, rfl⟩) (by simp) (by rfl) ?_
  refine DW.seq ?_
  refine DW.seq ?_
  refine DW.reg (by simp; rfl) ?_
  refine DW.norm [(1, _), (3, _), (5, _), (19, _)] [(3, _), (5, _)] [] (by simp; exact ⟨rfl, rfl, rfl, rfl⟩) (by simp; exact ⟨rfl, rfl⟩) (by simp) (by rfl) ?_
  refine DW.condB (by simp; exact rfl) (fun hc0 => ?_) (fun hc0 => ?_)
  · have hn0 : 1048576 - (Row.sz p : Int) < 0 := by simpa using hc0
    refine DW.seq ?_
    refine DW.reg (by simp; rfl) ?_
    refine DW.norm [(6, _)] [] [] (by simp; rfl) (by simp) (by simp) (by rfl) ?_
    refine DW.ret ?_
    simp [Tryz.results3]
  · have hn0 : ¬ (1048576 - (Row.sz p : Int) < 0) := by simpa using hc0
    have q0 : szr (1048576 - (Row.sz p : Int)) = 1048576 - (Row.sz p : Int) := szr_pos (by omega)
    have hgz : Row.sz g ≤ 2 ^ 36 := by rw [Geo_sz]; omega
    have h0 : Row.sz p ≤ 2 ^ 36 := by omega
    have hz := Part_sz p
    have hcl := szL_len p.States
    have hsl : p.States.length < 2 ^ 36 := by omega
    have hr0 := scrub_sz g t p.States
    have hr : szL (scrub g t p.States) ≤ 2 ^ 36 := by omega
    have c0 : Part.ctT p ≤ 40 * Row.sz p := Part_clT p
    have c1 := ctL_le (scrub g t p.States)
    have z0 : ¬ (1 + (Part.ctT p : Int) < 0) := by omega
    have z1 : ¬ (1 + (ctL (scrub g t p.States) : Int) < 0) := by omega
    refine DW.skip ?_
    refine DW.seq ?_
    refine DW.drawn mixed (by kernel_rfl) ?_
    refine RegD.addN 1 (by simp [q0, z0, z1]; (first | done | exact ⟨rfl, rfl⟩ | rfl)) ?_
    refine RegD.cert (Cert.callA rfl (by simp) rfl (by decide) (by simp [q0, z0, z1]; exact ⟨rfl, rfl⟩) (by simp [q0, z0, z1]; rfl) (by exact toGeo_spec _ (by first | assumption | simp [Row.sz])) rfl (by simp) (by simp; rfl) rfl) ?_
    refine RegD.addN 2 (by simp [q0, z0, z1]; (first | done | exact ⟨rfl, rfl⟩ | rfl)) ?_
    refine RegD.cert (Cert.callHA rfl (by simp) rfl (by decide) (by simp [q0, z0, z1]; exact ⟨rfl, rfl⟩) (by simp [q0, z0, z1]; rfl) (by exact toPart_spec _ (by first | assumption | simp [Row.sz])) rfl (by simp) (by simp) (by simp; rfl) rfl) ?_
    refine RegD.cert (Cert.callHA rfl (by simp) rfl (by decide) (by simp [q0, z0, z1]; exact ⟨rfl, rfl⟩) (by simp [q0, z0, z1]; rfl) (by exact specScrubSteps_spec g t p hsl) rfl (by simp) (by simp) (by simp; rfl) rfl) ?_
    refine RegD.addN 1 (by simp [q0, z0, z1]; (first | done | exact ⟨rfl, rfl⟩ | rfl)) ?_
    refine RegD.nil ⟨by kernel_rfl, ?_⟩
    refine DW.norm [(1, _), (3, _), (5, _), (8, _)] [(3, _), (5, _), (25, _)] [] (by simp [q0, z0, z1]; exact ⟨rfl, rfl, rfl, rfl⟩) (by simp [q0, z0, z1]; exact ⟨rfl, rfl, rfl⟩) (by simp [q0, z0, z1]) (by rfl) ?_
    refine DW.seq ?_
    refine DW.regs ?_
    refine RegO.opN 1 (by simp [q0, z0, z1]; rfl) ?_
    refine RegO.step rfl (OpStep.callA rfl (by simp [q0, z0, z1]; exact ⟨rfl, rfl⟩) (by simp [q0, z0, z1]; rfl) (by exact toPart_spec _ (by first | assumption | simp [Row.sz])) (by simp) (by simp [q0, z0, z1]; rfl)) ?_
    refine RegO.opN 2 (by simp [q0, z0, z1]; rfl) ?_
    refine RegO.nil ?_
    refine DW.norm [(1, _), (3, _), (5, _), (8, _), (9, _)] [(3, _), (5, _), (9, _), (25, _)] [] (by simp [q0, z0, z1]; exact ⟨rfl, rfl, rfl, rfl, rfl⟩) (by simp [q0, z0, z1]; exact ⟨rfl, rfl, rfl, rfl⟩) (by simp [q0, z0, z1]) (by rfl) ?_
    refine DW.seq ?_
    refine DW.drawn mixed (by kernel_rfl) ?_
    refine RegD.addN 1 (by simp [q0, z0, z1]; (first | done | exact ⟨rfl, rfl⟩ | rfl)) ?_
    refine RegD.cert (Cert.callA rfl (by simp) rfl (by decide) (by simp [q0, z0, z1]; exact ⟨rfl, rfl⟩) (by simp [q0, z0, z1]; rfl) (by exact toGeo_spec _ (by first | assumption | simp [Row.sz])) rfl (by simp) (by simp; rfl) rfl) ?_
    refine RegD.addN 2 (by simp [q0, z0, z1]; (first | done | exact ⟨rfl, rfl⟩ | rfl)) ?_
    refine RegD.cert (Cert.callHA rfl (by simp) rfl (by decide) (by simp [q0, z0, z1]; exact ⟨rfl, rfl⟩) (by simp [q0, z0, z1]; rfl) (by exact implScrubSteps_spec g t p hsl) rfl (by simp) (by simp) (by simp; rfl) rfl) ?_
    refine RegD.addN 1 (by simp [q0, z0, z1]; (first | done | exact ⟨rfl, rfl⟩ | rfl)) ?_
    refine RegD.nil ⟨by kernel_rfl, ?_⟩
    refine DW.norm [(1, _), (3, _), (5, _), (8, _), (9, _), (10, _)] [(3, _), (5, _), (9, _), (25, _), (32, _)] [] (by simp [q0, z0, z1]; exact ⟨rfl, rfl, rfl, rfl, rfl, rfl⟩) (by simp [q0, z0, z1]; exact ⟨rfl, rfl, rfl, rfl, rfl⟩) (by simp [q0, z0, z1]) (by rfl) ?_
    refine DW.seq ?_
    refine DW.seq ?_
    refine DW.regs ?_
    refine RegO.opN 2 (by simp [q0, z0, z1]; rfl) ?_
    refine RegO.step rfl (OpStep.callA rfl (by simp [q0, z0, z1]; exact ⟨rfl, rfl⟩) (by simp [q0, z0, z1]; rfl) (by exact eqStepS_spec _ (by first | assumption | simp [Row.sz])) (by simp) (by simp [q0, z0, z1]; rfl)) ?_
    refine RegO.opN 1 (by simp [q0, z0, z1]; rfl) ?_
    refine RegO.nil ?_
    refine DW.norm [(1, _), (3, _), (5, _), (8, _), (9, _), (10, _), (36, _)] [(3, _), (5, _), (9, _), (25, _), (32, _)] [] (by simp [q0, z0, z1]; exact ⟨rfl, rfl, rfl, rfl, rfl, rfl, rfl⟩) (by simp [q0, z0, z1]; exact ⟨rfl, rfl, rfl, rfl, rfl⟩) (by simp [q0, z0, z1]) (by rfl) ?_
    refine DW.condF (by simp [q0, z0, z1]) ?_
    refine DW.skip ?_
    refine DW.seq ?_
    refine DW.seq ?_
    refine DW.drawn mixed (by kernel_rfl) ?_
    refine RegD.addN 2 (by simp [q0, z0, z1]; (first | done | exact ⟨rfl, rfl⟩ | rfl)) ?_
    refine RegD.cert (Cert.callHA rfl (by simp) rfl (by decide) (by simp [q0, z0, z1]; exact ⟨rfl, rfl⟩) (by simp [q0, z0, z1]; rfl) (by exact toPart_spec _ (by first | assumption | simp [Row.sz])) rfl (by simp) (by simp) (by simp; rfl) rfl) ?_
    refine RegD.cert (Cert.callA rfl (by simp) rfl (by decide) (by simp [q0, z0, z1]; exact ⟨rfl, rfl⟩) (by simp [q0, z0, z1]; rfl) (by exact eqPart_spec _ (by first | assumption | simp [Row.sz])) rfl (by simp) (by simp; rfl) rfl) ?_
    refine RegD.addN 1 (by simp [q0, z0, z1]; (first | done | exact ⟨rfl, rfl⟩ | rfl)) ?_
    refine RegD.nil ⟨by kernel_rfl, ?_⟩
    refine DW.norm [(1, _), (3, _), (5, _), (8, _), (9, _), (10, _), (41, _)] [(3, _), (5, _), (9, _), (25, _), (32, _)] [] (by simp [q0, z0, z1]; exact ⟨rfl, rfl, rfl, rfl, rfl, rfl, rfl⟩) (by simp [q0, z0, z1]; exact ⟨rfl, rfl, rfl, rfl, rfl⟩) (by simp [q0, z0, z1]) (by rfl) ?_
    refine DW.condF (by simp [q0, z0, z1]) ?_
    refine DW.skip ?_
    refine DW.seq ?_
    refine DW.reg (by simp [q0, z0, z1]; rfl) ?_
    refine DW.norm [(1, _), (3, _), (5, _), (8, _), (9, _), (10, _), (11, _)] [(3, _), (5, _), (9, _), (25, _), (32, _)] [] (by simp [q0, z0, z1]; exact ⟨rfl, rfl, rfl, rfl, rfl, rfl, rfl⟩) (by simp [q0, z0, z1]; exact ⟨rfl, rfl, rfl, rfl, rfl⟩) (by simp [q0, z0, z1]) (by rfl) ?_
    refine DW.seq ?_
    refine DW.regs ?_
    refine RegO.opN 2 (by simp [q0, z0, z1]; rfl) ?_
    refine RegO.step rfl (s1 := St [(1, _), (3, _), (5, _), (8, _), (10, _), (11, _), (44, _)] [(3, _), (5, _), (25, _), (32, _)] []) (by rcases nil_or_pos2 p.States with ⟨m0, n0, p0⟩ | ⟨m0, n0, p0⟩ <;> rcases nil_or_pos2 p.Inodes with ⟨m1, n1, p1⟩ | ⟨m1, n1, p1⟩ <;> exact OpStep.st (OpStep.callL (io := 0) rfl (by simp [q0, z0, z1, m0, n0, p0, m1, n1, p1, Part.mkT]; rfl) (markPart_spec p (1) (by omega) (by omega) (by assumption)) (by rfl) (by rfl) (by rfl) (by rfl) (by simp [lendL, FS.lend, q0, z0, z1, m0, n0, p0, m1, n1, p1, Part.mkT]; exact ⟨rfl, rfl⟩) (by simp [apartP]) (by simp) (by simp [q0, z0, z1, m0, n0, p0, m1, n1, p1, Part.mkT]; rfl) (by simp [rosOk]) (by simp) (by simp [backFS, hBack, pzsC, pzS, paCells, PC.tree, q0, z0, z1, m0, n0, p0, m1, n1, p1, Part.mkT]; rfl)) (by first | (simp [q0, z0, z1, m0, n0, p0, m1, n1, p1, Part.mkT]; done) | (simp [q0, z0, z1, m0, n0, p0, m1, n1, p1, Part.mkT]; exact ⟨rfl, rfl, rfl, rfl, rfl, rfl, rfl⟩)) (by first | (simp [q0, z0, z1, m0, n0, p0, m1, n1, p1, Part.mkT]; done) | (simp [q0, z0, z1, m0, n0, p0, m1, n1, p1, Part.mkT]; exact ⟨rfl, rfl, rfl, rfl⟩)) (by simp) (by rfl)) ?_
    refine RegO.opN 1 (by simp [q0, z0, z1]; rfl) ?_
    refine RegO.nil ?_
    refine DW.norm [(1, _), (3, _), (5, _), (8, _), (10, _), (11, _)] [(3, _), (5, _), (25, _), (32, _)] [] (by simp [q0, z0, z1]; exact ⟨rfl, rfl, rfl, rfl, rfl, rfl⟩) (by simp [q0, z0, z1]; exact ⟨rfl, rfl, rfl, rfl⟩) (by simp [q0, z0, z1]) (by rfl) ?_
    refine DW.seq ?_
    refine DW.seq ?_
    refine DW.regs ?_
    refine RegO.opN 5 (by simp [q0, z0, z1]; rfl) ?_
    refine RegO.stepT (by simp [q0, z0, z1]) (OpStep.callA rfl (by simp [q0, z0, z1]; exact ⟨rfl, rfl⟩) (by simp [q0, z0, z1]; rfl) (by exact eqStepS_spec _ (by first | assumption | simp [Row.sz])) (by simp) (by simp [q0, z0, z1]; rfl)) ?_
    refine RegO.opN 2 (by simp [q0, z0, z1]; rfl) ?_
    refine RegO.nil ?_
    refine DW.norm [(1, _), (3, _), (5, _), (8, _), (10, _), (52, _)] [(3, _), (5, _), (25, _), (32, _)] [] (by simp [q0, z0, z1]; exact ⟨rfl, rfl, rfl, rfl, rfl, rfl⟩) (by simp [q0, z0, z1]; exact ⟨rfl, rfl, rfl, rfl⟩) (by simp [q0, z0, z1]) (by rfl) ?_
    refine DW.condF (by simp [q0, z0, z1]) ?_
    refine DW.skip ?_
    refine DW.seq ?_
    refine DW.reg (by simp [q0, z0, z1]; rfl) ?_
    refine DW.norm [(1, _), (3, _), (5, _), (8, _), (10, _), (12, _)] [(3, _), (5, _), (25, _), (32, _)] [] (by simp [q0, z0, z1]; exact ⟨rfl, rfl, rfl, rfl, rfl, rfl⟩) (by simp [q0, z0, z1]; exact ⟨rfl, rfl, rfl, rfl⟩) (by simp [q0, z0, z1]) (by rfl) ?_
    refine DW.seq ?_
    refine DW.regs ?_
    refine RegO.opN 2 (by simp [q0, z0, z1]; rfl) ?_
    refine RegO.step rfl (OpStep.callL (io := 0) rfl (by simp [q0, z0, z1]; rfl) (markStepS_spec (scrub g t p.States) (1) (by omega) (by omega) (by assumption)) (by rfl) (by rfl) (by rfl) (by rfl) (by simp [lendL, FS.lend, q0, z0, z1]; exact ⟨rfl, rfl⟩) (by simp [apartP]) (by simp) (by simp [q0, z0, z1]; rfl) (by simp [rosOk]) (by simp) (by simp [backFS, hBack, pzsC, pzS, paCells, PC.tree, q0, z0, z1]; rfl)) ?_
    refine RegO.opN 1 (by simp [q0, z0, z1]; rfl) ?_
    refine RegO.nil ?_
    refine DW.norm [(1, _), (3, _), (5, _), (8, _), (10, _), (12, _)] [(3, _), (5, _), (25, _), (32, _)] [] (by simp [q0, z0, z1]; exact ⟨rfl, rfl, rfl, rfl, rfl, rfl⟩) (by simp [q0, z0, z1]; exact ⟨rfl, rfl, rfl, rfl⟩) (by simp [q0, z0, z1]) (by rfl) ?_
    refine DW.seq ?_
    refine DW.reg (by simp [q0, z0, z1]; rfl) ?_
    refine DW.norm [(1, _), (3, _), (5, _), (8, _), (10, _), (12, _), (13, _)] [(3, _), (5, _), (25, _), (32, _)] [] (by simp [q0, z0, z1]; exact ⟨rfl, rfl, rfl, rfl, rfl, rfl, rfl⟩) (by simp [q0, z0, z1]; exact ⟨rfl, rfl, rfl, rfl⟩) (by simp [q0, z0, z1]) (by rfl) ?_
    refine DW.seq ?_
    refine DW.regs ?_
    refine RegO.opN 2 (by simp [q0, z0, z1]; rfl) ?_
    refine RegO.step rfl (OpStep.callA rfl (by simp [q0, z0, z1]; exact ⟨rfl, rfl⟩) (by simp [q0, z0, z1]; rfl) (by exact heldStepS_spec (scrub g t p.States) (1) (by omega) (by omega) (by assumption)) (by simp) (by simp [q0, z0, z1]; rfl)) ?_
    refine RegO.opN 1 (by simp [q0, z0, z1]; rfl) ?_
    refine RegO.nil ?_
    refine DW.norm [(1, _), (3, _), (5, _), (8, _), (10, _), (12, _), (13, _)] [(3, _), (5, _), (25, _), (32, _)] [] (by simp [q0, z0, z1]; exact ⟨rfl, rfl, rfl, rfl, rfl, rfl, rfl⟩) (by simp [q0, z0, z1]; exact ⟨rfl, rfl, rfl, rfl⟩) (by simp [q0, z0, z1]) (by rfl) ?_
    refine DW.seq ?_
    refine DW.seq ?_
    refine DW.reg (by simp [q0, z0, z1]; rfl) ?_
    refine DW.norm [(1, _), (3, _), (5, _), (8, _), (10, _), (12, _), (13, _), (60, _)] [(3, _), (5, _), (25, _), (32, _)] [] (by simp [q0, z0, z1]; exact ⟨rfl, rfl, rfl, rfl, rfl, rfl, rfl, rfl⟩) (by simp [q0, z0, z1]; exact ⟨rfl, rfl, rfl, rfl⟩) (by simp [q0, z0, z1]) (by rfl) ?_
    refine DW.condF (by simp [q0, z0, z1]) ?_
    refine DW.skip ?_
    refine DW.seq ?_
    refine DW.seq ?_
    refine DW.reg (by simp [q0, z0, z1]; rfl) ?_
    refine DW.norm [(1, _), (3, _), (5, _), (8, _), (10, _), (12, _), (63, _)] [(3, _), (5, _), (25, _), (32, _)] [] (by simp [q0, z0, z1]; exact ⟨rfl, rfl, rfl, rfl, rfl, rfl, rfl⟩) (by simp [q0, z0, z1]; exact ⟨rfl, rfl, rfl, rfl⟩) (by simp [q0, z0, z1]) (by rfl) ?_
    refine DW.condF (by simp [q0, z0, z1]) ?_
    refine DW.skip ?_
    refine DW.seq ?_
    refine DW.drawn mixed (by kernel_rfl) ?_
    refine RegD.addN 1 (by simp [q0, z0, z1]; (first | done | exact ⟨rfl, rfl⟩ | rfl)) ?_
    refine RegD.cert (Cert.callA rfl (by simp) rfl (by decide) (by simp [q0, z0, z1]; exact ⟨rfl, rfl⟩) (by simp [q0, z0, z1]; rfl) (by exact toGeo_spec _ (by first | assumption | simp [Row.sz])) rfl (by simp) (by simp; rfl) rfl) ?_
    refine RegD.addN 2 (by simp [q0, z0, z1]; (first | done | exact ⟨rfl, rfl⟩ | rfl)) ?_
    refine RegD.cert (Cert.callHA rfl (by simp) rfl (by decide) (by simp [q0, z0, z1]; exact ⟨rfl, rfl⟩) (by simp [q0, z0, z1]; rfl) (by exact toPart_spec _ (by first | assumption | simp [Row.sz])) rfl (by simp) (by simp) (by simp; rfl) rfl) ?_
    refine RegD.cert (Cert.callHA rfl (by simp) rfl (by decide) (by simp [q0, z0, z1]; exact ⟨rfl, rfl⟩) (by simp [q0, z0, z1]; rfl) (by exact implScrubSteps_spec g t p hsl) rfl (by simp) (by simp) (by simp; rfl) rfl) ?_
    refine RegD.addN 1 (by simp [q0, z0, z1]; (first | done | exact ⟨rfl, rfl⟩ | rfl)) ?_
    refine RegD.nil ⟨by kernel_rfl, ?_⟩
    refine DW.norm [(8, _), (10, _), (12, _), (14, _)] [(25, _), (32, _), (69, _)] [] (by simp [q0, z0, z1]; exact ⟨rfl, rfl, rfl, rfl⟩) (by simp [q0, z0, z1]; exact ⟨rfl, rfl, rfl⟩) (by simp [q0, z0, z1]) (by rfl) ?_
    refine DW.seq ?_
    refine DW.seq ?_
    refine DW.regs ?_
    refine RegO.opN 2 (by simp [q0, z0, z1]; rfl) ?_
    refine RegO.step rfl (OpStep.callA rfl (by simp [q0, z0, z1]; exact ⟨rfl, rfl⟩) (by simp [q0, z0, z1]; rfl) (by exact eqStepS_spec _ (by first | assumption | simp [Row.sz])) (by simp) (by simp [q0, z0, z1]; rfl)) ?_
    refine RegO.opN 1 (by simp [q0, z0, z1]; rfl) ?_
    refine RegO.nil ?_
    refine DW.norm [(10, _), (12, _), (73, _)] [(32, _)] [] (by simp [q0, z0, z1]; exact ⟨rfl, rfl, rfl⟩) (by simp [q0, z0, z1]; rfl) (by simp [q0, z0, z1]) (by rfl) ?_
    refine DW.condF (by simp [q0, z0, z1]) ?_
    refine DW.skip ?_
    refine DW.seq ?_
    refine DW.reg (by simp [q0, z0, z1]; rfl) ?_
    refine DW.norm [(10, _), (12, _), (13, _)] [(32, _)] [] (by simp [q0, z0, z1]; exact ⟨rfl, rfl, rfl⟩) (by simp [q0, z0, z1]; rfl) (by simp [q0, z0, z1]) (by rfl) ?_
    refine DW.seq ?_
    refine DW.regs ?_
    refine RegO.opN 2 (by simp [q0, z0, z1]; rfl) ?_
    refine RegO.step rfl (OpStep.callA rfl (by simp [q0, z0, z1]; exact ⟨rfl, rfl⟩) (by simp [q0, z0, z1]; rfl) (by exact heldStepS_spec (scrub g t p.States) (1) (by omega) (by omega) (by assumption)) (by simp) (by simp [q0, z0, z1]; rfl)) ?_
    refine RegO.opN 1 (by simp [q0, z0, z1]; rfl) ?_
    refine RegO.nil ?_
    refine DW.norm [(12, _), (13, _)] [] [] (by simp [q0, z0, z1]; exact ⟨rfl, rfl⟩) (by simp [q0, z0, z1]) (by simp [q0, z0, z1]) (by rfl) ?_
    refine DW.seq ?_
    refine DW.seq ?_
    refine DW.reg (by simp [q0, z0, z1]; rfl) ?_
    refine DW.norm [(12, _), (13, _), (78, _)] [] [] (by simp [q0, z0, z1]; exact ⟨rfl, rfl, rfl⟩) (by simp [q0, z0, z1]) (by simp [q0, z0, z1]) (by rfl) ?_
    refine DW.condF (by simp [q0, z0, z1]) ?_
    refine DW.skip ?_
    refine DW.seq ?_
    refine DW.seq ?_
    refine DW.reg (by simp [q0, z0, z1]; rfl) ?_
    refine DW.norm [(81, _)] [] [] (by simp [q0, z0, z1]; rfl) (by simp [q0, z0, z1]) (by simp [q0, z0, z1]) (by rfl) ?_
    refine DW.condF (by simp [q0, z0, z1]) ?_
    refine DW.skip ?_
    refine DW.seq ?_
    refine DW.reg (by simp [q0, z0, z1]; rfl) ?_
    refine DW.norm [(6, _)] [] [] (by simp [q0, z0, z1]; rfl) (by simp [q0, z0, z1]) (by simp [q0, z0, z1]) (by rfl) ?_
    refine DW.ret ?_
    simp [Tryz.results3]
end Go.Proofs.YtjjdjkkhhcbogaaGreat.DM
