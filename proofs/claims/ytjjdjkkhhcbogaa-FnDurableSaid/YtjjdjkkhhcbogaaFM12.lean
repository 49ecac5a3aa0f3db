import Derived.Test.YtjjdjkkhhcbogaaFM11
namespace Go.Proofs.Ytjjdjkkhhcbogaa.DM
set_option linter.unusedVariables false
set_option linter.unusedSimpArgs false
set_option maxRecDepth 4000
set_option maxHeartbeats 8000000
theorem run_spec (k : ByteArray) (l : List Cell) (s : Step) (hok : memOk k l = true) (hk : k.size < 2 ^ 40) (hl : l.length < 2 ^ 40) : Spec Try.prog 73 [.ptr (dMem k l), raStep s] [] [] [.ptr (dM (stepM ⟨k, l⟩ s)), raStep s] := by
  refine Spec.intro Try.func73 rfl rfl Try.ntmps73 rfl (by simp) ?_
  have wq : IntKind.i64.wrap ((k.size : Int) / 8 - 1) = (k.size : Int) / 8 - 1 := wr _ (by omega) (by omega)
  refine DW.seq ?_
  refine DW.reg (by simp; rfl) ?_
  refine DW.seq ?_
  refine DW.reg (by simp; rfl) ?_
  refine DW.block ?_
  refine DW.seq ?_
  refine DW.reg (by simp; rfl) ?_
  refine DW.condB (by simp; exact rfl) (fun hc0 => ?_) (fun hc0 => ?_)
  · have e1 : s.Kind = 1 := by simpa using hc0
    refine DW.seq ?_
    have hnoin := True.intro
    have h3 : inB s.At 0 ((k.size : Int) / 8 - 1) = false ∨ inB s.At 0 ((k.size : Int) / 8 - 1) = true := by cases inB s.At 0 ((k.size : Int) / 8 - 1) <;> simp
    rcases h3 with hin | hin
    · have hres : stepM ⟨k, l⟩ s = ⟨k, l⟩ := by simp [stepM, e1, storeM_eq hok, hin]
      refine DW.drawn mixed (by kernel_rfl) ?_
      refine RegD.addN 5 (by simp [hin, hnoin, wq]; (first | done | exact ⟨rfl, rfl⟩ | rfl)) ?_
      refine RegD.cert (Cert.callA rfl (by simp) rfl (by decide) (by simp [hin, hnoin, wq]; exact ⟨rfl, rfl⟩) (by simp [hin, hnoin, wq]; rfl) (by exact words_spec _ _ hk) rfl (by simp) (by simp; rfl) rfl) ?_
      refine RegD.addN 1 (by simp [hin, hnoin, wq]; (first | done | exact ⟨rfl, rfl⟩ | rfl)) ?_
      refine RegD.cert (Cert.callA rfl (by simp) rfl (by decide) (by simp [hin, hnoin, wq]; exact ⟨rfl, rfl⟩) (by simp [hin, hnoin, wq]; rfl) (by exact within_spec s.At 0 ((k.size : Int) / 8 - 1)) rfl (by simp) (by simp; rfl) rfl) ?_
      refine RegD.addN 6 (by simp [hin, hnoin, wq]; (first | done | exact ⟨rfl, rfl⟩ | rfl)) ?_
      refine RegD.nil ⟨by kernel_rfl, ?_⟩
      refine DW.condF (by simp [hin, hnoin]) ?_
      refine DW.skip ?_
      rw [hres]
      simp [Try.results73, mapV, pzR, inR]
    · skip
      refine DW.drawn mixed (by kernel_rfl) ?_
      refine RegD.addN 5 (by simp [hin, wq]; (first | done | exact ⟨rfl, rfl⟩ | rfl)) ?_
      refine RegD.cert (Cert.callA rfl (by simp) rfl (by decide) (by simp [hin, wq]; exact ⟨rfl, rfl⟩) (by simp [hin, wq]; rfl) (by exact words_spec _ _ hk) rfl (by simp) (by simp; rfl) rfl) ?_
      refine RegD.addN 1 (by simp [hin, wq]; (first | done | exact ⟨rfl, rfl⟩ | rfl)) ?_
      refine RegD.cert (Cert.callA rfl (by simp) rfl (by decide) (by simp [hin, wq]; exact ⟨rfl, rfl⟩) (by simp [hin, wq]; rfl) (by exact within_spec s.At 0 ((k.size : Int) / 8 - 1)) rfl (by simp) (by simp; rfl) rfl) ?_
      refine RegD.addN 6 (by simp [hin, wq]; (first | done | exact ⟨rfl, rfl⟩ | rfl)) ?_
      refine RegD.nil ⟨by kernel_rfl, ?_⟩
      refine DW.condB (by simp [hin]; exact rfl) (fun hc1 => ?_) (fun hc1 => ?_)
      · have hw : s.Word.size = 8 := by
          have : (s.Word.size : Int) = 8 := by simpa [hin] using hc1
          omega
        have hin2 := hin
        simp only [inB, Bool.and_eq_true, decide_eq_true_eq] at hin2
        obtain ⟨n, hn0⟩ := Int.eq_ofNat_of_zero_le hin2.1
        have hn : n < k.size / 8 := by omega
        have hres : stepM ⟨k, l⟩ s = ⟨k, layC l (putAtI k l n s.Word)⟩ := by simp [stepM, e1, storeM_eq hok, hin, hw]; simp [hn0]
        refine DW.regs ?_
        refine RegO.opN 5 (by simp [hin, hn0]; rfl) ?_
        refine RegO.step rfl (OpStep.callP (io := 0) (id := 0) (off := 0) (p := []) (sz := 2) (n := 1) (cs0 := dMem k l) rfl (by simp [callArgs, hn0]; rfl) (store_spec k l n s.Word hok hw hn hk hl) (by simp) rfl rfl (by simp) rfl (by simp) (by simp) (by simp) (by simp [callArgs, FS.lend, hn0]; rfl) (by simp [rosOk, roA_, toRC, mapO, hn0]) (by simp [widen, ownV, ownC]) (by simp [finish, packDV, packD, ptBack]; rfl)) ?_
        refine RegO.nil ?_
        rw [hres]
        simp [Try.results73, mapV, pzR, inR, hn0]
      · have hw : ¬ s.Word.size = 8 := by
          have : ¬ (s.Word.size : Int) = 8 := by simpa [hin] using hc1
          omega
        have hres : stepM ⟨k, l⟩ s = ⟨k, l⟩ := by simp [stepM, e1, storeM_eq hok, hw]
        refine DW.skip ?_
        rw [hres]
        simp [Try.results73, mapV, pzR, inR]
  · have n1 : ¬ s.Kind = 1 := by simpa using hc0
    refine DW.seq ?_
    refine DW.reg (by simp; rfl) ?_
    refine DW.condB (by simp; exact rfl) (fun hc1 => ?_) (fun hc1 => ?_)
    · have e2 : s.Kind = 2 := by simpa using hc1
      have hres : stepM ⟨k, l⟩ s = ⟨k, flushL l s.At⟩ := by simp [stepM, e2, flushM_eq hok]
      refine DW.regs ?_
      refine RegO.opN 3 (by simp; rfl) ?_
      refine RegO.step rfl (OpStep.callP (io := 0) (id := 0) (off := 0) (p := []) (sz := 2) (n := 1) (cs0 := dMem k l) rfl (by simp [callArgs]; rfl) (flush_spec k l s.At hl) (by simp) rfl rfl (by simp) rfl (by simp) (by simp) (by simp) (by simp [callArgs, FS.lend]; rfl) (by simp [rosOk, roA_, toRC, mapO]) (by simp [widen, ownV, ownC]) (by simp [finish, packDV, packD, ptBack]; rfl)) ?_
      refine RegO.nil ?_
      rw [hres]
      simp [Try.results73, mapV, pzR, inR]
    · have n2 : ¬ s.Kind = 2 := by simpa using hc1
      refine DW.seq ?_
      refine DW.reg (by simp; rfl) ?_
      refine DW.condB (by simp; exact rfl) (fun hc2 => ?_) (fun hc2 => ?_)
      · have e3 : s.Kind = 3 := by simpa using hc2
        have hres : stepM ⟨k, l⟩ s = ⟨keptS k l, leftC l⟩ := by simp [stepM, e3, fenceM_eq hok]
        refine DW.regs ?_
        refine RegO.opN 1 (by simp; rfl) ?_
        refine RegO.step rfl (OpStep.callP (io := 0) (id := 0) (off := 0) (p := []) (sz := 2) (n := 1) (cs0 := dMem k l) rfl (by simp [callArgs]; rfl) (fence_spec k l hl hk (memOk_fits hok)) (by simp) rfl rfl (by simp) rfl (by simp) (by simp) (by simp) (by simp [callArgs, FS.lend]; rfl) (by simp [rosOk, roA_, toRC, mapO]) (by simp [widen, ownV, ownC]) (by simp [finish, packDV, packD, ptBack]; rfl)) ?_
        refine RegO.nil ?_
        rw [hres]
        simp [Try.results73, mapV, pzR, inR]
      · have n3 : ¬ s.Kind = 3 := by simpa using hc2
        have hres : stepM ⟨k, l⟩ s = ⟨k, l⟩ := by simp [stepM, n1, n2, n3]
        refine DW.skip ?_
        rw [hres]
        simp [Try.results73, mapV, pzR, inR]
end Go.Proofs.Ytjjdjkkhhcbogaa.DM
