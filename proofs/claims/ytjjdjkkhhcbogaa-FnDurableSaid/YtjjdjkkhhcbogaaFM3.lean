import Derived.Test.YtjjdjkkhhcbogaaFM2
import Derived.Test.YtjjdjkkhhcbogaaDC
namespace Go.Proofs.Ytjjdjkkhhcbogaa.DM
set_option linter.unusedVariables false
set_option linter.unusedSimpArgs false
set_option maxRecDepth 4000
set_option maxHeartbeats 8000000
theorem specOk_spec (k : ByteArray) (l : List Cell) (hk : k.size < 2 ^ 40) (hl : l.length < 2 ^ 40) : Spec Try.prog 83 [raMemory ⟨k, l⟩] [none] [db (memOk k l)] [raMemory ⟨k, l⟩] := by
  refine Spec.intro Try.func83 rfl rfl Try.ntmps83 rfl (by simp) ?_
  refine DW.seq ?_
  refine DW.reg (by simp; rfl) ?_
  refine DW.seq ?_
  refine DW.seq ?_
  by_cases hm : k.size % 16 = 0
  · have hmm : (k.size : Int).tmod 16 = 0 := by rw [Int.tmod_eq_emod_of_nonneg (by omega)]; omega
    have w5 : IntKind.i64.wrap (16000 : Int) = 16000 := wr _ (by omega) (by omega)
    refine DW.drawn mixed (by kernel_rfl) ?_
    refine RegD.addN 3 (by simp [hmm, w5]; (first | done | exact ⟨rfl, rfl⟩ | rfl)) ?_
    refine RegD.cert (Cert.callA rfl (by simp) rfl (by decide) (by simp [hmm, w5]; exact ⟨rfl, rfl⟩) (by simp [hmm, w5]; rfl) (by exact l10Size_spec) rfl (by simp) (by simp; rfl) rfl) ?_
    refine RegD.addN 6 (by simp [hmm, w5]; (first | done | exact ⟨rfl, rfl⟩ | rfl)) ?_
    refine RegD.cert (Cert.callA rfl (by simp [hmm, w5]) rfl (by decide) (by simp [hmm, w5]; exact ⟨rfl, rfl⟩) (by simp [hmm, w5]; rfl) (by exact l10Size_spec) rfl (by simp) (by simp; rfl) rfl) ?_
    refine RegD.addN 3 (by simp [hmm, w5]; (first | done | exact ⟨rfl, rfl⟩ | rfl)) ?_
    refine RegD.nil ⟨by kernel_rfl, ?_⟩
    refine DW.condB (by simp [hmm, w5]; exact rfl) (fun hc0 => ?_) (fun hc0 => ?_)
    · have hsz : ¬ k.size ≤ 16000 := by
        have : (16000 : Int) < k.size := by simpa [hmm, w5] using hc0
        omega
      refine DW.seq ?_
      refine DW.reg (by simp [hmm, w5]; rfl) ?_
      refine DW.ret ?_
      simp [Try.results83, memOk, hsz]
    · have hsz : k.size ≤ 16000 := by
        have : ¬ (16000 : Int) < k.size := by simpa [hmm, w5] using hc0
        omega
      refine DW.skip ?_
      refine DW.seq ?_
      refine DW.seq ?_
      refine DW.reg (by simp [hmm, w5]; rfl) ?_
      refine DW.block ?_
      refine DW.loopS (α := Nat) (fun i => i ≤ l.length ∧ (List.range i).all (okAt k l) = true) (fun i => l.length - i) (fun i => [(3, vi i)]) (fun i => []) [(1, _)] [(1, _)] [] 0 (⟨Nat.zero_le _, rfl⟩) (by simp; exact rfl) (by simp; exact rfl) (by simp) (by rfl) ?_
      rintro i ⟨hi, hall⟩
      refine DW.seq ?_
      refine DW.seq ?_
      refine DW.reg (by simp [hmm, w5]; rfl) ?_
      refine DW.condB (by simp [hmm, w5]; exact rfl) (fun hc1 => ?_) (fun hc1 => ?_)
      · have hlt : i < l.length := by simpa using hc1
        have hlt' : (i : Int) < l.length := by omega
        have hd := rR_drop_Cell l i hlt
        have hci : l[i]? = some l[i] := List.getElem?_eq_getElem hlt
        generalize l[i] = c at hd hci
        have w1 : IntKind.i64.wrap ((i : Int) + 1) = ((i + 1 : Nat) : Int) := (wr _ (by omega) (by omega)).trans (by omega)
        have w2 : IntKind.i64.wrap ((k.size : Int) / 16) = (k.size : Int) / 16 := wr _ (by omega) (by omega)
        have w3 : IntKind.i64.wrap ((k.size : Int) / 16 - 1) = (k.size : Int) / 16 - 1 := wr _ (by omega) (by omega)
        refine DW.skip ?_
        refine DW.seq ?_
        refine DW.block ?_
        refine DW.seq ?_
        refine DW.reg (by simp [hmm, w5, hd, hlt']; rfl) ?_
        refine DW.seq ?_
        have h4 : inB c.Line 0 ((k.size : Int) / 16 - 1) = false ∨ (inB c.Line 0 ((k.size : Int) / 16 - 1) = true ∧ c.Text.size ≠ 16) ∨ (inB c.Line 0 ((k.size : Int) / 16 - 1) = true ∧ c.Text.size = 16 ∧ ¬ 0 < i) ∨ (inB c.Line 0 ((k.size : Int) / 16 - 1) = true ∧ c.Text.size = 16 ∧ 0 < i) := by
          cases h : inB c.Line 0 ((k.size : Int) / 16 - 1) <;> by_cases h2 : c.Text.size = 16 <;> by_cases h3 : 0 < i <;> simp_all
        rcases h4 with hA | ⟨hA, hB⟩ | ⟨hA, hB, hC⟩ | ⟨hA, hB, hC⟩
        · have hbad : okAt k l i = false := by simp [okAt, hci, hA]
          refine DW.drawn mixed (by kernel_rfl) ?_
          refine RegD.addN 5 (by simp [hmm, w5, hA, w2, w3]; (first | done | exact ⟨rfl, rfl⟩ | rfl)) ?_
          refine RegD.cert (Cert.callA rfl (by simp) rfl (by decide) (by simp [hmm, w5, hA, w2, w3]; exact ⟨rfl, rfl⟩) (by simp [hmm, w5, hA, w2, w3]; rfl) (by exact l10Size_spec) rfl (by simp) (by simp; rfl) rfl) ?_
          refine RegD.addN 2 (by simp [hmm, w5, hA, w2, w3]; (first | done | exact ⟨rfl, rfl⟩ | rfl)) ?_
          refine RegD.cert (Cert.callA rfl (by simp) rfl (by decide) (by simp [hmm, w5, hA, w2, w3]; exact ⟨rfl, rfl⟩) (by simp [hmm, w5, hA, w2, w3]; rfl) (by exact l01In_spec c.Line 0 ((k.size : Int) / 16 - 1)) rfl (by simp) (by simp; rfl) rfl) ?_
          refine RegD.addN 5 (by simp [hmm, w5, hA, w2, w3]; (first | done | exact ⟨rfl, rfl⟩ | rfl)) ?_
          refine RegD.addN 1 (by simp [hmm, w5, hA, w2, w3]; first | exact ⟨rfl, rfl⟩ | rfl) ?_
          refine RegD.addN 18 (by simp [hmm, w5, hA, w2, w3]; (first | done | exact ⟨rfl, rfl⟩ | rfl)) ?_
          refine RegD.nil ⟨by kernel_rfl, ?_⟩
          refine DW.condT (by simp [hmm, w5, hA]) ?_
          refine DW.seq ?_
          refine DW.reg (by simp [hmm, w5, hA]; rfl) ?_
          refine DW.ret ?_
          rw [memOk_bad hlt hbad]
          simp [Try.results83]
        · have hbad : okAt k l i = false := by simp [okAt, hci, hA, hB]
          have hB' : ((c.Text.size : Int) != 16) = true := by simp; omega
          refine DW.drawn mixed (by kernel_rfl) ?_
          refine RegD.addN 5 (by simp [hmm, w5, hA, hB', w2, w3]; (first | done | exact ⟨rfl, rfl⟩ | rfl)) ?_
          refine RegD.cert (Cert.callA rfl (by simp) rfl (by decide) (by simp [hmm, w5, hA, hB', w2, w3]; exact ⟨rfl, rfl⟩) (by simp [hmm, w5, hA, hB', w2, w3]; rfl) (by exact l10Size_spec) rfl (by simp) (by simp; rfl) rfl) ?_
          refine RegD.addN 2 (by simp [hmm, w5, hA, hB', w2, w3]; (first | done | exact ⟨rfl, rfl⟩ | rfl)) ?_
          refine RegD.cert (Cert.callA rfl (by simp) rfl (by decide) (by simp [hmm, w5, hA, hB', w2, w3]; exact ⟨rfl, rfl⟩) (by simp [hmm, w5, hA, hB', w2, w3]; rfl) (by exact l01In_spec c.Line 0 ((k.size : Int) / 16 - 1)) rfl (by simp) (by simp; rfl) rfl) ?_
          refine RegD.addN 5 (by simp [hmm, w5, hA, hB', w2, w3]; (first | done | exact ⟨rfl, rfl⟩ | rfl)) ?_
          refine RegD.cert (Cert.callA rfl (by simp [hmm, w5, hA, hB', w2, w3]) rfl (by decide) (by simp [hmm, w5, hA, hB', w2, w3]; exact ⟨rfl, rfl⟩) (by simp [hmm, w5, hA, hB', w2, w3]; rfl) (by exact l10Size_spec) rfl (by simp) (by simp; rfl) rfl) ?_
          refine RegD.addN 18 (by simp [hmm, w5, hA, hB', w2, w3]; (first | done | exact ⟨rfl, rfl⟩ | rfl)) ?_
          refine RegD.nil ⟨by kernel_rfl, ?_⟩
          refine DW.condT (by simp [hmm, w5, hA, hB']) ?_
          refine DW.seq ?_
          refine DW.reg (by simp [hmm, w5, hA, hB']; rfl) ?_
          refine DW.ret ?_
          rw [memOk_bad hlt hbad]
          simp [Try.results83]
        · have hok : okAt k l i = true := by simp [okAt, hci, hA, hB, hC]
          refine DW.drawn mixed (by kernel_rfl) ?_
          refine RegD.addN 5 (by simp [hmm, w5, hA, hB, hC, w2, w3]; (first | done | exact ⟨rfl, rfl⟩ | rfl)) ?_
          refine RegD.cert (Cert.callA rfl (by simp) rfl (by decide) (by simp [hmm, w5, hA, hB, hC, w2, w3]; exact ⟨rfl, rfl⟩) (by simp [hmm, w5, hA, hB, hC, w2, w3]; rfl) (by exact l10Size_spec) rfl (by simp) (by simp; rfl) rfl) ?_
          refine RegD.addN 2 (by simp [hmm, w5, hA, hB, hC, w2, w3]; (first | done | exact ⟨rfl, rfl⟩ | rfl)) ?_
          refine RegD.cert (Cert.callA rfl (by simp) rfl (by decide) (by simp [hmm, w5, hA, hB, hC, w2, w3]; exact ⟨rfl, rfl⟩) (by simp [hmm, w5, hA, hB, hC, w2, w3]; rfl) (by exact l01In_spec c.Line 0 ((k.size : Int) / 16 - 1)) rfl (by simp) (by simp; rfl) rfl) ?_
          refine RegD.addN 5 (by simp [hmm, w5, hA, hB, hC, w2, w3]; (first | done | exact ⟨rfl, rfl⟩ | rfl)) ?_
          refine RegD.cert (Cert.callA rfl (by simp [hmm, w5, hA, hB, hC, w2, w3]) rfl (by decide) (by simp [hmm, w5, hA, hB, hC, w2, w3]; exact ⟨rfl, rfl⟩) (by simp [hmm, w5, hA, hB, hC, w2, w3]; rfl) (by exact l10Size_spec) rfl (by simp) (by simp; rfl) rfl) ?_
          refine RegD.addN 18 (by simp [hmm, w5, hA, hB, hC, w2, w3]; (first | done | exact ⟨rfl, rfl⟩ | rfl)) ?_
          refine RegD.nil ⟨by kernel_rfl, ?_⟩
          refine DW.condF (by simp [hmm, w5, hA, hB, hC]) ?_
          refine DW.skip ?_
          refine DW.reg (by simp [hmm, w5, hA, hB, hC, w1]; rfl) ?_
          exact ⟨i + 1, ⟨hlt, by rw [List.range_succ, List.all_append, hall]; simp [hok]⟩, by omega, by simp, by simp, by simp, by rfl⟩
        · have hp : i - 1 < l.length := by omega
          have hdp := rR_drop_Cell l (i - 1) hp
          have hpi : l[i - 1]? = some l[i - 1] := List.getElem?_eq_getElem hp
          generalize l[i - 1] = p at hdp hpi
          have w4 : IntKind.i64.wrap ((i : Int) - 1) = ((i - 1 : Nat) : Int) := (wr _ (by omega) (by omega)).trans (by omega)
          have h0p : (0 : Int) ≤ ((i - 1 : Nat) : Int) := by omega
          have hlp : ((i - 1 : Nat) : Int) < l.length := by omega
          refine DW.drawn mixed (by kernel_rfl) ?_
          refine RegD.addN 5 (by simp [hmm, w5, hA, hB, hC, w4, h0p, hlp, hdp, w2, w3]; (first | done | exact ⟨rfl, rfl⟩ | rfl)) ?_
          refine RegD.cert (Cert.callA rfl (by simp) rfl (by decide) (by simp [hmm, w5, hA, hB, hC, w4, h0p, hlp, hdp, w2, w3]; exact ⟨rfl, rfl⟩) (by simp [hmm, w5, hA, hB, hC, w4, h0p, hlp, hdp, w2, w3]; rfl) (by exact l10Size_spec) rfl (by simp) (by simp; rfl) rfl) ?_
          refine RegD.addN 2 (by simp [hmm, w5, hA, hB, hC, w4, h0p, hlp, hdp, w2, w3]; (first | done | exact ⟨rfl, rfl⟩ | rfl)) ?_
          refine RegD.cert (Cert.callA rfl (by simp) rfl (by decide) (by simp [hmm, w5, hA, hB, hC, w4, h0p, hlp, hdp, w2, w3]; exact ⟨rfl, rfl⟩) (by simp [hmm, w5, hA, hB, hC, w4, h0p, hlp, hdp, w2, w3]; rfl) (by exact l01In_spec c.Line 0 ((k.size : Int) / 16 - 1)) rfl (by simp) (by simp; rfl) rfl) ?_
          refine RegD.addN 5 (by simp [hmm, w5, hA, hB, hC, w4, h0p, hlp, hdp, w2, w3]; (first | done | exact ⟨rfl, rfl⟩ | rfl)) ?_
          refine RegD.cert (Cert.callA rfl (by simp [hmm, w5, hA, hB, hC, w4, h0p, hlp, hdp, w2, w3]) rfl (by decide) (by simp [hmm, w5, hA, hB, hC, w4, h0p, hlp, hdp, w2, w3]; exact ⟨rfl, rfl⟩) (by simp [hmm, w5, hA, hB, hC, w4, h0p, hlp, hdp, w2, w3]; rfl) (by exact l10Size_spec) rfl (by simp) (by simp; rfl) rfl) ?_
          refine RegD.addN 18 (by simp [hmm, w5, hA, hB, hC, w4, h0p, hlp, hdp, w2, w3]; (first | done | exact ⟨rfl, rfl⟩ | rfl)) ?_
          refine RegD.nil ⟨by kernel_rfl, ?_⟩
          refine DW.condB (by simp [hmm, w5, hA, hB, hC, w4, h0p, hlp, hdp]; exact rfl) (fun hc2 => ?_) (fun hc2 => ?_)
          · have hD : c.Line ≤ p.Line := by simpa [hA, hB, hC] using hc2
            have hbad : okAt k l i = false := by simp [okAt, hci, hA, hB, hC, hpi, hD]
            refine DW.seq ?_
            refine DW.reg (by simp [hmm, w5, hA, hB, hC, w4, h0p, hlp, hdp]; rfl) ?_
            refine DW.ret ?_
            rw [memOk_bad hlt hbad]
            simp [Try.results83]
          · have hD : ¬ c.Line ≤ p.Line := by simpa [hA, hB, hC] using hc2
            have hok : okAt k l i = true := by simp [okAt, hci, hA, hB, hC, hpi, hD]
            refine DW.skip ?_
            refine DW.reg (by simp [hmm, w5, hA, hB, hC, w4, h0p, hlp, hdp, w1]; rfl) ?_
            exact ⟨i + 1, ⟨hlt, by rw [List.range_succ, List.all_append, hall]; simp [hok]⟩, by omega, by simp, by simp, by simp, by rfl⟩
      · have hil : i = l.length := by
          have : ¬ i < l.length := by simpa using hc1
          omega
        subst hil
        refine DW.exit ?_
        refine DW.seq ?_
        refine DW.reg (by simp [hmm, w5]; rfl) ?_
        refine DW.ret ?_
        simp [Try.results83, memOk, hall, hm, hsz]
  · have hmn : ((k.size : Int).tmod 16 != 0) = true := by rw [Int.tmod_eq_emod_of_nonneg (by omega)]; simp; omega
    refine DW.drawn mixed (by kernel_rfl) ?_
    refine RegD.addN 3 (by simp [hmn]; (first | done | exact ⟨rfl, rfl⟩ | rfl)) ?_
    refine RegD.cert (Cert.callA rfl (by simp) rfl (by decide) (by simp [hmn]; exact ⟨rfl, rfl⟩) (by simp [hmn]; rfl) (by exact l10Size_spec) rfl (by simp) (by simp; rfl) rfl) ?_
    refine RegD.addN 6 (by simp [hmn]; (first | done | exact ⟨rfl, rfl⟩ | rfl)) ?_
    refine RegD.addN 1 (by simp [hmn]; first | exact ⟨rfl, rfl⟩ | rfl) ?_
    refine RegD.addN 3 (by simp [hmn]; (first | done | exact ⟨rfl, rfl⟩ | rfl)) ?_
    refine RegD.nil ⟨by kernel_rfl, ?_⟩
    refine DW.condT (by simp [hmn]) ?_
    refine DW.seq ?_
    refine DW.reg (by simp [hmn]; rfl) ?_
    refine DW.ret ?_
    simp [Try.results83, memOk, hm]
end Go.Proofs.Ytjjdjkkhhcbogaa.DM
