import Derived.Test.YtciieaidbiejmaaDoorLT11
import Derived.Test.YtciieaidbiejmaaDoorShelfJ
namespace Go.Proofs.YtciieaidbiejmaaDoor.DM
set_option linter.unusedVariables false
set_option linter.unusedSimpArgs false
set_option maxRecDepth 4000
set_option maxHeartbeats 8000000
theorem specHexBig_spec (s : ByteArray) (hs : ¬ s.size ≤ 20000) (hs2 : s.size ≤ 2 ^ 36) : Spec Tryd.prog 52 [rs s] [none, none] [ds ByteArray.empty, db false] [rs s] := by
  refine Spec.intro Tryd.func52 rfl rfl Tryd.ntmps52 rfl (by simp) ?_
  refine DW.seq ?_
  refine DW.reg (by simp (maxSteps := 200000) (disch := first | omega | (simp; done) | fail) [wrapI, leT, leF, ltT, ltF, eqF, nleT, nleF, nltT, nltF]; rfl) ?_
  refine DW.seq ?_
  refine DW.seq ?_
  refine DW.reg (by simp (maxSteps := 200000) (disch := first | omega | (simp; done) | fail) [wrapI, leT, leF, ltT, ltF, eqF, nleT, nleF, nltT, nltF]; rfl) ?_
  refine DW.condT (by simp (maxSteps := 200000) (disch := first | omega | (simp; done) | fail) [wrapI, leT, leF, ltT, ltF, eqF, nleT, nleF, nltT, nltF]) ?_
  refine DW.seq ?_
  refine DW.reg (by simp (maxSteps := 200000) (disch := first | omega | (simp; done) | fail) [wrapI, leT, leF, ltT, ltF, eqF, nleT, nleF, nltT, nltF]; rfl) ?_
  refine DW.ret ?_
  simp [Tryd.results52]
theorem specHexT_spec (s : ByteArray) (hs2 : s.size ≤ 2 ^ 36) : Spec Tryd.prog 52 [rs s] [none, none] [ds (hexT s), db (decide (s.size ≤ 20000))] [rs s] := by
  by_cases h : s.size ≤ 20000
  · have := specHex_spec s h
    simpa [hexT, h] using this
  · have := specHexBig_spec s h hs2
    simpa [hexT, h] using this
theorem implHexBig_spec (s : ByteArray) (hs : ¬ s.size ≤ 20000) (hs2 : s.size ≤ 2 ^ 36) : Spec Tryd.prog 91 [rs s] [none, none] [ds ByteArray.empty, db false] [rs s] := by
  refine Spec.intro Tryd.func91 rfl rfl Tryd.ntmps91 rfl (by simp) ?_
  refine DW.seq ?_
  refine DW.reg (by simp (maxSteps := 200000) (disch := first | omega | (simp; done) | fail) [wrapI, leT, leF, ltT, ltF, eqF, nleT, nleF, nltT, nltF]; rfl) ?_
  refine DW.seq ?_
  refine DW.seq ?_
  refine DW.reg (by simp (maxSteps := 200000) (disch := first | omega | (simp; done) | fail) [wrapI, leT, leF, ltT, ltF, eqF, nleT, nleF, nltT, nltF]; rfl) ?_
  refine DW.condT (by simp (maxSteps := 200000) (disch := first | omega | (simp; done) | fail) [wrapI, leT, leF, ltT, ltF, eqF, nleT, nleF, nltT, nltF]) ?_
  refine DW.seq ?_
  refine DW.reg (by simp (maxSteps := 200000) (disch := first | omega | (simp; done) | fail) [wrapI, leT, leF, ltT, ltF, eqF, nleT, nleF, nltT, nltF]; rfl) ?_
  refine DW.ret ?_
  simp [Tryd.results91]
theorem implHexT_spec (s : ByteArray) (hs2 : s.size ≤ 2 ^ 36) : Spec Tryd.prog 91 [rs s] [none, none] [ds (hexT s), db (decide (s.size ≤ 20000))] [rs s] := by
  by_cases h : s.size ≤ 20000
  · have := implHex_spec s h
    simpa [hexT, h] using this
  · have := implHexBig_spec s h hs2
    simpa [hexT, h] using this
theorem hexOrDashT_spec (s : ByteArray) (hs : s.size ≤ 2 ^ 36) : Spec Tryd.prog 58 [rs s] [none] [ds (dashT s)] [rs s] := by
  refine Spec.intro Tryd.func58 rfl rfl Tryd.ntmps58 rfl (by simp) ?_
  refine DW.seq ?_
  refine DW.reg (by simp (maxSteps := 200000) (disch := first | omega | (simp; done) | fail) [wrapI, leT, leF, ltT, ltF, eqF, nleT, nleF, nltT, nltF]; rfl) ?_
  refine DW.seq ?_
  refine DW.regs ?_
  refine RegO.opN 1 (by simp (maxSteps := 200000) (disch := first | omega | (simp; done) | fail) [wrapI, leT, leF, ltT, ltF, eqF, nleT, nleF, nltT, nltF]; rfl) ?_
  refine RegO.step rfl (OpStep.callA rfl (by simp (maxSteps := 200000) (disch := first | omega | (simp; done) | fail) [wrapI, leT, leF, ltT, ltF, eqF, nleT, nleF, nltT, nltF]; exact ⟨rfl, rfl⟩) (by simp (maxSteps := 200000) (disch := first | omega | (simp; done) | fail) [wrapI, leT, leF, ltT, ltF, eqF, nleT, nleF, nltT, nltF]; rfl) (by exact implHexT_spec s hs) (by simp) (by simp (maxSteps := 200000) (disch := first | omega | (simp; done) | fail) [wrapI, leT, leF, ltT, ltF, eqF, nleT, nleF, nltT, nltF]; rfl)) ?_
  refine RegO.opN 5 (by simp (maxSteps := 200000) (disch := first | omega | (simp; done) | fail) [wrapI, leT, leF, ltT, ltF, eqF, nleT, nleF, nltT, nltF]; rfl) ?_
  refine RegO.nil ?_
  refine DW.seq ?_
  refine DW.seq ?_
  refine DW.reg (by simp (maxSteps := 200000) (disch := first | omega | (simp; done) | fail) [wrapI, leT, leF, ltT, ltF, eqF, nleT, nleF, nltT, nltF]; rfl) ?_
  refine DW.condB (by simp (maxSteps := 200000) (disch := first | omega | (simp; done) | fail) [wrapI, leT, leF, ltT, ltF, eqF, nleT, nleF, nltT, nltF]; exact rfl) (fun hc0 => ?_) (fun hc0 => ?_)
  · have hc : hexT s = ByteArray.empty := ba_nil.1 (by simpa using hc0)
    have hda : dashT s = ⟨#[45]⟩ := by simp [dashT, hc]
    refine DW.seq ?_
    refine DW.reg (by simp (maxSteps := 200000) (disch := first | omega | (simp; done) | fail) [wrapI, leT, leF, ltT, ltF, eqF, nleT, nleF, nltT, nltF]; rfl) ?_
    refine DW.ret ?_
    rw [hda]
    simp [Tryd.results58]
  · have hc : ¬ hexT s = ByteArray.empty := fun e => (show ¬ (hexT s).toList = [] by simpa using hc0) (ba_nil.2 e)
    have hda : dashT s = hexT s := by simp [dashT, hc]
    refine DW.skip ?_
    refine DW.seq ?_
    refine DW.reg (by simp (maxSteps := 200000) (disch := first | omega | (simp; done) | fail) [wrapI, leT, leF, ltT, ltF, eqF, nleT, nleF, nltT, nltF]; rfl) ?_
    refine DW.ret ?_
    rw [hda]
    simp [Tryd.results58]
theorem rR_BA (l : List ByteArray) : rR l = (l.map Value.string).map RT.sc := by
  induction l with
  | nil => rfl
  | cons x l ih => rw [rR_cons, ih]; rfl
theorem join_spec (l : List ByteArray) (hl : l.length ≤ 2 ^ 37) (hs : szL l ≤ 2 ^ 37) : Spec Tryd.prog 61 [ra l, rs ⟨#[32]⟩] [none] [ds (joinB l)] [ra l, rs ⟨#[32]⟩] := by
  have key := Spec.reads (P := Tryd.prog) (f := 61) (args := [.row (l.map Value.string), .pl (.string ⟨#[32]⟩)]) (rs := [.string (joinB l)]) ⟨_, Tryd.func61, by kernel_rfl, by kernel_rfl⟩ (by simp [plain]) fun w vals hT hv => by
    match vals, hv with
    | [v, u], hv =>
      obtain ⟨h1, h2, -⟩ := hv
      simp only [raAt] at h2
      subst h2
      rcases h1 with ⟨a, c, rfl, h0⟩ | ⟨b, o, c, rfl, hc, hb, hcell⟩
      · have hl0 : l = [] := by simpa using h0
        subst hl0
        refine (Tryd.strings_Join_none a c ⟨#[32]⟩ w).mono ?_
        rintro e w' ⟨rfl, rfl⟩
        exact ⟨rfl, Go.RowKit.Below.refl _ _⟩
      · have hlm : (l.map Value.string).length = l.length := List.length_map _
        rw [hlm] at hc
        have hjl : (Lib.join (l.map (·.data.toList)) (⟨#[32]⟩ : ByteArray).data.toList).length ≤ 140737488355328 := by
          cases l with
          | nil => simp [Lib.join_nil]
          | cons x l =>
            have h9 := congrArg ByteArray.size (joinB_cons x l)
            rw [joinB, ba_size, ByteArray.size_append, tlB_size] at h9
            simp only [szL] at hs
            have hx : Row.sz x = x.size := rfl
            show (Lib.join ((x :: l).map (·.data.toList)) [32]).length ≤ _
            omega
        have := Tryd.strings_Join b o c l ⟨#[32]⟩ w (fun j x hx => hcell j (.string x) (by rw [List.getElem?_map, hx]; rfl)) hb (by omega) hc hjl
        rw [hlm]
        exact this
  show Spec _ _ [.one (.r (.sl l.length (rR l))), rs ⟨#[32]⟩] _ _ [.one (.r (.sl l.length (rR l))), rs ⟨#[32]⟩]
  rw [rR_BA]
  simpa using key
theorem implResultLine_spec (r : Result) (hr : Row.sz r ≤ 2 ^ 36) (hco : IntOk r.Code) (hsi : IntOk r.Size) : Spec Tryd.prog 21 [raResult r] [none] [ds (resLine r)] [raResult r] := by
  refine Spec.intro Tryd.func21 rfl rfl Tryd.ntmps21 rfl (by simp) ?_
  have hz := Result_sz r
  have hnl := szL_len r.Names
  have hd1 := decB_size r.Code hco.1 hco.2
  have hd2 := decB_size r.Size hsi.1 hsi.2
  have hd3 := dashT_size r.Text
  have hrs : ∀ x : ByteArray, Row.sz x = x.size := fun _ => rfl
  refine DW.seq ?_
  refine DW.reg (by simp (maxSteps := 200000) (disch := first | omega | (simp; done) | fail) [wrapI, leT, leF, ltT, ltF, eqF, nleT, nleF, nltT, nltF]; rfl) ?_
  refine DW.seq ?_
  refine DW.drawn mixed (by kernel_rfl) ?_
  refine RegD.addN 2 (by simp; (first | (simp (disch := omega) only [wrapI, ltF, if_false]; done) | (simp (disch := omega) only [wrapI, ltF, if_false]; first | exact ⟨rfl, rfl⟩ | rfl) | skip); (first | done | exact ⟨rfl, rfl⟩ | rfl)) ?_
  refine RegD.cert (Cert.callA rfl (by simp) rfl (by decide) (by simp; exact ⟨rfl, rfl⟩) (by simp; rfl) (by exact implDecimal_spec r.Code hco.1 hco.2) rfl (by simp) (by simp; rfl) rfl) ?_
  refine RegD.addN 2 (by simp; (first | (simp (disch := omega) only [wrapI, ltF, if_false]; done) | (simp (disch := omega) only [wrapI, ltF, if_false]; first | exact ⟨rfl, rfl⟩ | rfl) | skip); (first | done | exact ⟨rfl, rfl⟩ | rfl)) ?_
  refine RegD.cert (Cert.callA rfl (by simp) rfl (by decide) (by simp; exact ⟨rfl, rfl⟩) (by simp; rfl) (by exact hexOrDashT_spec r.Text (by omega)) rfl (by simp) (by simp; rfl) rfl) ?_
  refine RegD.addN 2 (by simp; (first | (simp (disch := omega) only [wrapI, ltF, if_false]; done) | (simp (disch := omega) only [wrapI, ltF, if_false]; first | exact ⟨rfl, rfl⟩ | rfl) | skip); (first | done | exact ⟨rfl, rfl⟩ | rfl)) ?_
  refine RegD.cert (Cert.callA rfl (by simp) rfl (by decide) (by simp; exact ⟨rfl, rfl⟩) (by simp; rfl) (by exact implDecimal_spec r.Size hsi.1 hsi.2) rfl (by simp) (by simp; rfl) rfl) ?_
  refine RegD.cert (Cert.buildRo (rcs := [.sc (.string ⟨#[99, 111, 100, 101]⟩), .sc (.string (decB r.Code)), .sc (.string (dashT r.Text)), .sc (.string (decB r.Size))]) rfl rfl rfl (by decide) (by simp; exact ⟨rfl, rfl⟩) (by simp; rfl) (by simp; rfl) (by rfl) (by decide) (by decide) (by simp; rfl) (by simp; rfl) (by rfl) (by simp)) ?_
  refine RegD.addN 1 (by simp; (first | (simp (disch := omega) only [wrapI, ltF, if_false]; done) | (simp (disch := omega) only [wrapI, ltF, if_false]; first | exact ⟨rfl, rfl⟩ | rfl) | skip); (first | done | exact ⟨rfl, rfl⟩ | rfl)) ?_
  refine RegD.nil ⟨by kernel_rfl, ?_⟩
  refine DW.norm [(1, _), (3, _)] [(1, _), (13, _)] [] (by simp; exact ⟨rfl, rfl⟩) (by simp; exact ⟨rfl, rfl⟩) (by simp) (by rfl) ?_
  refine DW.seq ?_
  refine DW.seq ?_
  refine DW.reg (by simp (maxSteps := 200000) (disch := first | omega | (simp; done) | fail) [wrapI, leT, leF, ltT, ltF, eqF, nleT, nleF, nltT, nltF]; rfl) ?_
  refine DW.condB (by simp (maxSteps := 200000) (disch := first | omega | (simp; done) | fail) [wrapI, leT, leF, ltT, ltF, eqF, nleT, nleF, nltT, nltF]; exact rfl) (fun hc0 => ?_) (fun hc0 => ?_)
  · have hdir : r.Dir = true := by simpa using hc0
    obtain ⟨J, hJ⟩ : ∃ J, J = [⟨#[99, 111, 100, 101]⟩, decB r.Code, dashT r.Text, decB r.Size, ⟨#[100, 105, 114]⟩] ++ r.Names := ⟨_, rfl⟩
    have hJl : J.length ≤ 2 ^ 37 := by rw [hJ]; simp; omega
    have hJs : szL J ≤ 2 ^ 37 := by rw [hJ, szL_append]; simp [szL, hrs]; omega
    have hCC := concat_spec [[⟨#[99, 111, 100, 101]⟩, decB r.Code, dashT r.Text, decB r.Size, ⟨#[100, 105, 114]⟩], r.Names] (by simp [flatB]) (by simp [flatB]; omega) (by simp)
    have hfl : flatB [[⟨#[99, 111, 100, 101]⟩, decB r.Code, dashT r.Text, decB r.Size, ⟨#[100, 105, 114]⟩], r.Names] = J := by rw [hJ]; simp [flatB]
    rw [hfl] at hCC
    have hJJ := join_spec J hJl hJs
    have hres : resLine r = joinB J := by rw [hJ]; simp [resLine, resWords, hdir]
    have htJ : List.take J.length (rD J) = rD J := List.take_of_length_le (by rw [rD_len_ByteArray]; omega)
    simp only [List.map_cons, List.map_nil, List.length_cons, List.length_nil] at hCC
    clear hJ hfl
    refine DW.reg (by simp; rfl) ?_
    refine DW.norm [(1, _), (3, _)] [(1, _), (18, _)] [] (by simp; exact ⟨rfl, rfl⟩) (by simp; exact ⟨rfl, rfl⟩) (by simp) (by rfl) ?_
    refine DW.seq ?_
    refine DW.regs ?_
    refine RegO.opN 4 (by simp; rfl) ?_
    refine RegO.step rfl (OpStep.callA rfl (by simp; exact ⟨rfl, rfl⟩) (by simp; rfl) (by exact hCC) (by simp) (by simp; rfl)) ?_
    refine RegO.step rfl (OpStep.callA rfl (by simp; exact ⟨rfl, rfl⟩) (by simp; rfl) (by exact hJJ) (by simp) (by simp; rfl)) ?_
    refine RegO.opN 1 (by simp; rfl) ?_
    refine RegO.nil ?_
    refine DW.ret ?_
    rw [hres]
    simp [Tryd.results21]
  · have hdir : r.Dir = false := by simpa using hc0
    obtain ⟨J, hJ⟩ : ∃ J, J = [⟨#[99, 111, 100, 101]⟩, decB r.Code, dashT r.Text, decB r.Size] ++ r.Names := ⟨_, rfl⟩
    have hJl : J.length ≤ 2 ^ 37 := by rw [hJ]; simp; omega
    have hJs : szL J ≤ 2 ^ 37 := by rw [hJ, szL_append]; simp [szL, hrs]; omega
    have hCC := concat_spec [[⟨#[99, 111, 100, 101]⟩, decB r.Code, dashT r.Text, decB r.Size], r.Names] (by simp [flatB]) (by simp [flatB]; omega) (by simp)
    have hfl : flatB [[⟨#[99, 111, 100, 101]⟩, decB r.Code, dashT r.Text, decB r.Size], r.Names] = J := by rw [hJ]; simp [flatB]
    rw [hfl] at hCC
    have hJJ := join_spec J hJl hJs
    have hres : resLine r = joinB J := by rw [hJ]; simp [resLine, resWords, hdir]
    have htJ : List.take J.length (rD J) = rD J := List.take_of_length_le (by rw [rD_len_ByteArray]; omega)
    simp only [List.map_cons, List.map_nil, List.length_cons, List.length_nil] at hCC
    clear hJ hfl
    refine DW.skip ?_
    refine DW.seq ?_
    refine DW.regs ?_
    refine RegO.opN 4 (by simp; rfl) ?_
    refine RegO.step rfl (OpStep.callA rfl (by simp; exact ⟨rfl, rfl⟩) (by simp; rfl) (by exact hCC) (by simp) (by simp; rfl)) ?_
    refine RegO.step rfl (OpStep.callA rfl (by simp; exact ⟨rfl, rfl⟩) (by simp; rfl) (by exact hJJ) (by simp) (by simp; rfl)) ?_
    refine RegO.opN 1 (by simp; rfl) ?_
    refine RegO.nil ?_
    refine DW.ret ?_
    rw [hres]
    simp [Tryd.results21]
theorem specResultLine_spec (r : Result) (hr : Row.sz r ≤ 2 ^ 36) (hco : IntOk r.Code) (hsi : IntOk r.Size) : Spec Tryd.prog 19 [raResult r] [none] [ds (resLine r)] [raResult r] := by
  refine Spec.intro Tryd.func19 rfl rfl Tryd.ntmps19 rfl (by simp) ?_
  have hz := Result_sz r
  have hnl := szL_len r.Names
  have hd1 := decB_size r.Code hco.1 hco.2
  have hd2_ := decB_size r.Size hsi.1 hsi.2
  have hd3 := dashT_size r.Text
  have hBB : resBase r = resBase r := rfl
  have hBS : (resBase r).size ≤ 50000 := by unfold resBase; simp only [ByteArray.size_append]; simp; omega
  have hDS : (resDir r).size ≤ 4 := by unfold resDir; split <;> simp [ByteArray.size]
  refine DW.seq ?_
  refine DW.reg (by simp (maxSteps := 200000) (disch := first | omega | (simp; done) | fail) [wrapI, leT, leF, ltT, ltF, eqF, nleT, nleF, nltT, nltF]; rfl) ?_
  refine DW.seq ?_
  refine DW.regs ?_
  refine RegO.opN 2 (by simp (maxSteps := 200000) (disch := first | omega | (simp; done) | fail) [wrapI, leT, leF, ltT, ltF, eqF, nleT, nleF, nltT, nltF]; rfl) ?_
  refine RegO.step rfl (OpStep.callA rfl (by simp (maxSteps := 200000) (disch := first | omega | (simp; done) | fail) [wrapI, leT, leF, ltT, ltF, eqF, nleT, nleF, nltT, nltF]; exact ⟨rfl, rfl⟩) (by simp (maxSteps := 200000) (disch := first | omega | (simp; done) | fail) [wrapI, leT, leF, ltT, ltF, eqF, nleT, nleF, nltT, nltF]; rfl) (by exact specHexT_spec r.Text (by omega)) (by simp) (by simp (maxSteps := 200000) (disch := first | omega | (simp; done) | fail) [wrapI, leT, leF, ltT, ltF, eqF, nleT, nleF, nltT, nltF]; rfl)) ?_
  refine RegO.opN 5 (by simp (maxSteps := 200000) (disch := first | omega | (simp; done) | fail) [wrapI, leT, leF, ltT, ltF, eqF, nleT, nleF, nltT, nltF]; rfl) ?_
  refine RegO.nil ?_
  refine DW.seq ?_
  refine DW.seq ?_
  refine DW.reg (by simp (maxSteps := 200000) (disch := first | omega | (simp; done) | fail) [wrapI, leT, leF, ltT, ltF, eqF, nleT, nleF, nltT, nltF]; rfl) ?_
  refine DW.condB (by simp (maxSteps := 200000) (disch := first | omega | (simp; done) | fail) [wrapI, leT, leF, ltT, ltF, eqF, nleT, nleF, nltT, nltF]; exact rfl) (fun hc0 => ?_) (fun hc0 => ?_)
  · have hc : hexT r.Text = ByteArray.empty := ba_nil.1 (by simpa using hc0)
    have hda : dashT r.Text = ⟨#[45]⟩ := by simp [dashT, hc]
    rw [hda] at hd3
    refine DW.reg (by simp (maxSteps := 200000) (disch := first | omega | (simp; done) | fail) [wrapI, leT, leF, ltT, ltF, eqF, nleT, nleF, nltT, nltF]; rfl) ?_
    refine DW.seq ?_
    refine DW.drawn mixed (by kernel_rfl) ?_
    refine RegD.addN 2 (by simp; (first | (simp (disch := omega) only [wrapI, ltF, if_false]; done) | (simp (disch := omega) only [wrapI, ltF, if_false]; first | exact ⟨rfl, rfl⟩ | rfl) | skip); (first | done | exact ⟨rfl, rfl⟩ | rfl)) ?_
    refine RegD.cert (Cert.callA rfl (by simp) rfl (by decide) (by simp; exact ⟨rfl, rfl⟩) (by simp; rfl) (by exact specDecimal_spec r.Code hco.1 hco.2) rfl (by simp) (by simp; rfl) rfl) ?_
    refine RegD.addN 1 (by simp; (first | (simp (disch := omega) only [wrapI, ltF, if_false]; done) | (simp (disch := omega) only [wrapI, ltF, if_false]; first | exact ⟨rfl, rfl⟩ | rfl) | skip); (first | done | exact ⟨rfl, rfl⟩ | rfl)) ?_
    refine RegD.addN 1 (by simp; (first | (simp (disch := omega) only [wrapI, ltF, if_false]; done) | (simp (disch := omega) only [wrapI, ltF, if_false]; first | exact ⟨rfl, rfl⟩ | rfl) | skip); (first | done | exact ⟨rfl, rfl⟩ | rfl)) ?_
    refine RegD.addN 1 (by simp; (first | (simp (disch := omega) only [wrapI, ltF, if_false]; done) | (simp (disch := omega) only [wrapI, ltF, if_false]; first | exact ⟨rfl, rfl⟩ | rfl) | skip); (first | done | exact ⟨rfl, rfl⟩ | rfl)) ?_
    refine RegD.addN 1 (by simp; (first | (simp (disch := omega) only [wrapI, ltF, if_false]; done) | (simp (disch := omega) only [wrapI, ltF, if_false]; first | exact ⟨rfl, rfl⟩ | rfl) | skip); (first | done | exact ⟨rfl, rfl⟩ | rfl)) ?_
    refine RegD.addN 1 (by simp; (first | (simp (disch := omega) only [wrapI, ltF, if_false]; done) | (simp (disch := omega) only [wrapI, ltF, if_false]; first | exact ⟨rfl, rfl⟩ | rfl) | skip); (first | done | exact ⟨rfl, rfl⟩ | rfl)) ?_
    refine RegD.addN 2 (by simp; (first | (simp (disch := omega) only [wrapI, ltF, if_false]; done) | (simp (disch := omega) only [wrapI, ltF, if_false]; first | exact ⟨rfl, rfl⟩ | rfl) | skip); (first | done | exact ⟨rfl, rfl⟩ | rfl)) ?_
    refine RegD.cert (Cert.callA rfl (by simp) rfl (by decide) (by simp; exact ⟨rfl, rfl⟩) (by simp; rfl) (by exact specDecimal_spec r.Size hsi.1 hsi.2) rfl (by simp) (by simp; rfl) rfl) ?_
    refine RegD.addN 1 (by simp; (first | (simp (disch := omega) only [wrapI, ltF, if_false]; done) | (simp (disch := omega) only [wrapI, ltF, if_false]; first | exact ⟨rfl, rfl⟩ | rfl) | skip); (first | done | exact ⟨rfl, rfl⟩ | rfl)) ?_
    refine RegD.addN 1 (by simp; (first | (simp (disch := omega) only [wrapI, ltF, if_false]; done) | (simp (disch := omega) only [wrapI, ltF, if_false]; first | exact ⟨rfl, rfl⟩ | rfl) | skip); (first | done | exact ⟨rfl, rfl⟩ | rfl)) ?_
    refine RegD.nil ⟨by kernel_rfl, ?_⟩
    refine DW.seq ?_
    refine DW.seq ?_
    refine DW.reg (by simp (maxSteps := 200000) (disch := first | omega | (simp; done) | fail) [wrapI, leT, leF, ltT, ltF, eqF, nleT, nleF, nltT, nltF]; rfl) ?_
    refine DW.condB (by simp (maxSteps := 200000) (disch := first | omega | (simp; done) | fail) [wrapI, leT, leF, ltT, ltF, eqF, nleT, nleF, nltT, nltF]; exact rfl) (fun hc1 => ?_) (fun hc1 => ?_)
    · have hdir : r.Dir = true := by simpa using hc1
      have hrd : resDir r = ⟨#[32, 100, 105, 114]⟩ := by simp [resDir, hdir]
      have hRD : resDir r = resDir r := rfl
      refine DW.reg (by simp (maxSteps := 200000) (disch := first | omega | (simp; done) | fail) [wrapI, leT, leF, ltT, ltF, eqF, nleT, nleF, nltT, nltF]; rfl) ?_
      refine DW.seq ?_
      refine DW.seq ?_
      refine DW.reg (by simp (maxSteps := 200000) (disch := first | omega | (simp; done) | fail) [wrapI, leT, leF, ltT, ltF, eqF, nleT, nleF, nltT, nltF]; rfl) ?_
      refine DW.block ?_
      refine DW.loopS (α := Nat) (fun i => i ≤ r.Names.length) (fun i => r.Names.length - i) (fun i => [(6, vi i), (5, vs (resBase r ++ (resDir r ++ tlB (r.Names.take i))))]) (fun i => []) [(1, _)] [(1, _)] [] 0 (Nat.zero_le _) (by simp [hrd, tlB_nil, resBase, hda, ByteArray.append_assoc]; (first | done | exact ⟨rfl, rfl⟩ | rfl)) (by simp; exact rfl) (by simp) (by rfl) ?_
      intro i hi
      refine DW.seq ?_
      refine DW.seq ?_
      refine DW.reg (by simp (maxSteps := 200000) (disch := first | omega | (simp; done) | fail) [wrapI, leT, leF, ltT, ltF, eqF, nleT, nleF, nltT, nltF]; rfl) ?_
      refine DW.condB (by simp (maxSteps := 200000) (disch := first | omega | (simp; done) | fail) [wrapI, leT, leF, ltT, ltF, eqF, nleT, nleF, nltT, nltF]; exact rfl) (fun hc2 => ?_) (fun hc2 => ?_)
      · have hlt : i < r.Names.length := by simpa using hc2
        have hlt1 : (i : Int) < r.Names.length := by omega
        have hd := rR_get_ByteArray r.Names i hlt
        have hts := tlB_succ r.Names i hlt
        have hsa := szL_at r.Names i hlt
        have hd2 : ∀ h : i < (rR r.Names).length, (rR r.Names)[i]'h = RT.sc (.string r.Names[i]) := fun h => by rw [List.getElem?_eq_getElem h] at hd; exact Option.some.inj hd
        generalize r.Names[i] = c at *
        have hcz : Row.sz c = c.size := rfl
        have htz := tlB_size (r.Names.take i)
        refine DW.skip ?_
        refine DW.seq ?_
        refine DW.block ?_
        refine DW.reg (by simp (maxSteps := 200000) (disch := first | omega | (simp; done) | fail) [wrapI, leT, leF, ltT, ltF, eqF, nleT, nleF, nltT, nltF, hlt1, hd, hd2, hBS, hDS]; rfl) ?_
        refine DW.reg (by simp (maxSteps := 200000) (disch := first | omega | (simp; done) | fail) [wrapI, leT, leF, ltT, ltF, eqF, nleT, nleF, nltT, nltF, hlt1, hd]; rfl) ?_
        exact ⟨i + 1, hlt, by omega, by simp [hts, ByteArray.append_assoc], by simp, by simp, by rfl⟩
      · have hil : i = r.Names.length := by
          have : ¬ i < r.Names.length := by simpa using hc2
          omega
        subst hil
        rw [List.take_length]
        refine DW.exit ?_
        refine DW.seq ?_
        refine DW.reg (by simp (maxSteps := 200000) (disch := first | omega | (simp; done) | fail) [wrapI, leT, leF, ltT, ltF, eqF, nleT, nleF, nltT, nltF]; rfl) ?_
        refine DW.ret ?_
        rw [resLine_eq]
        simp [Tryd.results19]
    · have hdir : r.Dir = false := by simpa using hc1
      have hrd : resDir r = ByteArray.empty := by simp [resDir, hdir]
      refine DW.skip ?_
      refine DW.seq ?_
      refine DW.seq ?_
      refine DW.reg (by simp (maxSteps := 200000) (disch := first | omega | (simp; done) | fail) [wrapI, leT, leF, ltT, ltF, eqF, nleT, nleF, nltT, nltF]; rfl) ?_
      refine DW.block ?_
      refine DW.loopS (α := Nat) (fun i => i ≤ r.Names.length) (fun i => r.Names.length - i) (fun i => [(6, vi i), (5, vs (resBase r ++ (resDir r ++ tlB (r.Names.take i))))]) (fun i => []) [(1, _)] [(1, _)] [] 0 (Nat.zero_le _) (by simp [hrd, tlB_nil, resBase, hda, ByteArray.append_assoc]; (first | done | exact ⟨rfl, rfl⟩ | rfl)) (by simp; exact rfl) (by simp) (by rfl) ?_
      intro i hi
      refine DW.seq ?_
      refine DW.seq ?_
      refine DW.reg (by simp (maxSteps := 200000) (disch := first | omega | (simp; done) | fail) [wrapI, leT, leF, ltT, ltF, eqF, nleT, nleF, nltT, nltF]; rfl) ?_
      refine DW.condB (by simp (maxSteps := 200000) (disch := first | omega | (simp; done) | fail) [wrapI, leT, leF, ltT, ltF, eqF, nleT, nleF, nltT, nltF]; exact rfl) (fun hc3 => ?_) (fun hc3 => ?_)
      · have hlt : i < r.Names.length := by simpa using hc3
        have hlt1 : (i : Int) < r.Names.length := by omega
        have hd := rR_get_ByteArray r.Names i hlt
        have hts := tlB_succ r.Names i hlt
        have hsa := szL_at r.Names i hlt
        have hd2 : ∀ h : i < (rR r.Names).length, (rR r.Names)[i]'h = RT.sc (.string r.Names[i]) := fun h => by rw [List.getElem?_eq_getElem h] at hd; exact Option.some.inj hd
        generalize r.Names[i] = c at *
        have hcz : Row.sz c = c.size := rfl
        have htz := tlB_size (r.Names.take i)
        refine DW.skip ?_
        refine DW.seq ?_
        refine DW.block ?_
        refine DW.reg (by simp (maxSteps := 200000) (disch := first | omega | (simp; done) | fail) [wrapI, leT, leF, ltT, ltF, eqF, nleT, nleF, nltT, nltF, hlt1, hd, hd2, hBS, hDS]; rfl) ?_
        refine DW.reg (by simp (maxSteps := 200000) (disch := first | omega | (simp; done) | fail) [wrapI, leT, leF, ltT, ltF, eqF, nleT, nleF, nltT, nltF, hlt1, hd]; rfl) ?_
        exact ⟨i + 1, hlt, by omega, by simp [hts, ByteArray.append_assoc], by simp, by simp, by rfl⟩
      · have hil : i = r.Names.length := by
          have : ¬ i < r.Names.length := by simpa using hc3
          omega
        subst hil
        rw [List.take_length]
        refine DW.exit ?_
        refine DW.seq ?_
        refine DW.reg (by simp (maxSteps := 200000) (disch := first | omega | (simp; done) | fail) [wrapI, leT, leF, ltT, ltF, eqF, nleT, nleF, nltT, nltF]; rfl) ?_
        refine DW.ret ?_
        rw [resLine_eq]
        simp [Tryd.results19]
  · have hc : ¬ hexT r.Text = ByteArray.empty := fun e => (show ¬ (hexT r.Text).toList = [] by simpa using hc0) (ba_nil.2 e)
    have hda : dashT r.Text = hexT r.Text := by simp [dashT, hc]
    rw [hda] at hd3
    refine DW.skip ?_
    refine DW.seq ?_
    refine DW.drawn mixed (by kernel_rfl) ?_
    refine RegD.addN 2 (by simp; (first | (simp (disch := omega) only [wrapI, ltF, if_false]; done) | (simp (disch := omega) only [wrapI, ltF, if_false]; first | exact ⟨rfl, rfl⟩ | rfl) | skip); (first | done | exact ⟨rfl, rfl⟩ | rfl)) ?_
    refine RegD.cert (Cert.callA rfl (by simp) rfl (by decide) (by simp; exact ⟨rfl, rfl⟩) (by simp; rfl) (by exact specDecimal_spec r.Code hco.1 hco.2) rfl (by simp) (by simp; rfl) rfl) ?_
    refine RegD.addN 1 (by simp; (first | (simp (disch := omega) only [wrapI, ltF, if_false]; done) | (simp (disch := omega) only [wrapI, ltF, if_false]; first | exact ⟨rfl, rfl⟩ | rfl) | skip); (first | done | exact ⟨rfl, rfl⟩ | rfl)) ?_
    refine RegD.addN 1 (by simp; (first | (simp (disch := omega) only [wrapI, ltF, if_false]; done) | (simp (disch := omega) only [wrapI, ltF, if_false]; first | exact ⟨rfl, rfl⟩ | rfl) | skip); (first | done | exact ⟨rfl, rfl⟩ | rfl)) ?_
    refine RegD.addN 1 (by simp; (first | (simp (disch := omega) only [wrapI, ltF, if_false]; done) | (simp (disch := omega) only [wrapI, ltF, if_false]; first | exact ⟨rfl, rfl⟩ | rfl) | skip); (first | done | exact ⟨rfl, rfl⟩ | rfl)) ?_
    refine RegD.addN 1 (by simp; (first | (simp (disch := omega) only [wrapI, ltF, if_false]; done) | (simp (disch := omega) only [wrapI, ltF, if_false]; first | exact ⟨rfl, rfl⟩ | rfl) | skip); (first | done | exact ⟨rfl, rfl⟩ | rfl)) ?_
    refine RegD.addN 1 (by simp; (first | (simp (disch := omega) only [wrapI, ltF, if_false]; done) | (simp (disch := omega) only [wrapI, ltF, if_false]; first | exact ⟨rfl, rfl⟩ | rfl) | skip); (first | done | exact ⟨rfl, rfl⟩ | rfl)) ?_
    refine RegD.addN 2 (by simp; (first | (simp (disch := omega) only [wrapI, ltF, if_false]; done) | (simp (disch := omega) only [wrapI, ltF, if_false]; first | exact ⟨rfl, rfl⟩ | rfl) | skip); (first | done | exact ⟨rfl, rfl⟩ | rfl)) ?_
    refine RegD.cert (Cert.callA rfl (by simp) rfl (by decide) (by simp; exact ⟨rfl, rfl⟩) (by simp; rfl) (by exact specDecimal_spec r.Size hsi.1 hsi.2) rfl (by simp) (by simp; rfl) rfl) ?_
    refine RegD.addN 1 (by simp; (first | (simp (disch := omega) only [wrapI, ltF, if_false]; done) | (simp (disch := omega) only [wrapI, ltF, if_false]; first | exact ⟨rfl, rfl⟩ | rfl) | skip); (first | done | exact ⟨rfl, rfl⟩ | rfl)) ?_
    refine RegD.addN 1 (by simp; (first | (simp (disch := omega) only [wrapI, ltF, if_false]; done) | (simp (disch := omega) only [wrapI, ltF, if_false]; first | exact ⟨rfl, rfl⟩ | rfl) | skip); (first | done | exact ⟨rfl, rfl⟩ | rfl)) ?_
    refine RegD.nil ⟨by kernel_rfl, ?_⟩
    refine DW.seq ?_
    refine DW.seq ?_
    refine DW.reg (by simp (maxSteps := 200000) (disch := first | omega | (simp; done) | fail) [wrapI, leT, leF, ltT, ltF, eqF, nleT, nleF, nltT, nltF]; rfl) ?_
    refine DW.condB (by simp (maxSteps := 200000) (disch := first | omega | (simp; done) | fail) [wrapI, leT, leF, ltT, ltF, eqF, nleT, nleF, nltT, nltF]; exact rfl) (fun hc4 => ?_) (fun hc4 => ?_)
    · have hdir : r.Dir = true := by simpa using hc4
      have hrd : resDir r = ⟨#[32, 100, 105, 114]⟩ := by simp [resDir, hdir]
      have hRD : resDir r = resDir r := rfl
      refine DW.reg (by simp (maxSteps := 200000) (disch := first | omega | (simp; done) | fail) [wrapI, leT, leF, ltT, ltF, eqF, nleT, nleF, nltT, nltF]; rfl) ?_
      refine DW.seq ?_
      refine DW.seq ?_
      refine DW.reg (by simp (maxSteps := 200000) (disch := first | omega | (simp; done) | fail) [wrapI, leT, leF, ltT, ltF, eqF, nleT, nleF, nltT, nltF]; rfl) ?_
      refine DW.block ?_
      refine DW.loopS (α := Nat) (fun i => i ≤ r.Names.length) (fun i => r.Names.length - i) (fun i => [(6, vi i), (5, vs (resBase r ++ (resDir r ++ tlB (r.Names.take i))))]) (fun i => []) [(1, _)] [(1, _)] [] 0 (Nat.zero_le _) (by simp [hrd, tlB_nil, resBase, hda, ByteArray.append_assoc]; (first | done | exact ⟨rfl, rfl⟩ | rfl)) (by simp; exact rfl) (by simp) (by rfl) ?_
      intro i hi
      refine DW.seq ?_
      refine DW.seq ?_
      refine DW.reg (by simp (maxSteps := 200000) (disch := first | omega | (simp; done) | fail) [wrapI, leT, leF, ltT, ltF, eqF, nleT, nleF, nltT, nltF]; rfl) ?_
      refine DW.condB (by simp (maxSteps := 200000) (disch := first | omega | (simp; done) | fail) [wrapI, leT, leF, ltT, ltF, eqF, nleT, nleF, nltT, nltF]; exact rfl) (fun hc5 => ?_) (fun hc5 => ?_)
      · have hlt : i < r.Names.length := by simpa using hc5
        have hlt1 : (i : Int) < r.Names.length := by omega
        have hd := rR_get_ByteArray r.Names i hlt
        have hts := tlB_succ r.Names i hlt
        have hsa := szL_at r.Names i hlt
        have hd2 : ∀ h : i < (rR r.Names).length, (rR r.Names)[i]'h = RT.sc (.string r.Names[i]) := fun h => by rw [List.getElem?_eq_getElem h] at hd; exact Option.some.inj hd
        generalize r.Names[i] = c at *
        have hcz : Row.sz c = c.size := rfl
        have htz := tlB_size (r.Names.take i)
        refine DW.skip ?_
        refine DW.seq ?_
        refine DW.block ?_
        refine DW.reg (by simp (maxSteps := 200000) (disch := first | omega | (simp; done) | fail) [wrapI, leT, leF, ltT, ltF, eqF, nleT, nleF, nltT, nltF, hlt1, hd, hd2, hBS, hDS]; rfl) ?_
        refine DW.reg (by simp (maxSteps := 200000) (disch := first | omega | (simp; done) | fail) [wrapI, leT, leF, ltT, ltF, eqF, nleT, nleF, nltT, nltF, hlt1, hd]; rfl) ?_
        exact ⟨i + 1, hlt, by omega, by simp [hts, ByteArray.append_assoc], by simp, by simp, by rfl⟩
      · have hil : i = r.Names.length := by
          have : ¬ i < r.Names.length := by simpa using hc5
          omega
        subst hil
        rw [List.take_length]
        refine DW.exit ?_
        refine DW.seq ?_
        refine DW.reg (by simp (maxSteps := 200000) (disch := first | omega | (simp; done) | fail) [wrapI, leT, leF, ltT, ltF, eqF, nleT, nleF, nltT, nltF]; rfl) ?_
        refine DW.ret ?_
        rw [resLine_eq]
        simp [Tryd.results19]
    · have hdir : r.Dir = false := by simpa using hc4
      have hrd : resDir r = ByteArray.empty := by simp [resDir, hdir]
      refine DW.skip ?_
      refine DW.seq ?_
      refine DW.seq ?_
      refine DW.reg (by simp (maxSteps := 200000) (disch := first | omega | (simp; done) | fail) [wrapI, leT, leF, ltT, ltF, eqF, nleT, nleF, nltT, nltF]; rfl) ?_
      refine DW.block ?_
      refine DW.loopS (α := Nat) (fun i => i ≤ r.Names.length) (fun i => r.Names.length - i) (fun i => [(6, vi i), (5, vs (resBase r ++ (resDir r ++ tlB (r.Names.take i))))]) (fun i => []) [(1, _)] [(1, _)] [] 0 (Nat.zero_le _) (by simp [hrd, tlB_nil, resBase, hda, ByteArray.append_assoc]; (first | done | exact ⟨rfl, rfl⟩ | rfl)) (by simp; exact rfl) (by simp) (by rfl) ?_
      intro i hi
      refine DW.seq ?_
      refine DW.seq ?_
      refine DW.reg (by simp (maxSteps := 200000) (disch := first | omega | (simp; done) | fail) [wrapI, leT, leF, ltT, ltF, eqF, nleT, nleF, nltT, nltF]; rfl) ?_
      refine DW.condB (by simp (maxSteps := 200000) (disch := first | omega | (simp; done) | fail) [wrapI, leT, leF, ltT, ltF, eqF, nleT, nleF, nltT, nltF]; exact rfl) (fun hc6 => ?_) (fun hc6 => ?_)
      · have hlt : i < r.Names.length := by simpa using hc6
        have hlt1 : (i : Int) < r.Names.length := by omega
        have hd := rR_get_ByteArray r.Names i hlt
        have hts := tlB_succ r.Names i hlt
        have hsa := szL_at r.Names i hlt
        have hd2 : ∀ h : i < (rR r.Names).length, (rR r.Names)[i]'h = RT.sc (.string r.Names[i]) := fun h => by rw [List.getElem?_eq_getElem h] at hd; exact Option.some.inj hd
        generalize r.Names[i] = c at *
        have hcz : Row.sz c = c.size := rfl
        have htz := tlB_size (r.Names.take i)
        refine DW.skip ?_
        refine DW.seq ?_
        refine DW.block ?_
        refine DW.reg (by simp (maxSteps := 200000) (disch := first | omega | (simp; done) | fail) [wrapI, leT, leF, ltT, ltF, eqF, nleT, nleF, nltT, nltF, hlt1, hd, hd2, hBS, hDS]; rfl) ?_
        refine DW.reg (by simp (maxSteps := 200000) (disch := first | omega | (simp; done) | fail) [wrapI, leT, leF, ltT, ltF, eqF, nleT, nleF, nltT, nltF, hlt1, hd]; rfl) ?_
        exact ⟨i + 1, hlt, by omega, by simp [hts, ByteArray.append_assoc], by simp, by simp, by rfl⟩
      · have hil : i = r.Names.length := by
          have : ¬ i < r.Names.length := by simpa using hc6
          omega
        subst hil
        rw [List.take_length]
        refine DW.exit ?_
        refine DW.seq ?_
        refine DW.reg (by simp (maxSteps := 200000) (disch := first | omega | (simp; done) | fail) [wrapI, leT, leF, ltT, ltF, eqF, nleT, nleF, nltT, nltF]; rfl) ?_
        refine DW.ret ?_
        rw [resLine_eq]
        simp [Tryd.results19]
end Go.Proofs.YtciieaidbiejmaaDoor.DM
