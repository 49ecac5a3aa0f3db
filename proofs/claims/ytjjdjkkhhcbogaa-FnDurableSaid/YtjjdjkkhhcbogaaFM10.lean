import Derived.Test.YtjjdjkkhhcbogaaFM9
namespace Go.Proofs.Ytjjdjkkhhcbogaa.DM
set_option linter.unusedVariables false
set_option linter.unusedSimpArgs false
set_option maxRecDepth 4000
set_option maxHeartbeats 8000000
theorem store_spec (k : ByteArray) (l : List Cell) (n : Nat) (w : ByteArray) (hok : memOk k l = true) (hw : w.size = 8) (hn : n < k.size / 8) (hk : k.size < 2 ^ 40) (hl : l.length < 2 ^ 40) : Spec Try.prog 82 [.ptr (dMem k l), ri n, rs w] [] [] [.ptr (dMem k (layC l (putAtI k l n w))), ri n, rs w] := by
  refine Spec.intro Try.func82 rfl rfl Try.ntmps82 rfl (by simp) ?_
  obtain ⟨hm16, hsz, _⟩ := memOk_all hok
  obtain ⟨q, hq⟩ : ∃ q : Nat, q = n / 2 := ⟨_, rfl⟩
  obtain ⟨m, hm⟩ : ∃ m : Nat, m = n % 2 := ⟨_, rfl⟩
  obtain ⟨r, hr⟩ : ∃ r : Nat, r = m * 8 := ⟨_, rfl⟩
  obtain ⟨r2, hr2⟩ : ∃ r2 : Nat, r2 = r + 8 := ⟨_, rfl⟩
  have hls := lineAt_size hok (q : Int) (by omega) (by omega)
  have w1 : IntKind.i64.wrap ((n : Int) / 2) = (q : Int) := (wr _ (by omega) (by omega)).trans (by omega)
  have w2 : (n : Int).tmod 2 = (m : Int) := by rw [Int.tmod_eq_emod_of_nonneg (by omega)]; omega
  have w3 : IntKind.i64.wrap ((m : Int) * 8) = (r : Int) := (wr _ (by omega) (by omega)).trans (by omega)
  have w4 : IntKind.i64.wrap ((r : Int) + 8) = (r2 : Int) := (wr _ (by omega) (by omega)).trans (by omega)
  have c1 : r ≤ 16 := by omega
  have c2 : r2 ≤ 16 := by omega
  have c3 : (r : Int) ≤ 16 := by omega
  have c4 : (r2 : Int) ≤ 16 := by omega
  have c5 : ¬ 9223372036854775807 < (r : Int) + 8 := by omega
  have c6 : ¬ 9223372036854775807 < (r : Int) + 8 + ((16 - r2 : Nat) : Int) := by omega
  have hT0 : putAtI k l n w = ⟨(q : Int), (lineAt k l q).extract 0 r ++ w ++ (lineAt k l q).extract r2 16, false⟩ := by simp only [putAtI, ← hq, ← hm, ← hr, wordIn, ← hr2, hls]
  rw [hT0]
  refine DW.seq ?_
  refine DW.reg (by simp [w1, w2, w3, w4]; rfl) ?_
  refine DW.seq ?_
  refine DW.regs ?_
  refine RegO.opN 4 (by simp [w1, w2, w3, w4]; rfl) ?_
  refine RegO.step rfl (OpStep.callA rfl (by simp [w1, w2, w3, w4]; exact ⟨rfl, rfl⟩) (by simp [w1, w2, w3, w4]; rfl) (by exact line_spec _ _ _ hl (by omega) (by omega) hk) (by simp) (by simp [w1, w2, w3, w4]; rfl)) ?_
  refine RegO.opN 1 (by simp [w1, w2, w3, w4]; rfl) ?_
  refine RegO.nil ?_
  refine DW.seq ?_
  refine DW.reg (by simp [w1, w2, w3, w4]; rfl) ?_
  refine DW.seq ?_
  refine DW.drawn mixed (by kernel_rfl) ?_
  refine RegD.addN 12 (by simp [w1, w2, w3, w4, c1, c2, c3, c4, c5, c6, hls, hw]; first | exact ⟨rfl, rfl⟩ | rfl) ?_
  refine RegD.cert (Cert.alloc rfl rfl rfl (by decide) (by simp; rfl) (by rfl) (by decide) (by simp)) ?_
  refine RegD.heavyF (by simp) (by simp [w1, w2, w3, w4, c1, c2, c3, c4, c5, c6, hls, hw]; rfl) ?_
  refine RegD.nil ⟨by kernel_rfl, ?_⟩
  generalize (lineAt k l q).extract 0 r ++ w ++ (lineAt k l q).extract r2 16 = T0 at *
  refine DW.seq ?_
  refine DW.regs ?_
  refine RegO.opN 4 (by simp [w1, w2, w3, w4]; rfl) ?_
  refine RegO.step rfl (OpStep.callA rfl (by simp [w1, w2, w3, w4]; exact ⟨rfl, rfl⟩) (by simp [w1, w2, w3, w4]; rfl) (by exact findCell_spec _ _ _ hl) (by simp) (by simp [w1, w2, w3, w4]; rfl)) ?_
  refine RegO.opN 5 (by simp [w1, w2, w3, w4]; rfl) ?_
  refine RegO.nil ?_
  refine DW.seq ?_
  refine DW.reg (by simp [w1, w2, w3, w4]; rfl) ?_
  refine DW.condB (by simp [w1, w2, w3, w4]; exact rfl) (fun hc0 => ?_) (fun hc0 => ?_)
  · have hh : hasL l q = true := by simpa using hc0
    have hi := hasL_lt hh
    have hml : (ixOf l q : Int) < l.length := by omega
    have hres : layC l ⟨(q : Int), T0, false⟩ = l.set (ixOf l q) ⟨(q : Int), T0, false⟩ := by simp [layC, hh]
    generalize ixOf l q = x at hi hml hres ⊢
    have ha0 := cD_at l x 0 hi (by omega)
    have hs0 := cD_set l x 0 hi (by omega) ⟨(q : Int), l[x].Text, l[x].Flushed⟩ (.sc (.int .i64 q)) rfl
    have hi1 : x < (l.set x ⟨(q : Int), l[x].Text, l[x].Flushed⟩).length := by rw [List.length_set]; exact hi
    have ha1 := cD_at _ x 1 hi1 (by omega)
    have hs1 := cD_set _ x 1 hi1 (by omega) ⟨(q : Int), T0, l[x].Flushed⟩ (.sc (.string T0)) (by simp)
    have hi2 : x < (l.set x ⟨(q : Int), T0, l[x].Flushed⟩).length := by rw [List.length_set]; exact hi
    have ha2 := cD_at _ x 2 hi2 (by omega)
    have hs2 := cD_set _ x 2 hi2 (by omega) ⟨(q : Int), T0, false⟩ (.sc (.bool false)) (by simp)
    rw [List.set_set] at hs1 hs2
    simp only [Cell.d, List.getElem?_cons_succ, List.getElem?_cons_zero, Nat.add_zero] at ha0 ha1 ha2 hs0
    refine DW.drawn mixed (by kernel_rfl) ?_
    refine RegD.addN 7 (by simp [w1, w2, w3, w4, hml, ha0, hs0, ha1, hs1, ha2, hs2]; first | exact ⟨rfl, rfl⟩ | rfl) ?_
    refine RegD.heavyF (by simp) (by simp [w1, w2, w3, w4, hml, ha0, hs0, ha1, hs1, ha2, hs2]; rfl) ?_
    refine RegD.nil ⟨by kernel_rfl, ?_⟩
    rw [hres]
    simp [Try.results82]
  · have hh : hasL l q = false := by simpa using hc0
    have hres : layC l ⟨(q : Int), T0, false⟩ = l.take (ixOf l q) ++ ⟨(q : Int), T0, false⟩ :: l.drop (ixOf l q) := by simp [layC, hh]
    have hix := ixOf_le l q
    by_cases hin : ixOf l q < l.length
    · have hrd := rD_ins l (ixOf l q) ⟨(q : Int), T0, false⟩ hix
      have hlen : (l.take (ixOf l q) ++ ⟨(q : Int), T0, false⟩ :: l.drop (ixOf l q)).length = l.length + 1 := by rw [List.length_append, List.length_cons, List.length_take, List.length_drop]; omega
      generalize l.take (ixOf l q) ++ ⟨(q : Int), T0, false⟩ :: l.drop (ixOf l q) = L at hres hrd hlen
      simp only [Cell.d, List.cons_append, List.nil_append] at hrd
      have hrd := hrd.symm
      have hLl : (rD L).length = (l.length + 1) * 3 := by rw [rD_len_Cell, hlen]
      have hTk : List.take ((l.length + 1) * 3) (rD L) = rD L := List.take_of_length_le (by omega)
      rw [hres]
      refine DW.drawnC 8 0 mixed (by kernel_rfl) ?_
      refine RegC.addN 7 (by simp [w1, w2, w3, w4, hrd, hLl, hTk]; first | exact ⟨rfl, rfl⟩ | rfl) ?_
      refine RegC.cert (Cert.buildRo (rcs := [.sc (.int .i64 q), .sc (.string T0), .sc (.bool false)]) rfl rfl rfl (by decide) (by simp; exact ⟨rfl, rfl⟩) (by simp; rfl) (by simp; rfl) (by rfl) (by decide) (by decide) (by simp; rfl) (by simp; rfl) (by rfl) (by simp)) (by first | decide | simp) ?_
      refine RegC.swap (ok := _) (d := 50) (show _ = _ from by exact rfl) (by simp; exact ⟨rfl, rfl⟩) (by first | decide | simp) rfl (fun v0 => _) (fun v0 => OpStep.insert (cx := .sl 0 [1] 0 l.length) (idz := 57) (i := ixOf l q) (n := l.length) (cs := rD l) (zs := [.sc (.int .i64 q), .sc (.string T0), .sc (.bool false)]) rfl (by simp) (by simp [rD_len_Cell]; rfl) (by simp) rfl (by simp) hin (by omega) (by simp [finish, packDV, packD, hrd]; rfl)) (fun v0 => cert_cast (by simp) (by simp) (by simp)) (fun v0 => by simp; funext i; by_cases hi : i = 50 <;> simp [upd, hi]) rfl ?_
      refine RegC.addN 2 (by simp [w1, w2, w3, w4, hrd, hLl, hTk]; first | exact ⟨rfl, rfl⟩ | rfl) ?_
      refine RegC.heavyF (by simp) (by simp [w1, w2, w3, w4, hrd, hLl, hTk]; rfl) (by first | decide | simp) ?_
      refine ⟨by kernel_rfl, ?_⟩
      simp [Try.results82, hlen, hTk, hLl]
    · have hend : ixOf l q = l.length := by omega
      rw [hend, List.take_length, List.drop_length] at hres
      have hT := take_snoc l ⟨(q : Int), T0, false⟩
      have hT2 : List.take ((l.length + 1) * 3) (rD l ++ rD [(⟨(q : Int), T0, false⟩ : Cell)]) = rD l ++ rD [(⟨(q : Int), T0, false⟩ : Cell)] := hT
      dsimp only at hT
      have hb3 : (l.length + 1) * 3 ≤ l.length * 3 + 3 := by omega
      refine DW.drawnC 8 0 mixed (by kernel_rfl) ?_
      refine RegC.addN 7 (by simp [w1, w2, w3, w4, hend, hT, hb3, hT2]; first | exact ⟨rfl, rfl⟩ | rfl) ?_
      refine RegC.cert (Cert.buildRo (rcs := [.sc (.int .i64 q), .sc (.string T0), .sc (.bool false)]) rfl rfl rfl (by decide) (by simp; exact ⟨rfl, rfl⟩) (by simp; rfl) (by simp; rfl) (by rfl) (by decide) (by decide) (by simp; rfl) (by simp; rfl) (by rfl) (by simp)) (by first | decide | simp) ?_
      refine RegC.swap (ok := _) (d := 50) (show _ = _ from by exact rfl) (by simp; exact ⟨rfl, rfl⟩) (by first | decide | simp) rfl (fun v0 => _) (fun v0 => OpStep.callG (io := 0) rfl (by simp; rfl) (insEnd_spec l ⟨(q : Int), T0, false⟩ hl) rfl rfl rfl (by simp [giveG, rD_len_Cell]; rfl) (by simp; rfl) (by simp [rosOk, roA_, toRC, mapO]) (by simp [noRoL, noRo]) (by simp [finish, packDV, packD]; rfl)) (fun v0 => cert_cast (by simp) (by simp) (by simp)) (fun v0 => by simp; funext i; by_cases hi : i = 50 <;> simp [upd, hi]) rfl ?_
      refine RegC.addN 2 (by simp [w1, w2, w3, w4, hend, hT, hb3, hT2]; first | exact ⟨rfl, rfl⟩ | rfl) ?_
      refine RegC.heavyF (by simp) (by simp [w1, w2, w3, w4, hend, hT, hb3, hT2]; rfl) (by first | decide | simp) ?_
      refine ⟨by kernel_rfl, ?_⟩
      rw [hres]
      simp [Try.results82, hT2, rD_append] <;> rfl
end Go.Proofs.Ytjjdjkkhhcbogaa.DM
