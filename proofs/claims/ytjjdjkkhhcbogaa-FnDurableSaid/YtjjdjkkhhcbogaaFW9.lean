import Derived.Test.YtjjdjkkhhcbogaaFW8
namespace Go.Proofs.Ytjjdjkkhhcbogaa.DM
set_option linter.unusedVariables false
set_option linter.unusedSimpArgs false
set_option maxRecDepth 4000
set_option maxHeartbeats 8000000
theorem anyV_bd {c : Cur} (h : c.ok) : (anyV c).2.ok ∧ (anyV c).2.b = c.b ∧ (anyV c).1.Kept.size ≤ 81 ∧ (anyV c).1.Cells.length ≤ 13 := by
  obtain ⟨g1, g2, g3, g4⟩ := memV_bd h
  have h1 := belowC_ok g1 14
  have h2 := belowC_ok h1.1 5
  have hx : (⟨#[120]⟩ : ByteArray).size = 1 := rfl
  unfold anyV anyM
  split
  · refine ⟨h1.1, h1.2.trans g2, ?_, by show (memV c).1.Cells.length ≤ 13; omega⟩
    show ((memV c).1.Kept ++ ⟨#[120]⟩).size ≤ 81
    rw [ByteArray.size_append, hx]; omega
  · split
    · refine ⟨h2.1, h2.2.trans (h1.2.trans g2), by show (memV c).1.Kept.size ≤ 81; omega, ?_⟩
      show ((memV c).1.Cells ++ _).length ≤ 13
      rw [List.length_append]; simp; omega
    · split
      · exact ⟨h1.1, h1.2.trans g2, by show (memV c).1.Kept.size ≤ 81; omega, by simp⟩
      · exact ⟨h1.1, h1.2.trans g2, by show (memV c).1.Kept.size ≤ 81; omega, by show (memV c).1.Cells.length ≤ 13; omega⟩
theorem pick_mem (l : List Int) (c : Cur) (h : 0 < l.length) : pickV l c ∈ l := by
  have hb := belowV_bd c l.length
  have h2 := hb.2 (by omega)
  unfold pickV
  rw [List.getD_eq_getElem?_getD, List.getElem?_eq_getElem (show (belowV c l.length).toNat < l.length by omega)]
  exact List.getElem_mem _
def wordL : List Int := [8, 8, 8, 8, 7, 9]
@[simp] theorem wordL_len : wordL.length = 6 := rfl
def stM (code : List UInt8) : Memory := (anyV (newC code)).1
def stC (code : List UInt8) : Cur := (anyV (newC code)).2
def stA (code : List UInt8) : Int := placeV (stC code) 10
def stN (code : List UInt8) : Nat := (pickV wordL (placeC (stC code) 10)).toNat
def stW (code : List UInt8) : ByteArray := textB (belowC (placeC (stC code) 10) 6) (stN code)
theorem stN_eq (code : List UInt8) : pickV wordL (placeC (stC code) 10) = (stN code : Int) ∧ stN code ≤ 9 := by
  have h := pick_mem wordL (placeC (stC code) 10) (by simp [wordL])
  unfold stN
  simp only [wordL, List.mem_cons, List.not_mem_nil, or_false] at h ⊢
  omega

theorem drawStore_spec (code : List UInt8) (hc : code.length < 2 ^ 62) : Spec Try.prog 25 [ra code] [some 2, none, none] (dM (stM code) ++ [di (stA code), ds (stW code)]) [ra code] := by
  have hany := l10Any_spec (newC code) (newC_ok hc)
  obtain ⟨g1, g2, g3, g4⟩ := anyV_bd (newC_ok hc)
  obtain ⟨hN, hN9⟩ := stN_eq code
  have hW : stW code = textB (belowC (placeC (stC code) 10) 6) (stN code) := rfl
  have hA : stA code = placeV (stC code) 10 := rfl
  have hMe : (anyV (newC code)).1 = stM code := rfl
  have hCe : (anyV (newC code)).2 = stC code := rfl
  rw [hMe] at g3 g4 hany
  rw [hCe] at g1 hany
  generalize stC code = c1 at *
  have hc1 : c1.ok := g1
  have h2 := placeC_ok hc1 10
  obtain ⟨c2, hc2e⟩ : ∃ c2, placeC c1 10 = c2 := ⟨_, rfl⟩
  rw [hc2e] at hN hW h2
  have hc2 : c2.ok := h2.1
  have hc3 := (belowC_ok hc2 6).1
  obtain ⟨c3, hc3e⟩ : ∃ c3, belowC c2 6 = c3 := ⟨_, rfl⟩
  rw [hc3e] at hc3 hW
  generalize stM code = m at *
  refine Spec.intro Try.func25 rfl rfl Try.ntmps25 rfl (by simp) ?_
  refine DW.seq ?_
  refine DW.reg (by simp (maxSteps := 200000) (disch := first | omega | (simp; done) | fail) [wrapI, leT, leF, ltT, ltF, eqF, nleT, nleF, nltT, nltF, mapV, pzR, inR]; rfl) ?_
  refine DW.seq ?_
  refine DW.regs ?_
  refine RegO.opN 1 (by simp (maxSteps := 200000) (disch := first | omega | (simp; done) | fail) [wrapI, leT, leF, ltT, ltF, eqF, nleT, nleF, nltT, nltF, mapV, pzR, inR]; rfl) ?_
  refine RegO.step rfl (OpStep.callB (az := [ra code]) rfl rfl (by decide) (by simp) (by simp [callArgs]; rfl) (l01New_spec code hc) (by simp [rosOk, roA_, toRC, mapO]) (by simp [widen, ownV, ownC])) ?_
  refine RegO.opN 1 (by simp (maxSteps := 200000) (disch := first | omega | (simp; done) | fail) [wrapI, leT, leF, ltT, ltF, eqF, nleT, nleF, nltT, nltF, mapV, pzR, inR]; rfl) ?_
  refine RegO.nil ?_
  refine DW.norm [(2, _), (5, _)] [(2, _), (8, _)] [] (by simp [mapV, pzR, inR]; exact ⟨rfl, rfl⟩) (by simp [mapV, pzR, inR]; exact ⟨rfl, rfl⟩) (by simp [mapV, pzR, inR]) (by rfl) ?_
  refine DW.seq ?_
  refine DW.regs ?_
  refine RegO.opN 1 (by simp [mapV, pzR, inR, rD_len_Cell]; rfl) ?_
  refine RegO.step rfl (OpStep.callP (io := 0) (id := 8) (off := 0) (p := []) (sz := 3) (n := 1) (cs0 := curD (newC code)) rfl (by simp [callArgs]; rfl) (hany) (by simp) rfl rfl (by simp) rfl (by simp) (by simp) (by simp) (by simp [callArgs, FS.lend]; rfl) (by simp [rosOk, roA_, toRC, mapO]) (by simp [widen, ownV, ownC]) (by simp [finish, packDV, packD, ptBack]; rfl)) ?_
  refine RegO.opN 2 (by simp [mapV, pzR, inR, rD_len_Cell]; rfl) ?_
  refine RegO.nil ?_
  refine DW.norm [(2, _), (5, _), (6, _)] [(2, _), (6, _), (8, _)] [] (by simp [mapV, pzR, inR]; exact ⟨rfl, rfl, rfl⟩) (by simp [mapV, pzR, inR]; exact ⟨rfl, rfl, rfl⟩) (by simp [mapV, pzR, inR]) (by rfl) ?_
  refine DW.seq ?_
  refine DW.drawnP [0, 3, 4, 5, 1, 2, 6, 7, 8, 9, 10] (fun j => if j = 2 then [0, 3, 4, 5] else if j = 6 then [0, 3] else if j = 7 then [0] else []) (fun j => if j = 2 then [11, 14, 15, 16] else if j = 6 then [11, 14] else if j = 7 then [11] else []) (fun _ => mapV (pzR 8 [] 0 3)) mixed (by kernel_rfl) (by decide) ?_
  refine RegP.add (by rfl) (by simp; rfl) (by intro j; by_cases h : j = 2 <;> by_cases h6 : j = 6 <;> by_cases h7 : j = 7 <;> simp [h, h6, h7]) ?_
  refine RegP.cert (by rfl) (Cert.mv rfl rfl rfl (by decide)) (by intro j; by_cases h : j = 2 <;> by_cases h6 : j = 6 <;> by_cases h7 : j = 7 <;> simp [h, h6, h7]) ?_
  refine RegP.cert (by rfl) (Cert.mv rfl rfl rfl (by decide)) (by intro j; by_cases h : j = 2 <;> by_cases h6 : j = 6 <;> by_cases h7 : j = 7 <;> simp [h, h6, h7]) ?_
  refine RegP.cert (by rfl) (Cert.buildRo (rcs := [.sc (.int .i64 8), .sc (.int .i64 8), .sc (.int .i64 8), .sc (.int .i64 8), .sc (.int .i64 7), .sc (.int .i64 9)]) rfl rfl rfl (by decide) (by simp; exact ⟨rfl, rfl⟩) (by simp; rfl) (by simp; rfl) (by rfl) (by decide) (by decide) (by simp; rfl) (by simp; rfl) (by rfl) (by simp)) (by intro j; by_cases h : j = 2 <;> by_cases h6 : j = 6 <;> by_cases h7 : j = 7 <;> simp [h, h6, h7]) ?_
  refine RegP.cert (by rfl) (Cert.mv rfl rfl rfl (by decide)) (by intro j; by_cases h : j = 2 <;> by_cases h6 : j = 6 <;> by_cases h7 : j = 7 <;> simp [h, h6, h7]) ?_
  refine RegP.ptr (id := 8) (cs := curD c1) (by rfl) (l01Place_spec c1 hc1 10 (by omega)) rfl rfl rfl (by decide) (fun e' h' g' he => by have h12 := he 12 (by simp); simp at h12; simp [callArgs, h12]; rfl) (fun e' h' g' he => by have h12 := he 12 (by simp); simp at h12; simp [callArgs, FS.lend, h12]; rfl) (by intro s'; simp [rosOk, roA_, toRC, mapO]) (by simp [widen, ownV, ownC]) (by simp) rfl (by simp) (by simp) (by simp) (by simp) (by simp [mapV, pzR, inR]) (by simp) (by
    intro k hk d L R hp
    simp at hk
    rcases hk with rfl | rfl | rfl | rfl
    all_goals (simp [planOf] at hp; obtain ⟨rfl, rfl, rfl⟩ := hp; simp [mapV, pzR, inR])
  ) ?_
  refine RegP.pick [2, 5, 6, 11, 13, 14] 8 16 c2 hc2 wordL (by simp [wordL]) (by simp [wordL]) (by rfl) rfl rfl rfl (by decide) (fun e' h' g' he => by have h15 := he 15 (by simp); have h16 := he 16 (by simp); simp [mapV, pzR, inR] at h15 h16; simp [callArgs, h15, h16, wordL]) (by decide) (by simp [mapV, pzR, inR, hc2e]) (by simp [mapV, pzR, inR, wordL]) (by simp) (by simp) (by simp) (by simp) (by simp [mapV, pzR, inR]) rfl (by simp [mapV, pzR, inR]) (by simp) (by
    intro k hk d L R hp
    simp at hk
    rcases hk with rfl | rfl
    all_goals (simp [planOf] at hp; obtain ⟨rfl, rfl, rfl⟩ := hp; simp [mapV, pzR, inR])
    ) ?_
  refine RegP.ptr (id := 8) (cs := curD c3) (by rfl) (l01Text_spec c3 hc3 (stN code) (by omega)) rfl rfl rfl (by decide) (fun e' h' g' he => by have h14 := he 14 (by simp); have h17 := he 17 (by simp); simp [mapV, pzR, inR, hN, hc3e] at h14 h17; simp [callArgs, h14, h17]; rfl) (fun e' h' g' he => by have h14 := he 14 (by simp); have h17 := he 17 (by simp); simp [mapV, pzR, inR, hN, hc3e] at h14 h17; simp [callArgs, FS.lend, h14, h17]; rfl) (by intro s'; simp [rosOk, roA_, toRC, mapO]) (by simp [widen, ownV, ownC]) (by simp [mapV, pzR, inR, hN, hc3e]) rfl (by simp) (by simp) (by simp) (by simp) (by simp [mapV, pzR, inR]) (by simp) (by
    intro k hk d L R hp
    simp at hk
    subst hk
    all_goals (simp [planOf, mapV, pzR, inR, hN, hc3e] at hp; obtain ⟨rfl, rfl, rfl⟩ := hp; simp [mapV, pzR, inR, mapV, pzR, inR, hN, hc3e])
  ) ?_
  refine RegP.heavyF (by rfl) (by simp) (by simp [mapV, pzR, inR, rD_len_Cell]; rfl) (by simp) ?_
  refine RegP.add (by rfl) (by simp [mapV, pzR, inR]; rfl) (by intro j; by_cases h : j = 2 <;> by_cases h6 : j = 6 <;> by_cases h7 : j = 7 <;> simp [h, h6, h7]) ?_
  refine RegP.add (by rfl) (by simp [mapV, pzR, inR]; rfl) (by intro j; by_cases h : j = 2 <;> by_cases h6 : j = 6 <;> by_cases h7 : j = 7 <;> simp [h, h6, h7]) ?_
  refine ⟨by kernel_rfl, ?_⟩
  refine DW.ret ?_
  simp [Try.results25, mapV, pzR, inR, rD_len_Cell, ← hA, ← hW]
end Go.Proofs.Ytjjdjkkhhcbogaa.DM
