import Derived.Test.YtciieaidbiejmaaFQ3
import Derived.Test.YtciieaidbiejmaaX56
namespace Go.Proofs.Ytciieaidbiejmaa.DM
set_option linter.unusedVariables false
set_option linter.unusedSimpArgs false
set_option maxRecDepth 4000
set_option maxHeartbeats 8000000
theorem l16View_ex (c : Cur) (kc : c.ok) (g : Geo) (hz : Fits g []) : ∃ dz az, (∃ (l : List Item) (c1 : Cur), dz = dV l ∧ az = [.ptr (curD c1), raGeo g] ∧ c1.ok ∧ l.length ≤ 12 ∧ Fits g l ∧ Short 720 l) ∧ Spec Try.prog 15 [.ptr (curD c), raGeo g] [some 1] dz az := by
  refine Spec.introX Try.func15 rfl rfl Try.ntmps15 rfl (by simp) ?_
  refine DX.seq ?_
  refine DX.reg (by simp (maxSteps := 200000) (disch := first | omega | (simp; done) | fail) [wrapI, leT, leF, ltT, ltF, eqF, nleT, nleF, nltT, nltF, mapV, pzR, inR]; rfl) ?_
  refine DX.seq ?_
  refine DX.reg (by simp [mapV, pzR, inR]; rfl) ?_
  refine DX.ghost (Ghost.wide 5 [0] 3 (by simp; rfl) (by simp)) ?_
  refine DX.norm [(0, _), (3, _), (4, _), (5, _)] [(0, _), (3, _), (4, _), (5, _)] [(0, _)] (by simp [mapV, pzR, inR]; exact ⟨rfl, rfl, rfl, rfl⟩) (by simp [mapV, pzR, inR]; exact ⟨rfl, rfl, rfl, rfl⟩) (by simp [mapV, pzR, inR]; rfl) (by rfl) ?_
  refine DX.seq ?_
  refine DX.seq ?_
  refine DX.reg (by simp (maxSteps := 200000) (disch := first | omega | (simp; done) | fail) [wrapI, leT, leF, ltT, ltF, eqF, nleT, nleF, nltT, nltF, mapV, pzR, inR]; rfl) ?_
  refine DX.block ?_
  refine DX.loopS (α := Nat × List Item × Cur) (fun a => a.1 ≤ 12 ∧ a.2.2.ok ∧ a.2.1.length ≤ a.1 ∧ Fits g a.2.1 ∧ Short (60 * a.1) a.2.1) (fun a => 12 - a.1) (fun a => [(6, vi a.1)]) (fun a => [(5, .ow () 1 1 (dV a.2.1)), (0, .ow () 3 1 (curD a.2.2))]) [(0, _), (3, _), (4, _), (5, _)] [(3, _), (4, _)] [(0, .pt 0 [] 0)] (0, [], c) (⟨by omega, kc, by simp, hz, fun x hx => by cases hx⟩) (by simp; exact ⟨rfl, rfl, rfl, rfl⟩) (by simp [mapV, pzR, inR]; exact ⟨rfl, rfl⟩) (by simp) (by rfl) ?_
  rintro ⟨i, l, d⟩ ⟨hi, hd, hll, hfi, hsh⟩
  simp only at hi hd hll hfi hsh ⊢
  obtain ⟨c1, c1e⟩ : ∃ c1, belowC d 12 = c1 := ⟨_, rfl⟩
  have kc1 : c1.ok := c1e ▸ (belowC_ok hd 12).1
  have hTl0 := rD_take_Item l
  have hLl0 := rD_len_Item l
  refine DX.seq ?_
  refine DX.seq ?_
  refine DX.regs ?_
  refine RegOX.opN 2 (by simp (maxSteps := 200000) (disch := first | omega | (simp; done) | fail) [wrapI, leT, leF, ltT, ltF, eqF, nleT, nleF, nltT, nltF, mapV, pzR, inR, c1e]; rfl) ?_
  refine RegOX.step rfl (OpStep.callP (io := 0) (id := 0) (off := 0) (p := []) (sz := 3) (n := 1) (cs0 := curD d) rfl (by simp [callArgs]; rfl) (l01Below_spec d hd 12) (by simp) rfl rfl (by simp) rfl (by simp) (by simp) (by simp) (by simp [callArgs, FS.lend]; rfl) (by simp [rosOk, roA_, toRC, mapO]) (by simp [widen, ownV, ownC]) (by simp [finish, packDV, packD, ptBack]; rfl)) ?_
  refine RegOX.opN 1 (by simp (maxSteps := 200000) (disch := first | omega | (simp; done) | fail) [wrapI, leT, leF, ltT, ltF, eqF, nleT, nleF, nltT, nltF, mapV, pzR, inR, c1e]; rfl) ?_
  refine RegOX.nil ?_
  refine DX.norm [(0, _), (3, _), (4, _), (5, _), (6, _), (11, _)] [(0, _), (3, _), (4, _), (5, _)] [(0, _)] (by simp [mapV, pzR, inR, c1e]; exact ⟨rfl, rfl, rfl, rfl, rfl, rfl⟩) (by simp [mapV, pzR, inR, c1e]; exact ⟨rfl, rfl, rfl, rfl⟩) (by simp [mapV, pzR, inR, c1e]; rfl) (by rfl) ?_
  refine DX.condB (by simp (maxSteps := 200000) (disch := first | omega | (simp; done) | fail) [wrapI, leT, leF, ltT, ltF, eqF, nleT, nleF, nltT, nltF, mapV, pzR, inR, c1e]; exact rfl) (fun hc0 => ?_) (fun hc0 => ?_)
  · have hlt : (i : Int) < belowV d 12 := by simpa using hc0
    have hb := (belowV_bd d 12).2 (by omega)
    have hw := wr ((i : Int) + 1) (by omega) (by omega)
    obtain ⟨dz0, az0, ⟨a, c2, rfl, rfl, kc2, ga⟩, hL⟩ := l17Ask_ex c1 kc1
    have hsm : Small l := ⟨by omega, fun x hx => ⟨by have := (hsh x hx).1; omega, by have := (hsh x hx).2; omega⟩⟩
    have hA := asked_spec g l a hsm (by have := ga.2.2; omega) (by have := ga.2.1; omega)
    have hf2 := hfi.asked a
    have hs2 := hsh.asked (g := g) a
    have hl2 := asked_len g l a
    obtain ⟨l2, r2, hlr⟩ : ∃ x y, askedM g l a = (x, y) := ⟨_, _, rfl⟩
    rw [hlr] at hA hf2 hs2 hl2
    simp only at hA hf2 hs2 hl2
    obtain ⟨r1, r2, r3, r4, r5⟩ := r2
    have hT0 := rD_take_Item l2
    have hL0 := rD_len_Item l2
    have z3 := rD_take1_ByteArray r5
    have z4 := rD_len_ByteArray r5
    refine DX.skip ?_
    refine DX.seq ?_
    refine DX.block ?_
    apply DX.drawnG (fun j => if j = 3 then [0, 1] else if j = 8 then [7] else []) (fun j => if j = 3 then [15, 16] else [21]) (fun j => if j = 3 then mapV (pzR 0 [] 0 3) else fun v => pzV 5 [0] (pzV 19 [0] v)) (by intro i j j' h h'; by_cases e : j = 3 <;> by_cases e' : j' = 3 <;> by_cases f : j = 8 <;> by_cases f' : j' = 8 <;> simp [e, e', f, f'] at h h' ⊢ <;> omega) (by intro j v; by_cases e : j = 3 <;> simp only [e, if_true, if_false] <;> first | exact mapR_idem _ _ _ _ _ | exact pzV_idem _ _ _ _ v) mixed (by kernel_rfl)
    · refine RegG.add (by simp [mapV, pzR, inR, hT0, hL0]; rfl) (by intro j hj; by_cases h : j = 3 <;> by_cases h8 : j = 8 <;> simp [h, h8, mapV, pzR, inR] at hj ⊢) ?_
      refine RegG.add (by simp [mapV, pzR, inR, hT0, hL0]; rfl) (by intro j hj; by_cases h : j = 3 <;> by_cases h8 : j = 8 <;> simp [h, h8, mapV, pzR, inR] at hj ⊢) ?_
      refine RegG.cert (Cert.mv rfl rfl rfl (by decide)) (by intro j; by_cases h : j = 3 <;> by_cases h8 : j = 8 <;> simp [h, h8]) ?_
      refine RegG.ptr (id := 0) (cs := curD c1) hL rfl rfl rfl (fun e' he => by have h17 := he 17 (by simp); simp at h17; simp [callArgs, h17]; rfl) (fun e' he => by have h17 := he 17 (by simp); simp at h17; simp [callArgs, FS.lend, h17]; rfl) (by intro s'; simp [rosOk, roA_, toRC, mapO]) (by simp [widen, ownV, ownC]) (by simp) rfl (by simp) (by simp) (fun e' => by simp [finish, packDV, packD, ptBack]; rfl) rfl (by simp [mapV, pzR, inR]) (by simp) (by
        intro k hk d L R hp
        simp at hk
        rcases hk with rfl | rfl
        all_goals (simp at hp; obtain ⟨rfl, rfl, rfl⟩ := hp; simp [mapV, pzR, inR])
      ) ?_
      refine RegG.cert (Cert.callHA rfl (by simp) rfl (by decide) (by simp [mapV, pzR, inR, hT0, hL0]; exact ⟨rfl, rfl⟩) (by simp [mapV, pzR, inR, hT0, hL0]; rfl) (by exact hA) rfl (by simp) (by simp) (by simp; rfl) rfl) (by intro j; by_cases h : j = 3 <;> by_cases h8 : j = 8 <;> simp [h, h8]) ?_
      refine RegG.cert (cert_of_addF (by simp [mapV, pzR, inR, hT0, hL0]; rfl)) (by intro j; by_cases h : j = 3 <;> by_cases h8 : j = 8 <;> simp [h, h8]) ?_
      refine RegG.cert (cert_of_addF (by simp [mapV, pzR, inR, hT0, hL0]; rfl)) (by intro j; by_cases h : j = 3 <;> by_cases h8 : j = 8 <;> simp [h, h8]) ?_
      refine RegG.extract rfl rfl rfl (by decide) (by simp) (by simp; rfl) (by first | (simp; done) | (simp; rfl)) (by intro j hj; by_cases h : j = 3 <;> by_cases h8 : j = 8 <;> simp [h, h8] at hj ⊢) ?_
      refine RegG.swapS [5, 20] rfl (fun e' he => by
        have h5 := he 5 (by simp)
        have h20 := he 20 (by simp)
        simp [mapV, pzR, inR, hT0, hL0] at h5 h20
        simp [h5, h20, hT0, hL0]; exact ⟨rfl, rfl⟩) (by simp) (by simp) (by simp) (by
        intro k hk d L R hp
        simp at hk
        subst hk
        all_goals (simp at hp; obtain ⟨rfl, rfl, rfl⟩ := hp; simp)
      ) ?_
      exact ⟨by kernel_rfl, rfl, rfl⟩
    refine DX.norm [(0, _), (3, _), (4, _), (5, _), (6, _)] [(0, _), (3, _), (4, _), (5, _)] [(0, _)] (by simp [mapV, pzR, inR, hT0, hL0, hT0, hL0]; exact ⟨rfl, rfl, rfl, rfl, rfl⟩) (by simp [mapV, pzR, inR, hT0, hL0, hT0, hL0]; exact ⟨rfl, rfl, rfl, rfl⟩) (by simp [mapV, pzR, inR, hT0, hL0, hT0, hL0]; rfl) (by rfl) ?_
    refine DX.reg (by simp (maxSteps := 200000) (disch := first | omega | (simp; done) | fail) [wrapI, leT, leF, ltT, ltF, eqF, nleT, nleF, nltT, nltF, mapV, pzR, inR, hT0, hL0, hw]; rfl) ?_
    exact ⟨(i + 1, l2, c2), ⟨by simp only; omega, kc2, by simp only; omega, hf2, by simpa [Nat.mul_succ] using hs2⟩, by simp only; omega, by simp [mapV, pzR, inR, hw], by simp [mapV, pzR, inR, hT0, hL0], by simp [mapV, pzR, inR], by rfl⟩
  · skip
    refine DX.exit ?_
    refine DX.seq ?_
    refine DX.reg (by simp [mapV, pzR, inR]; rfl) ?_
    refine DX.ret ?_
    refine ⟨_, _, ⟨l, c1, rfl, rfl, kc1, by omega, hfi, fun x hx => ⟨by have := (hsh x hx).1; omega, (hsh x hx).2⟩⟩, ?_⟩
    simp [Try.results15, mapV, pzR, inR]
end Go.Proofs.Ytciieaidbiejmaa.DM
