import Derived.Test.YtciieaidbiejmaaFQ7
import Derived.Test.YtciieaidbiejmaaFQ6
namespace Go.Proofs.Ytciieaidbiejmaa.DM
set_option linter.unusedVariables false
set_option linter.unusedSimpArgs false
set_option maxRecDepth 4000
set_option maxHeartbeats 8000000
theorem big_spec (code : List UInt8) : Spec Try.prog 4 [ra code] [none] [db (decide ((1048576 : Int) < code.length))] [ra code] := by
  refine Spec.intro Try.func4 rfl rfl Try.ntmps4 rfl (by simp) ?_
  refine DW.seq ?_
  refine DW.reg (by simp (maxSteps := 200000) (disch := first | omega | (simp; done) | fail) [wrapI, leT, leF, ltT, ltF, eqF, nleT, nleF, nltT, nltF]; rfl) ?_
  refine DW.seq ?_
  refine DW.reg (by simp (maxSteps := 200000) (disch := first | omega | (simp; done) | fail) [wrapI, leT, leF, ltT, ltF, eqF, nleT, nleF, nltT, nltF]; rfl) ?_
  refine DW.ret ?_
  simp [Try.results4]
theorem rD_getD (l : List Item) (i : Nat) (h : i < l.length) : (rD l)[i * 3 + 1]? = some (T.sc (.bool l[i].Dir)) := by have := congrArg (·[1]?) (rD_drop_Item l i h); simpa using this
theorem rD_getT (l : List Item) (i : Nat) (h : i < l.length) : (rD l)[i * 3 + 2]? = some (T.sc (.string l[i].Text)) := by have := congrArg (·[2]?) (rD_drop_Item l i h); simpa using this
theorem two_get {α : Type} {l : List α} {i : Nat} {x : α} (h : l[i]? = some x) : ∀ hi : i < l.length, l[i]'hi = x := fun hi => by rw [List.getElem?_eq_getElem hi] at h; exact Option.some.inj h
theorem brought_in {n m : Int} (h0 : 0 ≤ n) (h1 : n ≤ m) : brought n 0 m = n := by
  unfold brought
  rw [if_neg (by omega), if_neg (by omega), if_neg (by omega)]
theorem FnQuota_spec (code : List UInt8) (hc : code.length < 2 ^ 62) : Spec Try.prog 3 [ra code] [none] [db true] [ra code] := by
  refine Spec.intro Try.func3 rfl rfl Try.ntmps3 rfl (by simp) ?_
  obtain ⟨dz0, az0, ⟨g, l, a, rfl, rfl, hg, hl12, hf, hsh, ga⟩, hdraw⟩ := drawAsked_ex code hc
  have hsm : Small l := ⟨by omega, fun x hx => ⟨by have := (hsh x hx).1; omega, by have := (hsh x hx).2; omega⟩⟩
  obtain ⟨ga1, ga2, ga3⟩ := ga
  have hat : a.Text.size ≤ 2 ^ 40 := by omega
  have hA := asked_spec g l ⟨7, a.Path, a.To, a.Off, a.Len, a.Text⟩ hsm (by simp only; omega) (by simp only; omega)
  obtain ⟨l2, r2, hlr⟩ : ∃ x y, askedM g l ⟨7, a.Path, a.To, a.Off, a.Len, a.Text⟩ = (x, y) := ⟨_, _, rfl⟩
  rw [hlr] at hA
  simp only at hA
  obtain ⟨r1, r2, r3, r4, r5⟩ := r2
  have hT2 := rD_take_Item l2
  have hL2 := rD_len_Item l2
  have z3 := rD_take1_ByteArray r5
  have z4 := rD_len_ByteArray r5
  have hT0 := rD_take_Item l
  have hL0 := rD_len_Item l
  have hit := itemAt_spec l a.Path (by omega)
  obtain ⟨q1, q2, q3, q4, q5, q6, q7, q8⟩ := id hg
  obtain ⟨f1, f2⟩ := id hf
  have wQ : IntKind.i64.wrap g.Quota = g.Quota := wr _ (by omega) (by omega)
  have wI : IntKind.i64.wrap (g.Inodes - 1) = g.Inodes - 1 := wr _ (by omega) (by omega)
  refine DW.seq ?_
  refine DW.reg (by simp (maxSteps := 200000) (disch := first | omega | (simp; done) | fail) [wrapI, leT, leF, ltT, ltF, eqF, nleT, nleF, nltT, nltF, hT0, hL0, wQ, wI]; rfl) ?_
  refine DW.seq ?_
  refine DW.seq ?_
  refine DW.regs ?_
  refine RegO.opN 1 (by simp (maxSteps := 200000) (disch := first | omega | (simp; done) | fail) [wrapI, leT, leF, ltT, ltF, eqF, nleT, nleF, nltT, nltF, hT0, hL0, wQ, wI]; rfl) ?_
  refine RegO.step rfl (OpStep.callA rfl (by simp (maxSteps := 200000) (disch := first | omega | (simp; done) | fail) [wrapI, leT, leF, ltT, ltF, eqF, nleT, nleF, nltT, nltF, hT0, hL0, wQ, wI]; exact ⟨rfl, rfl⟩) (by simp (maxSteps := 200000) (disch := first | omega | (simp; done) | fail) [wrapI, leT, leF, ltT, ltF, eqF, nleT, nleF, nltT, nltF, hT0, hL0, wQ, wI]; rfl) (by exact big_spec code) (by simp) (by simp (maxSteps := 200000) (disch := first | omega | (simp; done) | fail) [wrapI, leT, leF, ltT, ltF, eqF, nleT, nleF, nltT, nltF, hT0, hL0, wQ, wI]; rfl)) ?_
  refine RegO.nil ?_
  refine DW.condB (by simp (maxSteps := 200000) (disch := first | omega | (simp; done) | fail) [wrapI, leT, leF, ltT, ltF, eqF, nleT, nleF, nltT, nltF, hT0, hL0, wQ, wI]; exact rfl) (fun hc0 => ?_) (fun hc0 => ?_)
  · skip
    refine DW.seq ?_
    refine DW.reg (by simp (maxSteps := 200000) (disch := first | omega | (simp; done) | fail) [wrapI, leT, leF, ltT, ltF, eqF, nleT, nleF, nltT, nltF, hT0, hL0, wQ, wI]; rfl) ?_
    refine DW.ret ?_
    simp [Try.results3]
  · skip
    refine DW.skip ?_
    refine DW.seq ?_
    refine DW.regs ?_
    refine RegO.opN 1 (by simp [hT0, hL0, wQ, wI, hT0, hL0]; rfl) ?_
    refine RegO.step rfl (OpStep.callA rfl (by simp [hT0, hL0, wQ, wI, hT0, hL0]; exact ⟨rfl, rfl⟩) (by simp [hT0, hL0, wQ, wI, hT0, hL0]; rfl) (by exact hdraw) (by simp) (by simp [hT0, hL0, wQ, wI, hT0, hL0]; rfl)) ?_
    refine RegO.opN 10 (by simp [hT0, hL0, wQ, wI, hT0, hL0]; rfl) ?_
    refine RegO.nil ?_
    refine DW.norm [(3, _), (4, _), (5, _)] [(3, _), (4, _), (5, _)] [] (by simp [hT0, hL0, wQ, wI]; exact ⟨rfl, rfl, rfl⟩) (by simp [hT0, hL0, wQ, wI]; exact ⟨rfl, rfl, rfl⟩) (by simp [hT0, hL0, wQ, wI]) (by rfl) ?_
    refine DW.seq ?_
    refine DW.reg (by simp [hT0, hL0, wQ, wI]; rfl) ?_
    refine DW.norm [(3, _), (4, _), (5, _)] [(3, _), (4, _), (5, _)] [] (by simp [hT0, hL0, wQ, wI]; exact ⟨rfl, rfl, rfl⟩) (by simp [hT0, hL0, wQ, wI]; exact ⟨rfl, rfl, rfl⟩) (by simp [hT0, hL0, wQ, wI]) (by rfl) ?_
    refine DW.seq ?_
    refine DW.regs ?_
    refine RegO.opN 3 (by simp [hT0, hL0, wQ, wI, hT2, hL2, z3, z4]; rfl) ?_
    refine RegO.step rfl (OpStep.callA rfl (by simp [hT0, hL0, wQ, wI, hT2, hL2, z3, z4]; exact ⟨rfl, rfl⟩) (by simp [hT0, hL0, wQ, wI, hT2, hL2, z3, z4]; rfl) (by exact hA) (by simp) (by simp [hT0, hL0, wQ, wI, hT2, hL2, z3, z4]; rfl)) ?_
    refine RegO.opN 7 (by simp [hT0, hL0, wQ, wI, hT2, hL2, z3, z4]; rfl) ?_
    refine RegO.nil ?_
    refine DW.norm [(3, _), (4, _), (5, _), (7, _)] [(3, _), (4, _), (5, _), (7, _)] [] (by simp [hT0, hL0, wQ, wI]; exact ⟨rfl, rfl, rfl, rfl⟩) (by simp [hT0, hL0, wQ, wI]; exact ⟨rfl, rfl, rfl, rfl⟩) (by simp [hT0, hL0, wQ, wI]) (by rfl) ?_
    refine DW.seq ?_
    refine DW.regs ?_
    refine RegO.opN 3 (by simp (maxSteps := 200000) (disch := first | omega | (simp; done) | fail) [wrapI, leT, leF, ltT, ltF, eqF, nleT, nleF, nltT, nltF, hT0, hL0, wQ, wI]; rfl) ?_
    refine RegO.step rfl (OpStep.callA rfl (by simp (maxSteps := 200000) (disch := first | omega | (simp; done) | fail) [wrapI, leT, leF, ltT, ltF, eqF, nleT, nleF, nltT, nltF, hT0, hL0, wQ, wI]; exact ⟨rfl, rfl⟩) (by simp (maxSteps := 200000) (disch := first | omega | (simp; done) | fail) [wrapI, leT, leF, ltT, ltF, eqF, nleT, nleF, nltT, nltF, hT0, hL0, wQ, wI]; rfl) (by exact hit) (by simp) (by simp (maxSteps := 200000) (disch := first | omega | (simp; done) | fail) [wrapI, leT, leF, ltT, ltF, eqF, nleT, nleF, nltT, nltF, hT0, hL0, wQ, wI]; rfl)) ?_
    refine RegO.opN 1 (by simp (maxSteps := 200000) (disch := first | omega | (simp; done) | fail) [wrapI, leT, leF, ltT, ltF, eqF, nleT, nleF, nltT, nltF, hT0, hL0, wQ, wI]; rfl) ?_
    refine RegO.nil ?_
    refine DW.norm [(3, _), (4, _), (5, _), (7, _), (8, _)] [(3, _), (4, _), (5, _), (7, _)] [] (by simp [hT0, hL0, wQ, wI]; exact ⟨rfl, rfl, rfl, rfl, rfl⟩) (by simp [hT0, hL0, wQ, wI]; exact ⟨rfl, rfl, rfl, rfl⟩) (by simp [hT0, hL0, wQ, wI]) (by rfl) ?_
    refine DW.seq ?_
    refine DW.seq ?_
    have hsp : itemAt l a.Path < 0 ∨ (0 ≤ itemAt l a.Path ∧ (∃ h : itemIx l a.Path < l.length, l[itemIx l a.Path].Dir = true)) ∨ (0 ≤ itemAt l a.Path ∧ (∃ h : itemIx l a.Path < l.length, l[itemIx l a.Path].Dir = false) ∧ (r1 = 0 ∨ (r1 ≠ 0 ∧ r1 = 13) ∨ (r1 ≠ 0 ∧ r1 ≠ 13))) := by
      by_cases h0 : 0 ≤ itemAt l a.Path
      · have hi := (at_ix h0).2
        cases hD : l[itemIx l a.Path].Dir
        · exact .inr (.inr ⟨h0, ⟨hi, hD⟩, by omega⟩)
        · exact .inr (.inl ⟨h0, hi, hD⟩)
      · exact .inl (by omega)
    rcases hsp with hk0 | ⟨hk0, hi0, hdr⟩ | ⟨hk0, ⟨hi0, hdr⟩, rfl | ⟨hr0, rfl⟩ | ⟨hr0, hr1⟩⟩
    · have hge : ¬ 0 ≤ itemAt l a.Path := by omega
      refine DW.reg (by simp (maxSteps := 200000) (disch := first | omega | (simp; done) | fail) [wrapI, leT, leF, ltT, ltF, eqF, nleT, nleF, nltT, nltF, hT0, hL0, wQ, wI, hge]; rfl) ?_
      refine DW.norm [(3, _), (4, _), (5, _), (7, _), (8, _), (51, _)] [(3, _), (4, _), (5, _), (7, _)] [] (by simp [hT0, hL0, wQ, wI, hge]; exact ⟨rfl, rfl, rfl, rfl, rfl, rfl⟩) (by simp [hT0, hL0, wQ, wI, hge]; exact ⟨rfl, rfl, rfl, rfl⟩) (by simp [hT0, hL0, wQ, wI, hge]) (by rfl) ?_
      refine DW.condF (by simp (maxSteps := 200000) (disch := first | omega | (simp; done) | fail) [wrapI, leT, leF, ltT, ltF, eqF, nleT, nleF, nltT, nltF, hT0, hL0, wQ, wI, hge]) ?_
      refine DW.skip ?_
      refine DW.seq ?_
      refine DW.drawn mixed (by kernel_rfl) ?_
      refine RegD.addN 2 (by simp [hT0, hL0, wQ, wI, hge]; (first | (simp (disch := omega) only [wrapI, ltF, if_false]; done) | (simp (disch := omega) only [wrapI, ltF, if_false]; first | exact ⟨rfl, rfl⟩ | rfl) | skip); (first | done | exact ⟨rfl, rfl⟩ | rfl)) ?_
      refine RegD.cert (Cert.callA rfl (by simp) rfl (by decide) (by simp [hT0, hL0, wQ, wI, hge]; exact ⟨rfl, rfl⟩) (by simp [hT0, hL0, wQ, wI, hge]; rfl) (by exact freePages_spec g l hg hsm hf) rfl (by simp) (by simp; rfl) rfl) ?_
      refine RegD.addN 1 (by simp [hT0, hL0, wQ, wI, hge]; (first | (simp (disch := omega) only [wrapI, ltF, if_false]; done) | (simp (disch := omega) only [wrapI, ltF, if_false]; first | exact ⟨rfl, rfl⟩ | rfl) | skip); (first | done | exact ⟨rfl, rfl⟩ | rfl)) ?_
      refine RegD.cert (Cert.callA rfl (by simp) rfl (by decide) (by simp [hT0, hL0, wQ, wI, hge]; exact ⟨rfl, rfl⟩) (by simp [hT0, hL0, wQ, wI, hge]; rfl) (by exact pagesIn_spec l hsm) rfl (by simp) (by simp; rfl) rfl) ?_
      refine RegD.addN 7 (by simp [hT0, hL0, wQ, wI, hge]; (first | (simp (disch := omega) only [wrapI, ltF, if_false]; done) | (simp (disch := omega) only [wrapI, ltF, if_false]; first | exact ⟨rfl, rfl⟩ | rfl) | skip); (first | done | exact ⟨rfl, rfl⟩ | rfl)) ?_
      refine RegD.cert (Cert.callA rfl (by simp [hT0, hL0, wQ, wI, hge]) rfl (by decide) (by simp [hT0, hL0, wQ, wI, hge]; exact ⟨rfl, rfl⟩) (by simp [hT0, hL0, wQ, wI, hge]; rfl) (by exact freeItems_spec g l hg hsm hf) rfl (by simp) (by simp; rfl) rfl) ?_
      refine RegD.addN 10 (by simp [hT0, hL0, wQ, wI, hge]; (first | (simp (disch := omega) only [wrapI, ltF, if_false]; done) | (simp (disch := omega) only [wrapI, ltF, if_false]; first | exact ⟨rfl, rfl⟩ | rfl) | skip); (first | done | exact ⟨rfl, rfl⟩ | rfl)) ?_
      refine RegD.nil ⟨by kernel_rfl, ?_⟩
      refine DW.ret ?_
      simp [Try.results3]
    · obtain ⟨hia, hil⟩ := at_ix hk0
      have hgD := rD_getD l _ hil
      have hgT := rD_getT l _ hil
      have htx : textAt l (itemIx l a.Path) = l[itemIx l a.Path].Text := by unfold textAt; rw [List.getElem?_eq_getElem hil]
      have hot := (hsm.2 _ (List.getElem_mem hil)).2
      have hit2 := hia
      have hil1 : (itemIx l a.Path : Int) < l.length := by omega
      rw [hdr] at hgD
      have hgD2 := two_get hgD
      have hge : (0 : Int) ≤ itemIx l a.Path := by omega
      refine DW.reg (by simp (maxSteps := 200000) (disch := first | omega | (simp; done) | fail) [wrapI, leT, leF, ltT, ltF, eqF, nleT, nleF, nltT, nltF, hT0, hL0, wQ, wI, hge, hia, hgD, hgD2, hil, hil1]; rfl) ?_
      refine DW.norm [(3, _), (4, _), (5, _), (7, _), (8, _), (51, _)] [(3, _), (4, _), (5, _), (7, _)] [] (by simp [hT0, hL0, wQ, wI, hge, hia, hgD, hgD2, hil, hil1]; exact ⟨rfl, rfl, rfl, rfl, rfl, rfl⟩) (by simp [hT0, hL0, wQ, wI, hge, hia, hgD, hgD2, hil, hil1]; exact ⟨rfl, rfl, rfl, rfl⟩) (by simp [hT0, hL0, wQ, wI, hge, hia, hgD, hgD2, hil, hil1]) (by rfl) ?_
      refine DW.condF (by simp (maxSteps := 200000) (disch := first | omega | (simp; done) | fail) [wrapI, leT, leF, ltT, ltF, eqF, nleT, nleF, nltT, nltF, hT0, hL0, wQ, wI, hge, hia, hgD, hgD2, hil, hil1]) ?_
      refine DW.skip ?_
      refine DW.seq ?_
      refine DW.drawn mixed (by kernel_rfl) ?_
      refine RegD.addN 2 (by simp [hT0, hL0, wQ, wI, hge, hia, hgD, hgD2, hil, hil1]; (first | (simp (disch := omega) only [wrapI, ltF, if_false]; done) | (simp (disch := omega) only [wrapI, ltF, if_false]; first | exact ⟨rfl, rfl⟩ | rfl) | skip); (first | done | exact ⟨rfl, rfl⟩ | rfl)) ?_
      refine RegD.cert (Cert.callA rfl (by simp) rfl (by decide) (by simp [hT0, hL0, wQ, wI, hge, hia, hgD, hgD2, hil, hil1]; exact ⟨rfl, rfl⟩) (by simp [hT0, hL0, wQ, wI, hge, hia, hgD, hgD2, hil, hil1]; rfl) (by exact freePages_spec g l hg hsm hf) rfl (by simp) (by simp; rfl) rfl) ?_
      refine RegD.addN 1 (by simp [hT0, hL0, wQ, wI, hge, hia, hgD, hgD2, hil, hil1]; (first | (simp (disch := omega) only [wrapI, ltF, if_false]; done) | (simp (disch := omega) only [wrapI, ltF, if_false]; first | exact ⟨rfl, rfl⟩ | rfl) | skip); (first | done | exact ⟨rfl, rfl⟩ | rfl)) ?_
      refine RegD.cert (Cert.callA rfl (by simp) rfl (by decide) (by simp [hT0, hL0, wQ, wI, hge, hia, hgD, hgD2, hil, hil1]; exact ⟨rfl, rfl⟩) (by simp [hT0, hL0, wQ, wI, hge, hia, hgD, hgD2, hil, hil1]; rfl) (by exact pagesIn_spec l hsm) rfl (by simp) (by simp; rfl) rfl) ?_
      refine RegD.addN 7 (by simp [hT0, hL0, wQ, wI, hge, hia, hgD, hgD2, hil, hil1]; (first | (simp (disch := omega) only [wrapI, ltF, if_false]; done) | (simp (disch := omega) only [wrapI, ltF, if_false]; first | exact ⟨rfl, rfl⟩ | rfl) | skip); (first | done | exact ⟨rfl, rfl⟩ | rfl)) ?_
      refine RegD.cert (Cert.callA rfl (by simp [hT0, hL0, wQ, wI, hge, hia, hgD, hgD2, hil, hil1]) rfl (by decide) (by simp [hT0, hL0, wQ, wI, hge, hia, hgD, hgD2, hil, hil1]; exact ⟨rfl, rfl⟩) (by simp [hT0, hL0, wQ, wI, hge, hia, hgD, hgD2, hil, hil1]; rfl) (by exact freeItems_spec g l hg hsm hf) rfl (by simp) (by simp; rfl) rfl) ?_
      refine RegD.addN 10 (by simp [hT0, hL0, wQ, wI, hge, hia, hgD, hgD2, hil, hil1]; (first | (simp (disch := omega) only [wrapI, ltF, if_false]; done) | (simp (disch := omega) only [wrapI, ltF, if_false]; first | exact ⟨rfl, rfl⟩ | rfl) | skip); (first | done | exact ⟨rfl, rfl⟩ | rfl)) ?_
      refine RegD.nil ⟨by kernel_rfl, ?_⟩
      refine DW.ret ?_
      simp [Try.results3]
    · obtain ⟨hia, hil⟩ := at_ix hk0
      have hgD := rD_getD l _ hil
      have hgT := rD_getT l _ hil
      have htx : textAt l (itemIx l a.Path) = l[itemIx l a.Path].Text := by unfold textAt; rw [List.getElem?_eq_getElem hil]
      have hot := (hsm.2 _ (List.getElem_mem hil)).2
      have hit2 := hia
      have hil1 : (itemIx l a.Path : Int) < l.length := by omega
      have hdd : ∀ x, l[itemIx l a.Path]? = some x → x.Dir = false := fun x hx => by rw [List.getElem?_eq_getElem hil] at hx; rw [← Option.some.inj hx]; exact hdr
      rw [hdr] at hgD
      have hql := quota_law hf (by omega) (a := ⟨7, a.Path, a.To, a.Off, a.Len, a.Text⟩) rfl hk0 hdd (by rw [hlr]; exact .inl rfl)
      rw [hlr, brought_in (by omega) (by omega), htx] at hql
      simp only at hql
      have hgD2 := two_get hgD
      obtain ⟨old, hold⟩ : ∃ x, l[itemIx l a.Path].Text = x := ⟨_, rfl⟩
      rw [hold] at hgT hot hql
      have hgT2 := two_get hgT
      have htw := textWith_sz old a.Off a.Text hot
      have hp1 : pagesFor (textWith old a.Off a.Text).size ≤ 1048576 := by unfold pagesFor; omega
      have hp2 : pagesFor old.size ≤ 1048576 := by unfold pagesFor; omega
      have hwm : IntKind.i64.wrap ((pagesFor (textWith old a.Off a.Text).size : Int) - pagesFor old.size) = (pagesFor (textWith old a.Off a.Text).size : Int) - pagesFor old.size := wr _ (by omega) (by omega)
      have hge : (0 : Int) ≤ itemIx l a.Path := by omega
      have hlt : ¬ g.Quota - (pagesIn l : Int) < (pagesFor (textWith old a.Off a.Text).size : Int) - pagesFor old.size := fun h => by have := hql.2 h; omega
      refine DW.reg (by simp (maxSteps := 200000) (disch := first | omega | (simp; done) | fail) [wrapI, leT, leF, ltT, ltF, eqF, nleT, nleF, nltT, nltF, hT0, hL0, wQ, wI, hge, hia, hgD, hgD2, hgT, hgT2, hwm, hil, hil1, hlt]; rfl) ?_
      refine DW.norm [(3, _), (4, _), (5, _), (7, _), (8, _), (51, _)] [(3, _), (4, _), (5, _), (7, _)] [] (by simp [hT0, hL0, wQ, wI, hge, hia, hgD, hgD2, hgT, hgT2, hwm, hil, hil1, hlt]; exact ⟨rfl, rfl, rfl, rfl, rfl, rfl⟩) (by simp [hT0, hL0, wQ, wI, hge, hia, hgD, hgD2, hgT, hgT2, hwm, hil, hil1, hlt]; exact ⟨rfl, rfl, rfl, rfl⟩) (by simp [hT0, hL0, wQ, wI, hge, hia, hgD, hgD2, hgT, hgT2, hwm, hil, hil1, hlt]) (by rfl) ?_
      refine DW.condT (by simp (maxSteps := 200000) (disch := first | omega | (simp; done) | fail) [wrapI, leT, leF, ltT, ltF, eqF, nleT, nleF, nltT, nltF, hT0, hL0, wQ, wI, hge, hia, hgD, hgD2, hgT, hgT2, hwm, hil, hil1, hlt]) ?_
      refine DW.seq ?_
      refine DW.reg (by simp (maxSteps := 200000) (disch := first | omega | (simp; done) | fail) [wrapI, leT, leF, ltT, ltF, eqF, nleT, nleF, nltT, nltF, hT0, hL0, wQ, wI, hge, hia, hgD, hgD2, hgT, hgT2, hwm, hil, hil1, hlt]; rfl) ?_
      refine DW.norm [(3, _), (4, _), (5, _), (7, _), (9, _)] [(3, _), (4, _), (5, _), (7, _)] [] (by simp [hT0, hL0, wQ, wI, hge, hia, hgD, hgD2, hgT, hgT2, hwm, hil, hil1, hlt]; exact ⟨rfl, rfl, rfl, rfl, rfl⟩) (by simp [hT0, hL0, wQ, wI, hge, hia, hgD, hgD2, hgT, hgT2, hwm, hil, hil1, hlt]; exact ⟨rfl, rfl, rfl, rfl⟩) (by simp [hT0, hL0, wQ, wI, hge, hia, hgD, hgD2, hgT, hgT2, hwm, hil, hil1, hlt]) (by rfl) ?_
      refine DW.seq ?_
      refine DW.regs ?_
      refine RegO.opN 5 (by simp (maxSteps := 200000) (disch := first | omega | (simp; done) | fail) [wrapI, leT, leF, ltT, ltF, eqF, nleT, nleF, nltT, nltF, hT0, hL0, wQ, wI, hge, hia, hgD, hgD2, hgT, hgT2, hwm, hil, hil1, hlt]; rfl) ?_
      refine RegO.step rfl (OpStep.callA rfl (by simp (maxSteps := 200000) (disch := first | omega | (simp; done) | fail) [wrapI, leT, leF, ltT, ltF, eqF, nleT, nleF, nltT, nltF, hT0, hL0, wQ, wI, hge, hia, hgD, hgD2, hgT, hgT2, hwm, hil, hil1, hlt]; exact ⟨rfl, rfl⟩) (by simp (maxSteps := 200000) (disch := first | omega | (simp; done) | fail) [wrapI, leT, leF, ltT, ltF, eqF, nleT, nleF, nltT, nltF, hT0, hL0, wQ, wI, hge, hia, hgD, hgD2, hgT, hgT2, hwm, hil, hil1, hlt]; rfl) (by exact textWith_spec old a.Off a.Text hat) (by simp) (by simp (maxSteps := 200000) (disch := first | omega | (simp; done) | fail) [wrapI, leT, leF, ltT, ltF, eqF, nleT, nleF, nltT, nltF, hT0, hL0, wQ, wI, hge, hia, hgD, hgD2, hgT, hgT2, hwm, hil, hil1, hlt]; rfl)) ?_
      refine RegO.opN 1 (by simp (maxSteps := 200000) (disch := first | omega | (simp; done) | fail) [wrapI, leT, leF, ltT, ltF, eqF, nleT, nleF, nltT, nltF, hT0, hL0, wQ, wI, hge, hia, hgD, hgD2, hgT, hgT2, hwm, hil, hil1, hlt]; rfl) ?_
      refine RegO.step rfl (OpStep.callA rfl (by simp (maxSteps := 200000) (disch := first | omega | (simp; done) | fail) [wrapI, leT, leF, ltT, ltF, eqF, nleT, nleF, nltT, nltF, hT0, hL0, wQ, wI, hge, hia, hgD, hgD2, hgT, hgT2, hwm, hil, hil1, hlt]; exact ⟨rfl, rfl⟩) (by simp (maxSteps := 200000) (disch := first | omega | (simp; done) | fail) [wrapI, leT, leF, ltT, ltF, eqF, nleT, nleF, nltT, nltF, hT0, hL0, wQ, wI, hge, hia, hgD, hgD2, hgT, hgT2, hwm, hil, hil1, hlt]; rfl) (by exact pagesFor_spec (textWith old a.Off a.Text).size (by omega)) (by simp) (by simp (maxSteps := 200000) (disch := first | omega | (simp; done) | fail) [wrapI, leT, leF, ltT, ltF, eqF, nleT, nleF, nltT, nltF, hT0, hL0, wQ, wI, hge, hia, hgD, hgD2, hgT, hgT2, hwm, hil, hil1, hlt]; rfl)) ?_
      refine RegO.opN 2 (by simp (maxSteps := 200000) (disch := first | omega | (simp; done) | fail) [wrapI, leT, leF, ltT, ltF, eqF, nleT, nleF, nltT, nltF, hT0, hL0, wQ, wI, hge, hia, hgD, hgD2, hgT, hgT2, hwm, hil, hil1, hlt]; rfl) ?_
      refine RegO.step rfl (OpStep.callA rfl (by simp (maxSteps := 200000) (disch := first | omega | (simp; done) | fail) [wrapI, leT, leF, ltT, ltF, eqF, nleT, nleF, nltT, nltF, hT0, hL0, wQ, wI, hge, hia, hgD, hgD2, hgT, hgT2, hwm, hil, hil1, hlt]; exact ⟨rfl, rfl⟩) (by simp (maxSteps := 200000) (disch := first | omega | (simp; done) | fail) [wrapI, leT, leF, ltT, ltF, eqF, nleT, nleF, nltT, nltF, hT0, hL0, wQ, wI, hge, hia, hgD, hgD2, hgT, hgT2, hwm, hil, hil1, hlt]; rfl) (by exact pagesFor_spec old.size (by omega)) (by simp) (by simp (maxSteps := 200000) (disch := first | omega | (simp; done) | fail) [wrapI, leT, leF, ltT, ltF, eqF, nleT, nleF, nltT, nltF, hT0, hL0, wQ, wI, hge, hia, hgD, hgD2, hgT, hgT2, hwm, hil, hil1, hlt]; rfl)) ?_
      refine RegO.opN 2 (by simp (maxSteps := 200000) (disch := first | omega | (simp; done) | fail) [wrapI, leT, leF, ltT, ltF, eqF, nleT, nleF, nltT, nltF, hT0, hL0, wQ, wI, hge, hia, hgD, hgD2, hgT, hgT2, hwm, hil, hil1, hlt]; rfl) ?_
      refine RegO.nil ?_
      refine DW.norm [(3, _), (4, _), (7, _), (10, _)] [(3, _), (4, _), (5, _), (7, _)] [] (by simp [hT0, hL0, wQ, wI, hge, hia, hgD, hgD2, hgT, hgT2, hwm, hil, hil1, hlt]; exact ⟨rfl, rfl, rfl, rfl⟩) (by simp [hT0, hL0, wQ, wI, hge, hia, hgD, hgD2, hgT, hgT2, hwm, hil, hil1, hlt]; exact ⟨rfl, rfl, rfl, rfl⟩) (by simp [hT0, hL0, wQ, wI, hge, hia, hgD, hgD2, hgT, hgT2, hwm, hil, hil1, hlt]) (by rfl) ?_
      refine DW.seq ?_
      refine DW.drawn mixed (by kernel_rfl) ?_
      refine RegD.addN 6 (by simp [hT0, hL0, wQ, wI, hge, hia, hgD, hgD2, hgT, hgT2, hwm, hil, hil1, hlt]; (first | (simp (disch := omega) only [wrapI, ltF, if_false]; done) | (simp (disch := omega) only [wrapI, ltF, if_false]; first | exact ⟨rfl, rfl⟩ | rfl) | skip); (first | done | exact ⟨rfl, rfl⟩ | rfl)) ?_
      refine RegD.cert (Cert.callA rfl (by simp) rfl (by decide) (by simp [hT0, hL0, wQ, wI, hge, hia, hgD, hgD2, hgT, hgT2, hwm, hil, hil1, hlt]; exact ⟨rfl, rfl⟩) (by simp [hT0, hL0, wQ, wI, hge, hia, hgD, hgD2, hgT, hgT2, hwm, hil, hil1, hlt]; rfl) (by exact freePages_spec g l hg hsm hf) rfl (by simp) (by simp; rfl) rfl) ?_
      refine RegD.addN 2 (by simp [hT0, hL0, wQ, wI, hge, hia, hgD, hgD2, hgT, hgT2, hwm, hil, hil1, hlt]; (first | (simp (disch := omega) only [wrapI, ltF, if_false]; done) | (simp (disch := omega) only [wrapI, ltF, if_false]; first | exact ⟨rfl, rfl⟩ | rfl) | skip); (first | done | exact ⟨rfl, rfl⟩ | rfl)) ?_
      refine RegD.nil ⟨by kernel_rfl, ?_⟩
      refine DW.condF (by simp (maxSteps := 200000) (disch := first | omega | (simp; done) | fail) [wrapI, leT, leF, ltT, ltF, eqF, nleT, nleF, nltT, nltF, hT0, hL0, wQ, wI, hge, hia, hgD, hgD2, hgT, hgT2, hwm, hil, hil1, hlt]) ?_
      refine DW.skip ?_
      refine DW.seq ?_
      refine DW.drawn mixed (by kernel_rfl) ?_
      refine RegD.addN 2 (by simp [hT0, hL0, wQ, wI, hge, hia, hgD, hgD2, hgT, hgT2, hwm, hil, hil1, hlt]; (first | (simp (disch := omega) only [wrapI, ltF, if_false]; done) | (simp (disch := omega) only [wrapI, ltF, if_false]; first | exact ⟨rfl, rfl⟩ | rfl) | skip); (first | done | exact ⟨rfl, rfl⟩ | rfl)) ?_
      refine RegD.cert (Cert.callA rfl (by simp) rfl (by decide) (by simp [hT0, hL0, wQ, wI, hge, hia, hgD, hgD2, hgT, hgT2, hwm, hil, hil1, hlt]; exact ⟨rfl, rfl⟩) (by simp [hT0, hL0, wQ, wI, hge, hia, hgD, hgD2, hgT, hgT2, hwm, hil, hil1, hlt]; rfl) (by exact freePages_spec g l hg hsm hf) rfl (by simp) (by simp; rfl) rfl) ?_
      refine RegD.addN 1 (by simp [hT0, hL0, wQ, wI, hge, hia, hgD, hgD2, hgT, hgT2, hwm, hil, hil1, hlt]; (first | (simp (disch := omega) only [wrapI, ltF, if_false]; done) | (simp (disch := omega) only [wrapI, ltF, if_false]; first | exact ⟨rfl, rfl⟩ | rfl) | skip); (first | done | exact ⟨rfl, rfl⟩ | rfl)) ?_
      refine RegD.cert (Cert.callA rfl (by simp) rfl (by decide) (by simp [hT0, hL0, wQ, wI, hge, hia, hgD, hgD2, hgT, hgT2, hwm, hil, hil1, hlt]; exact ⟨rfl, rfl⟩) (by simp [hT0, hL0, wQ, wI, hge, hia, hgD, hgD2, hgT, hgT2, hwm, hil, hil1, hlt]; rfl) (by exact pagesIn_spec l hsm) rfl (by simp) (by simp; rfl) rfl) ?_
      refine RegD.addN 7 (by simp [hT0, hL0, wQ, wI, hge, hia, hgD, hgD2, hgT, hgT2, hwm, hil, hil1, hlt]; (first | (simp (disch := omega) only [wrapI, ltF, if_false]; done) | (simp (disch := omega) only [wrapI, ltF, if_false]; first | exact ⟨rfl, rfl⟩ | rfl) | skip); (first | done | exact ⟨rfl, rfl⟩ | rfl)) ?_
      refine RegD.cert (Cert.callA rfl (by simp [hT0, hL0, wQ, wI, hge, hia, hgD, hgD2, hgT, hgT2, hwm, hil, hil1, hlt]) rfl (by decide) (by simp [hT0, hL0, wQ, wI, hge, hia, hgD, hgD2, hgT, hgT2, hwm, hil, hil1, hlt]; exact ⟨rfl, rfl⟩) (by simp [hT0, hL0, wQ, wI, hge, hia, hgD, hgD2, hgT, hgT2, hwm, hil, hil1, hlt]; rfl) (by exact freeItems_spec g l hg hsm hf) rfl (by simp) (by simp; rfl) rfl) ?_
      refine RegD.addN 10 (by simp [hT0, hL0, wQ, wI, hge, hia, hgD, hgD2, hgT, hgT2, hwm, hil, hil1, hlt]; (first | (simp (disch := omega) only [wrapI, ltF, if_false]; done) | (simp (disch := omega) only [wrapI, ltF, if_false]; first | exact ⟨rfl, rfl⟩ | rfl) | skip); (first | done | exact ⟨rfl, rfl⟩ | rfl)) ?_
      refine RegD.nil ⟨by kernel_rfl, ?_⟩
      refine DW.ret ?_
      simp [Try.results3]
    · obtain ⟨hia, hil⟩ := at_ix hk0
      have hgD := rD_getD l _ hil
      have hgT := rD_getT l _ hil
      have htx : textAt l (itemIx l a.Path) = l[itemIx l a.Path].Text := by unfold textAt; rw [List.getElem?_eq_getElem hil]
      have hot := (hsm.2 _ (List.getElem_mem hil)).2
      have hit2 := hia
      have hil1 : (itemIx l a.Path : Int) < l.length := by omega
      have hdd : ∀ x, l[itemIx l a.Path]? = some x → x.Dir = false := fun x hx => by rw [List.getElem?_eq_getElem hil] at hx; rw [← Option.some.inj hx]; exact hdr
      rw [hdr] at hgD
      have hql := quota_law hf (by omega) (a := ⟨7, a.Path, a.To, a.Off, a.Len, a.Text⟩) rfl hk0 hdd (by rw [hlr]; exact .inr rfl)
      rw [hlr, brought_in (by omega) (by omega), htx] at hql
      simp only at hql
      have hgD2 := two_get hgD
      obtain ⟨old, hold⟩ : ∃ x, l[itemIx l a.Path].Text = x := ⟨_, rfl⟩
      rw [hold] at hgT hot hql
      have hgT2 := two_get hgT
      have htw := textWith_sz old a.Off a.Text hot
      have hp1 : pagesFor (textWith old a.Off a.Text).size ≤ 1048576 := by unfold pagesFor; omega
      have hp2 : pagesFor old.size ≤ 1048576 := by unfold pagesFor; omega
      have hwm : IntKind.i64.wrap ((pagesFor (textWith old a.Off a.Text).size : Int) - pagesFor old.size) = (pagesFor (textWith old a.Off a.Text).size : Int) - pagesFor old.size := wr _ (by omega) (by omega)
      have hge : (0 : Int) ≤ itemIx l a.Path := by omega
      have hlt : g.Quota - (pagesIn l : Int) < (pagesFor (textWith old a.Off a.Text).size : Int) - pagesFor old.size := hql.1 (by first | trivial | rfl)
      refine DW.reg (by simp (maxSteps := 200000) (disch := first | omega | (simp; done) | fail) [wrapI, leT, leF, ltT, ltF, eqF, nleT, nleF, nltT, nltF, hT0, hL0, wQ, wI, hge, hia, hgD, hgD2, hgT, hgT2, hwm, hil, hil1, hlt]; rfl) ?_
      refine DW.norm [(3, _), (4, _), (5, _), (7, _), (8, _), (51, _)] [(3, _), (4, _), (5, _), (7, _)] [] (by simp [hT0, hL0, wQ, wI, hge, hia, hgD, hgD2, hgT, hgT2, hwm, hil, hil1, hlt]; exact ⟨rfl, rfl, rfl, rfl, rfl, rfl⟩) (by simp [hT0, hL0, wQ, wI, hge, hia, hgD, hgD2, hgT, hgT2, hwm, hil, hil1, hlt]; exact ⟨rfl, rfl, rfl, rfl⟩) (by simp [hT0, hL0, wQ, wI, hge, hia, hgD, hgD2, hgT, hgT2, hwm, hil, hil1, hlt]) (by rfl) ?_
      refine DW.condT (by simp (maxSteps := 200000) (disch := first | omega | (simp; done) | fail) [wrapI, leT, leF, ltT, ltF, eqF, nleT, nleF, nltT, nltF, hT0, hL0, wQ, wI, hge, hia, hgD, hgD2, hgT, hgT2, hwm, hil, hil1, hlt]) ?_
      refine DW.seq ?_
      refine DW.reg (by simp (maxSteps := 200000) (disch := first | omega | (simp; done) | fail) [wrapI, leT, leF, ltT, ltF, eqF, nleT, nleF, nltT, nltF, hT0, hL0, wQ, wI, hge, hia, hgD, hgD2, hgT, hgT2, hwm, hil, hil1, hlt]; rfl) ?_
      refine DW.norm [(3, _), (4, _), (5, _), (7, _), (9, _)] [(3, _), (4, _), (5, _), (7, _)] [] (by simp [hT0, hL0, wQ, wI, hge, hia, hgD, hgD2, hgT, hgT2, hwm, hil, hil1, hlt]; exact ⟨rfl, rfl, rfl, rfl, rfl⟩) (by simp [hT0, hL0, wQ, wI, hge, hia, hgD, hgD2, hgT, hgT2, hwm, hil, hil1, hlt]; exact ⟨rfl, rfl, rfl, rfl⟩) (by simp [hT0, hL0, wQ, wI, hge, hia, hgD, hgD2, hgT, hgT2, hwm, hil, hil1, hlt]) (by rfl) ?_
      refine DW.seq ?_
      refine DW.regs ?_
      refine RegO.opN 5 (by simp (maxSteps := 200000) (disch := first | omega | (simp; done) | fail) [wrapI, leT, leF, ltT, ltF, eqF, nleT, nleF, nltT, nltF, hT0, hL0, wQ, wI, hge, hia, hgD, hgD2, hgT, hgT2, hwm, hil, hil1, hlt]; rfl) ?_
      refine RegO.step rfl (OpStep.callA rfl (by simp (maxSteps := 200000) (disch := first | omega | (simp; done) | fail) [wrapI, leT, leF, ltT, ltF, eqF, nleT, nleF, nltT, nltF, hT0, hL0, wQ, wI, hge, hia, hgD, hgD2, hgT, hgT2, hwm, hil, hil1, hlt]; exact ⟨rfl, rfl⟩) (by simp (maxSteps := 200000) (disch := first | omega | (simp; done) | fail) [wrapI, leT, leF, ltT, ltF, eqF, nleT, nleF, nltT, nltF, hT0, hL0, wQ, wI, hge, hia, hgD, hgD2, hgT, hgT2, hwm, hil, hil1, hlt]; rfl) (by exact textWith_spec old a.Off a.Text hat) (by simp) (by simp (maxSteps := 200000) (disch := first | omega | (simp; done) | fail) [wrapI, leT, leF, ltT, ltF, eqF, nleT, nleF, nltT, nltF, hT0, hL0, wQ, wI, hge, hia, hgD, hgD2, hgT, hgT2, hwm, hil, hil1, hlt]; rfl)) ?_
      refine RegO.opN 1 (by simp (maxSteps := 200000) (disch := first | omega | (simp; done) | fail) [wrapI, leT, leF, ltT, ltF, eqF, nleT, nleF, nltT, nltF, hT0, hL0, wQ, wI, hge, hia, hgD, hgD2, hgT, hgT2, hwm, hil, hil1, hlt]; rfl) ?_
      refine RegO.step rfl (OpStep.callA rfl (by simp (maxSteps := 200000) (disch := first | omega | (simp; done) | fail) [wrapI, leT, leF, ltT, ltF, eqF, nleT, nleF, nltT, nltF, hT0, hL0, wQ, wI, hge, hia, hgD, hgD2, hgT, hgT2, hwm, hil, hil1, hlt]; exact ⟨rfl, rfl⟩) (by simp (maxSteps := 200000) (disch := first | omega | (simp; done) | fail) [wrapI, leT, leF, ltT, ltF, eqF, nleT, nleF, nltT, nltF, hT0, hL0, wQ, wI, hge, hia, hgD, hgD2, hgT, hgT2, hwm, hil, hil1, hlt]; rfl) (by exact pagesFor_spec (textWith old a.Off a.Text).size (by omega)) (by simp) (by simp (maxSteps := 200000) (disch := first | omega | (simp; done) | fail) [wrapI, leT, leF, ltT, ltF, eqF, nleT, nleF, nltT, nltF, hT0, hL0, wQ, wI, hge, hia, hgD, hgD2, hgT, hgT2, hwm, hil, hil1, hlt]; rfl)) ?_
      refine RegO.opN 2 (by simp (maxSteps := 200000) (disch := first | omega | (simp; done) | fail) [wrapI, leT, leF, ltT, ltF, eqF, nleT, nleF, nltT, nltF, hT0, hL0, wQ, wI, hge, hia, hgD, hgD2, hgT, hgT2, hwm, hil, hil1, hlt]; rfl) ?_
      refine RegO.step rfl (OpStep.callA rfl (by simp (maxSteps := 200000) (disch := first | omega | (simp; done) | fail) [wrapI, leT, leF, ltT, ltF, eqF, nleT, nleF, nltT, nltF, hT0, hL0, wQ, wI, hge, hia, hgD, hgD2, hgT, hgT2, hwm, hil, hil1, hlt]; exact ⟨rfl, rfl⟩) (by simp (maxSteps := 200000) (disch := first | omega | (simp; done) | fail) [wrapI, leT, leF, ltT, ltF, eqF, nleT, nleF, nltT, nltF, hT0, hL0, wQ, wI, hge, hia, hgD, hgD2, hgT, hgT2, hwm, hil, hil1, hlt]; rfl) (by exact pagesFor_spec old.size (by omega)) (by simp) (by simp (maxSteps := 200000) (disch := first | omega | (simp; done) | fail) [wrapI, leT, leF, ltT, ltF, eqF, nleT, nleF, nltT, nltF, hT0, hL0, wQ, wI, hge, hia, hgD, hgD2, hgT, hgT2, hwm, hil, hil1, hlt]; rfl)) ?_
      refine RegO.opN 2 (by simp (maxSteps := 200000) (disch := first | omega | (simp; done) | fail) [wrapI, leT, leF, ltT, ltF, eqF, nleT, nleF, nltT, nltF, hT0, hL0, wQ, wI, hge, hia, hgD, hgD2, hgT, hgT2, hwm, hil, hil1, hlt]; rfl) ?_
      refine RegO.nil ?_
      refine DW.norm [(3, _), (4, _), (7, _), (10, _)] [(3, _), (4, _), (5, _), (7, _)] [] (by simp [hT0, hL0, wQ, wI, hge, hia, hgD, hgD2, hgT, hgT2, hwm, hil, hil1, hlt]; exact ⟨rfl, rfl, rfl, rfl⟩) (by simp [hT0, hL0, wQ, wI, hge, hia, hgD, hgD2, hgT, hgT2, hwm, hil, hil1, hlt]; exact ⟨rfl, rfl, rfl, rfl⟩) (by simp [hT0, hL0, wQ, wI, hge, hia, hgD, hgD2, hgT, hgT2, hwm, hil, hil1, hlt]) (by rfl) ?_
      refine DW.seq ?_
      refine DW.drawn mixed (by kernel_rfl) ?_
      refine RegD.addN 6 (by simp [hT0, hL0, wQ, wI, hge, hia, hgD, hgD2, hgT, hgT2, hwm, hil, hil1, hlt]; (first | (simp (disch := omega) only [wrapI, ltF, if_false]; done) | (simp (disch := omega) only [wrapI, ltF, if_false]; first | exact ⟨rfl, rfl⟩ | rfl) | skip); (first | done | exact ⟨rfl, rfl⟩ | rfl)) ?_
      refine RegD.cert (Cert.callA rfl (by simp) rfl (by decide) (by simp [hT0, hL0, wQ, wI, hge, hia, hgD, hgD2, hgT, hgT2, hwm, hil, hil1, hlt]; exact ⟨rfl, rfl⟩) (by simp [hT0, hL0, wQ, wI, hge, hia, hgD, hgD2, hgT, hgT2, hwm, hil, hil1, hlt]; rfl) (by exact freePages_spec g l hg hsm hf) rfl (by simp) (by simp; rfl) rfl) ?_
      refine RegD.addN 2 (by simp [hT0, hL0, wQ, wI, hge, hia, hgD, hgD2, hgT, hgT2, hwm, hil, hil1, hlt]; (first | (simp (disch := omega) only [wrapI, ltF, if_false]; done) | (simp (disch := omega) only [wrapI, ltF, if_false]; first | exact ⟨rfl, rfl⟩ | rfl) | skip); (first | done | exact ⟨rfl, rfl⟩ | rfl)) ?_
      refine RegD.nil ⟨by kernel_rfl, ?_⟩
      refine DW.condF (by simp (maxSteps := 200000) (disch := first | omega | (simp; done) | fail) [wrapI, leT, leF, ltT, ltF, eqF, nleT, nleF, nltT, nltF, hT0, hL0, wQ, wI, hge, hia, hgD, hgD2, hgT, hgT2, hwm, hil, hil1, hlt]) ?_
      refine DW.skip ?_
      refine DW.seq ?_
      refine DW.drawn mixed (by kernel_rfl) ?_
      refine RegD.addN 2 (by simp [hT0, hL0, wQ, wI, hge, hia, hgD, hgD2, hgT, hgT2, hwm, hil, hil1, hlt]; (first | (simp (disch := omega) only [wrapI, ltF, if_false]; done) | (simp (disch := omega) only [wrapI, ltF, if_false]; first | exact ⟨rfl, rfl⟩ | rfl) | skip); (first | done | exact ⟨rfl, rfl⟩ | rfl)) ?_
      refine RegD.cert (Cert.callA rfl (by simp) rfl (by decide) (by simp [hT0, hL0, wQ, wI, hge, hia, hgD, hgD2, hgT, hgT2, hwm, hil, hil1, hlt]; exact ⟨rfl, rfl⟩) (by simp [hT0, hL0, wQ, wI, hge, hia, hgD, hgD2, hgT, hgT2, hwm, hil, hil1, hlt]; rfl) (by exact freePages_spec g l hg hsm hf) rfl (by simp) (by simp; rfl) rfl) ?_
      refine RegD.addN 1 (by simp [hT0, hL0, wQ, wI, hge, hia, hgD, hgD2, hgT, hgT2, hwm, hil, hil1, hlt]; (first | (simp (disch := omega) only [wrapI, ltF, if_false]; done) | (simp (disch := omega) only [wrapI, ltF, if_false]; first | exact ⟨rfl, rfl⟩ | rfl) | skip); (first | done | exact ⟨rfl, rfl⟩ | rfl)) ?_
      refine RegD.cert (Cert.callA rfl (by simp) rfl (by decide) (by simp [hT0, hL0, wQ, wI, hge, hia, hgD, hgD2, hgT, hgT2, hwm, hil, hil1, hlt]; exact ⟨rfl, rfl⟩) (by simp [hT0, hL0, wQ, wI, hge, hia, hgD, hgD2, hgT, hgT2, hwm, hil, hil1, hlt]; rfl) (by exact pagesIn_spec l hsm) rfl (by simp) (by simp; rfl) rfl) ?_
      refine RegD.addN 7 (by simp [hT0, hL0, wQ, wI, hge, hia, hgD, hgD2, hgT, hgT2, hwm, hil, hil1, hlt]; (first | (simp (disch := omega) only [wrapI, ltF, if_false]; done) | (simp (disch := omega) only [wrapI, ltF, if_false]; first | exact ⟨rfl, rfl⟩ | rfl) | skip); (first | done | exact ⟨rfl, rfl⟩ | rfl)) ?_
      refine RegD.cert (Cert.callA rfl (by simp [hT0, hL0, wQ, wI, hge, hia, hgD, hgD2, hgT, hgT2, hwm, hil, hil1, hlt]) rfl (by decide) (by simp [hT0, hL0, wQ, wI, hge, hia, hgD, hgD2, hgT, hgT2, hwm, hil, hil1, hlt]; exact ⟨rfl, rfl⟩) (by simp [hT0, hL0, wQ, wI, hge, hia, hgD, hgD2, hgT, hgT2, hwm, hil, hil1, hlt]; rfl) (by exact freeItems_spec g l hg hsm hf) rfl (by simp) (by simp; rfl) rfl) ?_
      refine RegD.addN 10 (by simp [hT0, hL0, wQ, wI, hge, hia, hgD, hgD2, hgT, hgT2, hwm, hil, hil1, hlt]; (first | (simp (disch := omega) only [wrapI, ltF, if_false]; done) | (simp (disch := omega) only [wrapI, ltF, if_false]; first | exact ⟨rfl, rfl⟩ | rfl) | skip); (first | done | exact ⟨rfl, rfl⟩ | rfl)) ?_
      refine RegD.nil ⟨by kernel_rfl, ?_⟩
      refine DW.ret ?_
      simp [Try.results3]
    · obtain ⟨hia, hil⟩ := at_ix hk0
      have hgD := rD_getD l _ hil
      have hgT := rD_getT l _ hil
      have htx : textAt l (itemIx l a.Path) = l[itemIx l a.Path].Text := by unfold textAt; rw [List.getElem?_eq_getElem hil]
      have hot := (hsm.2 _ (List.getElem_mem hil)).2
      have hit2 := hia
      have hil1 : (itemIx l a.Path : Int) < l.length := by omega
      rw [hdr] at hgD
      have hgD2 := two_get hgD
      have hge : (0 : Int) ≤ itemIx l a.Path := by omega
      have hb0 : (r1 == 0) = false := by simpa using hr0
      have hb1 : (r1 == 13) = false := by simpa using hr1
      refine DW.reg (by simp (maxSteps := 200000) (disch := first | omega | (simp; done) | fail) [wrapI, leT, leF, ltT, ltF, eqF, nleT, nleF, nltT, nltF, hT0, hL0, wQ, wI, hge, hia, hgD, hgD2, hil, hil1, hb0, hb1]; rfl) ?_
      refine DW.norm [(3, _), (4, _), (5, _), (7, _), (8, _), (51, _)] [(3, _), (4, _), (5, _), (7, _)] [] (by simp [hT0, hL0, wQ, wI, hge, hia, hgD, hgD2, hil, hil1, hb0, hb1]; exact ⟨rfl, rfl, rfl, rfl, rfl, rfl⟩) (by simp [hT0, hL0, wQ, wI, hge, hia, hgD, hgD2, hil, hil1, hb0, hb1]; exact ⟨rfl, rfl, rfl, rfl⟩) (by simp [hT0, hL0, wQ, wI, hge, hia, hgD, hgD2, hil, hil1, hb0, hb1]) (by rfl) ?_
      refine DW.condF (by simp (maxSteps := 200000) (disch := first | omega | (simp; done) | fail) [wrapI, leT, leF, ltT, ltF, eqF, nleT, nleF, nltT, nltF, hT0, hL0, wQ, wI, hge, hia, hgD, hgD2, hil, hil1, hb0, hb1]) ?_
      refine DW.skip ?_
      refine DW.seq ?_
      refine DW.drawn mixed (by kernel_rfl) ?_
      refine RegD.addN 2 (by simp [hT0, hL0, wQ, wI, hge, hia, hgD, hgD2, hil, hil1, hb0, hb1]; (first | (simp (disch := omega) only [wrapI, ltF, if_false]; done) | (simp (disch := omega) only [wrapI, ltF, if_false]; first | exact ⟨rfl, rfl⟩ | rfl) | skip); (first | done | exact ⟨rfl, rfl⟩ | rfl)) ?_
      refine RegD.cert (Cert.callA rfl (by simp) rfl (by decide) (by simp [hT0, hL0, wQ, wI, hge, hia, hgD, hgD2, hil, hil1, hb0, hb1]; exact ⟨rfl, rfl⟩) (by simp [hT0, hL0, wQ, wI, hge, hia, hgD, hgD2, hil, hil1, hb0, hb1]; rfl) (by exact freePages_spec g l hg hsm hf) rfl (by simp) (by simp; rfl) rfl) ?_
      refine RegD.addN 1 (by simp [hT0, hL0, wQ, wI, hge, hia, hgD, hgD2, hil, hil1, hb0, hb1]; (first | (simp (disch := omega) only [wrapI, ltF, if_false]; done) | (simp (disch := omega) only [wrapI, ltF, if_false]; first | exact ⟨rfl, rfl⟩ | rfl) | skip); (first | done | exact ⟨rfl, rfl⟩ | rfl)) ?_
      refine RegD.cert (Cert.callA rfl (by simp) rfl (by decide) (by simp [hT0, hL0, wQ, wI, hge, hia, hgD, hgD2, hil, hil1, hb0, hb1]; exact ⟨rfl, rfl⟩) (by simp [hT0, hL0, wQ, wI, hge, hia, hgD, hgD2, hil, hil1, hb0, hb1]; rfl) (by exact pagesIn_spec l hsm) rfl (by simp) (by simp; rfl) rfl) ?_
      refine RegD.addN 7 (by simp [hT0, hL0, wQ, wI, hge, hia, hgD, hgD2, hil, hil1, hb0, hb1]; (first | (simp (disch := omega) only [wrapI, ltF, if_false]; done) | (simp (disch := omega) only [wrapI, ltF, if_false]; first | exact ⟨rfl, rfl⟩ | rfl) | skip); (first | done | exact ⟨rfl, rfl⟩ | rfl)) ?_
      refine RegD.cert (Cert.callA rfl (by simp [hT0, hL0, wQ, wI, hge, hia, hgD, hgD2, hil, hil1, hb0, hb1]) rfl (by decide) (by simp [hT0, hL0, wQ, wI, hge, hia, hgD, hgD2, hil, hil1, hb0, hb1]; exact ⟨rfl, rfl⟩) (by simp [hT0, hL0, wQ, wI, hge, hia, hgD, hgD2, hil, hil1, hb0, hb1]; rfl) (by exact freeItems_spec g l hg hsm hf) rfl (by simp) (by simp; rfl) rfl) ?_
      refine RegD.addN 10 (by simp [hT0, hL0, wQ, wI, hge, hia, hgD, hgD2, hil, hil1, hb0, hb1]; (first | (simp (disch := omega) only [wrapI, ltF, if_false]; done) | (simp (disch := omega) only [wrapI, ltF, if_false]; first | exact ⟨rfl, rfl⟩ | rfl) | skip); (first | done | exact ⟨rfl, rfl⟩ | rfl)) ?_
      refine RegD.nil ⟨by kernel_rfl, ?_⟩
      refine DW.ret ?_
      simp [Try.results3]
end Go.Proofs.Ytciieaidbiejmaa.DM
