import Derived.Test.YtciieaidbiejmaaAS9
import Derived.Test.YtciieaidbiejmaaAS7
import Derived.Test.YtciieaidbiejmaaA2
import Derived.Test.YtciieaidbiejmaaX55
namespace Go.Proofs.Ytciieaidbiejmaa.DM
set_option linter.unusedVariables false
set_option linter.unusedSimpArgs false
set_option maxRecDepth 4000
set_option maxHeartbeats 8000000
theorem textWith_sz (old : ByteArray) (off : Int) (t : ByteArray) (h : old.size ≤ 1048576) : (textWith old off t).size ≤ 1048576 := by
  by_cases h1 : old.size ≤ 128
  · exact Nat.le_trans (textWith_size old off t h1) (by omega)
  · unfold textWith
    split
    · exact h
    split
    · exact h
    split
    · exact h
    rw [if_pos (by omega)]
    exact h
theorem textCut_sz (old : ByteArray) (n : Int) (h : old.size ≤ 1048576) : (textCut old n).size ≤ 1048576 := by
  unfold textCut
  split
  · exact h
  · rename_i hb
    have hb2 := inB_iff.1 (by simpa using hb : inB n 0 128 = true)
    split
    · rw [ByteArray.size_extract]; omega
    · rw [ByteArray.size_append, zeros_size]; omega
theorem brought_bd (n : Int) (m : Nat) : 0 ≤ brought n 0 m ∧ brought n 0 m ≤ m := by
  unfold brought
  split
  · omega
  · split
    · omega
    · split <;> omega
theorem fileM_spec (g : Geo) (l : List Item) (k : Nat) (a : Ask) (hs : Small l) (hk : k < l.length) (ht : a.Text.size ≤ 2 ^ 40) : Spec Try.prog 26 [raGeo g, raV l, ri k, raAsk a] [some 1, some 5] (dV (fileM g l k a).1 ++ Result.d (fileM g l k a).2) [raGeo g, raV l, ri k, raAsk a] := by
  refine Spec.intro Try.func26 rfl rfl Try.ntmps26 rfl (by simp) ?_
  have hl := hs.1
  have hd := rR_drop_Item l k hk
  have hk1 : (k : Int) < l.length := by omega
  have htz := (hs.2 _ (List.getElem_mem hk)).2
  have hta : textAt l k = l[k].Text := by unfold textAt; rw [List.getElem?_eq_getElem hk]
  rw [← hta] at htz
  have hdt : ∀ (A : List RT), [RT.sc (.string l[k].Path), RT.sc (.bool l[k].Dir), RT.sc (.string l[k].Text)] ++ A = [RT.sc (.string l[k].Path), RT.sc (.bool l[k].Dir), RT.sc (.string (textAt l k))] ++ A := fun A => by rw [hta]
  rw [show Item.r l[k] ++ rR (l.drop (k + 1)) = [RT.sc (.string l[k].Path), RT.sc (.bool l[k].Dir), RT.sc (.string (textAt l k))] ++ rR (l.drop (k + 1)) from hdt _] at hd
  clear hdt hta
  obtain ⟨old, hold⟩ : ∃ x, textAt l k = x := ⟨_, rfl⟩
  have hF : fileM g l k a = if a.Kind = 6 then (if a.Off < 0 ∨ a.Len < 0 then (l, failsR 12) else (l, ⟨0, readT old a.Off a.Len, 0, false, []⟩)) else if a.Kind = 7 then (if a.Off < 0 ∨ 128 - (a.Text.size : Int) < a.Off then (l, failsR 12) else if (textsM g l k (textWith old a.Off a.Text)).2 ≠ 0 then ((textsM g l k (textWith old a.Off a.Text)).1, failsR (textsM g l k (textWith old a.Off a.Text)).2) else ((textsM g l k (textWith old a.Off a.Text)).1, ⟨0, ByteArray.empty, a.Text.size, false, []⟩)) else if inB a.Len 0 128 = false then (l, failsR 12) else ((textsM g l k (textCut old a.Len)).1, failsR (textsM g l k (textCut old a.Len)).2) := by unfold fileM; rw [hold]
  rw [hold] at hd htz
  rw [hF]
  clear hF hold
  generalize l[k] = c at hd
  refine DW.seq ?_
  refine DW.reg (by simp (maxSteps := 200000) (disch := first | omega | (simp; done) | fail) [wrapI, leT, leF, ltT, ltF, eqF, nleT, nleF, nltT, nltF]; rfl) ?_
  refine DW.seq ?_
  refine DW.reg (by simp (maxSteps := 200000) (disch := first | omega | (simp; done) | fail) [wrapI, leT, leF, ltT, ltF, eqF, nleT, nleF, nltT, nltF, hd, hk1]; rfl) ?_
  refine DW.norm [(2, _), (4, _), (5, _), (7, _), (8, _), (9, _), (10, _)] [(4, _), (5, _), (7, _), (8, _), (9, _)] [] (by simp; exact ⟨rfl, rfl, rfl, rfl, rfl, rfl, rfl⟩) (by simp; exact ⟨rfl, rfl, rfl, rfl, rfl⟩) (by simp) (by rfl) ?_
  refine DW.seq ?_
  refine DW.seq ?_
  refine DW.reg (by simp (maxSteps := 200000) (disch := first | omega | (simp; done) | fail) [wrapI, leT, leF, ltT, ltF, eqF, nleT, nleF, nltT, nltF]; rfl) ?_
  refine DW.block ?_
  refine DW.seq ?_
  refine DW.reg (by simp (maxSteps := 200000) (disch := first | omega | (simp; done) | fail) [wrapI, leT, leF, ltT, ltF, eqF, nleT, nleF, nltT, nltF]; rfl) ?_
  refine DW.condB (by simp (maxSteps := 200000) (disch := first | omega | (simp; done) | fail) [wrapI, leT, leF, ltT, ltF, eqF, nleT, nleF, nltT, nltF]; exact rfl) (fun hc0 => ?_) (fun hc0 => ?_)
  · have h6 : a.Kind = 6 := by simpa using hc0
    rw [if_pos h6]
    refine DW.seq ?_
    refine DW.seq ?_
    have hsp : (a.Off < 0) ∨ (¬ (a.Off < 0) ∧ (a.Len < 0)) ∨ (¬ (a.Off < 0) ∧ ¬ (a.Len < 0)) := by omega
    rcases hsp with g0 | ⟨g0, g1⟩ | ⟨g0, g1⟩
    · rw [if_pos (show a.Off < 0 ∨ a.Len < 0 from .inl g0)]
      refine DW.reg (by simp (maxSteps := 200000) (disch := first | omega | (simp; done) | fail) [wrapI, leT, leF, ltT, ltF, eqF, nleT, nleF, nltT, nltF, g0]; rfl) ?_
      refine DW.condT (by simp (maxSteps := 200000) (disch := first | omega | (simp; done) | fail) [wrapI, leT, leF, ltT, ltF, eqF, nleT, nleF, nltT, nltF, g0]) ?_
      refine DW.seq ?_
      refine DW.regs ?_
      refine RegO.opN 1 (by simp [g0]; rfl) ?_
      refine RegO.step rfl (OpStep.callA rfl (by simp [g0]; exact ⟨rfl, rfl⟩) (by simp [g0]; rfl) (by exact same_spec l hl) (by simp) (by simp [g0]; rfl)) ?_
      refine RegO.step rfl (OpStep.callA rfl (by simp [g0]; exact ⟨rfl, rfl⟩) (by simp [g0]; rfl) (by exact fails_spec 12) (by simp) (by simp [g0]; rfl)) ?_
      refine RegO.opN 2 (by simp [g0]; rfl) ?_
      refine RegO.nil ?_
      refine DW.ret ?_
      simp [Try.results26, failsR]
    · rw [if_pos (show a.Off < 0 ∨ a.Len < 0 from .inr g1)]
      refine DW.reg (by simp (maxSteps := 200000) (disch := first | omega | (simp; done) | fail) [wrapI, leT, leF, ltT, ltF, eqF, nleT, nleF, nltT, nltF, g0, g1]; rfl) ?_
      refine DW.condT (by simp (maxSteps := 200000) (disch := first | omega | (simp; done) | fail) [wrapI, leT, leF, ltT, ltF, eqF, nleT, nleF, nltT, nltF, g0, g1]) ?_
      refine DW.seq ?_
      refine DW.regs ?_
      refine RegO.opN 1 (by simp [g0, g1]; rfl) ?_
      refine RegO.step rfl (OpStep.callA rfl (by simp [g0, g1]; exact ⟨rfl, rfl⟩) (by simp [g0, g1]; rfl) (by exact same_spec l hl) (by simp) (by simp [g0, g1]; rfl)) ?_
      refine RegO.step rfl (OpStep.callA rfl (by simp [g0, g1]; exact ⟨rfl, rfl⟩) (by simp [g0, g1]; rfl) (by exact fails_spec 12) (by simp) (by simp [g0, g1]; rfl)) ?_
      refine RegO.opN 2 (by simp [g0, g1]; rfl) ?_
      refine RegO.nil ?_
      refine DW.ret ?_
      simp [Try.results26, failsR]
    · rw [if_neg (show ¬ (a.Off < 0 ∨ a.Len < 0) from fun h => h.elim g0 g1)]
      have hbb := brought_bd a.Off old.size
      unfold readT
      obtain ⟨f, hf⟩ := Int.eq_ofNat_of_zero_le hbb.1
      have hbs := brought_spec a.Off 0 old.size
      rw [hf] at hbs hbb ⊢
      rw [Int.toNat_natCast]
      have wsf : IntKind.i64.wrap ((old.size : Int) - f) = (old.size : Int) - f := wr _ (by omega) (by omega)
      have hfs : f ≤ old.size := by omega
      have hfs1 : (f : Int) ≤ old.size := by omega
      refine DW.reg (by simp (maxSteps := 200000) (disch := first | omega | (simp; done) | fail) [wrapI, leT, leF, ltT, ltF, eqF, nleT, nleF, nltT, nltF, g0, g1, wsf]; rfl) ?_
      refine DW.condF (by simp (maxSteps := 200000) (disch := first | omega | (simp; done) | fail) [wrapI, leT, leF, ltT, ltF, eqF, nleT, nleF, nltT, nltF, g0, g1, wsf]) ?_
      refine DW.skip ?_
      refine DW.seq ?_
      refine DW.regs ?_
      refine RegO.opN 4 (by simp (maxSteps := 200000) (disch := first | omega | (simp; done) | fail) [wrapI, leT, leF, ltT, ltF, eqF, nleT, nleF, nltT, nltF, g0, g1, wsf]; rfl) ?_
      refine RegO.step rfl (OpStep.callA rfl (by simp (maxSteps := 200000) (disch := first | omega | (simp; done) | fail) [wrapI, leT, leF, ltT, ltF, eqF, nleT, nleF, nltT, nltF, g0, g1, wsf]; exact ⟨rfl, rfl⟩) (by simp (maxSteps := 200000) (disch := first | omega | (simp; done) | fail) [wrapI, leT, leF, ltT, ltF, eqF, nleT, nleF, nltT, nltF, g0, g1, wsf]; rfl) (by exact hbs) (by simp) (by simp (maxSteps := 200000) (disch := first | omega | (simp; done) | fail) [wrapI, leT, leF, ltT, ltF, eqF, nleT, nleF, nltT, nltF, g0, g1, wsf]; rfl)) ?_
      refine RegO.opN 1 (by simp (maxSteps := 200000) (disch := first | omega | (simp; done) | fail) [wrapI, leT, leF, ltT, ltF, eqF, nleT, nleF, nltT, nltF, g0, g1, wsf]; rfl) ?_
      refine RegO.nil ?_
      refine DW.seq ?_
      refine DW.reg (by simp (maxSteps := 200000) (disch := first | omega | (simp; done) | fail) [wrapI, leT, leF, ltT, ltF, eqF, nleT, nleF, nltT, nltF, g0, g1, wsf]; rfl) ?_
      refine DW.seq ?_
      refine DW.seq ?_
      refine DW.reg (by simp (maxSteps := 200000) (disch := first | omega | (simp; done) | fail) [wrapI, leT, leF, ltT, ltF, eqF, nleT, nleF, nltT, nltF, g0, g1, wsf]; rfl) ?_
      refine DW.condB (by simp (maxSteps := 200000) (disch := first | omega | (simp; done) | fail) [wrapI, leT, leF, ltT, ltF, eqF, nleT, nleF, nltT, nltF, g0, g1, wsf]; exact rfl) (fun hc2 => ?_) (fun hc2 => ?_)
      · have hlt : a.Len < (old.size : Int) - f := by simpa using hc2
        rw [if_pos hlt]
        obtain ⟨e, he⟩ := Int.eq_ofNat_of_zero_le (show 0 ≤ (f : Int) + a.Len by omega)
        have wfe : IntKind.i64.wrap ((f : Int) + a.Len) = (e : Int) := (wr _ (by omega) (by omega)).trans he
        rw [he, Int.toNat_natCast]
        have hfe : f ≤ e := by omega
        have hes : e ≤ old.size := by omega
        have hfe1 : (f : Int) ≤ e := by omega
        have hes1 : (e : Int) ≤ old.size := by omega
        refine DW.reg (by simp (maxSteps := 200000) (disch := first | omega | (simp; done) | fail) [wrapI, leT, leF, ltT, ltF, eqF, nleT, nleF, nltT, nltF, g0, g1, wsf, he, wfe, hfe, hes, hfe1, hes1]; rfl) ?_
        refine DW.seq ?_
        refine DW.drawnK (fun j => if j = 7 then [2, 3, 4, 5, 6] else []) (fun _ => [57, 58, 59, 60, 61]) (fun _ => (fun v => pzV 8 [0] (pzV 56 [0] v))) mixed (by kernel_rfl) ?_
        refine RegK.cert (cert_of_addF (by simp [g0, g1, wsf, he, wfe, hfe, hes, hfe1, hes1]; rfl)) (by intro j; by_cases h : j = 7 <;> simp [h]) ?_
        refine RegK.cert (Cert.callHA rfl (by simp) rfl (by decide) (by simp [g0, g1, wsf, he, wfe, hfe, hes, hfe1, hes1]; exact ⟨rfl, rfl⟩) (by simp [g0, g1, wsf, he, wfe, hfe, hes, hfe1, hes1]; rfl) (by exact same_spec l hl) rfl (by simp) (by simp) (by simp; rfl) rfl) (by intro j; by_cases h : j = 7 <;> simp [h]) ?_
        refine RegK.add (by simp [g0, g1, wsf, he, wfe, hfe, hes, hfe1, hes1]; rfl) (by simp) ?_
        refine RegK.add (by simp [g0, g1, wsf, he, wfe, hfe, hes, hfe1, hes1]; rfl) (by simp) ?_
        refine RegK.add (by simp [g0, g1, wsf, he, wfe, hfe, hes, hfe1, hes1]; rfl) (by simp) ?_
        refine RegK.add (by simp [g0, g1, wsf, he, wfe, hfe, hes, hfe1, hes1]; rfl) (by simp) ?_
        refine RegK.add (by simp [g0, g1, wsf, he, wfe, hfe, hes, hfe1, hes1]; rfl) (by simp) ?_
        refine RegK.swapS [8, 56] rfl (fun e' he => by
          have h8 := he 8 (by simp)
          have h56 := he 56 (by simp)
          simp [g0, g1, wsf, he, wfe, hfe, hes, hfe1, hes1] at h8 h56
          simp [h8, h56, g0, g1, wsf, he, wfe, hfe, hes, hfe1, hes1]; exact ⟨rfl, rfl⟩) (by simp) (by simp) (by simp) (by
          intro k hk d L R hp
          simp at hk
          rcases hk with rfl | rfl | rfl | rfl | rfl
          all_goals (simp at hp; obtain ⟨rfl, rfl, rfl⟩ := hp; simp)
        ) ?_
        refine RegK.heavyF (by simp) (by simp [g0, g1, wsf, he, wfe, hfe, hes, hfe1, hes1]; rfl) (by simp) ?_
        refine ⟨by kernel_rfl, ?_⟩
        refine DW.ghost (Ghost.wide 9 [4] 1 (by simp; rfl) (by simp)) ?_
        refine DW.ret ?_
        simp [Try.results26, failsR]
      · have hlt : ¬ a.Len < (old.size : Int) - f := by simpa using hc2
        rw [if_neg hlt, Int.toNat_natCast]
        refine DW.skip ?_
        refine DW.seq ?_
        refine DW.drawnK (fun j => if j = 7 then [2, 3, 4, 5, 6] else []) (fun _ => [57, 58, 59, 60, 61]) (fun _ => (fun v => pzV 8 [0] (pzV 56 [0] v))) mixed (by kernel_rfl) ?_
        refine RegK.cert (cert_of_addF (by simp [g0, g1, wsf, hfs, hfs1]; rfl)) (by intro j; by_cases h : j = 7 <;> simp [h]) ?_
        refine RegK.cert (Cert.callHA rfl (by simp) rfl (by decide) (by simp [g0, g1, wsf, hfs, hfs1]; exact ⟨rfl, rfl⟩) (by simp [g0, g1, wsf, hfs, hfs1]; rfl) (by exact same_spec l hl) rfl (by simp) (by simp) (by simp; rfl) rfl) (by intro j; by_cases h : j = 7 <;> simp [h]) ?_
        refine RegK.add (by simp [g0, g1, wsf, hfs, hfs1]; rfl) (by simp) ?_
        refine RegK.add (by simp [g0, g1, wsf, hfs, hfs1]; rfl) (by simp) ?_
        refine RegK.add (by simp [g0, g1, wsf, hfs, hfs1]; rfl) (by simp) ?_
        refine RegK.add (by simp [g0, g1, wsf, hfs, hfs1]; rfl) (by simp) ?_
        refine RegK.add (by simp [g0, g1, wsf, hfs, hfs1]; rfl) (by simp) ?_
        refine RegK.swapS [8, 56] rfl (fun e' he => by
          have h8 := he 8 (by simp)
          have h56 := he 56 (by simp)
          simp [g0, g1, wsf, hfs, hfs1] at h8 h56
          simp [h8, h56, g0, g1, wsf, hfs, hfs1]; exact ⟨rfl, rfl⟩) (by simp) (by simp) (by simp) (by
          intro k hk d L R hp
          simp at hk
          rcases hk with rfl | rfl | rfl | rfl | rfl
          all_goals (simp at hp; obtain ⟨rfl, rfl, rfl⟩ := hp; simp)
        ) ?_
        refine RegK.heavyF (by simp) (by simp [g0, g1, wsf, hfs, hfs1]; rfl) (by simp) ?_
        refine ⟨by kernel_rfl, ?_⟩
        refine DW.ghost (Ghost.wide 9 [4] 1 (by simp; rfl) (by simp)) ?_
        refine DW.ret ?_
        simp [Try.results26, failsR]
  · have h6 : ¬ a.Kind = 6 := by simpa using hc0
    rw [if_neg h6]
    refine DW.seq ?_
    refine DW.reg (by simp (maxSteps := 200000) (disch := first | omega | (simp; done) | fail) [wrapI, leT, leF, ltT, ltF, eqF, nleT, nleF, nltT, nltF]; rfl) ?_
    refine DW.condB (by simp (maxSteps := 200000) (disch := first | omega | (simp; done) | fail) [wrapI, leT, leF, ltT, ltF, eqF, nleT, nleF, nltT, nltF]; exact rfl) (fun hc1 => ?_) (fun hc1 => ?_)
    · have h7 : a.Kind = 7 := by simpa using hc1
      rw [if_pos h7]
      refine DW.seq ?_
      refine DW.seq ?_
      have wt : IntKind.i64.wrap (128 - (a.Text.size : Int)) = 128 - (a.Text.size : Int) := wr _ (by omega) (by omega)
      have hsp : (a.Off < 0) ∨ (¬ (a.Off < 0) ∧ (128 - (a.Text.size : Int) < a.Off)) ∨ (¬ (a.Off < 0) ∧ ¬ (128 - (a.Text.size : Int) < a.Off)) := by omega
      rcases hsp with g0 | ⟨g0, g1⟩ | ⟨g0, g1⟩
      · rw [if_pos (show a.Off < 0 ∨ 128 - (a.Text.size : Int) < a.Off from .inl g0)]
        refine DW.reg (by simp (maxSteps := 200000) (disch := first | omega | (simp; done) | fail) [wrapI, leT, leF, ltT, ltF, eqF, nleT, nleF, nltT, nltF, g0, wt]; rfl) ?_
        refine DW.condT (by simp (maxSteps := 200000) (disch := first | omega | (simp; done) | fail) [wrapI, leT, leF, ltT, ltF, eqF, nleT, nleF, nltT, nltF, g0]) ?_
        refine DW.seq ?_
        refine DW.regs ?_
        refine RegO.opN 1 (by simp [g0]; rfl) ?_
        refine RegO.step rfl (OpStep.callA rfl (by simp [g0]; exact ⟨rfl, rfl⟩) (by simp [g0]; rfl) (by exact same_spec l hl) (by simp) (by simp [g0]; rfl)) ?_
        refine RegO.step rfl (OpStep.callA rfl (by simp [g0]; exact ⟨rfl, rfl⟩) (by simp [g0]; rfl) (by exact fails_spec 12) (by simp) (by simp [g0]; rfl)) ?_
        refine RegO.opN 2 (by simp [g0]; rfl) ?_
        refine RegO.nil ?_
        refine DW.ret ?_
        simp [Try.results26, failsR]
      · rw [if_pos (show a.Off < 0 ∨ 128 - (a.Text.size : Int) < a.Off from .inr g1)]
        refine DW.reg (by simp (maxSteps := 200000) (disch := first | omega | (simp; done) | fail) [wrapI, leT, leF, ltT, ltF, eqF, nleT, nleF, nltT, nltF, g0, g1, wt]; rfl) ?_
        refine DW.condT (by simp (maxSteps := 200000) (disch := first | omega | (simp; done) | fail) [wrapI, leT, leF, ltT, ltF, eqF, nleT, nleF, nltT, nltF, g0, g1]) ?_
        refine DW.seq ?_
        refine DW.regs ?_
        refine RegO.opN 1 (by simp [g0, g1]; rfl) ?_
        refine RegO.step rfl (OpStep.callA rfl (by simp [g0, g1]; exact ⟨rfl, rfl⟩) (by simp [g0, g1]; rfl) (by exact same_spec l hl) (by simp) (by simp [g0, g1]; rfl)) ?_
        refine RegO.step rfl (OpStep.callA rfl (by simp [g0, g1]; exact ⟨rfl, rfl⟩) (by simp [g0, g1]; rfl) (by exact fails_spec 12) (by simp) (by simp [g0, g1]; rfl)) ?_
        refine RegO.opN 2 (by simp [g0, g1]; rfl) ?_
        refine RegO.nil ?_
        refine DW.ret ?_
        simp [Try.results26, failsR]
      · rw [if_neg (show ¬ (a.Off < 0 ∨ 128 - (a.Text.size : Int) < a.Off) from fun h => h.elim g0 g1)]
        have htcs := textWith_sz old a.Off a.Text htz
        have hcut := textWith_spec old a.Off a.Text ht
        obtain ⟨T1, hT1⟩ : ∃ x, textWith old a.Off a.Text = x := ⟨_, rfl⟩
        rw [hT1] at htcs hcut ⊢
        have hts := textsM_spec g l k T1 hs hk htcs
        obtain ⟨tx, tc, htx⟩ : ∃ tx tc, textsM g l k T1 = (tx, tc) := ⟨_, _, rfl⟩
        rw [htx] at hts ⊢
        simp only at hts ⊢
        have hxT := rD_take_Item tx
        have hxl := rD_len_Item tx
        refine DW.reg (by simp (maxSteps := 200000) (disch := first | omega | (simp; done) | fail) [wrapI, leT, leF, ltT, ltF, eqF, nleT, nleF, nltT, nltF, g0, g1, hxT, hxl, wt]; rfl) ?_
        refine DW.condF (by simp (maxSteps := 200000) (disch := first | omega | (simp; done) | fail) [wrapI, leT, leF, ltT, ltF, eqF, nleT, nleF, nltT, nltF, g0, g1, hxT, hxl]) ?_
        refine DW.skip ?_
        refine DW.seq ?_
        refine DW.drawnG (fun j => if j = 14 then [12] else []) (fun _ => [91]) (fun _ => (fun v => pzV 13 [0] (pzV 89 [0] v))) (by intro i j j' h h'; by_cases e : j = 14 <;> by_cases e' : j' = 14 <;> simp [e, e'] at h h' ⊢) (fun _ v => pzV_idem _ _ _ _ v) mixed (by kernel_rfl) ?_
        refine RegG.cert (cert_of_addF (by simp [g0, g1, hxT, hxl]; rfl)) (by intro j; by_cases h : j = 14 <;> simp [h]) ?_
        refine RegG.cert (cert_of_addF (by simp [g0, g1, hxT, hxl]; rfl)) (by intro j; by_cases h : j = 14 <;> simp [h]) ?_
        refine RegG.cert (cert_of_addF (by simp [g0, g1, hxT, hxl]; rfl)) (by intro j; by_cases h : j = 14 <;> simp [h]) ?_
        refine RegG.cert (cert_of_addF (by simp [g0, g1, hxT, hxl]; rfl)) (by intro j; by_cases h : j = 14 <;> simp [h]) ?_
        refine RegG.cert (cert_of_addF (by simp [g0, g1, hxT, hxl]; rfl)) (by intro j; by_cases h : j = 14 <;> simp [h]) ?_
        refine RegG.cert (cert_of_addF (by simp [g0, g1, hxT, hxl]; rfl)) (by intro j; by_cases h : j = 14 <;> simp [h]) ?_
        refine RegG.cert (cert_of_addF (by simp [g0, g1, hxT, hxl]; rfl)) (by intro j; by_cases h : j = 14 <;> simp [h]) ?_
        refine RegG.cert (cert_of_addF (by simp [g0, g1, hxT, hxl]; rfl)) (by intro j; by_cases h : j = 14 <;> simp [h]) ?_
        refine RegG.cert (Cert.callA rfl (by simp) rfl (by decide) (by simp [g0, g1, hxT, hxl]; exact ⟨rfl, rfl⟩) (by simp [g0, g1, hxT, hxl]; rfl) (by exact hcut) rfl (by simp) (by simp; rfl) rfl) (by intro j; by_cases h : j = 14 <;> simp [h]) ?_
        refine RegG.cert (Cert.callHA rfl (by simp) rfl (by decide) (by simp [g0, g1, hxT, hxl]; exact ⟨rfl, rfl⟩) (by simp [g0, g1, hxT, hxl]; rfl) (by exact hts) rfl (by simp) (by simp) (by simp; rfl) rfl) (by intro j; by_cases h : j = 14 <;> simp [h]) ?_
        refine RegG.cert (cert_of_addF (by simp [g0, g1, hxT, hxl]; rfl)) (by intro j; by_cases h : j = 14 <;> simp [h]) ?_
        refine RegG.cert (cert_of_addF (by simp [g0, g1, hxT, hxl]; rfl)) (by intro j; by_cases h : j = 14 <;> simp [h]) ?_
        refine RegG.extract rfl rfl rfl (by decide) (by simp) (by simp; rfl) (by first | (simp; done) | (simp; rfl)) (by first | (simp; done) | (simp; exact ⟨_, rfl, rfl⟩)) ?_
        refine RegG.cert (Cert.alloc rfl rfl rfl (by decide) (by simp; rfl) (by rfl) (by decide) (by simp)) (by intro j; by_cases h : j = 14 <;> simp [h]) ?_
        refine RegG.swapS [13, 90] rfl (fun e' he => by
          have h13 := he 13 (by simp)
          have h90 := he 90 (by simp)
          simp [g0, g1, hxT, hxl] at h13 h90
          simp [h13, h90, g0, g1, hxT, hxl]; exact ⟨rfl, rfl⟩) (by simp) (by simp) (by simp) (by
          intro k hk d L R hp
          simp at hk
          subst hk
          all_goals (simp at hp; obtain ⟨rfl, rfl, rfl⟩ := hp; simp)
        ) ?_
        refine RegG.cert (cert_of_addF (by simp [g0, g1, hxT, hxl]; rfl)) (by intro j; by_cases h : j = 14 <;> simp [h]) ?_
        refine ⟨by kernel_rfl, ?_⟩
        refine DW.norm [(7, _), (8, _), (9, _), (13, _), (14, _)] [(4, _), (5, _), (7, _), (8, _), (9, _), (13, _)] [] (by simp [g0, g1, hxT, hxl]; exact ⟨rfl, rfl, rfl, rfl, rfl⟩) (by simp [g0, g1, hxT, hxl]; exact ⟨rfl, rfl, rfl, rfl, rfl, rfl⟩) (by simp [g0, g1, hxT, hxl]) (by rfl) ?_
        refine DW.seq ?_
        refine DW.seq ?_
        refine DW.reg (by simp (maxSteps := 200000) (disch := first | omega | (simp; done) | fail) [wrapI, leT, leF, ltT, ltF, eqF, nleT, nleF, nltT, nltF, g0, g1, hxT, hxl]; rfl) ?_
        refine DW.condB (by simp (maxSteps := 200000) (disch := first | omega | (simp; done) | fail) [wrapI, leT, leF, ltT, ltF, eqF, nleT, nleF, nltT, nltF, g0, g1, hxT, hxl]; exact rfl) (fun hc3 => ?_) (fun hc3 => ?_)
        · have hcd : tc ≠ 0 := by simpa using hc3
          rw [if_pos hcd]
          refine DW.seq ?_
          refine DW.drawn mixed (by kernel_rfl) ?_
          refine RegD.addN 2 (by simp [g0, g1, hxT, hxl]; (first | (simp (disch := omega) only [wrapI, ltF, if_false]; done) | (simp (disch := omega) only [wrapI, ltF, if_false]; first | exact ⟨rfl, rfl⟩ | rfl) | skip); (first | done | exact ⟨rfl, rfl⟩ | rfl)) ?_
          refine RegD.cert (Cert.callHA rfl (by simp) rfl (by decide) (by simp [g0, g1, hxT, hxl]; exact ⟨rfl, rfl⟩) (by simp [g0, g1, hxT, hxl]; rfl) (by exact fails_spec tc) rfl (by simp) (by simp) (by simp; rfl) rfl) ?_
          refine RegD.heavyF (by simp) (by simp [g0, g1, hxT, hxl]; rfl) ?_
          refine RegD.heavyF (by simp) (by simp [g0, g1, hxT, hxl]; rfl) ?_
          refine RegD.nil ⟨by kernel_rfl, ?_⟩
          refine DW.ret ?_
          simp [Try.results26, failsR]
        · have hcd : ¬ tc ≠ 0 := by simpa using hc3
          rw [if_neg hcd]
          refine DW.skip ?_
          refine DW.seq ?_
          refine DW.drawnK (fun j => if j = 5 then [1, 2, 3, 4] else []) (fun _ => [98, 99, 100, 101]) (fun _ => (fun v => pzV 8 [0] (pzV 13 [0] v))) mixed (by kernel_rfl) ?_
          refine RegK.cert (cert_of_addF (by simp [g0, g1, hxT, hxl]; rfl)) (by intro j; by_cases h : j = 5 <;> simp [h]) ?_
          refine RegK.add (by simp [g0, g1, hxT, hxl]; rfl) (by simp) ?_
          refine RegK.add (by simp [g0, g1, hxT, hxl]; rfl) (by simp) ?_
          refine RegK.add (by simp [g0, g1, hxT, hxl]; rfl) (by simp) ?_
          refine RegK.add (by simp [g0, g1, hxT, hxl]; rfl) (by simp) ?_
          refine RegK.swapS [8, 97] rfl (fun e' he => by
            have h8 := he 8 (by simp)
            have h97 := he 97 (by simp)
            simp [g0, g1, hxT, hxl] at h8 h97
            simp [h8, h97, g0, g1, hxT, hxl]; exact ⟨rfl, rfl⟩) (by simp) (by simp) (by simp) (by
            intro k hk d L R hp
            simp at hk
            rcases hk with rfl | rfl | rfl | rfl
            all_goals (simp at hp; obtain ⟨rfl, rfl, rfl⟩ := hp; simp)
          ) ?_
          refine RegK.heavyF (by simp) (by simp [g0, g1, hxT, hxl]; rfl) (by simp) ?_
          refine ⟨by kernel_rfl, ?_⟩
          refine DW.ghost (Ghost.wide 9 [4] 1 (by simp; rfl) (by simp)) ?_
          refine DW.ret ?_
          simp [Try.results26, failsR]
    · have h7 : ¬ a.Kind = 7 := by simpa using hc1
      rw [if_neg h7]
      refine DW.skip ?_
      refine DW.seq ?_
      refine DW.seq ?_
      refine DW.regs ?_
      refine RegO.opN 2 (by simp (maxSteps := 200000) (disch := first | omega | (simp; done) | fail) [wrapI, leT, leF, ltT, ltF, eqF, nleT, nleF, nltT, nltF]; rfl) ?_
      refine RegO.step rfl (OpStep.callA rfl (by simp (maxSteps := 200000) (disch := first | omega | (simp; done) | fail) [wrapI, leT, leF, ltT, ltF, eqF, nleT, nleF, nltT, nltF]; exact ⟨rfl, rfl⟩) (by simp (maxSteps := 200000) (disch := first | omega | (simp; done) | fail) [wrapI, leT, leF, ltT, ltF, eqF, nleT, nleF, nltT, nltF]; rfl) (by exact l01In_spec a.Len 0 128) (by simp) (by simp (maxSteps := 200000) (disch := first | omega | (simp; done) | fail) [wrapI, leT, leF, ltT, ltF, eqF, nleT, nleF, nltT, nltF]; rfl)) ?_
      refine RegO.opN 1 (by simp (maxSteps := 200000) (disch := first | omega | (simp; done) | fail) [wrapI, leT, leF, ltT, ltF, eqF, nleT, nleF, nltT, nltF]; rfl) ?_
      refine RegO.nil ?_
      refine DW.condB (by simp (maxSteps := 200000) (disch := first | omega | (simp; done) | fail) [wrapI, leT, leF, ltT, ltF, eqF, nleT, nleF, nltT, nltF]; exact rfl) (fun hc2 => ?_) (fun hc2 => ?_)
      · have hin : inB a.Len 0 128 = false := by simpa using hc2
        rw [if_pos hin]
        refine DW.seq ?_
        refine DW.regs ?_
        refine RegO.opN 1 (by simp; rfl) ?_
        refine RegO.step rfl (OpStep.callA rfl (by simp; exact ⟨rfl, rfl⟩) (by simp; rfl) (by exact same_spec l hl) (by simp) (by simp; rfl)) ?_
        refine RegO.step rfl (OpStep.callA rfl (by simp; exact ⟨rfl, rfl⟩) (by simp; rfl) (by exact fails_spec 12) (by simp) (by simp; rfl)) ?_
        refine RegO.opN 2 (by simp; rfl) ?_
        refine RegO.nil ?_
        refine DW.ret ?_
        simp [Try.results26, failsR]
      · have hin : ¬ inB a.Len 0 128 = false := by simpa using hc2
        rw [if_neg hin]
        have htcs := textCut_sz old a.Len htz
        have hcut := textCut_spec old a.Len
        obtain ⟨T1, hT1⟩ : ∃ x, textCut old a.Len = x := ⟨_, rfl⟩
        rw [hT1] at htcs hcut ⊢
        have hts := textsM_spec g l k T1 hs hk htcs
        obtain ⟨tx, tc, htx⟩ : ∃ tx tc, textsM g l k T1 = (tx, tc) := ⟨_, _, rfl⟩
        rw [htx] at hts ⊢
        simp only at hts ⊢
        have hxT := rD_take_Item tx
        have hxl := rD_len_Item tx
        refine DW.skip ?_
        refine DW.seq ?_
        refine DW.drawnG (fun j => if j = 12 then [10] else []) (fun _ => [119]) (fun _ => (fun v => pzV 15 [0] (pzV 117 [0] v))) (by intro i j j' h h'; by_cases e : j = 12 <;> by_cases e' : j' = 12 <;> simp [e, e'] at h h' ⊢) (fun _ v => pzV_idem _ _ _ _ v) mixed (by kernel_rfl) ?_
        refine RegG.cert (cert_of_addF (by simp [hxT, hxl]; rfl)) (by intro j; by_cases h : j = 12 <;> simp [h]) ?_
        refine RegG.cert (cert_of_addF (by simp [hxT, hxl]; rfl)) (by intro j; by_cases h : j = 12 <;> simp [h]) ?_
        refine RegG.cert (cert_of_addF (by simp [hxT, hxl]; rfl)) (by intro j; by_cases h : j = 12 <;> simp [h]) ?_
        refine RegG.cert (cert_of_addF (by simp [hxT, hxl]; rfl)) (by intro j; by_cases h : j = 12 <;> simp [h]) ?_
        refine RegG.cert (cert_of_addF (by simp [hxT, hxl]; rfl)) (by intro j; by_cases h : j = 12 <;> simp [h]) ?_
        refine RegG.cert (cert_of_addF (by simp [hxT, hxl]; rfl)) (by intro j; by_cases h : j = 12 <;> simp [h]) ?_
        refine RegG.cert (Cert.callA rfl (by simp) rfl (by decide) (by simp [hxT, hxl]; exact ⟨rfl, rfl⟩) (by simp [hxT, hxl]; rfl) (by exact hcut) rfl (by simp) (by simp; rfl) rfl) (by intro j; by_cases h : j = 12 <;> simp [h]) ?_
        refine RegG.cert (Cert.callHA rfl (by simp) rfl (by decide) (by simp [hxT, hxl]; exact ⟨rfl, rfl⟩) (by simp [hxT, hxl]; rfl) (by exact hts) rfl (by simp) (by simp) (by simp; rfl) rfl) (by intro j; by_cases h : j = 12 <;> simp [h]) ?_
        refine RegG.cert (cert_of_addF (by simp [hxT, hxl]; rfl)) (by intro j; by_cases h : j = 12 <;> simp [h]) ?_
        refine RegG.cert (cert_of_addF (by simp [hxT, hxl]; rfl)) (by intro j; by_cases h : j = 12 <;> simp [h]) ?_
        refine RegG.extract rfl rfl rfl (by decide) (by simp) (by simp; rfl) (by first | (simp; done) | (simp; rfl)) (by first | (simp; done) | (simp; exact ⟨_, rfl, rfl⟩)) ?_
        refine RegG.cert (Cert.alloc rfl rfl rfl (by decide) (by simp; rfl) (by rfl) (by decide) (by simp)) (by intro j; by_cases h : j = 12 <;> simp [h]) ?_
        refine RegG.swapS [15, 118] rfl (fun e' he => by
          have h15 := he 15 (by simp)
          have h118 := he 118 (by simp)
          simp [hxT, hxl] at h15 h118
          simp [h15, h118, hxT, hxl]; exact ⟨rfl, rfl⟩) (by simp) (by simp) (by simp) (by
          intro k hk d L R hp
          simp at hk
          subst hk
          all_goals (simp at hp; obtain ⟨rfl, rfl, rfl⟩ := hp; simp)
        ) ?_
        refine RegG.cert (cert_of_addF (by simp [hxT, hxl]; rfl)) (by intro j; by_cases h : j = 12 <;> simp [h]) ?_
        refine ⟨by kernel_rfl, ?_⟩
        refine DW.norm [(8, _), (9, _), (15, _), (16, _)] [(4, _), (5, _), (7, _), (8, _), (9, _), (15, _)] [] (by simp [hxT, hxl]; exact ⟨rfl, rfl, rfl, rfl⟩) (by simp [hxT, hxl]; exact ⟨rfl, rfl, rfl, rfl, rfl, rfl⟩) (by simp [hxT, hxl]) (by rfl) ?_
        refine DW.seq ?_
        refine DW.drawn mixed (by kernel_rfl) ?_
        refine RegD.addN 2 (by simp [hxT, hxl]; (first | (simp (disch := omega) only [wrapI, ltF, if_false]; done) | (simp (disch := omega) only [wrapI, ltF, if_false]; first | exact ⟨rfl, rfl⟩ | rfl) | skip); (first | done | exact ⟨rfl, rfl⟩ | rfl)) ?_
        refine RegD.cert (Cert.callHA rfl (by simp) rfl (by decide) (by simp [hxT, hxl]; exact ⟨rfl, rfl⟩) (by simp [hxT, hxl]; rfl) (by exact fails_spec tc) rfl (by simp) (by simp) (by simp; rfl) rfl) ?_
        refine RegD.heavyF (by simp) (by simp [hxT, hxl]; rfl) ?_
        refine RegD.heavyF (by simp) (by simp [hxT, hxl]; rfl) ?_
        refine RegD.nil ⟨by kernel_rfl, ?_⟩
        refine DW.ret ?_
        simp [Try.results26, failsR]
end Go.Proofs.Ytciieaidbiejmaa.DM
