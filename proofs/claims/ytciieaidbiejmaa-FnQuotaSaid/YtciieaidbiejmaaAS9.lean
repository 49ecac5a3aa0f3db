import Derived.Test.YtciieaidbiejmaaAS8
import Derived.Test.YtciieaidbiejmaaAS4
namespace Go.Proofs.Ytciieaidbiejmaa.DM
set_option linter.unusedVariables false
set_option linter.unusedSimpArgs false
set_option maxRecDepth 4000
set_option maxHeartbeats 8000000
theorem rD_split (l : List Item) (k : Nat) (hk : k < l.length) : ∃ A B : List D, A.length = k * 3 ∧ rD l = A ++ ([T.sc (.string l[k].Path), T.sc (.bool l[k].Dir), T.sc (.string l[k].Text)] ++ B) ∧ ∀ x : Item, rD (l.set k x) = A ++ ([T.sc (.string x.Path), T.sc (.bool x.Dir), T.sc (.string x.Text)] ++ B) := by
  refine ⟨rD (l.take k), rD (l.drop (k + 1)), by rw [rD_len_Item, List.length_take]; omega, ?_, fun x => ?_⟩
  · conv => lhs; rw [← List.take_append_drop k l, List.drop_eq_getElem_cons hk, rD_append, rD_cons]
    rfl
  · rw [List.set_eq_take_append_cons_drop, if_pos hk, rD_append, rD_cons]; rfl
theorem app_at {A B : List D} {n : Nat} (h : A.length = n) (j : Nat) : (A ++ B)[n + j]? = B[j]? := by rw [List.getElem?_append_right (by omega), h]; congr 1; omega
theorem app_st {A B : List D} {n : Nat} (h : A.length = n) (j : Nat) (x : D) : (A ++ B).set (n + j) x = A ++ B.set j x := by rw [List.set_append_right _ _ (by omega), h]; congr 2; omega
theorem app_at0 {A B : List D} {n : Nat} (h : A.length = n) : (A ++ B)[n]? = B[0]? := app_at h 0
theorem app_st0 {A B : List D} {n : Nat} (h : A.length = n) (x : D) : (A ++ B).set n x = A ++ B.set 0 x := app_st h 0 x
theorem Small.set {l : List Item} (h : Small l) (k : Nat) (hk : k < l.length) {t : ByteArray} (ht : t.size ≤ 1048576) : Small (setT l k t) := by
  rw [setT_some hk]
  refine ⟨by rw [List.length_set]; exact h.1, fun x hx => ?_⟩
  rcases List.mem_or_eq_of_mem_set hx with hx | rfl
  · exact h.2 x hx
  · exact ⟨(h.2 _ (List.getElem_mem hk)).1, ht⟩
theorem textsM_spec (g : Geo) (l : List Item) (k : Nat) (t : ByteArray) (hs : Small l) (hk : k < l.length) (ht : t.size ≤ 1048576) : Spec Try.prog 45 [raGeo g, raV l, ri k, rs t] [some 1, none] (dV (textsM g l k t).1 ++ [di (textsM g l k t).2]) [raGeo g, raV l, ri k, rs t] := by
  refine Spec.intro Try.func45 rfl rfl Try.ntmps45 rfl (by simp) ?_
  have hl := hs.1
  have hd := rR_drop_Item l k hk
  have hk1 : (k : Int) < l.length := by omega
  have hst := setT_some hk t
  have hsm := hs.set k hk ht
  have hps := pagesIn_spec (setT l k t) hsm
  have hlen := setT_len l k t
  obtain ⟨RA, RB, hRA, hRs, hRx⟩ := rD_split l k hk
  have hset := hRx ⟨l[k].Path, l[k].Dir, t⟩
  rw [← hst] at hset
  clear hRx
  simp only [raV, hlen] at hps
  generalize l[k] = c at *
  obtain ⟨l2, hl2⟩ : ∃ x, setT l k t = x := ⟨_, rfl⟩
  have htm : textsM g l k t = if g.Quota < pagesIn l2 then (l, 13) else (l2, 0) := by unfold textsM; rw [hl2]
  rw [hl2] at hps hlen hset
  have hset2 : RA ++ (T.sc (.string c.Path) :: T.sc (.bool c.Dir) :: T.sc (.string t) :: RB) = rD l2 := hset.symm
  have hl3 : (rD l2).length = l.length * 3 := by rw [rD_len_Item, hlen]
  have hl4 : List.take (l.length * 3) (rD l2) = rD l2 := List.take_of_length_le (by omega)
  rw [htm]
  clear htm hst hl2 hsm
  refine DW.seq ?_
  refine DW.reg (by simp (maxSteps := 200000) (disch := first | omega | (simp; done) | fail) [wrapI, leT, leF, ltT, ltF, eqF, nleT, nleF, nltT, nltF]; rfl) ?_
  refine DW.seq ?_
  refine DW.reg (by simp [hd, hk1]; rfl) ?_
  refine DW.norm [(2, _), (3, _), (4, _), (5, _), (8, _), (10, _)] [(4, _), (5, _), (8, _), (10, _)] [] (by simp; exact ⟨rfl, rfl, rfl, rfl, rfl, rfl⟩) (by simp; exact ⟨rfl, rfl, rfl, rfl⟩) (by simp) (by rfl) ?_
  refine DW.seq ?_
  refine DW.reg (by simp; rfl) ?_
  refine DW.norm [(2, _), (4, _), (5, _), (8, _), (10, _)] [(4, _), (5, _), (8, _), (10, _)] [] (by simp; exact ⟨rfl, rfl, rfl, rfl, rfl⟩) (by simp; exact ⟨rfl, rfl, rfl, rfl⟩) (by simp) (by rfl) ?_
  refine DW.seq ?_
  refine DW.regs ?_
  refine RegO.opN 1 (by simp; rfl) ?_
  refine RegO.step rfl (OpStep.callA rfl (by simp; exact ⟨rfl, rfl⟩) (by simp; rfl) (by exact same_spec l hl) (by simp) (by simp; rfl)) ?_
  refine RegO.opN 2 (by simp; rfl) ?_
  refine RegO.nil ?_
  refine DW.norm [(2, _), (4, _), (5, _), (8, _), (10, _), (11, _)] [(4, _), (5, _), (8, _), (10, _), (11, _)] [] (by simp; exact ⟨rfl, rfl, rfl, rfl, rfl, rfl⟩) (by simp; exact ⟨rfl, rfl, rfl, rfl, rfl⟩) (by simp) (by rfl) ?_
  refine DW.seq ?_
  refine DW.reg (by simp [hk1, hRs, app_at hRA, app_at0 hRA, app_st hRA, app_st0 hRA, Nat.add_assoc]; rfl) ?_
  refine DW.norm [(4, _), (5, _), (8, _), (11, _)] [(4, _), (5, _), (8, _), (10, _), (11, _)] [] (by simp [hRs, app_at hRA, app_at0 hRA, app_st hRA, app_st0 hRA, Nat.add_assoc, hset2, hlen]; exact ⟨rfl, rfl, rfl, rfl⟩) (by simp [hRs, app_at hRA, app_at0 hRA, app_st hRA, app_st0 hRA, Nat.add_assoc, hset2, hlen]; exact ⟨rfl, rfl, rfl, rfl, rfl⟩) (by simp [hRs, app_at hRA, app_at0 hRA, app_st hRA, app_st0 hRA, Nat.add_assoc, hset2, hlen]) (by rfl) ?_
  refine DW.seq ?_
  refine DW.seq ?_
  refine DW.drawn mixed (by kernel_rfl) ?_
  refine RegD.addN 1 (by simp [hl3, hl4]; (first | (simp (disch := omega) only [wrapI, ltF, if_false]; done) | (simp (disch := omega) only [wrapI, ltF, if_false]; first | exact ⟨rfl, rfl⟩ | rfl) | skip); (first | done | exact ⟨rfl, rfl⟩ | rfl)) ?_
  refine RegD.cert (Cert.callA rfl (by simp) rfl (by decide) (by simp [hl3, hl4]; exact ⟨rfl, rfl⟩) (by simp [hl3, hl4]; rfl) (by exact hps) rfl (by simp) (by simp; rfl) rfl) ?_
  refine RegD.addN 3 (by simp [hl3, hl4]; (first | (simp (disch := omega) only [wrapI, ltF, if_false]; done) | (simp (disch := omega) only [wrapI, ltF, if_false]; first | exact ⟨rfl, rfl⟩ | rfl) | skip); (first | done | exact ⟨rfl, rfl⟩ | rfl)) ?_
  refine RegD.nil ⟨by kernel_rfl, ?_⟩
  refine DW.norm [(5, _), (8, _), (11, _), (30, _)] [(4, _), (5, _), (8, _), (10, _), (11, _)] [] (by simp [hl3, hl4]; exact ⟨rfl, rfl, rfl, rfl⟩) (by simp [hl3, hl4]; exact ⟨rfl, rfl, rfl, rfl, rfl⟩) (by simp [hl3, hl4]) (by rfl) ?_
  refine DW.condB (by simp (maxSteps := 200000) (disch := first | omega | (simp; done) | fail) [wrapI, leT, leF, ltT, ltF, eqF, nleT, nleF, nltT, nltF]; exact rfl) (fun hc0 => ?_) (fun hc0 => ?_)
  · have hq : g.Quota < (pagesIn l2 : Int) := by simpa using hc0
    rw [if_pos hq]
    refine DW.seq ?_
    refine DW.regs ?_
    refine RegO.opN 1 (by simp; rfl) ?_
    refine RegO.step rfl (OpStep.callA rfl (by simp; exact ⟨rfl, rfl⟩) (by simp; rfl) (by exact same_spec l hl) (by simp) (by simp; rfl)) ?_
    refine RegO.opN 2 (by simp; rfl) ?_
    refine RegO.nil ?_
    refine DW.ret ?_
    simp [Try.results45, hlen, hl3, hl4]
  · have hq : ¬ g.Quota < (pagesIn l2 : Int) := by simpa using hc0
    rw [if_neg hq]
    refine DW.skip ?_
    refine DW.seq ?_
    refine DW.reg (by simp [hl3, hl4]; rfl) ?_
    refine DW.ret ?_
    simp [Try.results45, hlen, hl3, hl4]
end Go.Proofs.Ytciieaidbiejmaa.DM
