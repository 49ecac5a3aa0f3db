import Derived.Test.YtciieaidbiejmaaAS3
import Derived.Test.YtciieaidbiejmaaA3
import Derived.Test.YtciieaidbiejmaaX54
namespace Go.Proofs.Ytciieaidbiejmaa.DM
set_option linter.unusedVariables false
set_option linter.unusedSimpArgs false
set_option maxRecDepth 4000
set_option maxHeartbeats 8000000
theorem runN_le (p : ByteArray) (K : List Item) : runN p K ≤ K.length := by unfold runN; exact (List.takeWhile_sublist _).length_le
theorem runN_next {p : ByteArray} {K : List Item} {k : Nat} (hk : k < K.length) (h : ∀ y ∈ K.take k, leS y.Path p = true) (hn : leS K[k].Path p = false) : runN p K = k := by
  have e : K = K.take k ++ K[k] :: K.drop (k + 1) := by rw [List.getElem_cons_drop, List.take_append_drop]
  have e2 : K.takeWhile (fun y => leS y.Path p) = K.take k := by
    conv => lhs; rw [e]
    rw [List.takeWhile_append_of_pos (fun y hy => h y hy), List.takeWhile_cons, hn, if_neg (by simp), List.append_nil]
  unfold runN
  rw [e2, List.length_take]; omega
theorem runN_end {p : ByteArray} {K : List Item} (h : ∀ y ∈ K.take K.length, leS y.Path p = true) : runN p K = K.length := by
  unfold runN
  rw [List.take_length] at h
  have := List.takeWhile_append_of_pos (p := fun y : Item => leS y.Path p) (l₂ := []) h
  rw [List.append_nil] at this
  rw [this]; simp
theorem rD_flat {α : Type} [Row α] (h : ∀ x : α, (Row.d x).all flatD = true) : ∀ l : List α, (rD l).all flatD = true
  | [] => rfl
  | x :: l => by rw [rD_cons, List.all_append, h x, rD_flat h l]; rfl
@[simp] theorem rD_flat_Item (l : List Item) : (rD l).all flatD = true := rD_flat (fun _ => rfl) l
theorem rD_takeV (l : List Item) (n : Nat) (h : n ≤ l.length) : (rD l).take (n * 3) = rD (l.take n) := by
  have e : l = l.take n ++ l.drop n := (List.take_append_drop _ _).symm
  conv => lhs; rw [e, rD_append]
  have hl : (rD (l.take n)).length = n * 3 := by rw [rD_len_Item, List.length_take]; omega
  rw [← hl, List.take_left]
theorem rD_dropV (l : List Item) (n : Nat) (h : n ≤ l.length) : (rD l).drop (n * 3) = rD (l.drop n) := by
  have e : l = l.take n ++ l.drop n := (List.take_append_drop _ _).symm
  conv => lhs; rw [e, rD_append]
  have hl : (rD (l.take n)).length = n * 3 := by rw [rD_len_Item, List.length_take]; omega
  rw [← hl, List.drop_left]
theorem rD_getP (l : List Item) (i : Nat) (h : i < l.length) : (rD l)[i * 3]? = some (T.sc (.string l[i].Path)) := by have := congrArg (·[0]?) (rD_drop_Item l i h); simpa using this
theorem movedItems_spec (l : List Item) (fr to : ByteArray) (hl : l.length ≤ 1048576) (hx : ∀ x ∈ l, x.Path.size ≤ 1048576) (hto : to.size ≤ 2 ^ 40) : Spec Try.prog 43 [raV l, rs fr, rs to] [some 1] (dV (movedI l fr to)) [raV l, rs fr, rs to] := by
  refine Spec.intro Try.func43 rfl rfl Try.ntmps43 rfl (by simp) ?_
  refine DW.seq ?_
  refine DW.reg (by simp (maxSteps := 200000) (disch := first | omega | (simp; done) | fail) [wrapI, leT, leF, ltT, ltF, eqF, nleT, nleF, nltT, nltF]; rfl) ?_
  refine DW.seq ?_
  refine DW.reg (by simp; rfl) ?_
  refine DW.ghost (Ghost.wide 7 [0] 3 (by simp; rfl) (by simp)) ?_
  refine DW.norm [(1, _), (2, _), (3, _), (6, _), (7, _)] [(3, _), (6, _), (7, _)] [] (by simp; exact ⟨rfl, rfl, rfl, rfl, rfl⟩) (by simp; exact ⟨rfl, rfl, rfl⟩) (by simp) (by rfl) ?_
  refine DW.seq ?_
  refine DW.seq ?_
  refine DW.reg (by simp (maxSteps := 200000) (disch := first | omega | (simp; done) | fail) [wrapI, leT, leF, ltT, ltF, eqF, nleT, nleF, nltT, nltF]; rfl) ?_
  refine DW.block ?_
  refine DW.loopS (α := Nat) (fun i => i ≤ l.length) (fun i => l.length - i) (fun i => [(8, vi i)]) (fun i => [(7, .ow () 1 1 (dV (movedI (l.take i) fr to)))]) [(1, _), (2, _), (3, _), (6, _), (7, _)] [(3, _), (6, _)] [] 0 (Nat.zero_le _) (by simp [movedI]; exact ⟨rfl, rfl, rfl, rfl, rfl⟩) (by simp [movedI]; exact ⟨rfl, rfl⟩) (by simp) (by rfl) ?_
  intro i hi
  refine DW.seq ?_
  refine DW.seq ?_
  refine DW.reg (by simp (maxSteps := 200000) (disch := first | omega | (simp; done) | fail) [wrapI, leT, leF, ltT, ltF, eqF, nleT, nleF, nltT, nltF]; rfl) ?_
  refine DW.condB (by simp (maxSteps := 200000) (disch := first | omega | (simp; done) | fail) [wrapI, leT, leF, ltT, ltF, eqF, nleT, nleF, nltT, nltF]; exact rfl) (fun hc0 => ?_) (fun hc0 => ?_)
  · have hlt : i < l.length := by simpa using hc0
    have hlt1 : (i : Int) < l.length := by omega
    have hd := rR_drop_Item l i hlt
    have hw := wr ((i : Int) + 1) (by omega) (by omega)
    have hS := movedI_succ l fr to i hlt
    have hkl : (movedI (l.take i) fr to).length = i := by rw [movedI_len, List.length_take]; omega
    generalize (movedI (l.take i) fr to) = K0 at *
    have hcs := hx _ (List.getElem_mem hlt)
    generalize hci : l[i] = c at *
    refine DW.skip ?_
    refine DW.seq ?_
    refine DW.block ?_
    refine DW.seq ?_
    refine DW.reg (by simp [hlt1, hd, hw]; rfl) ?_
    refine DW.norm [(1, _), (2, _), (3, _), (6, _), (7, _), (8, _), (9, _)] [(3, _), (6, _), (7, _), (9, _)] [] (by simp [hlt1, hd, hw]; exact ⟨rfl, rfl, rfl, rfl, rfl, rfl, rfl⟩) (by simp [hlt1, hd, hw]; exact ⟨rfl, rfl, rfl, rfl⟩) (by simp [hlt1, hd, hw]) (by rfl) ?_
    refine DW.seq ?_
    refine DW.seq ?_
    have hsp : c.Path = fr ∨ (¬ c.Path = fr ∧ isUnder c.Path fr = true) ∨ (¬ c.Path = fr ∧ isUnder c.Path fr = false) := by
      by_cases h : c.Path = fr
      · exact .inl h
      · cases hu : isUnder c.Path fr
        · exact .inr (.inr ⟨h, rfl⟩)
        · exact .inr (.inl ⟨h, rfl⟩)
    rcases hsp with g0 | ⟨g0, g1⟩ | ⟨g0, g1⟩
    · have hor : c.Path = fr ∨ isUnder c.Path fr = true := .inl g0
      have hm : mvI fr to c = ⟨to ++ c.Path.extract fr.size c.Path.size, c.Dir, c.Text⟩ := by
        unfold mvI
        rcases hor with h | h
        · rw [if_pos h]
        · by_cases h2 : c.Path = fr
          · rw [if_pos h2]
          · rw [if_neg h2, if_pos h]
      have q2 : fr.size ≤ c.Path.size := by
        rcases hor with h | h
        · rw [h]; exact Nat.le_refl _
        · exact under_size h
      have q1 : (fr.size : Int) ≤ c.Path.size := by omega
      have q3 : ¬ (9223372036854775807 : Int) < (to.size : Int) + ((c.Path.size - fr.size : Nat) : Int) := by omega
      obtain ⟨xp, hxp⟩ : ∃ xp, to ++ c.Path.extract fr.size c.Path.size = xp := ⟨_, rfl⟩
      rw [hxp] at hm
      have g0d : decide (c.Path = fr) = true := decide_eq_true g0
      have g0b : (c.Path.toList == fr.toList) = true := by rw [beq_bytes]; exact g0d
      refine DW.reg (by simp (maxSteps := 200000) (disch := first | omega | (simp; done) | fail) [wrapI, leT, leF, ltT, ltF, eqF, nleT, nleF, nltT, nltF, hlt1, hd, hw, g0d, g0b, q1, q2, q3, hxp]; rfl) ?_
      refine DW.norm [(1, _), (2, _), (3, _), (6, _), (7, _), (8, _), (9, _), (34, _)] [(3, _), (6, _), (7, _), (9, _)] [] (by simp [hlt1, hd, hw, g0d, g0b, q1, q2, q3, hxp]; exact ⟨rfl, rfl, rfl, rfl, rfl, rfl, rfl, rfl⟩) (by simp [hlt1, hd, hw, g0d, g0b, q1, q2, q3, hxp]; exact ⟨rfl, rfl, rfl, rfl⟩) (by simp [hlt1, hd, hw, g0d, g0b, q1, q2, q3, hxp]) (by rfl) ?_
      refine DW.condT (by simp (maxSteps := 200000) (disch := first | omega | (simp; done) | fail) [wrapI, leT, leF, ltT, ltF, eqF, nleT, nleF, nltT, nltF, hlt1, hd, hw, g0d, g0b, q1, q2, q3, hxp]) ?_
      refine DW.reg (by simp [hlt1, hd, hw, g0d, g0b, q1, q2, q3, hxp]; rfl) ?_
      refine DW.norm [(1, _), (2, _), (3, _), (6, _), (7, _), (8, _), (9, _)] [(3, _), (6, _), (7, _), (9, _)] [] (by simp [hlt1, hd, hw, g0d, g0b, q1, q2, q3, hxp]; exact ⟨rfl, rfl, rfl, rfl, rfl, rfl, rfl⟩) (by simp [hlt1, hd, hw, g0d, g0b, q1, q2, q3, hxp]; exact ⟨rfl, rfl, rfl, rfl⟩) (by simp [hlt1, hd, hw, g0d, g0b, q1, q2, q3, hxp]) (by rfl) ?_
      refine DW.seq ?_
      refine DW.reg (by simp (maxSteps := 200000) (disch := first | omega | (simp; done) | fail) [wrapI, leT, leF, ltT, ltF, eqF, nleT, nleF, nltT, nltF, hlt1, hd, hw, g0d, g0b, q1, q2, q3, hxp]; rfl) ?_
      refine DW.seq ?_
      refine DW.block ?_
      refine DW.loopS (α := Nat) (fun k => k ≤ K0.length ∧ ∀ y ∈ K0.take k, leS y.Path xp = true) (fun k => K0.length - k) (fun k => [(10, vi k)]) (fun k => []) [(1, _), (2, _), (3, _), (6, _), (7, _), (8, _), (9, _)] [(3, _), (6, _), (7, _), (9, _)] [] 0 (⟨Nat.zero_le _, by simp⟩) (by simp; exact ⟨rfl, rfl, rfl, rfl, rfl, rfl, rfl⟩) (by simp; exact ⟨rfl, rfl, rfl, rfl⟩) (by simp) (by rfl) ?_
      rintro k ⟨hk, hall⟩
      refine DW.seq ?_
      refine DW.seq ?_
      have hsp : ¬ k < K0.length ∨ (∃ h : k < K0.length, leS K0[k].Path xp = false) ∨ (∃ h : k < K0.length, leS K0[k].Path xp = true) := by
        by_cases h : k < K0.length
        · cases hu : leS K0[k].Path xp
          · exact .inr (.inl ⟨h, hu⟩)
          · exact .inr (.inr ⟨h, hu⟩)
        · exact .inl h
      rcases hsp with e0 | ⟨e0, e1⟩ | ⟨e0, e1⟩
      · have hke : k = K0.length := by omega
        have hrun : runN xp K0 = k := by rw [hke] at hall ⊢; exact runN_end hall
        have e0i : ¬ (k : Int) < K0.length := by omega
        refine DW.drawn mixed (by kernel_rfl) ?_
        refine RegD.addN 16 (by simp [hlt1, hd, hw, g0d, g0b, q1, q2, q3, hxp, e0, e0i]; (first | (simp (disch := omega) only [wrapI, ltF, if_false]; done) | (simp (disch := omega) only [wrapI, ltF, if_false]; first | exact ⟨rfl, rfl⟩ | rfl) | skip); (first | done | exact ⟨rfl, rfl⟩ | rfl)) ?_
        refine RegD.nil ⟨by kernel_rfl, ?_⟩
        refine DW.condF (by simp (maxSteps := 200000) (disch := first | omega | (simp; done) | fail) [wrapI, leT, leF, ltT, ltF, eqF, nleT, nleF, nltT, nltF, hlt1, hd, hw, g0d, g0b, q1, q2, q3, hxp, e0, e0i]) ?_
        refine DW.exit ?_
        refine DW.seq ?_
        have hIns : insP ⟨xp, c.Dir, c.Text⟩ K0 = K0.take k ++ (⟨xp, c.Dir, c.Text⟩ : Item) :: K0.drop k := by unfold insP; simp only; rw [hrun]
        rw [hm, hIns] at hS
        have hRDx : rD (K0.take k ++ (⟨xp, c.Dir, c.Text⟩ : Item) :: K0.drop k) = (rD (K0.take k) ++ [T.sc (.string xp), T.sc (.bool c.Dir), T.sc (.string c.Text)]) ++ rD (K0.drop k) := by
          rw [rD_append, rD_cons, List.append_assoc]; rfl
        have hA : (rD K0).take (k * 3) = rD (K0.take k) := rD_takeV K0 k hk
        have hB : (rD K0).drop (k * 3) = rD (K0.drop k) := rD_dropV K0 k hk
        have hAl : (K0.take k).length = k := by rw [List.length_take]; omega
        have hBl : (K0.drop k).length = K0.length - k := by simp
        have hk0 : (k : Int) ≤ K0.length := by omega
        have hk3 : k * 3 ≤ K0.length * 3 := by omega
        have n1 : k * 40 ≤ 140737488355328 := by omega
        have n2 : k ≤ 140737488355328 := by omega
        have n3 : (k + 1) * 40 ≤ 140737488355328 := by omega
        have n4 : k + 1 ≤ 140737488355328 := by omega
        have n5 : (k + 1 + (K0.length - k)) * 40 ≤ 140737488355328 := by omega
        have n6 : k + 1 + (K0.length - k) ≤ 140737488355328 := by omega
        have n7 : (k + 1) * 3 ≤ k * 3 + 3 := by omega
        have n9 : k * 3 + (K0.length - k) * 3 ≤ K0.length * 3 := by omega
        have n10 : (k + 1 + (K0.length - k)) * 3 ≤ k * 3 + ((K0.length - k) * 3 + 1 + 1 + 1) := by omega
        have n8 : (k + 1 + (K0.length - k)) * 3 ≤ (k + 1) * 3 + (K0.length - k) * 3 := by omega
        have hBt : (rD (K0.drop k)).take ((K0.length - k) * 3) = rD (K0.drop k) := by have := rD_take_Item (K0.drop k); rwa [hBl] at this
        have hRl : (K0.take k ++ (⟨xp, c.Dir, c.Text⟩ : Item) :: K0.drop k).length = k + 1 + (K0.length - k) := by simp; omega
        have hRR : rD (movedI (l.take (i + 1)) fr to) = (rD (K0.take k) ++ [T.sc (.string xp), T.sc (.bool c.Dir), T.sc (.string c.Text)]) ++ rD (K0.drop k) := by rw [hS]; exact hRDx
        have hRlen : (movedI (l.take (i + 1)) fr to).length = k + 1 + (K0.length - k) := by rw [hS]; exact hRl
        clear hS hIns
        have hAl2 : (rD (K0.take k)).length = k * 3 := by rw [rD_len_Item, hAl]
        have hBl2 : (rD (K0.drop k)).length = (K0.length - k) * 3 := by rw [rD_len_Item, hBl]
        generalize K0.take k = KA at *
        generalize K0.drop k = KB at *
        have hAt : (rD KA).take (k * 3) = rD KA := List.take_of_length_le (by omega)
        have n4b : k ≤ 140737488355327 := by omega
        have hCt : (rD KA ++ [T.sc (.string xp), T.sc (.bool c.Dir), T.sc (.string c.Text)]).take ((k + 1) * 3) = rD KA ++ [T.sc (.string xp), T.sc (.bool c.Dir), T.sc (.string c.Text)] := List.take_of_length_le (by simp [hAl2]; omega)
        have hDt : (rD KA ++ [T.sc (.string xp), T.sc (.bool c.Dir), T.sc (.string c.Text)] ++ rD KB).take ((k + 1 + (K0.length - k)) * 3) = rD KA ++ [T.sc (.string xp), T.sc (.bool c.Dir), T.sc (.string c.Text)] ++ rD KB := List.take_of_length_le (by simp [hAl2, hBl2]; omega)
        have hDt2 : (rD KA ++ (T.sc (.string xp) :: T.sc (.bool c.Dir) :: T.sc (.string c.Text) :: rD KB)).take ((k + 1 + (K0.length - k)) * 3) = rD KA ++ (T.sc (.string xp) :: T.sc (.bool c.Dir) :: T.sc (.string c.Text) :: rD KB) := List.take_of_length_le (by simp [hAl2, hBl2]; omega)
        refine DW.drawn mixed (by kernel_rfl) ?_
        refine RegD.cert (Cert.nilSlice rfl rfl rfl (by decide) (by simp; exact ⟨rfl, rfl⟩) (by simp; rfl) (by simp; rfl) (by rfl) (by decide)) ?_
        refine RegD.addN 4 (by simp [hlt1, hd, hw, g0d, g0b, q1, q2, q3, hxp, e0, e0i, hk, hk0, hk3, hA, hAl, hAl2, hAt, n1, n2, n3, n4, n4b, n7]; (first | (simp (disch := omega) only [wrapI, ltF, if_false]; done) | (simp (disch := omega) only [wrapI, ltF, if_false]; first | exact ⟨rfl, rfl⟩ | rfl) | skip); (first | done | exact ⟨rfl, rfl⟩ | rfl)) ?_
        refine RegD.cert (Cert.appRow (m := k) (id := 7) (p := [0]) (off := 0) (n' := K0.length) (cs := rD K0) rfl rfl rfl (by decide) (by simp; exact ⟨rfl, rfl⟩) (by simp; rfl) (by rfl) (by simp; rfl) (by simp) (by simp) (by simp; rfl) (by rfl) (by rw [rD_len_Item]; omega) (by rw [List.drop_zero, hA]; exact rD_flat_Item KA) (by simp) (by decide) (by simp [n1]) (by simp [n2]) (by simp)) ?_
        refine RegD.addN 1 (by simp [hlt1, hd, hw, g0d, g0b, q1, q2, q3, hxp, e0, e0i, hk, hk0, hk3, hA, hAl, hAl2, hAt, n1, n2, n3, n4, n4b, n7]; (first | (simp (disch := omega) only [wrapI, ltF, if_false]; done) | (simp (disch := omega) only [wrapI, ltF, if_false]; first | exact ⟨rfl, rfl⟩ | rfl) | skip); (first | done | exact ⟨rfl, rfl⟩ | rfl)) ?_
        refine RegD.cert (Cert.buildRo (rcs := [.sc (.string xp), .sc (.bool c.Dir), .sc (.string c.Text)]) rfl rfl rfl (by decide) (by simp; exact ⟨rfl, rfl⟩) (by simp; rfl) (by simp; rfl) (by rfl) (by decide) (by decide) (by simp [hlt1, hd, hw, g0d, g0b, q1, q2, q3, hxp, e0, e0i, hk, hk0, hk3, hA, hAl, hAl2, hAt, n1, n2, n3, n4, n4b, n7]; rfl) (by simp [hlt1, hd, hw, g0d, g0b, q1, q2, q3, hxp, e0, e0i, hk, hk0, hk3, hA, hAl, hAl2, hAt, n1, n2, n3, n4, n4b, n7]; rfl) (by rfl) (by simp)) ?_
        refine RegD.heavyF (by simp) (by simp [hlt1, hd, hw, g0d, g0b, q1, q2, q3, hxp, e0, e0i, hk, hk0, hk3, hA, hAl, hAl2, hAt, n1, n2, n3, n4, n4b, n7]; rfl) ?_
        refine RegD.addN 1 (by simp [hlt1, hd, hw, g0d, g0b, q1, q2, q3, hxp, e0, e0i, hk, hk0, hk3, hA, hAl, hAl2, hAt, n1, n2, n3, n4, n4b, n7]; (first | (simp (disch := omega) only [wrapI, ltF, if_false]; done) | (simp (disch := omega) only [wrapI, ltF, if_false]; first | exact ⟨rfl, rfl⟩ | rfl) | skip); (first | done | exact ⟨rfl, rfl⟩ | rfl)) ?_
        refine RegD.nil ⟨by kernel_rfl, ?_⟩
        refine DW.reg (by simp [hlt1, hd, hw, g0d, g0b, q1, q2, q3, hxp, e0, e0i, hk, hk0, hk3, hB, hBt, hAl, hBl, hAl2, hBl2, hCt, n5, n6, n7, n8, n9, n10, hDt, hDt2]; rfl) ?_
        refine DW.norm [(1, _), (2, _), (3, _), (6, _), (7, _), (8, _)] [(3, _), (6, _), (7, _)] [] (by simp [hlt1, hd, hw, g0d, g0b, q1, q2, q3, hxp, e0, e0i, hDt, hDt2]; exact ⟨rfl, rfl, rfl, rfl, rfl, rfl⟩) (by simp [hlt1, hd, hw, g0d, g0b, q1, q2, q3, hxp, e0, e0i, hDt, hDt2]; exact ⟨rfl, rfl, rfl⟩) (by simp [hlt1, hd, hw, g0d, g0b, q1, q2, q3, hxp, e0, e0i, hDt, hDt2]) (by rfl) ?_
        refine DW.reg (by simp (maxSteps := 200000) (disch := first | omega | (simp; done) | fail) [wrapI, leT, leF, ltT, ltF, eqF, nleT, nleF, nltT, nltF, hlt1, hd, hw, g0d, g0b, q1, q2, q3, hxp, e0, e0i]; rfl) ?_
        have hz0 : K0.length - k = 0 := by omega
        exact ⟨i + 1, hlt, by omega, by simp, by simp [hRR, hRlen, hz0], by simp, by rfl⟩
      · have hrun : runN xp K0 = k := runN_next e0 hall e1
        have e0i : (k : Int) < K0.length := by omega
        have hgP := rD_getP K0 k e0
        generalize K0[k] = y0 at hgP e1
        have hgP2 : ∀ h : k * 3 < (rD K0).length, (rD K0)[k * 3]'h = T.sc (.string y0.Path) := fun h => by rw [List.getElem?_eq_getElem h] at hgP; exact Option.some.inj hgP
        refine DW.drawn mixed (by kernel_rfl) ?_
        refine RegD.addN 16 (by simp [hlt1, hd, hw, g0d, g0b, q1, q2, q3, hxp, e0, e0i, hgP, hgP2, e1]; (first | (simp (disch := omega) only [wrapI, ltF, if_false]; done) | (simp (disch := omega) only [wrapI, ltF, if_false]; first | exact ⟨rfl, rfl⟩ | rfl) | skip); (first | done | exact ⟨rfl, rfl⟩ | rfl)) ?_
        refine RegD.nil ⟨by kernel_rfl, ?_⟩
        refine DW.condF (by simp (maxSteps := 200000) (disch := first | omega | (simp; done) | fail) [wrapI, leT, leF, ltT, ltF, eqF, nleT, nleF, nltT, nltF, hlt1, hd, hw, g0d, g0b, q1, q2, q3, hxp, e0, e0i, hgP, hgP2, e1]) ?_
        refine DW.exit ?_
        refine DW.seq ?_
        have hIns : insP ⟨xp, c.Dir, c.Text⟩ K0 = K0.take k ++ (⟨xp, c.Dir, c.Text⟩ : Item) :: K0.drop k := by unfold insP; simp only; rw [hrun]
        rw [hm, hIns] at hS
        have hRDx : rD (K0.take k ++ (⟨xp, c.Dir, c.Text⟩ : Item) :: K0.drop k) = (rD (K0.take k) ++ [T.sc (.string xp), T.sc (.bool c.Dir), T.sc (.string c.Text)]) ++ rD (K0.drop k) := by
          rw [rD_append, rD_cons, List.append_assoc]; rfl
        have hA : (rD K0).take (k * 3) = rD (K0.take k) := rD_takeV K0 k hk
        have hB : (rD K0).drop (k * 3) = rD (K0.drop k) := rD_dropV K0 k hk
        have hAl : (K0.take k).length = k := by rw [List.length_take]; omega
        have hBl : (K0.drop k).length = K0.length - k := by simp
        have hk0 : (k : Int) ≤ K0.length := by omega
        have hk3 : k * 3 ≤ K0.length * 3 := by omega
        have n1 : k * 40 ≤ 140737488355328 := by omega
        have n2 : k ≤ 140737488355328 := by omega
        have n3 : (k + 1) * 40 ≤ 140737488355328 := by omega
        have n4 : k + 1 ≤ 140737488355328 := by omega
        have n5 : (k + 1 + (K0.length - k)) * 40 ≤ 140737488355328 := by omega
        have n6 : k + 1 + (K0.length - k) ≤ 140737488355328 := by omega
        have n7 : (k + 1) * 3 ≤ k * 3 + 3 := by omega
        have n9 : k * 3 + (K0.length - k) * 3 ≤ K0.length * 3 := by omega
        have n10 : (k + 1 + (K0.length - k)) * 3 ≤ k * 3 + ((K0.length - k) * 3 + 1 + 1 + 1) := by omega
        have n8 : (k + 1 + (K0.length - k)) * 3 ≤ (k + 1) * 3 + (K0.length - k) * 3 := by omega
        have hBt : (rD (K0.drop k)).take ((K0.length - k) * 3) = rD (K0.drop k) := by have := rD_take_Item (K0.drop k); rwa [hBl] at this
        have hRl : (K0.take k ++ (⟨xp, c.Dir, c.Text⟩ : Item) :: K0.drop k).length = k + 1 + (K0.length - k) := by simp; omega
        have hRR : rD (movedI (l.take (i + 1)) fr to) = (rD (K0.take k) ++ [T.sc (.string xp), T.sc (.bool c.Dir), T.sc (.string c.Text)]) ++ rD (K0.drop k) := by rw [hS]; exact hRDx
        have hRlen : (movedI (l.take (i + 1)) fr to).length = k + 1 + (K0.length - k) := by rw [hS]; exact hRl
        clear hS hIns
        have hAl2 : (rD (K0.take k)).length = k * 3 := by rw [rD_len_Item, hAl]
        have hBl2 : (rD (K0.drop k)).length = (K0.length - k) * 3 := by rw [rD_len_Item, hBl]
        generalize K0.take k = KA at *
        generalize K0.drop k = KB at *
        have hAt : (rD KA).take (k * 3) = rD KA := List.take_of_length_le (by omega)
        have n4b : k ≤ 140737488355327 := by omega
        have hCt : (rD KA ++ [T.sc (.string xp), T.sc (.bool c.Dir), T.sc (.string c.Text)]).take ((k + 1) * 3) = rD KA ++ [T.sc (.string xp), T.sc (.bool c.Dir), T.sc (.string c.Text)] := List.take_of_length_le (by simp [hAl2]; omega)
        have hDt : (rD KA ++ [T.sc (.string xp), T.sc (.bool c.Dir), T.sc (.string c.Text)] ++ rD KB).take ((k + 1 + (K0.length - k)) * 3) = rD KA ++ [T.sc (.string xp), T.sc (.bool c.Dir), T.sc (.string c.Text)] ++ rD KB := List.take_of_length_le (by simp [hAl2, hBl2]; omega)
        have hDt2 : (rD KA ++ (T.sc (.string xp) :: T.sc (.bool c.Dir) :: T.sc (.string c.Text) :: rD KB)).take ((k + 1 + (K0.length - k)) * 3) = rD KA ++ (T.sc (.string xp) :: T.sc (.bool c.Dir) :: T.sc (.string c.Text) :: rD KB) := List.take_of_length_le (by simp [hAl2, hBl2]; omega)
        refine DW.drawn mixed (by kernel_rfl) ?_
        refine RegD.cert (Cert.nilSlice rfl rfl rfl (by decide) (by simp; exact ⟨rfl, rfl⟩) (by simp; rfl) (by simp; rfl) (by rfl) (by decide)) ?_
        refine RegD.addN 4 (by simp [hlt1, hd, hw, g0d, g0b, q1, q2, q3, hxp, e0, e0i, hgP, hgP2, e1, hk, hk0, hk3, hA, hAl, hAl2, hAt, n1, n2, n3, n4, n4b, n7]; (first | (simp (disch := omega) only [wrapI, ltF, if_false]; done) | (simp (disch := omega) only [wrapI, ltF, if_false]; first | exact ⟨rfl, rfl⟩ | rfl) | skip); (first | done | exact ⟨rfl, rfl⟩ | rfl)) ?_
        refine RegD.cert (Cert.appRow (m := k) (id := 7) (p := [0]) (off := 0) (n' := K0.length) (cs := rD K0) rfl rfl rfl (by decide) (by simp; exact ⟨rfl, rfl⟩) (by simp; rfl) (by rfl) (by simp; rfl) (by simp) (by simp) (by simp; rfl) (by rfl) (by rw [rD_len_Item]; omega) (by rw [List.drop_zero, hA]; exact rD_flat_Item KA) (by simp) (by decide) (by simp [n1]) (by simp [n2]) (by simp)) ?_
        refine RegD.addN 1 (by simp [hlt1, hd, hw, g0d, g0b, q1, q2, q3, hxp, e0, e0i, hgP, hgP2, e1, hk, hk0, hk3, hA, hAl, hAl2, hAt, n1, n2, n3, n4, n4b, n7]; (first | (simp (disch := omega) only [wrapI, ltF, if_false]; done) | (simp (disch := omega) only [wrapI, ltF, if_false]; first | exact ⟨rfl, rfl⟩ | rfl) | skip); (first | done | exact ⟨rfl, rfl⟩ | rfl)) ?_
        refine RegD.cert (Cert.buildRo (rcs := [.sc (.string xp), .sc (.bool c.Dir), .sc (.string c.Text)]) rfl rfl rfl (by decide) (by simp; exact ⟨rfl, rfl⟩) (by simp; rfl) (by simp; rfl) (by rfl) (by decide) (by decide) (by simp [hlt1, hd, hw, g0d, g0b, q1, q2, q3, hxp, e0, e0i, hgP, hgP2, e1, hk, hk0, hk3, hA, hAl, hAl2, hAt, n1, n2, n3, n4, n4b, n7]; rfl) (by simp [hlt1, hd, hw, g0d, g0b, q1, q2, q3, hxp, e0, e0i, hgP, hgP2, e1, hk, hk0, hk3, hA, hAl, hAl2, hAt, n1, n2, n3, n4, n4b, n7]; rfl) (by rfl) (by simp)) ?_
        refine RegD.heavyF (by simp) (by simp [hlt1, hd, hw, g0d, g0b, q1, q2, q3, hxp, e0, e0i, hgP, hgP2, e1, hk, hk0, hk3, hA, hAl, hAl2, hAt, n1, n2, n3, n4, n4b, n7]; rfl) ?_
        refine RegD.addN 1 (by simp [hlt1, hd, hw, g0d, g0b, q1, q2, q3, hxp, e0, e0i, hgP, hgP2, e1, hk, hk0, hk3, hA, hAl, hAl2, hAt, n1, n2, n3, n4, n4b, n7]; (first | (simp (disch := omega) only [wrapI, ltF, if_false]; done) | (simp (disch := omega) only [wrapI, ltF, if_false]; first | exact ⟨rfl, rfl⟩ | rfl) | skip); (first | done | exact ⟨rfl, rfl⟩ | rfl)) ?_
        refine RegD.nil ⟨by kernel_rfl, ?_⟩
        refine DW.reg (by simp [hlt1, hd, hw, g0d, g0b, q1, q2, q3, hxp, e0, e0i, hgP, hgP2, e1, hk, hk0, hk3, hB, hBt, hAl, hBl, hAl2, hBl2, hCt, n5, n6, n7, n8, n9, n10, hDt, hDt2]; rfl) ?_
        refine DW.norm [(1, _), (2, _), (3, _), (6, _), (7, _), (8, _)] [(3, _), (6, _), (7, _)] [] (by simp [hlt1, hd, hw, g0d, g0b, q1, q2, q3, hxp, e0, e0i, hgP, hgP2, e1, hDt, hDt2]; exact ⟨rfl, rfl, rfl, rfl, rfl, rfl⟩) (by simp [hlt1, hd, hw, g0d, g0b, q1, q2, q3, hxp, e0, e0i, hgP, hgP2, e1, hDt, hDt2]; exact ⟨rfl, rfl, rfl⟩) (by simp [hlt1, hd, hw, g0d, g0b, q1, q2, q3, hxp, e0, e0i, hgP, hgP2, e1, hDt, hDt2]) (by rfl) ?_
        refine DW.reg (by simp (maxSteps := 200000) (disch := first | omega | (simp; done) | fail) [wrapI, leT, leF, ltT, ltF, eqF, nleT, nleF, nltT, nltF, hlt1, hd, hw, g0d, g0b, q1, q2, q3, hxp, e0, e0i, hgP, hgP2, e1]; rfl) ?_
        exact ⟨i + 1, hlt, by omega, by simp, by simp [hRR, hRlen], by simp, by rfl⟩
      · have e0i : (k : Int) < K0.length := by omega
        have hgP := rD_getP K0 k e0
        have hall2 : ∀ y ∈ K0.take (k + 1), leS y.Path xp = true := by
          intro y hy
          rw [List.take_add_one, List.getElem?_eq_getElem e0] at hy
          rcases List.mem_append.1 hy with hy | hy
          · exact hall y hy
          · simp at hy; rw [hy]; exact e1
        generalize K0[k] = y0 at hgP e1
        have hgP2 : ∀ h : k * 3 < (rD K0).length, (rD K0)[k * 3]'h = T.sc (.string y0.Path) := fun h => by rw [List.getElem?_eq_getElem h] at hgP; exact Option.some.inj hgP
        have hwk := wr ((k : Int) + 1) (by omega) (by omega)
        refine DW.drawn mixed (by kernel_rfl) ?_
        refine RegD.addN 16 (by simp [hlt1, hd, hw, g0d, g0b, q1, q2, q3, hxp, e0, e0i, hgP, hgP2, e1, hwk]; (first | (simp (disch := omega) only [wrapI, ltF, if_false]; done) | (simp (disch := omega) only [wrapI, ltF, if_false]; first | exact ⟨rfl, rfl⟩ | rfl) | skip); (first | done | exact ⟨rfl, rfl⟩ | rfl)) ?_
        refine RegD.nil ⟨by kernel_rfl, ?_⟩
        refine DW.condT (by simp (maxSteps := 200000) (disch := first | omega | (simp; done) | fail) [wrapI, leT, leF, ltT, ltF, eqF, nleT, nleF, nltT, nltF, hlt1, hd, hw, g0d, g0b, q1, q2, q3, hxp, e0, e0i, hgP, hgP2, e1, hwk]) ?_
        refine DW.skip ?_
        refine DW.block ?_
        refine DW.reg (by simp (maxSteps := 200000) (disch := first | omega | (simp; done) | fail) [wrapI, leT, leF, ltT, ltF, eqF, nleT, nleF, nltT, nltF, hlt1, hd, hw, g0d, g0b, q1, q2, q3, hxp, e0, e0i, hgP, hgP2, e1, hwk]; rfl) ?_
        exact ⟨k + 1, ⟨e0, hall2⟩, by omega, by simp, by simp, by simp, by rfl⟩
    · have hor : c.Path = fr ∨ isUnder c.Path fr = true := .inr g1
      have hm : mvI fr to c = ⟨to ++ c.Path.extract fr.size c.Path.size, c.Dir, c.Text⟩ := by
        unfold mvI
        rcases hor with h | h
        · rw [if_pos h]
        · by_cases h2 : c.Path = fr
          · rw [if_pos h2]
          · rw [if_neg h2, if_pos h]
      have q2 : fr.size ≤ c.Path.size := by
        rcases hor with h | h
        · rw [h]; exact Nat.le_refl _
        · exact under_size h
      have q1 : (fr.size : Int) ≤ c.Path.size := by omega
      have q3 : ¬ (9223372036854775807 : Int) < (to.size : Int) + ((c.Path.size - fr.size : Nat) : Int) := by omega
      obtain ⟨xp, hxp⟩ : ∃ xp, to ++ c.Path.extract fr.size c.Path.size = xp := ⟨_, rfl⟩
      rw [hxp] at hm
      have g0d : decide (c.Path = fr) = false := decide_eq_false g0
      refine DW.regs ?_
      refine RegO.opN 8 (by simp (maxSteps := 200000) (disch := first | omega | (simp; done) | fail) [wrapI, leT, leF, ltT, ltF, eqF, nleT, nleF, nltT, nltF, hlt1, hd, hw, g0, g0d, g1, q1, q2, q3, hxp]; rfl) ?_
      refine RegO.stepT (by simp (maxSteps := 200000) (disch := first | omega | (simp; done) | fail) [wrapI, leT, leF, ltT, ltF, eqF, nleT, nleF, nltT, nltF, hlt1, hd, hw, g0, g0d, g1, q1, q2, q3, hxp]) (OpStep.callA rfl (by simp (maxSteps := 200000) (disch := first | omega | (simp; done) | fail) [wrapI, leT, leF, ltT, ltF, eqF, nleT, nleF, nltT, nltF, hlt1, hd, hw, g0, g0d, g1, q1, q2, q3, hxp]; exact ⟨rfl, rfl⟩) (by simp (maxSteps := 200000) (disch := first | omega | (simp; done) | fail) [wrapI, leT, leF, ltT, ltF, eqF, nleT, nleF, nltT, nltF, hlt1, hd, hw, g0, g0d, g1, q1, q2, q3, hxp]; rfl) (by exact isUnder_spec c.Path fr) (by simp) (by simp (maxSteps := 200000) (disch := first | omega | (simp; done) | fail) [wrapI, leT, leF, ltT, ltF, eqF, nleT, nleF, nltT, nltF, hlt1, hd, hw, g0, g0d, g1, q1, q2, q3, hxp]; rfl)) ?_
      refine RegO.opN 1 (by simp (maxSteps := 200000) (disch := first | omega | (simp; done) | fail) [wrapI, leT, leF, ltT, ltF, eqF, nleT, nleF, nltT, nltF, hlt1, hd, hw, g0, g0d, g1, q1, q2, q3, hxp]; rfl) ?_
      refine RegO.nil ?_
      refine DW.norm [(1, _), (2, _), (3, _), (6, _), (7, _), (8, _), (9, _), (34, _)] [(3, _), (6, _), (7, _), (9, _)] [] (by simp [hlt1, hd, hw, g0, g0d, g1, q1, q2, q3, hxp]; exact ⟨rfl, rfl, rfl, rfl, rfl, rfl, rfl, rfl⟩) (by simp [hlt1, hd, hw, g0, g0d, g1, q1, q2, q3, hxp]; exact ⟨rfl, rfl, rfl, rfl⟩) (by simp [hlt1, hd, hw, g0, g0d, g1, q1, q2, q3, hxp]) (by rfl) ?_
      refine DW.condT (by simp (maxSteps := 200000) (disch := first | omega | (simp; done) | fail) [wrapI, leT, leF, ltT, ltF, eqF, nleT, nleF, nltT, nltF, hlt1, hd, hw, g0, g0d, g1, q1, q2, q3, hxp]) ?_
      refine DW.reg (by simp [hlt1, hd, hw, g0, g0d, g1, q1, q2, q3, hxp]; rfl) ?_
      refine DW.norm [(1, _), (2, _), (3, _), (6, _), (7, _), (8, _), (9, _)] [(3, _), (6, _), (7, _), (9, _)] [] (by simp [hlt1, hd, hw, g0, g0d, g1, q1, q2, q3, hxp]; exact ⟨rfl, rfl, rfl, rfl, rfl, rfl, rfl⟩) (by simp [hlt1, hd, hw, g0, g0d, g1, q1, q2, q3, hxp]; exact ⟨rfl, rfl, rfl, rfl⟩) (by simp [hlt1, hd, hw, g0, g0d, g1, q1, q2, q3, hxp]) (by rfl) ?_
      refine DW.seq ?_
      refine DW.reg (by simp (maxSteps := 200000) (disch := first | omega | (simp; done) | fail) [wrapI, leT, leF, ltT, ltF, eqF, nleT, nleF, nltT, nltF, hlt1, hd, hw, g0, g0d, g1, q1, q2, q3, hxp]; rfl) ?_
      refine DW.seq ?_
      refine DW.block ?_
      refine DW.loopS (α := Nat) (fun k => k ≤ K0.length ∧ ∀ y ∈ K0.take k, leS y.Path xp = true) (fun k => K0.length - k) (fun k => [(10, vi k)]) (fun k => []) [(1, _), (2, _), (3, _), (6, _), (7, _), (8, _), (9, _)] [(3, _), (6, _), (7, _), (9, _)] [] 0 (⟨Nat.zero_le _, by simp⟩) (by simp; exact ⟨rfl, rfl, rfl, rfl, rfl, rfl, rfl⟩) (by simp; exact ⟨rfl, rfl, rfl, rfl⟩) (by simp) (by rfl) ?_
      rintro k ⟨hk, hall⟩
      refine DW.seq ?_
      refine DW.seq ?_
      have hsp : ¬ k < K0.length ∨ (∃ h : k < K0.length, leS K0[k].Path xp = false) ∨ (∃ h : k < K0.length, leS K0[k].Path xp = true) := by
        by_cases h : k < K0.length
        · cases hu : leS K0[k].Path xp
          · exact .inr (.inl ⟨h, hu⟩)
          · exact .inr (.inr ⟨h, hu⟩)
        · exact .inl h
      rcases hsp with e0 | ⟨e0, e1⟩ | ⟨e0, e1⟩
      · have hke : k = K0.length := by omega
        have hrun : runN xp K0 = k := by rw [hke] at hall ⊢; exact runN_end hall
        have e0i : ¬ (k : Int) < K0.length := by omega
        refine DW.drawn mixed (by kernel_rfl) ?_
        refine RegD.addN 16 (by simp [hlt1, hd, hw, g0, g0d, g1, q1, q2, q3, hxp, e0, e0i]; (first | (simp (disch := omega) only [wrapI, ltF, if_false]; done) | (simp (disch := omega) only [wrapI, ltF, if_false]; first | exact ⟨rfl, rfl⟩ | rfl) | skip); (first | done | exact ⟨rfl, rfl⟩ | rfl)) ?_
        refine RegD.nil ⟨by kernel_rfl, ?_⟩
        refine DW.condF (by simp (maxSteps := 200000) (disch := first | omega | (simp; done) | fail) [wrapI, leT, leF, ltT, ltF, eqF, nleT, nleF, nltT, nltF, hlt1, hd, hw, g0, g0d, g1, q1, q2, q3, hxp, e0, e0i]) ?_
        refine DW.exit ?_
        refine DW.seq ?_
        have hIns : insP ⟨xp, c.Dir, c.Text⟩ K0 = K0.take k ++ (⟨xp, c.Dir, c.Text⟩ : Item) :: K0.drop k := by unfold insP; simp only; rw [hrun]
        rw [hm, hIns] at hS
        have hRDx : rD (K0.take k ++ (⟨xp, c.Dir, c.Text⟩ : Item) :: K0.drop k) = (rD (K0.take k) ++ [T.sc (.string xp), T.sc (.bool c.Dir), T.sc (.string c.Text)]) ++ rD (K0.drop k) := by
          rw [rD_append, rD_cons, List.append_assoc]; rfl
        have hA : (rD K0).take (k * 3) = rD (K0.take k) := rD_takeV K0 k hk
        have hB : (rD K0).drop (k * 3) = rD (K0.drop k) := rD_dropV K0 k hk
        have hAl : (K0.take k).length = k := by rw [List.length_take]; omega
        have hBl : (K0.drop k).length = K0.length - k := by simp
        have hk0 : (k : Int) ≤ K0.length := by omega
        have hk3 : k * 3 ≤ K0.length * 3 := by omega
        have n1 : k * 40 ≤ 140737488355328 := by omega
        have n2 : k ≤ 140737488355328 := by omega
        have n3 : (k + 1) * 40 ≤ 140737488355328 := by omega
        have n4 : k + 1 ≤ 140737488355328 := by omega
        have n5 : (k + 1 + (K0.length - k)) * 40 ≤ 140737488355328 := by omega
        have n6 : k + 1 + (K0.length - k) ≤ 140737488355328 := by omega
        have n7 : (k + 1) * 3 ≤ k * 3 + 3 := by omega
        have n9 : k * 3 + (K0.length - k) * 3 ≤ K0.length * 3 := by omega
        have n10 : (k + 1 + (K0.length - k)) * 3 ≤ k * 3 + ((K0.length - k) * 3 + 1 + 1 + 1) := by omega
        have n8 : (k + 1 + (K0.length - k)) * 3 ≤ (k + 1) * 3 + (K0.length - k) * 3 := by omega
        have hBt : (rD (K0.drop k)).take ((K0.length - k) * 3) = rD (K0.drop k) := by have := rD_take_Item (K0.drop k); rwa [hBl] at this
        have hRl : (K0.take k ++ (⟨xp, c.Dir, c.Text⟩ : Item) :: K0.drop k).length = k + 1 + (K0.length - k) := by simp; omega
        have hRR : rD (movedI (l.take (i + 1)) fr to) = (rD (K0.take k) ++ [T.sc (.string xp), T.sc (.bool c.Dir), T.sc (.string c.Text)]) ++ rD (K0.drop k) := by rw [hS]; exact hRDx
        have hRlen : (movedI (l.take (i + 1)) fr to).length = k + 1 + (K0.length - k) := by rw [hS]; exact hRl
        clear hS hIns
        have hAl2 : (rD (K0.take k)).length = k * 3 := by rw [rD_len_Item, hAl]
        have hBl2 : (rD (K0.drop k)).length = (K0.length - k) * 3 := by rw [rD_len_Item, hBl]
        generalize K0.take k = KA at *
        generalize K0.drop k = KB at *
        have hAt : (rD KA).take (k * 3) = rD KA := List.take_of_length_le (by omega)
        have n4b : k ≤ 140737488355327 := by omega
        have hCt : (rD KA ++ [T.sc (.string xp), T.sc (.bool c.Dir), T.sc (.string c.Text)]).take ((k + 1) * 3) = rD KA ++ [T.sc (.string xp), T.sc (.bool c.Dir), T.sc (.string c.Text)] := List.take_of_length_le (by simp [hAl2]; omega)
        have hDt : (rD KA ++ [T.sc (.string xp), T.sc (.bool c.Dir), T.sc (.string c.Text)] ++ rD KB).take ((k + 1 + (K0.length - k)) * 3) = rD KA ++ [T.sc (.string xp), T.sc (.bool c.Dir), T.sc (.string c.Text)] ++ rD KB := List.take_of_length_le (by simp [hAl2, hBl2]; omega)
        have hDt2 : (rD KA ++ (T.sc (.string xp) :: T.sc (.bool c.Dir) :: T.sc (.string c.Text) :: rD KB)).take ((k + 1 + (K0.length - k)) * 3) = rD KA ++ (T.sc (.string xp) :: T.sc (.bool c.Dir) :: T.sc (.string c.Text) :: rD KB) := List.take_of_length_le (by simp [hAl2, hBl2]; omega)
        refine DW.drawn mixed (by kernel_rfl) ?_
        refine RegD.cert (Cert.nilSlice rfl rfl rfl (by decide) (by simp; exact ⟨rfl, rfl⟩) (by simp; rfl) (by simp; rfl) (by rfl) (by decide)) ?_
        refine RegD.addN 4 (by simp [hlt1, hd, hw, g0, g0d, g1, q1, q2, q3, hxp, e0, e0i, hk, hk0, hk3, hA, hAl, hAl2, hAt, n1, n2, n3, n4, n4b, n7]; (first | (simp (disch := omega) only [wrapI, ltF, if_false]; done) | (simp (disch := omega) only [wrapI, ltF, if_false]; first | exact ⟨rfl, rfl⟩ | rfl) | skip); (first | done | exact ⟨rfl, rfl⟩ | rfl)) ?_
        refine RegD.cert (Cert.appRow (m := k) (id := 7) (p := [0]) (off := 0) (n' := K0.length) (cs := rD K0) rfl rfl rfl (by decide) (by simp; exact ⟨rfl, rfl⟩) (by simp; rfl) (by rfl) (by simp; rfl) (by simp) (by simp) (by simp; rfl) (by rfl) (by rw [rD_len_Item]; omega) (by rw [List.drop_zero, hA]; exact rD_flat_Item KA) (by simp) (by decide) (by simp [n1]) (by simp [n2]) (by simp)) ?_
        refine RegD.addN 1 (by simp [hlt1, hd, hw, g0, g0d, g1, q1, q2, q3, hxp, e0, e0i, hk, hk0, hk3, hA, hAl, hAl2, hAt, n1, n2, n3, n4, n4b, n7]; (first | (simp (disch := omega) only [wrapI, ltF, if_false]; done) | (simp (disch := omega) only [wrapI, ltF, if_false]; first | exact ⟨rfl, rfl⟩ | rfl) | skip); (first | done | exact ⟨rfl, rfl⟩ | rfl)) ?_
        refine RegD.cert (Cert.buildRo (rcs := [.sc (.string xp), .sc (.bool c.Dir), .sc (.string c.Text)]) rfl rfl rfl (by decide) (by simp; exact ⟨rfl, rfl⟩) (by simp; rfl) (by simp; rfl) (by rfl) (by decide) (by decide) (by simp [hlt1, hd, hw, g0, g0d, g1, q1, q2, q3, hxp, e0, e0i, hk, hk0, hk3, hA, hAl, hAl2, hAt, n1, n2, n3, n4, n4b, n7]; rfl) (by simp [hlt1, hd, hw, g0, g0d, g1, q1, q2, q3, hxp, e0, e0i, hk, hk0, hk3, hA, hAl, hAl2, hAt, n1, n2, n3, n4, n4b, n7]; rfl) (by rfl) (by simp)) ?_
        refine RegD.heavyF (by simp) (by simp [hlt1, hd, hw, g0, g0d, g1, q1, q2, q3, hxp, e0, e0i, hk, hk0, hk3, hA, hAl, hAl2, hAt, n1, n2, n3, n4, n4b, n7]; rfl) ?_
        refine RegD.addN 1 (by simp [hlt1, hd, hw, g0, g0d, g1, q1, q2, q3, hxp, e0, e0i, hk, hk0, hk3, hA, hAl, hAl2, hAt, n1, n2, n3, n4, n4b, n7]; (first | (simp (disch := omega) only [wrapI, ltF, if_false]; done) | (simp (disch := omega) only [wrapI, ltF, if_false]; first | exact ⟨rfl, rfl⟩ | rfl) | skip); (first | done | exact ⟨rfl, rfl⟩ | rfl)) ?_
        refine RegD.nil ⟨by kernel_rfl, ?_⟩
        refine DW.reg (by simp [hlt1, hd, hw, g0, g0d, g1, q1, q2, q3, hxp, e0, e0i, hk, hk0, hk3, hB, hBt, hAl, hBl, hAl2, hBl2, hCt, n5, n6, n7, n8, n9, n10, hDt, hDt2]; rfl) ?_
        refine DW.norm [(1, _), (2, _), (3, _), (6, _), (7, _), (8, _)] [(3, _), (6, _), (7, _)] [] (by simp [hlt1, hd, hw, g0, g0d, g1, q1, q2, q3, hxp, e0, e0i, hDt, hDt2]; exact ⟨rfl, rfl, rfl, rfl, rfl, rfl⟩) (by simp [hlt1, hd, hw, g0, g0d, g1, q1, q2, q3, hxp, e0, e0i, hDt, hDt2]; exact ⟨rfl, rfl, rfl⟩) (by simp [hlt1, hd, hw, g0, g0d, g1, q1, q2, q3, hxp, e0, e0i, hDt, hDt2]) (by rfl) ?_
        refine DW.reg (by simp (maxSteps := 200000) (disch := first | omega | (simp; done) | fail) [wrapI, leT, leF, ltT, ltF, eqF, nleT, nleF, nltT, nltF, hlt1, hd, hw, g0, g0d, g1, q1, q2, q3, hxp, e0, e0i]; rfl) ?_
        have hz0 : K0.length - k = 0 := by omega
        exact ⟨i + 1, hlt, by omega, by simp, by simp [hRR, hRlen, hz0], by simp, by rfl⟩
      · have hrun : runN xp K0 = k := runN_next e0 hall e1
        have e0i : (k : Int) < K0.length := by omega
        have hgP := rD_getP K0 k e0
        generalize K0[k] = y0 at hgP e1
        have hgP2 : ∀ h : k * 3 < (rD K0).length, (rD K0)[k * 3]'h = T.sc (.string y0.Path) := fun h => by rw [List.getElem?_eq_getElem h] at hgP; exact Option.some.inj hgP
        refine DW.drawn mixed (by kernel_rfl) ?_
        refine RegD.addN 16 (by simp [hlt1, hd, hw, g0, g0d, g1, q1, q2, q3, hxp, e0, e0i, hgP, hgP2, e1]; (first | (simp (disch := omega) only [wrapI, ltF, if_false]; done) | (simp (disch := omega) only [wrapI, ltF, if_false]; first | exact ⟨rfl, rfl⟩ | rfl) | skip); (first | done | exact ⟨rfl, rfl⟩ | rfl)) ?_
        refine RegD.nil ⟨by kernel_rfl, ?_⟩
        refine DW.condF (by simp (maxSteps := 200000) (disch := first | omega | (simp; done) | fail) [wrapI, leT, leF, ltT, ltF, eqF, nleT, nleF, nltT, nltF, hlt1, hd, hw, g0, g0d, g1, q1, q2, q3, hxp, e0, e0i, hgP, hgP2, e1]) ?_
        refine DW.exit ?_
        refine DW.seq ?_
        have hIns : insP ⟨xp, c.Dir, c.Text⟩ K0 = K0.take k ++ (⟨xp, c.Dir, c.Text⟩ : Item) :: K0.drop k := by unfold insP; simp only; rw [hrun]
        rw [hm, hIns] at hS
        have hRDx : rD (K0.take k ++ (⟨xp, c.Dir, c.Text⟩ : Item) :: K0.drop k) = (rD (K0.take k) ++ [T.sc (.string xp), T.sc (.bool c.Dir), T.sc (.string c.Text)]) ++ rD (K0.drop k) := by
          rw [rD_append, rD_cons, List.append_assoc]; rfl
        have hA : (rD K0).take (k * 3) = rD (K0.take k) := rD_takeV K0 k hk
        have hB : (rD K0).drop (k * 3) = rD (K0.drop k) := rD_dropV K0 k hk
        have hAl : (K0.take k).length = k := by rw [List.length_take]; omega
        have hBl : (K0.drop k).length = K0.length - k := by simp
        have hk0 : (k : Int) ≤ K0.length := by omega
        have hk3 : k * 3 ≤ K0.length * 3 := by omega
        have n1 : k * 40 ≤ 140737488355328 := by omega
        have n2 : k ≤ 140737488355328 := by omega
        have n3 : (k + 1) * 40 ≤ 140737488355328 := by omega
        have n4 : k + 1 ≤ 140737488355328 := by omega
        have n5 : (k + 1 + (K0.length - k)) * 40 ≤ 140737488355328 := by omega
        have n6 : k + 1 + (K0.length - k) ≤ 140737488355328 := by omega
        have n7 : (k + 1) * 3 ≤ k * 3 + 3 := by omega
        have n9 : k * 3 + (K0.length - k) * 3 ≤ K0.length * 3 := by omega
        have n10 : (k + 1 + (K0.length - k)) * 3 ≤ k * 3 + ((K0.length - k) * 3 + 1 + 1 + 1) := by omega
        have n8 : (k + 1 + (K0.length - k)) * 3 ≤ (k + 1) * 3 + (K0.length - k) * 3 := by omega
        have hBt : (rD (K0.drop k)).take ((K0.length - k) * 3) = rD (K0.drop k) := by have := rD_take_Item (K0.drop k); rwa [hBl] at this
        have hRl : (K0.take k ++ (⟨xp, c.Dir, c.Text⟩ : Item) :: K0.drop k).length = k + 1 + (K0.length - k) := by simp; omega
        have hRR : rD (movedI (l.take (i + 1)) fr to) = (rD (K0.take k) ++ [T.sc (.string xp), T.sc (.bool c.Dir), T.sc (.string c.Text)]) ++ rD (K0.drop k) := by rw [hS]; exact hRDx
        have hRlen : (movedI (l.take (i + 1)) fr to).length = k + 1 + (K0.length - k) := by rw [hS]; exact hRl
        clear hS hIns
        have hAl2 : (rD (K0.take k)).length = k * 3 := by rw [rD_len_Item, hAl]
        have hBl2 : (rD (K0.drop k)).length = (K0.length - k) * 3 := by rw [rD_len_Item, hBl]
        generalize K0.take k = KA at *
        generalize K0.drop k = KB at *
        have hAt : (rD KA).take (k * 3) = rD KA := List.take_of_length_le (by omega)
        have n4b : k ≤ 140737488355327 := by omega
        have hCt : (rD KA ++ [T.sc (.string xp), T.sc (.bool c.Dir), T.sc (.string c.Text)]).take ((k + 1) * 3) = rD KA ++ [T.sc (.string xp), T.sc (.bool c.Dir), T.sc (.string c.Text)] := List.take_of_length_le (by simp [hAl2]; omega)
        have hDt : (rD KA ++ [T.sc (.string xp), T.sc (.bool c.Dir), T.sc (.string c.Text)] ++ rD KB).take ((k + 1 + (K0.length - k)) * 3) = rD KA ++ [T.sc (.string xp), T.sc (.bool c.Dir), T.sc (.string c.Text)] ++ rD KB := List.take_of_length_le (by simp [hAl2, hBl2]; omega)
        have hDt2 : (rD KA ++ (T.sc (.string xp) :: T.sc (.bool c.Dir) :: T.sc (.string c.Text) :: rD KB)).take ((k + 1 + (K0.length - k)) * 3) = rD KA ++ (T.sc (.string xp) :: T.sc (.bool c.Dir) :: T.sc (.string c.Text) :: rD KB) := List.take_of_length_le (by simp [hAl2, hBl2]; omega)
        refine DW.drawn mixed (by kernel_rfl) ?_
        refine RegD.cert (Cert.nilSlice rfl rfl rfl (by decide) (by simp; exact ⟨rfl, rfl⟩) (by simp; rfl) (by simp; rfl) (by rfl) (by decide)) ?_
        refine RegD.addN 4 (by simp [hlt1, hd, hw, g0, g0d, g1, q1, q2, q3, hxp, e0, e0i, hgP, hgP2, e1, hk, hk0, hk3, hA, hAl, hAl2, hAt, n1, n2, n3, n4, n4b, n7]; (first | (simp (disch := omega) only [wrapI, ltF, if_false]; done) | (simp (disch := omega) only [wrapI, ltF, if_false]; first | exact ⟨rfl, rfl⟩ | rfl) | skip); (first | done | exact ⟨rfl, rfl⟩ | rfl)) ?_
        refine RegD.cert (Cert.appRow (m := k) (id := 7) (p := [0]) (off := 0) (n' := K0.length) (cs := rD K0) rfl rfl rfl (by decide) (by simp; exact ⟨rfl, rfl⟩) (by simp; rfl) (by rfl) (by simp; rfl) (by simp) (by simp) (by simp; rfl) (by rfl) (by rw [rD_len_Item]; omega) (by rw [List.drop_zero, hA]; exact rD_flat_Item KA) (by simp) (by decide) (by simp [n1]) (by simp [n2]) (by simp)) ?_
        refine RegD.addN 1 (by simp [hlt1, hd, hw, g0, g0d, g1, q1, q2, q3, hxp, e0, e0i, hgP, hgP2, e1, hk, hk0, hk3, hA, hAl, hAl2, hAt, n1, n2, n3, n4, n4b, n7]; (first | (simp (disch := omega) only [wrapI, ltF, if_false]; done) | (simp (disch := omega) only [wrapI, ltF, if_false]; first | exact ⟨rfl, rfl⟩ | rfl) | skip); (first | done | exact ⟨rfl, rfl⟩ | rfl)) ?_
        refine RegD.cert (Cert.buildRo (rcs := [.sc (.string xp), .sc (.bool c.Dir), .sc (.string c.Text)]) rfl rfl rfl (by decide) (by simp; exact ⟨rfl, rfl⟩) (by simp; rfl) (by simp; rfl) (by rfl) (by decide) (by decide) (by simp [hlt1, hd, hw, g0, g0d, g1, q1, q2, q3, hxp, e0, e0i, hgP, hgP2, e1, hk, hk0, hk3, hA, hAl, hAl2, hAt, n1, n2, n3, n4, n4b, n7]; rfl) (by simp [hlt1, hd, hw, g0, g0d, g1, q1, q2, q3, hxp, e0, e0i, hgP, hgP2, e1, hk, hk0, hk3, hA, hAl, hAl2, hAt, n1, n2, n3, n4, n4b, n7]; rfl) (by rfl) (by simp)) ?_
        refine RegD.heavyF (by simp) (by simp [hlt1, hd, hw, g0, g0d, g1, q1, q2, q3, hxp, e0, e0i, hgP, hgP2, e1, hk, hk0, hk3, hA, hAl, hAl2, hAt, n1, n2, n3, n4, n4b, n7]; rfl) ?_
        refine RegD.addN 1 (by simp [hlt1, hd, hw, g0, g0d, g1, q1, q2, q3, hxp, e0, e0i, hgP, hgP2, e1, hk, hk0, hk3, hA, hAl, hAl2, hAt, n1, n2, n3, n4, n4b, n7]; (first | (simp (disch := omega) only [wrapI, ltF, if_false]; done) | (simp (disch := omega) only [wrapI, ltF, if_false]; first | exact ⟨rfl, rfl⟩ | rfl) | skip); (first | done | exact ⟨rfl, rfl⟩ | rfl)) ?_
        refine RegD.nil ⟨by kernel_rfl, ?_⟩
        refine DW.reg (by simp [hlt1, hd, hw, g0, g0d, g1, q1, q2, q3, hxp, e0, e0i, hgP, hgP2, e1, hk, hk0, hk3, hB, hBt, hAl, hBl, hAl2, hBl2, hCt, n5, n6, n7, n8, n9, n10, hDt, hDt2]; rfl) ?_
        refine DW.norm [(1, _), (2, _), (3, _), (6, _), (7, _), (8, _)] [(3, _), (6, _), (7, _)] [] (by simp [hlt1, hd, hw, g0, g0d, g1, q1, q2, q3, hxp, e0, e0i, hgP, hgP2, e1, hDt, hDt2]; exact ⟨rfl, rfl, rfl, rfl, rfl, rfl⟩) (by simp [hlt1, hd, hw, g0, g0d, g1, q1, q2, q3, hxp, e0, e0i, hgP, hgP2, e1, hDt, hDt2]; exact ⟨rfl, rfl, rfl⟩) (by simp [hlt1, hd, hw, g0, g0d, g1, q1, q2, q3, hxp, e0, e0i, hgP, hgP2, e1, hDt, hDt2]) (by rfl) ?_
        refine DW.reg (by simp (maxSteps := 200000) (disch := first | omega | (simp; done) | fail) [wrapI, leT, leF, ltT, ltF, eqF, nleT, nleF, nltT, nltF, hlt1, hd, hw, g0, g0d, g1, q1, q2, q3, hxp, e0, e0i, hgP, hgP2, e1]; rfl) ?_
        exact ⟨i + 1, hlt, by omega, by simp, by simp [hRR, hRlen], by simp, by rfl⟩
      · have e0i : (k : Int) < K0.length := by omega
        have hgP := rD_getP K0 k e0
        have hall2 : ∀ y ∈ K0.take (k + 1), leS y.Path xp = true := by
          intro y hy
          rw [List.take_add_one, List.getElem?_eq_getElem e0] at hy
          rcases List.mem_append.1 hy with hy | hy
          · exact hall y hy
          · simp at hy; rw [hy]; exact e1
        generalize K0[k] = y0 at hgP e1
        have hgP2 : ∀ h : k * 3 < (rD K0).length, (rD K0)[k * 3]'h = T.sc (.string y0.Path) := fun h => by rw [List.getElem?_eq_getElem h] at hgP; exact Option.some.inj hgP
        have hwk := wr ((k : Int) + 1) (by omega) (by omega)
        refine DW.drawn mixed (by kernel_rfl) ?_
        refine RegD.addN 16 (by simp [hlt1, hd, hw, g0, g0d, g1, q1, q2, q3, hxp, e0, e0i, hgP, hgP2, e1, hwk]; (first | (simp (disch := omega) only [wrapI, ltF, if_false]; done) | (simp (disch := omega) only [wrapI, ltF, if_false]; first | exact ⟨rfl, rfl⟩ | rfl) | skip); (first | done | exact ⟨rfl, rfl⟩ | rfl)) ?_
        refine RegD.nil ⟨by kernel_rfl, ?_⟩
        refine DW.condT (by simp (maxSteps := 200000) (disch := first | omega | (simp; done) | fail) [wrapI, leT, leF, ltT, ltF, eqF, nleT, nleF, nltT, nltF, hlt1, hd, hw, g0, g0d, g1, q1, q2, q3, hxp, e0, e0i, hgP, hgP2, e1, hwk]) ?_
        refine DW.skip ?_
        refine DW.block ?_
        refine DW.reg (by simp (maxSteps := 200000) (disch := first | omega | (simp; done) | fail) [wrapI, leT, leF, ltT, ltF, eqF, nleT, nleF, nltT, nltF, hlt1, hd, hw, g0, g0d, g1, q1, q2, q3, hxp, e0, e0i, hgP, hgP2, e1, hwk]; rfl) ?_
        exact ⟨k + 1, ⟨e0, hall2⟩, by omega, by simp, by simp, by simp, by rfl⟩
    · have hm : mvI fr to c = ⟨c.Path, c.Dir, c.Text⟩ := by unfold mvI; rw [if_neg g0, if_neg (by simp [g1])]
      have g0d : decide (c.Path = fr) = false := decide_eq_false g0
      refine DW.regs ?_
      refine RegO.opN 8 (by simp (maxSteps := 200000) (disch := first | omega | (simp; done) | fail) [wrapI, leT, leF, ltT, ltF, eqF, nleT, nleF, nltT, nltF, hlt1, hd, hw, g0, g0d, g1]; rfl) ?_
      refine RegO.stepT (by simp (maxSteps := 200000) (disch := first | omega | (simp; done) | fail) [wrapI, leT, leF, ltT, ltF, eqF, nleT, nleF, nltT, nltF, hlt1, hd, hw, g0, g0d, g1]) (OpStep.callA rfl (by simp (maxSteps := 200000) (disch := first | omega | (simp; done) | fail) [wrapI, leT, leF, ltT, ltF, eqF, nleT, nleF, nltT, nltF, hlt1, hd, hw, g0, g0d, g1]; exact ⟨rfl, rfl⟩) (by simp (maxSteps := 200000) (disch := first | omega | (simp; done) | fail) [wrapI, leT, leF, ltT, ltF, eqF, nleT, nleF, nltT, nltF, hlt1, hd, hw, g0, g0d, g1]; rfl) (by exact isUnder_spec c.Path fr) (by simp) (by simp (maxSteps := 200000) (disch := first | omega | (simp; done) | fail) [wrapI, leT, leF, ltT, ltF, eqF, nleT, nleF, nltT, nltF, hlt1, hd, hw, g0, g0d, g1]; rfl)) ?_
      refine RegO.opN 1 (by simp (maxSteps := 200000) (disch := first | omega | (simp; done) | fail) [wrapI, leT, leF, ltT, ltF, eqF, nleT, nleF, nltT, nltF, hlt1, hd, hw, g0, g0d, g1]; rfl) ?_
      refine RegO.nil ?_
      refine DW.norm [(1, _), (2, _), (3, _), (6, _), (7, _), (8, _), (9, _), (34, _)] [(3, _), (6, _), (7, _), (9, _)] [] (by simp [hlt1, hd, hw, g0, g0d, g1]; exact ⟨rfl, rfl, rfl, rfl, rfl, rfl, rfl, rfl⟩) (by simp [hlt1, hd, hw, g0, g0d, g1]; exact ⟨rfl, rfl, rfl, rfl⟩) (by simp [hlt1, hd, hw, g0, g0d, g1]) (by rfl) ?_
      refine DW.condF (by simp (maxSteps := 200000) (disch := first | omega | (simp; done) | fail) [wrapI, leT, leF, ltT, ltF, eqF, nleT, nleF, nltT, nltF, hlt1, hd, hw, g0, g0d, g1]) ?_
      refine DW.skip ?_
      refine DW.seq ?_
      refine DW.reg (by simp (maxSteps := 200000) (disch := first | omega | (simp; done) | fail) [wrapI, leT, leF, ltT, ltF, eqF, nleT, nleF, nltT, nltF, hlt1, hd, hw, g0, g0d, g1]; rfl) ?_
      refine DW.seq ?_
      refine DW.block ?_
      refine DW.loopS (α := Nat) (fun k => k ≤ K0.length ∧ ∀ y ∈ K0.take k, leS y.Path c.Path = true) (fun k => K0.length - k) (fun k => [(10, vi k)]) (fun k => []) [(1, _), (2, _), (3, _), (6, _), (7, _), (8, _), (9, _)] [(3, _), (6, _), (7, _), (9, _)] [] 0 (⟨Nat.zero_le _, by simp⟩) (by simp; exact ⟨rfl, rfl, rfl, rfl, rfl, rfl, rfl⟩) (by simp; exact ⟨rfl, rfl, rfl, rfl⟩) (by simp) (by rfl) ?_
      rintro k ⟨hk, hall⟩
      refine DW.seq ?_
      refine DW.seq ?_
      have hsp : ¬ k < K0.length ∨ (∃ h : k < K0.length, leS K0[k].Path c.Path = false) ∨ (∃ h : k < K0.length, leS K0[k].Path c.Path = true) := by
        by_cases h : k < K0.length
        · cases hu : leS K0[k].Path c.Path
          · exact .inr (.inl ⟨h, hu⟩)
          · exact .inr (.inr ⟨h, hu⟩)
        · exact .inl h
      rcases hsp with e0 | ⟨e0, e1⟩ | ⟨e0, e1⟩
      · have hke : k = K0.length := by omega
        have hrun : runN c.Path K0 = k := by rw [hke] at hall ⊢; exact runN_end hall
        have e0i : ¬ (k : Int) < K0.length := by omega
        refine DW.drawn mixed (by kernel_rfl) ?_
        refine RegD.addN 16 (by simp [hlt1, hd, hw, g0, g0d, g1, e0, e0i]; (first | (simp (disch := omega) only [wrapI, ltF, if_false]; done) | (simp (disch := omega) only [wrapI, ltF, if_false]; first | exact ⟨rfl, rfl⟩ | rfl) | skip); (first | done | exact ⟨rfl, rfl⟩ | rfl)) ?_
        refine RegD.nil ⟨by kernel_rfl, ?_⟩
        refine DW.condF (by simp (maxSteps := 200000) (disch := first | omega | (simp; done) | fail) [wrapI, leT, leF, ltT, ltF, eqF, nleT, nleF, nltT, nltF, hlt1, hd, hw, g0, g0d, g1, e0, e0i]) ?_
        refine DW.exit ?_
        refine DW.seq ?_
        have hIns : insP ⟨c.Path, c.Dir, c.Text⟩ K0 = K0.take k ++ (⟨c.Path, c.Dir, c.Text⟩ : Item) :: K0.drop k := by unfold insP; simp only; rw [hrun]
        rw [hm, hIns] at hS
        have hRDx : rD (K0.take k ++ (⟨c.Path, c.Dir, c.Text⟩ : Item) :: K0.drop k) = (rD (K0.take k) ++ [T.sc (.string c.Path), T.sc (.bool c.Dir), T.sc (.string c.Text)]) ++ rD (K0.drop k) := by
          rw [rD_append, rD_cons, List.append_assoc]; rfl
        have hA : (rD K0).take (k * 3) = rD (K0.take k) := rD_takeV K0 k hk
        have hB : (rD K0).drop (k * 3) = rD (K0.drop k) := rD_dropV K0 k hk
        have hAl : (K0.take k).length = k := by rw [List.length_take]; omega
        have hBl : (K0.drop k).length = K0.length - k := by simp
        have hk0 : (k : Int) ≤ K0.length := by omega
        have hk3 : k * 3 ≤ K0.length * 3 := by omega
        have n1 : k * 40 ≤ 140737488355328 := by omega
        have n2 : k ≤ 140737488355328 := by omega
        have n3 : (k + 1) * 40 ≤ 140737488355328 := by omega
        have n4 : k + 1 ≤ 140737488355328 := by omega
        have n5 : (k + 1 + (K0.length - k)) * 40 ≤ 140737488355328 := by omega
        have n6 : k + 1 + (K0.length - k) ≤ 140737488355328 := by omega
        have n7 : (k + 1) * 3 ≤ k * 3 + 3 := by omega
        have n9 : k * 3 + (K0.length - k) * 3 ≤ K0.length * 3 := by omega
        have n10 : (k + 1 + (K0.length - k)) * 3 ≤ k * 3 + ((K0.length - k) * 3 + 1 + 1 + 1) := by omega
        have n8 : (k + 1 + (K0.length - k)) * 3 ≤ (k + 1) * 3 + (K0.length - k) * 3 := by omega
        have hBt : (rD (K0.drop k)).take ((K0.length - k) * 3) = rD (K0.drop k) := by have := rD_take_Item (K0.drop k); rwa [hBl] at this
        have hRl : (K0.take k ++ (⟨c.Path, c.Dir, c.Text⟩ : Item) :: K0.drop k).length = k + 1 + (K0.length - k) := by simp; omega
        have hRR : rD (movedI (l.take (i + 1)) fr to) = (rD (K0.take k) ++ [T.sc (.string c.Path), T.sc (.bool c.Dir), T.sc (.string c.Text)]) ++ rD (K0.drop k) := by rw [hS]; exact hRDx
        have hRlen : (movedI (l.take (i + 1)) fr to).length = k + 1 + (K0.length - k) := by rw [hS]; exact hRl
        clear hS hIns
        have hAl2 : (rD (K0.take k)).length = k * 3 := by rw [rD_len_Item, hAl]
        have hBl2 : (rD (K0.drop k)).length = (K0.length - k) * 3 := by rw [rD_len_Item, hBl]
        generalize K0.take k = KA at *
        generalize K0.drop k = KB at *
        have hAt : (rD KA).take (k * 3) = rD KA := List.take_of_length_le (by omega)
        have n4b : k ≤ 140737488355327 := by omega
        have hCt : (rD KA ++ [T.sc (.string c.Path), T.sc (.bool c.Dir), T.sc (.string c.Text)]).take ((k + 1) * 3) = rD KA ++ [T.sc (.string c.Path), T.sc (.bool c.Dir), T.sc (.string c.Text)] := List.take_of_length_le (by simp [hAl2]; omega)
        have hDt : (rD KA ++ [T.sc (.string c.Path), T.sc (.bool c.Dir), T.sc (.string c.Text)] ++ rD KB).take ((k + 1 + (K0.length - k)) * 3) = rD KA ++ [T.sc (.string c.Path), T.sc (.bool c.Dir), T.sc (.string c.Text)] ++ rD KB := List.take_of_length_le (by simp [hAl2, hBl2]; omega)
        have hDt2 : (rD KA ++ (T.sc (.string c.Path) :: T.sc (.bool c.Dir) :: T.sc (.string c.Text) :: rD KB)).take ((k + 1 + (K0.length - k)) * 3) = rD KA ++ (T.sc (.string c.Path) :: T.sc (.bool c.Dir) :: T.sc (.string c.Text) :: rD KB) := List.take_of_length_le (by simp [hAl2, hBl2]; omega)
        refine DW.drawn mixed (by kernel_rfl) ?_
        refine RegD.cert (Cert.nilSlice rfl rfl rfl (by decide) (by simp; exact ⟨rfl, rfl⟩) (by simp; rfl) (by simp; rfl) (by rfl) (by decide)) ?_
        refine RegD.addN 4 (by simp [hlt1, hd, hw, g0, g0d, g1, e0, e0i, hk, hk0, hk3, hA, hAl, hAl2, hAt, n1, n2, n3, n4, n4b, n7]; (first | (simp (disch := omega) only [wrapI, ltF, if_false]; done) | (simp (disch := omega) only [wrapI, ltF, if_false]; first | exact ⟨rfl, rfl⟩ | rfl) | skip); (first | done | exact ⟨rfl, rfl⟩ | rfl)) ?_
        refine RegD.cert (Cert.appRow (m := k) (id := 7) (p := [0]) (off := 0) (n' := K0.length) (cs := rD K0) rfl rfl rfl (by decide) (by simp; exact ⟨rfl, rfl⟩) (by simp; rfl) (by rfl) (by simp; rfl) (by simp) (by simp) (by simp; rfl) (by rfl) (by rw [rD_len_Item]; omega) (by rw [List.drop_zero, hA]; exact rD_flat_Item KA) (by simp) (by decide) (by simp [n1]) (by simp [n2]) (by simp)) ?_
        refine RegD.addN 1 (by simp [hlt1, hd, hw, g0, g0d, g1, e0, e0i, hk, hk0, hk3, hA, hAl, hAl2, hAt, n1, n2, n3, n4, n4b, n7]; (first | (simp (disch := omega) only [wrapI, ltF, if_false]; done) | (simp (disch := omega) only [wrapI, ltF, if_false]; first | exact ⟨rfl, rfl⟩ | rfl) | skip); (first | done | exact ⟨rfl, rfl⟩ | rfl)) ?_
        refine RegD.cert (Cert.buildRo (rcs := [.sc (.string c.Path), .sc (.bool c.Dir), .sc (.string c.Text)]) rfl rfl rfl (by decide) (by simp; exact ⟨rfl, rfl⟩) (by simp; rfl) (by simp; rfl) (by rfl) (by decide) (by decide) (by simp [hlt1, hd, hw, g0, g0d, g1, e0, e0i, hk, hk0, hk3, hA, hAl, hAl2, hAt, n1, n2, n3, n4, n4b, n7]; rfl) (by simp [hlt1, hd, hw, g0, g0d, g1, e0, e0i, hk, hk0, hk3, hA, hAl, hAl2, hAt, n1, n2, n3, n4, n4b, n7]; rfl) (by rfl) (by simp)) ?_
        refine RegD.heavyF (by simp) (by simp [hlt1, hd, hw, g0, g0d, g1, e0, e0i, hk, hk0, hk3, hA, hAl, hAl2, hAt, n1, n2, n3, n4, n4b, n7]; rfl) ?_
        refine RegD.addN 1 (by simp [hlt1, hd, hw, g0, g0d, g1, e0, e0i, hk, hk0, hk3, hA, hAl, hAl2, hAt, n1, n2, n3, n4, n4b, n7]; (first | (simp (disch := omega) only [wrapI, ltF, if_false]; done) | (simp (disch := omega) only [wrapI, ltF, if_false]; first | exact ⟨rfl, rfl⟩ | rfl) | skip); (first | done | exact ⟨rfl, rfl⟩ | rfl)) ?_
        refine RegD.nil ⟨by kernel_rfl, ?_⟩
        refine DW.reg (by simp [hlt1, hd, hw, g0, g0d, g1, e0, e0i, hk, hk0, hk3, hB, hBt, hAl, hBl, hAl2, hBl2, hCt, n5, n6, n7, n8, n9, n10, hDt, hDt2]; rfl) ?_
        refine DW.norm [(1, _), (2, _), (3, _), (6, _), (7, _), (8, _)] [(3, _), (6, _), (7, _)] [] (by simp [hlt1, hd, hw, g0, g0d, g1, e0, e0i, hDt, hDt2]; exact ⟨rfl, rfl, rfl, rfl, rfl, rfl⟩) (by simp [hlt1, hd, hw, g0, g0d, g1, e0, e0i, hDt, hDt2]; exact ⟨rfl, rfl, rfl⟩) (by simp [hlt1, hd, hw, g0, g0d, g1, e0, e0i, hDt, hDt2]) (by rfl) ?_
        refine DW.reg (by simp (maxSteps := 200000) (disch := first | omega | (simp; done) | fail) [wrapI, leT, leF, ltT, ltF, eqF, nleT, nleF, nltT, nltF, hlt1, hd, hw, g0, g0d, g1, e0, e0i]; rfl) ?_
        have hz0 : K0.length - k = 0 := by omega
        exact ⟨i + 1, hlt, by omega, by simp, by simp [hRR, hRlen, hz0], by simp, by rfl⟩
      · have hrun : runN c.Path K0 = k := runN_next e0 hall e1
        have e0i : (k : Int) < K0.length := by omega
        have hgP := rD_getP K0 k e0
        generalize K0[k] = y0 at hgP e1
        have hgP2 : ∀ h : k * 3 < (rD K0).length, (rD K0)[k * 3]'h = T.sc (.string y0.Path) := fun h => by rw [List.getElem?_eq_getElem h] at hgP; exact Option.some.inj hgP
        refine DW.drawn mixed (by kernel_rfl) ?_
        refine RegD.addN 16 (by simp [hlt1, hd, hw, g0, g0d, g1, e0, e0i, hgP, hgP2, e1]; (first | (simp (disch := omega) only [wrapI, ltF, if_false]; done) | (simp (disch := omega) only [wrapI, ltF, if_false]; first | exact ⟨rfl, rfl⟩ | rfl) | skip); (first | done | exact ⟨rfl, rfl⟩ | rfl)) ?_
        refine RegD.nil ⟨by kernel_rfl, ?_⟩
        refine DW.condF (by simp (maxSteps := 200000) (disch := first | omega | (simp; done) | fail) [wrapI, leT, leF, ltT, ltF, eqF, nleT, nleF, nltT, nltF, hlt1, hd, hw, g0, g0d, g1, e0, e0i, hgP, hgP2, e1]) ?_
        refine DW.exit ?_
        refine DW.seq ?_
        have hIns : insP ⟨c.Path, c.Dir, c.Text⟩ K0 = K0.take k ++ (⟨c.Path, c.Dir, c.Text⟩ : Item) :: K0.drop k := by unfold insP; simp only; rw [hrun]
        rw [hm, hIns] at hS
        have hRDx : rD (K0.take k ++ (⟨c.Path, c.Dir, c.Text⟩ : Item) :: K0.drop k) = (rD (K0.take k) ++ [T.sc (.string c.Path), T.sc (.bool c.Dir), T.sc (.string c.Text)]) ++ rD (K0.drop k) := by
          rw [rD_append, rD_cons, List.append_assoc]; rfl
        have hA : (rD K0).take (k * 3) = rD (K0.take k) := rD_takeV K0 k hk
        have hB : (rD K0).drop (k * 3) = rD (K0.drop k) := rD_dropV K0 k hk
        have hAl : (K0.take k).length = k := by rw [List.length_take]; omega
        have hBl : (K0.drop k).length = K0.length - k := by simp
        have hk0 : (k : Int) ≤ K0.length := by omega
        have hk3 : k * 3 ≤ K0.length * 3 := by omega
        have n1 : k * 40 ≤ 140737488355328 := by omega
        have n2 : k ≤ 140737488355328 := by omega
        have n3 : (k + 1) * 40 ≤ 140737488355328 := by omega
        have n4 : k + 1 ≤ 140737488355328 := by omega
        have n5 : (k + 1 + (K0.length - k)) * 40 ≤ 140737488355328 := by omega
        have n6 : k + 1 + (K0.length - k) ≤ 140737488355328 := by omega
        have n7 : (k + 1) * 3 ≤ k * 3 + 3 := by omega
        have n9 : k * 3 + (K0.length - k) * 3 ≤ K0.length * 3 := by omega
        have n10 : (k + 1 + (K0.length - k)) * 3 ≤ k * 3 + ((K0.length - k) * 3 + 1 + 1 + 1) := by omega
        have n8 : (k + 1 + (K0.length - k)) * 3 ≤ (k + 1) * 3 + (K0.length - k) * 3 := by omega
        have hBt : (rD (K0.drop k)).take ((K0.length - k) * 3) = rD (K0.drop k) := by have := rD_take_Item (K0.drop k); rwa [hBl] at this
        have hRl : (K0.take k ++ (⟨c.Path, c.Dir, c.Text⟩ : Item) :: K0.drop k).length = k + 1 + (K0.length - k) := by simp; omega
        have hRR : rD (movedI (l.take (i + 1)) fr to) = (rD (K0.take k) ++ [T.sc (.string c.Path), T.sc (.bool c.Dir), T.sc (.string c.Text)]) ++ rD (K0.drop k) := by rw [hS]; exact hRDx
        have hRlen : (movedI (l.take (i + 1)) fr to).length = k + 1 + (K0.length - k) := by rw [hS]; exact hRl
        clear hS hIns
        have hAl2 : (rD (K0.take k)).length = k * 3 := by rw [rD_len_Item, hAl]
        have hBl2 : (rD (K0.drop k)).length = (K0.length - k) * 3 := by rw [rD_len_Item, hBl]
        generalize K0.take k = KA at *
        generalize K0.drop k = KB at *
        have hAt : (rD KA).take (k * 3) = rD KA := List.take_of_length_le (by omega)
        have n4b : k ≤ 140737488355327 := by omega
        have hCt : (rD KA ++ [T.sc (.string c.Path), T.sc (.bool c.Dir), T.sc (.string c.Text)]).take ((k + 1) * 3) = rD KA ++ [T.sc (.string c.Path), T.sc (.bool c.Dir), T.sc (.string c.Text)] := List.take_of_length_le (by simp [hAl2]; omega)
        have hDt : (rD KA ++ [T.sc (.string c.Path), T.sc (.bool c.Dir), T.sc (.string c.Text)] ++ rD KB).take ((k + 1 + (K0.length - k)) * 3) = rD KA ++ [T.sc (.string c.Path), T.sc (.bool c.Dir), T.sc (.string c.Text)] ++ rD KB := List.take_of_length_le (by simp [hAl2, hBl2]; omega)
        have hDt2 : (rD KA ++ (T.sc (.string c.Path) :: T.sc (.bool c.Dir) :: T.sc (.string c.Text) :: rD KB)).take ((k + 1 + (K0.length - k)) * 3) = rD KA ++ (T.sc (.string c.Path) :: T.sc (.bool c.Dir) :: T.sc (.string c.Text) :: rD KB) := List.take_of_length_le (by simp [hAl2, hBl2]; omega)
        refine DW.drawn mixed (by kernel_rfl) ?_
        refine RegD.cert (Cert.nilSlice rfl rfl rfl (by decide) (by simp; exact ⟨rfl, rfl⟩) (by simp; rfl) (by simp; rfl) (by rfl) (by decide)) ?_
        refine RegD.addN 4 (by simp [hlt1, hd, hw, g0, g0d, g1, e0, e0i, hgP, hgP2, e1, hk, hk0, hk3, hA, hAl, hAl2, hAt, n1, n2, n3, n4, n4b, n7]; (first | (simp (disch := omega) only [wrapI, ltF, if_false]; done) | (simp (disch := omega) only [wrapI, ltF, if_false]; first | exact ⟨rfl, rfl⟩ | rfl) | skip); (first | done | exact ⟨rfl, rfl⟩ | rfl)) ?_
        refine RegD.cert (Cert.appRow (m := k) (id := 7) (p := [0]) (off := 0) (n' := K0.length) (cs := rD K0) rfl rfl rfl (by decide) (by simp; exact ⟨rfl, rfl⟩) (by simp; rfl) (by rfl) (by simp; rfl) (by simp) (by simp) (by simp; rfl) (by rfl) (by rw [rD_len_Item]; omega) (by rw [List.drop_zero, hA]; exact rD_flat_Item KA) (by simp) (by decide) (by simp [n1]) (by simp [n2]) (by simp)) ?_
        refine RegD.addN 1 (by simp [hlt1, hd, hw, g0, g0d, g1, e0, e0i, hgP, hgP2, e1, hk, hk0, hk3, hA, hAl, hAl2, hAt, n1, n2, n3, n4, n4b, n7]; (first | (simp (disch := omega) only [wrapI, ltF, if_false]; done) | (simp (disch := omega) only [wrapI, ltF, if_false]; first | exact ⟨rfl, rfl⟩ | rfl) | skip); (first | done | exact ⟨rfl, rfl⟩ | rfl)) ?_
        refine RegD.cert (Cert.buildRo (rcs := [.sc (.string c.Path), .sc (.bool c.Dir), .sc (.string c.Text)]) rfl rfl rfl (by decide) (by simp; exact ⟨rfl, rfl⟩) (by simp; rfl) (by simp; rfl) (by rfl) (by decide) (by decide) (by simp [hlt1, hd, hw, g0, g0d, g1, e0, e0i, hgP, hgP2, e1, hk, hk0, hk3, hA, hAl, hAl2, hAt, n1, n2, n3, n4, n4b, n7]; rfl) (by simp [hlt1, hd, hw, g0, g0d, g1, e0, e0i, hgP, hgP2, e1, hk, hk0, hk3, hA, hAl, hAl2, hAt, n1, n2, n3, n4, n4b, n7]; rfl) (by rfl) (by simp)) ?_
        refine RegD.heavyF (by simp) (by simp [hlt1, hd, hw, g0, g0d, g1, e0, e0i, hgP, hgP2, e1, hk, hk0, hk3, hA, hAl, hAl2, hAt, n1, n2, n3, n4, n4b, n7]; rfl) ?_
        refine RegD.addN 1 (by simp [hlt1, hd, hw, g0, g0d, g1, e0, e0i, hgP, hgP2, e1, hk, hk0, hk3, hA, hAl, hAl2, hAt, n1, n2, n3, n4, n4b, n7]; (first | (simp (disch := omega) only [wrapI, ltF, if_false]; done) | (simp (disch := omega) only [wrapI, ltF, if_false]; first | exact ⟨rfl, rfl⟩ | rfl) | skip); (first | done | exact ⟨rfl, rfl⟩ | rfl)) ?_
        refine RegD.nil ⟨by kernel_rfl, ?_⟩
        refine DW.reg (by simp [hlt1, hd, hw, g0, g0d, g1, e0, e0i, hgP, hgP2, e1, hk, hk0, hk3, hB, hBt, hAl, hBl, hAl2, hBl2, hCt, n5, n6, n7, n8, n9, n10, hDt, hDt2]; rfl) ?_
        refine DW.norm [(1, _), (2, _), (3, _), (6, _), (7, _), (8, _)] [(3, _), (6, _), (7, _)] [] (by simp [hlt1, hd, hw, g0, g0d, g1, e0, e0i, hgP, hgP2, e1, hDt, hDt2]; exact ⟨rfl, rfl, rfl, rfl, rfl, rfl⟩) (by simp [hlt1, hd, hw, g0, g0d, g1, e0, e0i, hgP, hgP2, e1, hDt, hDt2]; exact ⟨rfl, rfl, rfl⟩) (by simp [hlt1, hd, hw, g0, g0d, g1, e0, e0i, hgP, hgP2, e1, hDt, hDt2]) (by rfl) ?_
        refine DW.reg (by simp (maxSteps := 200000) (disch := first | omega | (simp; done) | fail) [wrapI, leT, leF, ltT, ltF, eqF, nleT, nleF, nltT, nltF, hlt1, hd, hw, g0, g0d, g1, e0, e0i, hgP, hgP2, e1]; rfl) ?_
        exact ⟨i + 1, hlt, by omega, by simp, by simp [hRR, hRlen], by simp, by rfl⟩
      · have e0i : (k : Int) < K0.length := by omega
        have hgP := rD_getP K0 k e0
        have hall2 : ∀ y ∈ K0.take (k + 1), leS y.Path c.Path = true := by
          intro y hy
          rw [List.take_add_one, List.getElem?_eq_getElem e0] at hy
          rcases List.mem_append.1 hy with hy | hy
          · exact hall y hy
          · simp at hy; rw [hy]; exact e1
        generalize K0[k] = y0 at hgP e1
        have hgP2 : ∀ h : k * 3 < (rD K0).length, (rD K0)[k * 3]'h = T.sc (.string y0.Path) := fun h => by rw [List.getElem?_eq_getElem h] at hgP; exact Option.some.inj hgP
        have hwk := wr ((k : Int) + 1) (by omega) (by omega)
        refine DW.drawn mixed (by kernel_rfl) ?_
        refine RegD.addN 16 (by simp [hlt1, hd, hw, g0, g0d, g1, e0, e0i, hgP, hgP2, e1, hwk]; (first | (simp (disch := omega) only [wrapI, ltF, if_false]; done) | (simp (disch := omega) only [wrapI, ltF, if_false]; first | exact ⟨rfl, rfl⟩ | rfl) | skip); (first | done | exact ⟨rfl, rfl⟩ | rfl)) ?_
        refine RegD.nil ⟨by kernel_rfl, ?_⟩
        refine DW.condT (by simp (maxSteps := 200000) (disch := first | omega | (simp; done) | fail) [wrapI, leT, leF, ltT, ltF, eqF, nleT, nleF, nltT, nltF, hlt1, hd, hw, g0, g0d, g1, e0, e0i, hgP, hgP2, e1, hwk]) ?_
        refine DW.skip ?_
        refine DW.block ?_
        refine DW.reg (by simp (maxSteps := 200000) (disch := first | omega | (simp; done) | fail) [wrapI, leT, leF, ltT, ltF, eqF, nleT, nleF, nltT, nltF, hlt1, hd, hw, g0, g0d, g1, e0, e0i, hgP, hgP2, e1, hwk]; rfl) ?_
        exact ⟨k + 1, ⟨e0, hall2⟩, by omega, by simp, by simp, by simp, by rfl⟩
  · have hil : i = l.length := by
      have : ¬ i < l.length := by simpa using hc0
      omega
    subst hil
    rw [List.take_length]
    refine DW.exit ?_
    refine DW.seq ?_
    refine DW.reg (by simp; rfl) ?_
    refine DW.ret ?_
    simp [Try.results43]
end Go.Proofs.Ytciieaidbiejmaa.DM
