import Derived.Test.YtciieaidbiejmaaAS2
import Derived.Test.YtciieaidbiejmaaA2
namespace Go.Proofs.Ytciieaidbiejmaa.DM
set_option linter.unusedVariables false
set_option linter.unusedSimpArgs false
set_option maxRecDepth 4000
set_option maxHeartbeats 8000000
abbrev raV (l : List Item) : PA := .agg [.r (.sl l.length (rR l))]
abbrev dV (l : List Item) : List D := [.ow () 3 l.length (rD l)]
theorem take_snocI (l : List Item) (c : Item) : List.take ((l.length + 1) * 3) (rD l ++ [.sc (.string c.Path), .sc (.bool c.Dir), .sc (.string c.Text)]) = rD l ++ [.sc (.string c.Path), .sc (.bool c.Dir), .sc (.string c.Text)] :=
  List.take_of_length_le (by rw [List.length_append, rD_len_Item]; simp; omega)
theorem rD_snocI (l : List Item) (c : Item) : rD l ++ [.sc (.string c.Path), .sc (.bool c.Dir), .sc (.string c.Text)] = rD (l ++ [c]) := by rw [rD_append]; rfl
theorem len_snocI (l : List Item) (c : Item) : l.length + 1 = (l ++ [c]).length := by simp
def Small (l : List Item) : Prop := l.length ≤ 1048576 ∧ ∀ x ∈ l, x.Path.size ≤ 1048576 ∧ x.Text.size ≤ 1048576
theorem pagesX_bd {x : Item} (h : x.Text.size ≤ 1048576) : pagesX x ≤ 1048576 := by unfold pagesX pagesFor; split <;> omega
theorem pagesIn_bd : ∀ {l : List Item}, (∀ x ∈ l, x.Text.size ≤ 1048576) → pagesIn l ≤ l.length * 1048576
  | [], _ => by simp [pagesIn]
  | x :: l, h => by
    have h1 := pagesX_bd (h x List.mem_cons_self)
    have h2 := pagesIn_bd (l := l) fun y hy => h y (List.mem_cons_of_mem _ hy)
    rw [List.length_cons, Nat.succ_mul]
    show pagesIn (x :: l) ≤ _
    rw [show pagesIn (x :: l) = pagesX x + pagesIn l by simp [pagesIn]]
    omega
theorem putF_split (x : Item) (b : Bool) (c : Item) (l : List Item) : putF x b (c :: l) = ((if !b && gtS c.Path x.Path then [x] else []) ++ (if c.Path = x.Path then [] else [c])) ++ putF x (b || gtS c.Path x.Path) l := rfl
theorem gtS_fold (a b : ByteArray) : (!(Op.bytesLess a.toList b.toList || a.toList == b.toList)) = gtS a b := rfl
@[simp ↓ high] theorem foldGt (a b : ByteArray) : strBin .gtr a b = some (.bool (gtS a b)) := by rw [gtS, ltS]; rfl
@[simp ↓ high] theorem foldLe (a b : ByteArray) : strBin .leq a b = some (.bool (leS a b)) := by rw [leS, ltS]; rfl
theorem leS_fold (a b : ByteArray) : (Op.bytesLess a.toList b.toList || a.toList == b.toList) = leS a b := rfl
theorem itemAt_spec (l : List Item) (p : ByteArray) (hl : l.length < 2 ^ 40) : Spec Try.prog 7 [raV l, rs p] [none] [di (itemAt l p)] [raV l, rs p] := by
  refine Spec.intro Try.func7 rfl rfl Try.ntmps7 rfl (by simp) ?_
  refine DW.seq ?_
  refine DW.reg (by simp (maxSteps := 200000) (disch := first | omega | (simp; done) | fail) [wrapI, leT, leF, ltT, ltF, eqF, nleT, nleF, nltT, nltF]; rfl) ?_
  refine DW.seq ?_
  refine DW.seq ?_
  refine DW.reg (by simp (maxSteps := 200000) (disch := first | omega | (simp; done) | fail) [wrapI, leT, leF, ltT, ltF, eqF, nleT, nleF, nltT, nltF]; rfl) ?_
  refine DW.block ?_
  refine DW.loopS (α := Nat) (fun i => i ≤ l.length ∧ ∀ j (hj : j < l.length), j < i → l[j].Path ≠ p) (fun i => l.length - i) (fun i => [(5, vi i)]) (fun i => []) [(1, _), (2, _)] [(2, _)] [] 0 (⟨Nat.zero_le _, fun j _ h => absurd h (Nat.not_lt_zero _)⟩) (by simp; exact ⟨rfl, rfl⟩) (by simp; exact rfl) (by simp) (by rfl) ?_
  rintro i ⟨hi, hall⟩
  refine DW.seq ?_
  refine DW.seq ?_
  refine DW.reg (by simp (maxSteps := 200000) (disch := first | omega | (simp; done) | fail) [wrapI, leT, leF, ltT, ltF, eqF, nleT, nleF, nltT, nltF]; rfl) ?_
  refine DW.condB (by simp (maxSteps := 200000) (disch := first | omega | (simp; done) | fail) [wrapI, leT, leF, ltT, ltF, eqF, nleT, nleF, nltT, nltF]; exact rfl) (fun hc0 => ?_) (fun hc0 => ?_)
  · have hlt : i < l.length := by simpa using hc0
    have hlt1 : (i : Int) < l.length := by omega
    have hd := rR_drop_Item l i hlt
    have hw := wr ((i : Int) + 1) (by omega) (by omega)
    generalize hci : l[i] = c at *
    refine DW.skip ?_
    refine DW.seq ?_
    refine DW.block ?_
    refine DW.seq ?_
    refine DW.reg (by simp (maxSteps := 200000) (disch := first | omega | (simp; done) | fail) [wrapI, leT, leF, ltT, ltF, eqF, nleT, nleF, nltT, nltF, hlt1, hd, hw]; rfl) ?_
    refine DW.condB (by simp (maxSteps := 200000) (disch := first | omega | (simp; done) | fail) [wrapI, leT, leF, ltT, ltF, eqF, nleT, nleF, nltT, nltF, hlt1, hd, hw]; exact rfl) (fun hc1 => ?_) (fun hc1 => ?_)
    · have hcp : c.Path = p := by simpa using hc1
      have hres : itemAt l p = i := itemAt_hit hlt (fun j hj h => hall j hj h) (hci ▸ hcp)
      rw [hres]
      refine DW.seq ?_
      refine DW.reg (by simp (maxSteps := 200000) (disch := first | omega | (simp; done) | fail) [wrapI, leT, leF, ltT, ltF, eqF, nleT, nleF, nltT, nltF, hlt1, hd, hw]; rfl) ?_
      refine DW.ret ?_
      simp [Try.results7]
    · have hcp : ¬ c.Path = p := by simpa using hc1
      refine DW.skip ?_
      refine DW.reg (by simp (maxSteps := 200000) (disch := first | omega | (simp; done) | fail) [wrapI, leT, leF, ltT, ltF, eqF, nleT, nleF, nltT, nltF, hlt1, hd, hw]; rfl) ?_
      refine ⟨i + 1, ⟨hlt, fun j hj h => ?_⟩, by omega, by simp, by simp, by simp, by rfl⟩
      rcases Nat.lt_or_ge j i with h1 | h1
      · exact hall j hj h1
      · have : j = i := by omega
        subst this
        rw [hci]; exact hcp
  · have hil : i = l.length := by
      have : ¬ i < l.length := by simpa using hc0
      omega
    have hres : itemAt l p = -1 := itemAt_no (fun j hj => hall j hj (by omega))
    rw [hres]
    refine DW.exit ?_
    refine DW.seq ?_
    refine DW.reg (by simp (maxSteps := 200000) (disch := first | omega | (simp; done) | fail) [wrapI, leT, leF, ltT, ltF, eqF, nleT, nleF, nltT, nltF]; rfl) ?_
    refine DW.ret ?_
    simp [Try.results7]
theorem pagesFor_spec (n : Nat) (hn : n < 2 ^ 40) : Spec Try.prog 8 [ri n] [none] [di (pagesFor n)] [ri n] := by
  refine Spec.intro Try.func8 rfl rfl Try.ntmps8 rfl (by simp) ?_
  refine DW.seq ?_
  refine DW.reg (by simp; rfl) ?_
  refine DW.seq ?_
  refine DW.seq ?_
  refine DW.reg (by simp; rfl) ?_
  refine DW.condB (by simp; exact rfl) (fun hc0 => ?_) (fun hc0 => ?_)
  · have hn0 : n = 0 := by
      have : (n : Int) ≤ 0 := by simpa using hc0
      omega
    subst hn0
    have hres : pagesFor 0 = 0 := rfl
    rw [hres]
    refine DW.seq ?_
    refine DW.reg (by simp; rfl) ?_
    refine DW.ret ?_
    simp [Try.results8]
  · have hn0 : ¬ n = 0 := by
      have : ¬ (n : Int) ≤ 0 := by simpa using hc0
      omega
    obtain ⟨m, hm⟩ : ∃ m, m = n - 1 := ⟨_, rfl⟩
    obtain ⟨q, hq⟩ : ∃ q, q = m / 32 := ⟨_, rfl⟩
    have w1 : IntKind.i64.wrap ((n : Int) - 1) = (m : Int) := (wr _ (by omega) (by omega)).trans (by omega)
    have w1b : (n : Int) - 1 = (m : Int) := by omega
    have w2 : (m : Int).tdiv 32 = (q : Int) := by rw [Int.tdiv_eq_ediv_of_nonneg (by omega)]; omega
    have w3 : IntKind.i64.wrap (q : Int) = (q : Int) := wr _ (by omega) (by omega)
    have w3c : IntKind.i64.wrap (m : Int) = (m : Int) := wr _ (by omega) (by omega)
    have w4 : IntKind.i64.wrap ((q : Int) + 1) = (q : Int) + 1 := wr _ (by omega) (by omega)
    have hres : (pagesFor n : Int) = (q : Int) + 1 := by unfold pagesFor; omega
    rw [hres]
    refine DW.skip ?_
    refine DW.seq ?_
    refine DW.reg (by simp [w1, w1b, w2, w3, w3c, w4]; rfl) ?_
    refine DW.ret ?_
    simp [Try.results8]
theorem pagesIn_spec (l : List Item) (hs : Small l) : Spec Try.prog 11 [raV l] [none] [di (pagesIn l)] [raV l] := by
  refine Spec.intro Try.func11 rfl rfl Try.ntmps11 rfl (by simp) ?_
  have hs1 := hs.1
  refine DW.seq ?_
  refine DW.reg (by simp (maxSteps := 200000) (disch := first | omega | (simp; done) | fail) [wrapI, leT, leF, ltT, ltF, eqF, nleT, nleF, nltT, nltF]; rfl) ?_
  refine DW.seq ?_
  refine DW.reg (by simp (maxSteps := 200000) (disch := first | omega | (simp; done) | fail) [wrapI, leT, leF, ltT, ltF, eqF, nleT, nleF, nltT, nltF]; rfl) ?_
  refine DW.seq ?_
  refine DW.seq ?_
  refine DW.reg (by simp (maxSteps := 200000) (disch := first | omega | (simp; done) | fail) [wrapI, leT, leF, ltT, ltF, eqF, nleT, nleF, nltT, nltF]; rfl) ?_
  refine DW.block ?_
  refine DW.loopS (α := Nat) (fun i => i ≤ l.length) (fun i => l.length - i) (fun i => [(4, vi i), (3, vi (pagesIn (l.take i)))]) (fun i => []) [(1, _)] [(1, _)] [] 0 (Nat.zero_le _) (by simp [pagesIn]; exact rfl) (by simp [pagesIn]; exact rfl) (by simp) (by rfl) ?_
  intro i hi
  refine DW.seq ?_
  refine DW.seq ?_
  refine DW.reg (by simp (maxSteps := 200000) (disch := first | omega | (simp; done) | fail) [wrapI, leT, leF, ltT, ltF, eqF, nleT, nleF, nltT, nltF]; rfl) ?_
  refine DW.condB (by simp (maxSteps := 200000) (disch := first | omega | (simp; done) | fail) [wrapI, leT, leF, ltT, ltF, eqF, nleT, nleF, nltT, nltF]; exact rfl) (fun hc0 => ?_) (fun hc0 => ?_)
  · have hlt : i < l.length := by simpa using hc0
    have hlt1 : (i : Int) < l.length := by omega
    have hd := rR_drop_Item l i hlt
    have hw := wr ((i : Int) + 1) (by omega) (by omega)
    have hS := pagesIn_succ l i hlt
    have hsz := (hs.2 _ (List.getElem_mem hlt)).2
    have hpb := pagesIn_bd (l := l.take i) fun x hx => (hs.2 x (List.mem_of_mem_take hx)).2
    rw [List.length_take, Nat.min_eq_left hi] at hpb
    have hpx : i * 1048576 ≤ 1048576 * 1048576 := Nat.mul_le_mul_right _ (by omega)
    generalize pagesIn (l.take i) = n0 at *
    generalize hci : l[i] = c at *
    refine DW.skip ?_
    refine DW.seq ?_
    refine DW.block ?_
    refine DW.seq ?_
    refine DW.reg (by simp (maxSteps := 200000) (disch := first | omega | (simp; done) | fail) [wrapI, leT, leF, ltT, ltF, eqF, nleT, nleF, nltT, nltF, hlt1, hd, hw]; rfl) ?_
    refine DW.condB (by simp (maxSteps := 200000) (disch := first | omega | (simp; done) | fail) [wrapI, leT, leF, ltT, ltF, eqF, nleT, nleF, nltT, nltF, hlt1, hd, hw]; exact rfl) (fun hc1 => ?_) (fun hc1 => ?_)
    · have hcd : c.Dir = false := by simpa using hc1
      have hX : pagesX c = pagesFor c.Text.size := by unfold pagesX; rw [hcd]; rfl
      have hpf := pagesX_bd hsz
      rw [hX] at hS hpf
      have wn : IntKind.i64.wrap ((n0 : Int) + pagesFor c.Text.size) = (n0 : Int) + pagesFor c.Text.size := wr _ (by omega) (by omega)
      refine DW.regs ?_
      refine RegO.opN 8 (by simp (maxSteps := 200000) (disch := first | omega | (simp; done) | fail) [wrapI, leT, leF, ltT, ltF, eqF, nleT, nleF, nltT, nltF, hlt1, hd, hw, wn]; rfl) ?_
      refine RegO.step rfl (OpStep.callA rfl (by simp (maxSteps := 200000) (disch := first | omega | (simp; done) | fail) [wrapI, leT, leF, ltT, ltF, eqF, nleT, nleF, nltT, nltF, hlt1, hd, hw, wn]; exact ⟨rfl, rfl⟩) (by simp (maxSteps := 200000) (disch := first | omega | (simp; done) | fail) [wrapI, leT, leF, ltT, ltF, eqF, nleT, nleF, nltT, nltF, hlt1, hd, hw, wn]; rfl) (by exact pagesFor_spec c.Text.size (by omega)) (by simp) (by simp (maxSteps := 200000) (disch := first | omega | (simp; done) | fail) [wrapI, leT, leF, ltT, ltF, eqF, nleT, nleF, nltT, nltF, hlt1, hd, hw, wn]; rfl)) ?_
      refine RegO.opN 2 (by simp (maxSteps := 200000) (disch := first | omega | (simp; done) | fail) [wrapI, leT, leF, ltT, ltF, eqF, nleT, nleF, nltT, nltF, hlt1, hd, hw, wn]; rfl) ?_
      refine RegO.nil ?_
      refine DW.reg (by simp (maxSteps := 200000) (disch := first | omega | (simp; done) | fail) [wrapI, leT, leF, ltT, ltF, eqF, nleT, nleF, nltT, nltF, hlt1, hd, hw, wn]; rfl) ?_
      exact ⟨i + 1, hlt, by omega, by simp [hS], by simp, by simp, by rfl⟩
    · have hcd : c.Dir = true := by simpa using hc1
      have hX : pagesX c = 0 := by unfold pagesX; rw [hcd]; rfl
      rw [hX] at hS
      refine DW.skip ?_
      refine DW.reg (by simp (maxSteps := 200000) (disch := first | omega | (simp; done) | fail) [wrapI, leT, leF, ltT, ltF, eqF, nleT, nleF, nltT, nltF, hlt1, hd, hw]; rfl) ?_
      exact ⟨i + 1, hlt, by omega, by simp [hS], by simp, by simp, by rfl⟩
  · have hil : i = l.length := by
      have : ¬ i < l.length := by simpa using hc0
      omega
    subst hil
    rw [List.take_length]
    refine DW.exit ?_
    refine DW.seq ?_
    refine DW.reg (by simp (maxSteps := 200000) (disch := first | omega | (simp; done) | fail) [wrapI, leT, leF, ltT, ltF, eqF, nleT, nleF, nltT, nltF]; rfl) ?_
    refine DW.ret ?_
    simp [Try.results11]
theorem kidsOf_spec (l : List Item) (f : ByteArray) (hl : l.length ≤ 1048576) : Spec Try.prog 24 [raV l, rs f] [none] [dr (kidsOf l f)] [raV l, rs f] := by
  refine Spec.intro Try.func24 rfl rfl Try.ntmps24 rfl (by simp) ?_
  refine DW.seq ?_
  refine DW.reg (by simp (maxSteps := 200000) (disch := first | omega | (simp; done) | fail) [wrapI, leT, leF, ltT, ltF, eqF, nleT, nleF, nltT, nltF]; rfl) ?_
  refine DW.seq ?_
  refine DW.reg (by simp (maxSteps := 200000) (disch := first | omega | (simp; done) | fail) [wrapI, leT, leF, ltT, ltF, eqF, nleT, nleF, nltT, nltF]; rfl) ?_
  refine DW.ghost (Ghost.nlRow 5 37 1 (by simp) (by simp)) ?_
  refine DW.seq ?_
  refine DW.seq ?_
  refine DW.reg (by simp (maxSteps := 200000) (disch := first | omega | (simp; done) | fail) [wrapI, leT, leF, ltT, ltF, eqF, nleT, nleF, nltT, nltF]; rfl) ?_
  refine DW.block ?_
  refine DW.loopS (α := Nat) (fun i => i ≤ l.length) (fun i => l.length - i) (fun i => [(6, vi i), (5, .v (.one (.sl 37 [] 0 (kidsOf (l.take i) f).length)))]) (fun i => [(37, .ow () 1 (kidsOf (l.take i) f).length (rD (kidsOf (l.take i) f)))]) [(1, _), (2, _)] [(2, _)] [] 0 (Nat.zero_le _) (by simp [kidsOf]; exact ⟨rfl, rfl⟩) (by simp [kidsOf]; exact rfl) (by simp) (by rfl) ?_
  intro i hi
  refine DW.seq ?_
  refine DW.seq ?_
  refine DW.reg (by simp (maxSteps := 200000) (disch := first | omega | (simp; done) | fail) [wrapI, leT, leF, ltT, ltF, eqF, nleT, nleF, nltT, nltF]; rfl) ?_
  refine DW.condB (by simp (maxSteps := 200000) (disch := first | omega | (simp; done) | fail) [wrapI, leT, leF, ltT, ltF, eqF, nleT, nleF, nltT, nltF]; exact rfl) (fun hc0 => ?_) (fun hc0 => ?_)
  · have hlt : i < l.length := by simpa using hc0
    have hlt1 : (i : Int) < l.length := by omega
    have hd := rR_drop_Item l i hlt
    have hw := wr ((i : Int) + 1) (by omega) (by omega)
    have hS := kidsOf_succ l f i hlt
    have hkl := kidsOf_len (l.take i) f
    rw [List.length_take] at hkl
    generalize (kidsOf (l.take i) f) = K0 at *
    have hTl := rD_len_ByteArray K0
    have hTt := rD_take1_ByteArray K0
    have hb2 : (K0.length + 1) * 16 ≤ 140737488355328 := by omega
    have hb3 : K0.length + 1 ≤ 140737488355328 := by omega
    generalize hci : l[i] = c at *
    refine DW.skip ?_
    refine DW.seq ?_
    refine DW.block ?_
    refine DW.seq ?_
    cases hp0 : decide (parentOf c.Path = f)
    · have hkd : isKid f c = false := by simp [isKid, hp0]
      rw [hkd, if_neg (by simp)] at hS
      have hRd : True := trivial
      have g0 := hp0
      refine DW.regs ?_
      refine RegO.opN 6 (by simp (maxSteps := 200000) (disch := first | omega | (simp; done) | fail) [wrapI, leT, leF, ltT, ltF, eqF, nleT, nleF, nltT, nltF, hlt1, hd, hw, hb2, hb3, hTl, hTt, g0]; rfl) ?_
      refine RegO.step rfl (OpStep.callA rfl (by simp (maxSteps := 200000) (disch := first | omega | (simp; done) | fail) [wrapI, leT, leF, ltT, ltF, eqF, nleT, nleF, nltT, nltF, hlt1, hd, hw, hb2, hb3, hTl, hTt, g0]; exact ⟨rfl, rfl⟩) (by simp (maxSteps := 200000) (disch := first | omega | (simp; done) | fail) [wrapI, leT, leF, ltT, ltF, eqF, nleT, nleF, nltT, nltF, hlt1, hd, hw, hb2, hb3, hTl, hTt, g0]; rfl) (by exact parentOf_spec c.Path) (by simp) (by simp (maxSteps := 200000) (disch := first | omega | (simp; done) | fail) [wrapI, leT, leF, ltT, ltF, eqF, nleT, nleF, nltT, nltF, hlt1, hd, hw, hb2, hb3, hTl, hTt, g0]; rfl)) ?_
      refine RegO.opN 6 (by simp (maxSteps := 200000) (disch := first | omega | (simp; done) | fail) [wrapI, leT, leF, ltT, ltF, eqF, nleT, nleF, nltT, nltF, hlt1, hd, hw, hb2, hb3, hTl, hTt, g0]; rfl) ?_
      refine RegO.nil ?_
      refine DW.condF (by simp (maxSteps := 200000) (disch := first | omega | (simp; done) | fail) [wrapI, leT, leF, ltT, ltF, eqF, nleT, nleF, nltT, nltF, hlt1, hd, hw, hb2, hb3, hTl, hTt, g0]) ?_
      refine DW.skip ?_
      refine DW.reg (by simp (maxSteps := 200000) (disch := first | omega | (simp; done) | fail) [wrapI, leT, leF, ltT, ltF, eqF, nleT, nleF, nltT, nltF, hlt1, hd, hw, hb2, hb3, hTl, hTt, g0]; rfl) ?_
      exact ⟨i + 1, hlt, by omega, by simp [hS], by simp [hS, rD_append, hRd], by simp, by rfl⟩
    · have g0 := hp0
      refine DW.regs ?_
      refine RegO.opN 6 (by simp (maxSteps := 200000) (disch := first | omega | (simp; done) | fail) [wrapI, leT, leF, ltT, ltF, eqF, nleT, nleF, nltT, nltF, hlt1, hd, hw, hb2, hb3, hTl, hTt, g0]; rfl) ?_
      refine RegO.step rfl (OpStep.callA rfl (by simp (maxSteps := 200000) (disch := first | omega | (simp; done) | fail) [wrapI, leT, leF, ltT, ltF, eqF, nleT, nleF, nltT, nltF, hlt1, hd, hw, hb2, hb3, hTl, hTt, g0]; exact ⟨rfl, rfl⟩) (by simp (maxSteps := 200000) (disch := first | omega | (simp; done) | fail) [wrapI, leT, leF, ltT, ltF, eqF, nleT, nleF, nltT, nltF, hlt1, hd, hw, hb2, hb3, hTl, hTt, g0]; rfl) (by exact parentOf_spec c.Path) (by simp) (by simp (maxSteps := 200000) (disch := first | omega | (simp; done) | fail) [wrapI, leT, leF, ltT, ltF, eqF, nleT, nleF, nltT, nltF, hlt1, hd, hw, hb2, hb3, hTl, hTt, g0]; rfl)) ?_
      refine RegO.opN 6 (by simp (maxSteps := 200000) (disch := first | omega | (simp; done) | fail) [wrapI, leT, leF, ltT, ltF, eqF, nleT, nleF, nltT, nltF, hlt1, hd, hw, hb2, hb3, hTl, hTt, g0]; rfl) ?_
      refine RegO.nil ?_
      refine DW.condB (by simp (maxSteps := 200000) (disch := first | omega | (simp; done) | fail) [wrapI, leT, leF, ltT, ltF, eqF, nleT, nleF, nltT, nltF, hlt1, hd, hw, hb2, hb3, hTl, hTt, g0]; exact rfl) (fun hc1 => ?_) (fun hc1 => ?_)
      · have hfe : ¬ f = ByteArray.empty := by simpa [ba_nil] using hc1
        have hkd : isKid f c = true := by simp [isKid, hfe]; simpa using g0
        rw [hkd, if_pos rfl] at hS
        have hRd : rD [lastOf c.Path] = [T.sc (.string (lastOf c.Path))] := rfl
        refine DW.regs ?_
        refine RegO.opN 7 (by simp [hlt1, hd, hw, hb2, hb3, hTl, hTt, g0]; rfl) ?_
        refine RegO.step rfl (OpStep.callA rfl (by simp [hlt1, hd, hw, hb2, hb3, hTl, hTt, g0]; exact ⟨rfl, rfl⟩) (by simp [hlt1, hd, hw, hb2, hb3, hTl, hTt, g0]; rfl) (by exact lastOf_spec c.Path) (by simp) (by simp [hlt1, hd, hw, hb2, hb3, hTl, hTt, g0]; rfl)) ?_
        refine RegO.opN 3 (by simp [hlt1, hd, hw, hb2, hb3, hTl, hTt, g0]; rfl) ?_
        refine RegO.nil ?_
        refine DW.norm [(1, _), (2, _), (5, _), (6, _)] [(2, _), (37, _)] [] (by simp [hlt1, hd, hw, hb2, hb3, hTl, hTt, g0]; exact ⟨rfl, rfl, rfl, rfl⟩) (by simp [hlt1, hd, hw, hb2, hb3, hTl, hTt, g0]; exact ⟨rfl, rfl⟩) (by simp [hlt1, hd, hw, hb2, hb3, hTl, hTt, g0]) (by rfl) ?_
        refine DW.reg (by simp (maxSteps := 200000) (disch := first | omega | (simp; done) | fail) [wrapI, leT, leF, ltT, ltF, eqF, nleT, nleF, nltT, nltF, hlt1, hd, hw, hb2, hb3, hTl, hTt, g0]; rfl) ?_
        exact ⟨i + 1, hlt, by omega, by simp [hS], by simp [hS, rD_append, hRd], by simp, by rfl⟩
      · have hfe : f = ByteArray.empty := by simpa [ba_nil] using hc1
        have hkd : isKid f c = false := by simp [isKid, hfe]
        rw [hkd, if_neg (by simp)] at hS
        have hRd : True := trivial
        refine DW.skip ?_
        refine DW.reg (by simp (maxSteps := 200000) (disch := first | omega | (simp; done) | fail) [wrapI, leT, leF, ltT, ltF, eqF, nleT, nleF, nltT, nltF, hlt1, hd, hw, hb2, hb3, hTl, hTt, g0]; rfl) ?_
        exact ⟨i + 1, hlt, by omega, by simp [hS], by simp [hS, rD_append, hRd], by simp, by rfl⟩
  · have hil : i = l.length := by
      have : ¬ i < l.length := by simpa using hc0
      omega
    subst hil
    rw [List.take_length]
    refine DW.exit ?_
    refine DW.seq ?_
    refine DW.reg (by simp (maxSteps := 200000) (disch := first | omega | (simp; done) | fail) [wrapI, leT, leF, ltT, ltF, eqF, nleT, nleF, nltT, nltF]; rfl) ?_
    refine DW.ret ?_
    simp [Try.results24]
end Go.Proofs.Ytciieaidbiejmaa.DM
