import Derived.Test.YtciieaidbiejmaaDoorLT3
namespace Go.Proofs.YtciieaidbiejmaaDoor.DM
set_option linter.unusedVariables false
set_option linter.unusedSimpArgs false
set_option maxRecDepth 4000
set_option maxHeartbeats 8000000
def itemLine (x : Item) : ByteArray := if x.Dir = true then x.Path ++ ⟨#[47]⟩ else x.Path ++ (⟨#[32]⟩ ++ decB (x.Text.size : Int))
def viewL (l : List Item) : List ByteArray := l.map itemLine
theorem viewL_succ (l : List Item) (i : Nat) (h : i < l.length) : viewL (l.take (i + 1)) = viewL (l.take i) ++ [itemLine l[i]] := by
  unfold viewL; rw [take_succ' l i h, List.map_append]; rfl
theorem viewL_len (l : List Item) : (viewL l).length = l.length := List.length_map _
theorem itemLine_size (x : Item) (h : Row.sz x ≤ 2 ^ 36) : (itemLine x).size ≤ Row.sz x + 21 := by
  have hz := Item_sz x
  have hd := decB_size (x.Text.size : Int) (by omega) (by omega)
  unfold itemLine
  split <;> simp <;> omega
theorem viewL_sz : ∀ l : List Item, szL l ≤ 2 ^ 36 → szL (viewL l) ≤ 22 * szL l
  | [], _ => Nat.le_refl _
  | x :: l, h => by
    simp only [szL] at h
    have h1 := viewL_sz l (by omega)
    have h2 := itemLine_size x (by omega)
    have h3 : Row.sz (itemLine x) = (itemLine x).size := rfl
    show 1 + Row.sz (itemLine x) + szL (viewL l) ≤ 22 * (1 + Row.sz x + szL l)
    omega
def tenB (i : Nat) : ByteArray := ⟨#[116, 101, 110, 97, 110, 116, 32]⟩ ++ decB (i : Int)
def wlTo (V : List View) : Nat → List ByteArray
  | 0 => []
  | i + 1 => (wlTo V i ++ [tenB i]) ++ viewL (match V[i]? with | some v => v.Items | none => [])
theorem wlTo_succ (V : List View) (i : Nat) (h : i < V.length) : wlTo V (i + 1) = (wlTo V i ++ [tenB i]) ++ viewL V[i].Items := by
  simp only [wlTo, List.getElem?_eq_getElem h]
theorem wlTo_sz (V : List View) (hV : szL V ≤ 2 ^ 36) : ∀ i, i ≤ V.length → (wlTo V i).length ≤ szL (V.take i) ∧ szL (wlTo V i) ≤ 40 * szL (V.take i)
  | 0, _ => by simp [wlTo]
  | i + 1, h => by
    have hlt : i < V.length := by omega
    obtain ⟨h1, h2⟩ := wlTo_sz V hV i (by omega)
    have h3 := szL_take V i hlt
    have h4 := View_sz V[i]
    have h5 := szL_len V[i].Items
    have h9 := szL_at V i hlt
    have h6 := viewL_sz V[i].Items (by omega)
    have h7 := decB_size (i : Int) (by omega) (by have := szL_len V; omega)
    have h8 : Row.sz (tenB i) = (tenB i).size := rfl
    have ht : (tenB i).size = 7 + (decB (i : Int)).size := by rw [tenB, ByteArray.size_append]; rfl
    rw [wlTo_succ V i hlt, szL_append, szL_append]
    simp only [List.length_append, viewL_len, List.length_cons, List.length_nil, szL]
    omega
def worldL (w : World) : List ByteArray := wlTo w.Views w.Views.length ++ [⟨#[115, 101, 97, 108, 115, 32]⟩ ++ decB (w.System.Seals.length : Int)]
theorem worldL_sz (w : World) (h : Row.sz w ≤ 2 ^ 36) : szL (worldL w) ≤ 40 * Row.sz w + 30 := by
  have hz := World_sz w
  have hs := System_sz w.System
  have h1 := szL_len w.System.Seals
  have h2 := wlTo_sz w.Views (by omega) w.Views.length (Nat.le_refl _)
  rw [List.take_length] at h2
  have h3 := decB_size (w.System.Seals.length : Int) (by omega) (by omega)
  have h4 : ∀ x : ByteArray, Row.sz x = x.size := fun _ => rfl
  have h5 : (⟨#[115, 101, 97, 108, 115, 32]⟩ : ByteArray).size = 6 := rfl
  unfold worldL
  rw [szL_append]
  simp only [szL, h4, ByteArray.size_append, h5]
  omega
@[simp] theorem rD_flat_BA : ∀ l : List ByteArray, (rD l).all flatD = true
  | [] => rfl
  | x :: l => by rw [rD_cons, List.all_append, rD_flat_BA l]; rfl
theorem specViewLines_spec (v : View) (hv : Row.sz v ≤ 2 ^ 36) : Spec Tryd.prog 45 [raView v] [none] [dr (viewL v.Items)] [raView v] := by
  refine Spec.intro Tryd.func45 rfl rfl Tryd.ntmps45 rfl (by simp) ?_
  have hz := View_sz v
  have hll := szL_len v.Items
  refine DW.seq ?_
  refine DW.reg (by simp (maxSteps := 200000) (disch := first | omega | (simp; done) | fail) [wrapI, leT, leF, ltT, ltF, eqF, nleT, nleF, nltT, nltF]; rfl) ?_
  refine DW.seq ?_
  refine DW.reg (by simp (maxSteps := 200000) (disch := first | omega | (simp; done) | fail) [wrapI, leT, leF, ltT, ltF, eqF, nleT, nleF, nltT, nltF]; rfl) ?_
  refine DW.ghost (Ghost.nlRow 3 1000 1 (by simp) (by simp)) ?_
  refine DW.seq ?_
  refine DW.seq ?_
  refine DW.reg (by simp (maxSteps := 200000) (disch := first | omega | (simp; done) | fail) [wrapI, leT, leF, ltT, ltF, eqF, nleT, nleF, nltT, nltF]; rfl) ?_
  refine DW.block ?_
  refine DW.loopS (α := Nat) (fun i => i ≤ v.Items.length) (fun i => v.Items.length - i) (fun i => [(4, vi i), (3, .v (.one (.sl 1000 [] 0 i)))]) (fun i => [(1000, .ow () 1 i (rD (viewL (v.Items.take i))))]) [(1, _)] [(1, _)] [] 0 (Nat.zero_le _) (by simp; exact rfl) (by simp [viewL]; rfl) (by simp) (by rfl) ?_
  intro i hi
  refine DW.seq ?_
  refine DW.seq ?_
  refine DW.reg (by simp (maxSteps := 200000) (disch := first | omega | (simp; done) | fail) [wrapI, leT, leF, ltT, ltF, eqF, nleT, nleF, nltT, nltF]; rfl) ?_
  refine DW.condB (by simp (maxSteps := 200000) (disch := first | omega | (simp; done) | fail) [wrapI, leT, leF, ltT, ltF, eqF, nleT, nleF, nltT, nltF]; exact rfl) (fun hc0 => ?_) (fun hc0 => ?_)
  · have hlt : i < v.Items.length := by simpa using hc0
    have hlt1 : (i : Int) < v.Items.length := by omega
    have hd := rR_drop_Item v.Items i hlt
    have hvs := viewL_succ v.Items i hlt
    have hsa := szL_at v.Items i hlt
    generalize v.Items[i] = c at hd hvs hsa
    have hcz := Item_sz c
    have hpz : c.Path.size ≤ 2 ^ 36 := by omega
    have htz : c.Text.size ≤ 2 ^ 36 := by omega
    have hdz := decB_size (c.Text.size : Int) (by omega) (by omega)
    have hb1 : (i + 1) * 16 ≤ 140737488355328 := by omega
    have hb2 : i + 1 ≤ 140737488355328 := by omega
    have hb3 : i ≤ 140737488355327 := by omega
    have hvl : (viewL (v.Items.take i)).length = i := by rw [viewL_len, List.length_take]; omega
    have htk : List.take i (rD (viewL (v.Items.take i))) = rD (viewL (v.Items.take i)) := List.take_of_length_le (by rw [rD_len_ByteArray, hvl]; omega)
    refine DW.skip ?_
    refine DW.seq ?_
    refine DW.block ?_
    refine DW.seq ?_
    refine DW.reg (by simp [hlt1, hd, hb1, hb2, hb3, hvl, htk]; rfl) ?_
    refine DW.seq ?_
    refine DW.reg (by simp (maxSteps := 200000) (disch := first | omega | (simp; done) | fail) [wrapI, leT, leF, ltT, ltF, eqF, nleT, nleF, nltT, nltF, hlt1, hd, hb1, hb2, hb3, hvl, htk]; rfl) ?_
    refine DW.condB (by simp (maxSteps := 200000) (disch := first | omega | (simp; done) | fail) [wrapI, leT, leF, ltT, ltF, eqF, nleT, nleF, nltT, nltF, hlt1, hd, hb1, hb2, hb3, hvl, htk]; exact rfl) (fun hc1 => ?_) (fun hc1 => ?_)
    · have hdir : c.Dir = true := by simpa using hc1
      have hil : itemLine c = c.Path ++ ⟨#[47]⟩ := by simp [itemLine, hdir]
      refine DW.regs ?_
      refine RegO.opN 3 (by simp [hlt1, hd, hb1, hb2, hb3, hvl, htk, hdir]; rfl) ?_
      refine RegO.opN 1 (by simp (maxSteps := 200000) (disch := first | omega | (simp; done) | fail) [wrapI, leT, leF, ltT, ltF, eqF, nleT, nleF, nltT, nltF, hlt1, hd, hb1, hb2, hb3, hvl, htk, hdir]; rfl) ?_
      refine RegO.opN 3 (by simp [hlt1, hd, hb1, hb2, hb3, hvl, htk, hdir]; rfl) ?_
      refine RegO.nil ?_
      refine DW.ghost (Ghost.move (id := 26) (id' := 1000) (p := []) (by simp; rfl) (by simp; first | exact ⟨rfl, rfl, rfl⟩ | rfl) (by simp)) ?_
      refine DW.norm [(1, _), (3, _), (4, _)] [(1, _), (1000, _)] [] (by simp [hlt1, hd, hb1, hb2, hb3, hvl, htk, hdir]; exact ⟨rfl, rfl, rfl⟩) (by simp [hlt1, hd, hb1, hb2, hb3, hvl, htk, hdir]; exact ⟨rfl, rfl⟩) (by simp [hlt1, hd, hb1, hb2, hb3, hvl, htk, hdir]) (by rfl) ?_
      refine DW.reg (by simp (maxSteps := 200000) (disch := first | omega | (simp; done) | fail) [wrapI, leT, leF, ltT, ltF, eqF, nleT, nleF, nltT, nltF, hlt1, hd, hb1, hb2, hb3, hvl, htk, hdir]; rfl) ?_
      exact ⟨i + 1, hlt, by omega, by simp, by simp [hvs, hil, rD_append, rD, Row.d, ByteArray.append_assoc], by simp, by rfl⟩
    · have hdir : c.Dir = false := by simpa using hc1
      have hil : itemLine c = c.Path ++ (⟨#[32]⟩ ++ decB (c.Text.size : Int)) := by simp [itemLine, hdir]
      refine DW.drawn mixed (by kernel_rfl) ?_
      refine RegD.addN 3 (by simp [hlt1, hd, hb1, hb2, hb3, hvl, htk, hdir]; (first | (simp (disch := omega) only [wrapI, ltF, if_false]; done) | (simp (disch := omega) only [wrapI, ltF, if_false]; first | exact ⟨rfl, rfl⟩ | rfl) | skip); (first | done | exact ⟨rfl, rfl⟩ | rfl)) ?_
      refine RegD.addN 1 (by simp [hlt1, hd, hb1, hb2, hb3, hvl, htk, hdir]; (first | (simp (disch := omega) only [wrapI, ltF, if_false]; done) | (simp (disch := omega) only [wrapI, ltF, if_false]; first | exact ⟨rfl, rfl⟩ | rfl) | skip); (first | done | exact ⟨rfl, rfl⟩ | rfl)) ?_
      refine RegD.addN 3 (by simp [hlt1, hd, hb1, hb2, hb3, hvl, htk, hdir]; (first | (simp (disch := omega) only [wrapI, ltF, if_false]; done) | (simp (disch := omega) only [wrapI, ltF, if_false]; first | exact ⟨rfl, rfl⟩ | rfl) | skip); (first | done | exact ⟨rfl, rfl⟩ | rfl)) ?_
      refine RegD.cert (Cert.callA rfl (by simp) rfl (by decide) (by simp [hlt1, hd, hb1, hb2, hb3, hvl, htk, hdir]; exact ⟨rfl, rfl⟩) (by simp [hlt1, hd, hb1, hb2, hb3, hvl, htk, hdir]; rfl) (by exact specDecimal_spec (c.Text.size : Int) (by omega) (by omega)) rfl (by simp) (by simp; rfl) rfl) ?_
      refine RegD.addN 1 (by simp [hlt1, hd, hb1, hb2, hb3, hvl, htk, hdir]; (first | (simp (disch := omega) only [wrapI, ltF, if_false]; done) | (simp (disch := omega) only [wrapI, ltF, if_false]; first | exact ⟨rfl, rfl⟩ | rfl) | skip); (first | done | exact ⟨rfl, rfl⟩ | rfl)) ?_
      refine RegD.cert (Cert.buildRo (rcs := [.sc (.string (c.Path ++ ⟨#[32]⟩ ++ decB (c.Text.size : Int)))]) rfl rfl rfl (by decide) (by simp; exact ⟨rfl, rfl⟩) (by simp; rfl) (by simp; rfl) (by rfl) (by decide) (by decide) (by simp [hlt1, hd, hb1, hb2, hb3, hvl, htk, hdir]; rfl) (by simp [hlt1, hd, hb1, hb2, hb3, hvl, htk, hdir]; rfl) (by rfl) (by simp)) ?_
      refine RegD.heavyF (by simp) (by simp [hlt1, hd, hb1, hb2, hb3, hvl, htk, hdir]; rfl) ?_
      refine RegD.addN 1 (by simp [hlt1, hd, hb1, hb2, hb3, hvl, htk, hdir]; (first | (simp (disch := omega) only [wrapI, ltF, if_false]; done) | (simp (disch := omega) only [wrapI, ltF, if_false]; first | exact ⟨rfl, rfl⟩ | rfl) | skip); (first | done | exact ⟨rfl, rfl⟩ | rfl)) ?_
      refine RegD.nil ⟨by kernel_rfl, ?_⟩
      refine DW.ghost (Ghost.move (id := 37) (id' := 1000) (p := []) (by simp; rfl) (by simp; first | exact ⟨rfl, rfl, rfl⟩ | rfl) (by simp)) ?_
      refine DW.norm [(1, _), (3, _), (4, _)] [(1, _), (1000, _)] [] (by simp [hlt1, hd, hb1, hb2, hb3, hvl, htk, hdir]; exact ⟨rfl, rfl, rfl⟩) (by simp [hlt1, hd, hb1, hb2, hb3, hvl, htk, hdir]; exact ⟨rfl, rfl⟩) (by simp [hlt1, hd, hb1, hb2, hb3, hvl, htk, hdir]) (by rfl) ?_
      refine DW.reg (by simp (maxSteps := 200000) (disch := first | omega | (simp; done) | fail) [wrapI, leT, leF, ltT, ltF, eqF, nleT, nleF, nltT, nltF, hlt1, hd, hb1, hb2, hb3, hvl, htk, hdir]; rfl) ?_
      exact ⟨i + 1, hlt, by omega, by simp, by simp [hvs, hil, rD_append, rD, Row.d, ByteArray.append_assoc], by simp, by rfl⟩
  · have hil : i = v.Items.length := by
      have : ¬ i < v.Items.length := by simpa using hc0
      omega
    subst hil
    have hall : v.Items.take v.Items.length = v.Items := List.take_length
    rw [hall]
    have hfin : List.take v.Items.length (rD (viewL v.Items)) = rD (viewL v.Items) := List.take_of_length_le (by rw [rD_len_ByteArray, viewL_len]; omega)
    refine DW.exit ?_
    refine DW.seq ?_
    refine DW.reg (by simp (maxSteps := 200000) (disch := first | omega | (simp; done) | fail) [wrapI, leT, leF, ltT, ltF, eqF, nleT, nleF, nltT, nltF]; rfl) ?_
    refine DW.ret ?_
    simp [Tryd.results45, viewL_len, hfin]
theorem implViewLines_spec (v : View) (hv : Row.sz v ≤ 2 ^ 36) : Spec Tryd.prog 43 [raView v] [none] [dr (viewL v.Items)] [raView v] := by
  refine Spec.intro Tryd.func43 rfl rfl Tryd.ntmps43 rfl (by simp) ?_
  have hz := View_sz v
  have hll := szL_len v.Items
  refine DW.seq ?_
  refine DW.reg (by simp (maxSteps := 200000) (disch := first | omega | (simp; done) | fail) [wrapI, leT, leF, ltT, ltF, eqF, nleT, nleF, nltT, nltF]; rfl) ?_
  refine DW.seq ?_
  refine DW.reg (by simp (maxSteps := 200000) (disch := first | omega | (simp; done) | fail) [wrapI, leT, leF, ltT, ltF, eqF, nleT, nleF, nltT, nltF]; rfl) ?_
  refine DW.ghost (Ghost.nlRow 3 1000 1 (by simp) (by simp)) ?_
  refine DW.seq ?_
  refine DW.seq ?_
  refine DW.reg (by simp (maxSteps := 200000) (disch := first | omega | (simp; done) | fail) [wrapI, leT, leF, ltT, ltF, eqF, nleT, nleF, nltT, nltF]; rfl) ?_
  refine DW.block ?_
  refine DW.loopS (α := Nat) (fun i => i ≤ v.Items.length) (fun i => v.Items.length - i) (fun i => [(10, vi i), (3, .v (.one (.sl 1000 [] 0 i)))]) (fun i => [(1000, .ow () 1 i (rD (viewL (v.Items.take i))))]) [(8, _), (9, _)] [] [] 0 (Nat.zero_le _) (by simp; exact ⟨rfl, rfl⟩) (by simp [viewL]) (by simp) (by rfl) ?_
  intro i hi
  refine DW.seq ?_
  refine DW.reg (by simp (maxSteps := 200000) (disch := first | omega | (simp; done) | fail) [wrapI, leT, leF, ltT, ltF, eqF, nleT, nleF, nltT, nltF]; rfl) ?_
  refine DW.seq ?_
  refine DW.condB (by simp (maxSteps := 200000) (disch := first | omega | (simp; done) | fail) [wrapI, leT, leF, ltT, ltF, eqF, nleT, nleF, nltT, nltF]; exact rfl) (fun hc0 => ?_) (fun hc0 => ?_)
  · have hlt : i < v.Items.length := by simpa using hc0
    have hlt1 : (i : Int) < v.Items.length := by omega
    have hd := rR_drop_Item v.Items i hlt
    have hvs := viewL_succ v.Items i hlt
    have hsa := szL_at v.Items i hlt
    generalize v.Items[i] = c at hd hvs hsa
    have hcz := Item_sz c
    have hpz : c.Path.size ≤ 2 ^ 36 := by omega
    have htz : c.Text.size ≤ 2 ^ 36 := by omega
    have hdz := decB_size (c.Text.size : Int) (by omega) (by omega)
    have hb1 : (i + 1) * 16 ≤ 140737488355328 := by omega
    have hb2 : i + 1 ≤ 140737488355328 := by omega
    have hb3 : i ≤ 140737488355327 := by omega
    have hvl : (viewL (v.Items.take i)).length = i := by rw [viewL_len, List.length_take]; omega
    have htk : List.take i (rD (viewL (v.Items.take i))) = rD (viewL (v.Items.take i)) := List.take_of_length_le (by rw [rD_len_ByteArray, hvl]; omega)
    refine DW.skip ?_
    refine DW.seq ?_
    refine DW.block ?_
    refine DW.seq ?_
    refine DW.reg (by simp [hlt1, hd, hb1, hb2, hb3, hvl, htk]; rfl) ?_
    refine DW.seq ?_
    refine DW.reg (by simp (maxSteps := 200000) (disch := first | omega | (simp; done) | fail) [wrapI, leT, leF, ltT, ltF, eqF, nleT, nleF, nltT, nltF, hlt1, hd, hb1, hb2, hb3, hvl, htk]; rfl) ?_
    refine DW.condB (by simp (maxSteps := 200000) (disch := first | omega | (simp; done) | fail) [wrapI, leT, leF, ltT, ltF, eqF, nleT, nleF, nltT, nltF, hlt1, hd, hb1, hb2, hb3, hvl, htk]; exact rfl) (fun hc1 => ?_) (fun hc1 => ?_)
    · have hdir : c.Dir = true := by simpa using hc1
      have hil : itemLine c = c.Path ++ ⟨#[47]⟩ := by simp [itemLine, hdir]
      refine DW.regs ?_
      refine RegO.opN 3 (by simp [hlt1, hd, hb1, hb2, hb3, hvl, htk, hdir]; rfl) ?_
      refine RegO.opN 1 (by simp (maxSteps := 200000) (disch := first | omega | (simp; done) | fail) [wrapI, leT, leF, ltT, ltF, eqF, nleT, nleF, nltT, nltF, hlt1, hd, hb1, hb2, hb3, hvl, htk, hdir]; rfl) ?_
      refine RegO.opN 3 (by simp [hlt1, hd, hb1, hb2, hb3, hvl, htk, hdir]; rfl) ?_
      refine RegO.nil ?_
      refine DW.ghost (Ghost.move (id := 21) (id' := 1000) (p := []) (by simp; rfl) (by simp; first | exact ⟨rfl, rfl, rfl⟩ | rfl) (by simp)) ?_
      refine DW.norm [(3, _), (8, _), (9, _), (10, _)] [(1000, _)] [] (by simp [hlt1, hd, hb1, hb2, hb3, hvl, htk, hdir]; exact ⟨rfl, rfl, rfl, rfl⟩) (by simp [hlt1, hd, hb1, hb2, hb3, hvl, htk, hdir]; rfl) (by simp [hlt1, hd, hb1, hb2, hb3, hvl, htk, hdir]) (by rfl) ?_
      refine DW.reg (by simp (maxSteps := 200000) (disch := first | omega | (simp; done) | fail) [wrapI, leT, leF, ltT, ltF, eqF, nleT, nleF, nltT, nltF, hlt1, hd, hb1, hb2, hb3, hvl, htk, hdir]; rfl) ?_
      exact ⟨i + 1, hlt, by omega, by simp, by simp [hvs, hil, rD_append, rD, Row.d, ByteArray.append_assoc], by simp, by rfl⟩
    · have hdir : c.Dir = false := by simpa using hc1
      have hil : itemLine c = c.Path ++ (⟨#[32]⟩ ++ decB (c.Text.size : Int)) := by simp [itemLine, hdir]
      refine DW.drawn mixed (by kernel_rfl) ?_
      refine RegD.addN 3 (by simp [hlt1, hd, hb1, hb2, hb3, hvl, htk, hdir]; (first | (simp (disch := omega) only [wrapI, ltF, if_false]; done) | (simp (disch := omega) only [wrapI, ltF, if_false]; first | exact ⟨rfl, rfl⟩ | rfl) | skip); (first | done | exact ⟨rfl, rfl⟩ | rfl)) ?_
      refine RegD.addN 1 (by simp [hlt1, hd, hb1, hb2, hb3, hvl, htk, hdir]; (first | (simp (disch := omega) only [wrapI, ltF, if_false]; done) | (simp (disch := omega) only [wrapI, ltF, if_false]; first | exact ⟨rfl, rfl⟩ | rfl) | skip); (first | done | exact ⟨rfl, rfl⟩ | rfl)) ?_
      refine RegD.addN 3 (by simp [hlt1, hd, hb1, hb2, hb3, hvl, htk, hdir]; (first | (simp (disch := omega) only [wrapI, ltF, if_false]; done) | (simp (disch := omega) only [wrapI, ltF, if_false]; first | exact ⟨rfl, rfl⟩ | rfl) | skip); (first | done | exact ⟨rfl, rfl⟩ | rfl)) ?_
      refine RegD.cert (Cert.callA rfl (by simp) rfl (by decide) (by simp [hlt1, hd, hb1, hb2, hb3, hvl, htk, hdir]; exact ⟨rfl, rfl⟩) (by simp [hlt1, hd, hb1, hb2, hb3, hvl, htk, hdir]; rfl) (by exact implDecimal_spec (c.Text.size : Int) (by omega) (by omega)) rfl (by simp) (by simp; rfl) rfl) ?_
      refine RegD.addN 1 (by simp [hlt1, hd, hb1, hb2, hb3, hvl, htk, hdir]; (first | (simp (disch := omega) only [wrapI, ltF, if_false]; done) | (simp (disch := omega) only [wrapI, ltF, if_false]; first | exact ⟨rfl, rfl⟩ | rfl) | skip); (first | done | exact ⟨rfl, rfl⟩ | rfl)) ?_
      refine RegD.cert (Cert.buildRo (rcs := [.sc (.string (c.Path ++ ⟨#[32]⟩ ++ decB (c.Text.size : Int)))]) rfl rfl rfl (by decide) (by simp; exact ⟨rfl, rfl⟩) (by simp; rfl) (by simp; rfl) (by rfl) (by decide) (by decide) (by simp [hlt1, hd, hb1, hb2, hb3, hvl, htk, hdir]; rfl) (by simp [hlt1, hd, hb1, hb2, hb3, hvl, htk, hdir]; rfl) (by rfl) (by simp)) ?_
      refine RegD.heavyF (by simp) (by simp [hlt1, hd, hb1, hb2, hb3, hvl, htk, hdir]; rfl) ?_
      refine RegD.addN 1 (by simp [hlt1, hd, hb1, hb2, hb3, hvl, htk, hdir]; (first | (simp (disch := omega) only [wrapI, ltF, if_false]; done) | (simp (disch := omega) only [wrapI, ltF, if_false]; first | exact ⟨rfl, rfl⟩ | rfl) | skip); (first | done | exact ⟨rfl, rfl⟩ | rfl)) ?_
      refine RegD.nil ⟨by kernel_rfl, ?_⟩
      refine DW.ghost (Ghost.move (id := 32) (id' := 1000) (p := []) (by simp; rfl) (by simp; first | exact ⟨rfl, rfl, rfl⟩ | rfl) (by simp)) ?_
      refine DW.norm [(3, _), (8, _), (9, _), (10, _)] [(1000, _)] [] (by simp [hlt1, hd, hb1, hb2, hb3, hvl, htk, hdir]; exact ⟨rfl, rfl, rfl, rfl⟩) (by simp [hlt1, hd, hb1, hb2, hb3, hvl, htk, hdir]; rfl) (by simp [hlt1, hd, hb1, hb2, hb3, hvl, htk, hdir]) (by rfl) ?_
      refine DW.reg (by simp (maxSteps := 200000) (disch := first | omega | (simp; done) | fail) [wrapI, leT, leF, ltT, ltF, eqF, nleT, nleF, nltT, nltF, hlt1, hd, hb1, hb2, hb3, hvl, htk, hdir]; rfl) ?_
      exact ⟨i + 1, hlt, by omega, by simp, by simp [hvs, hil, rD_append, rD, Row.d, ByteArray.append_assoc], by simp, by rfl⟩
  · have hil : i = v.Items.length := by
      have : ¬ i < v.Items.length := by simpa using hc0
      omega
    subst hil
    have hall : v.Items.take v.Items.length = v.Items := List.take_length
    rw [hall]
    have hfin : List.take v.Items.length (rD (viewL v.Items)) = rD (viewL v.Items) := List.take_of_length_le (by rw [rD_len_ByteArray, viewL_len]; omega)
    refine DW.exit ?_
    refine DW.seq ?_
    refine DW.reg (by simp (maxSteps := 200000) (disch := first | omega | (simp; done) | fail) [wrapI, leT, leF, ltT, ltF, eqF, nleT, nleF, nltT, nltF]; rfl) ?_
    refine DW.ret ?_
    simp [Tryd.results43, viewL_len, hfin]
end Go.Proofs.YtciieaidbiejmaaDoor.DM
