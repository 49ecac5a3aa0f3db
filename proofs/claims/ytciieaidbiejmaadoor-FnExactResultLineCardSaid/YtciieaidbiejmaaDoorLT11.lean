import Derived.Test.YtciieaidbiejmaaDoorLT10
namespace Go.Proofs.YtciieaidbiejmaaDoor.DM
set_option linter.unusedVariables false
set_option linter.unusedSimpArgs false
set_option maxRecDepth 4000
set_option maxHeartbeats 8000000
def hexT (s : ByteArray) : ByteArray := if s.size ≤ 20000 then hexB s else ByteArray.empty
def dashT (s : ByteArray) : ByteArray := if hexT s = ByteArray.empty then ⟨#[45]⟩ else hexT s
def resWords (r : Result) : List ByteArray := [⟨#[99, 111, 100, 101]⟩, decB r.Code, dashT r.Text, decB r.Size] ++ (if r.Dir = true then [⟨#[100, 105, 114]⟩] else [])
def joinB (l : List ByteArray) : ByteArray := ⟨(Lib.join (l.map (·.data.toList)) [32]).toArray⟩
def tlB (l : List ByteArray) : ByteArray := ⟨(Lib.joinTail [32] (l.map (·.data.toList))).toArray⟩
def resLine (r : Result) : ByteArray := joinB (resWords r ++ r.Names)
theorem ba_mk (x : ByteArray) : (⟨x.data.toList.toArray⟩ : ByteArray) = x := by cases x; simp
theorem tlB_append (k l : List ByteArray) : tlB (k ++ l) = tlB k ++ tlB l := by
  unfold tlB Lib.joinTail
  rw [ba_app]; simp
theorem tlB_one (x : ByteArray) : tlB [x] = ⟨#[32]⟩ ++ x := by
  unfold tlB Lib.joinTail
  conv => rhs; rw [← ba_mk x]
  rw [show (⟨#[32]⟩ : ByteArray) = ⟨[(32 : UInt8)].toArray⟩ from rfl, ba_app]; simp
theorem tlB_nil : tlB [] = ByteArray.empty := rfl
theorem joinB_cons (x : ByteArray) (l : List ByteArray) : joinB (x :: l) = x ++ tlB l := by
  unfold joinB tlB
  rw [List.map_cons, Lib.join_cons, ← ba_app, ba_mk]
theorem tlB_succ (l : List ByteArray) (i : Nat) (h : i < l.length) : tlB (l.take (i + 1)) = tlB (l.take i) ++ (⟨#[32]⟩ ++ l[i]) := by
  rw [take_succ' l i h, tlB_append, tlB_one]
theorem tlB_size : ∀ l : List ByteArray, (tlB l).size = szL l
  | [] => rfl
  | x :: l => by
    rw [show x :: l = [x] ++ l from rfl, tlB_append, tlB_one, ByteArray.size_append, tlB_size l]
    show (_ : ByteArray).size + _ = 1 + Row.sz x + szL l
    rw [ByteArray.size_append]; rfl
def resBase (r : Result) : ByteArray := ⟨#[99, 111, 100, 101, 32]⟩ ++ (decB r.Code ++ (⟨#[32]⟩ ++ (dashT r.Text ++ (⟨#[32]⟩ ++ decB r.Size))))
def resDir (r : Result) : ByteArray := if r.Dir = true then ⟨#[32, 100, 105, 114]⟩ else ByteArray.empty
theorem resLine_eq (r : Result) : resLine r = resBase r ++ (resDir r ++ tlB r.Names) := by
  unfold resLine resWords
  rw [List.append_assoc, List.cons_append, joinB_cons]
  simp only [List.cons_append, List.nil_append]
  rw [show ∀ (a b c : ByteArray) (l : List ByteArray), a :: b :: c :: l = [a] ++ ([b] ++ ([c] ++ l)) from fun _ _ _ _ => rfl]
  rw [tlB_append, tlB_append, tlB_append, tlB_append, tlB_one, tlB_one, tlB_one]
  have h5 : (⟨#[99, 111, 100, 101, 32]⟩ : ByteArray) = ⟨#[99, 111, 100, 101]⟩ ++ ⟨#[32]⟩ := rfl
  have h4 : tlB (if r.Dir = true then [⟨#[100, 105, 114]⟩] else []) = resDir r := by
    unfold resDir
    split <;> rfl
  rw [h4]
  unfold resBase
  rw [h5]
  simp only [ByteArray.append_assoc]
theorem dashT_size (s : ByteArray) : (dashT s).size ≤ 40001 := by
  unfold dashT hexT
  by_cases h : s.size ≤ 20000
  · simp only [if_pos h]
    split
    · show 1 ≤ _; omega
    · rw [hexB_size]; omega
  · simp only [if_neg h, if_true]; show 1 ≤ _; omega
def flatB (L : List (List ByteArray)) : List ByteArray := L.flatten
theorem flatB_nil : flatB [] = [] := rfl
theorem tot_succ (L : List (List ByteArray)) (i : Nat) (h : i < L.length) : flatB (L.take (i + 1)) = flatB (L.take i) ++ L[i] := by
  unfold flatB; rw [take_succ' L i h, List.flatten_append]; simp
theorem tot_le (L : List (List ByteArray)) (i : Nat) : (flatB (L.take i)).length ≤ (flatB L).length := by
  unfold flatB
  conv => rhs; rw [← List.take_append_drop i L, List.flatten_append, List.length_append]
  omega
@[simp] theorem rD_flat_BA' : ∀ l : List ByteArray, (rD l).all flatD = true
  | [] => rfl
  | x :: l => by rw [rD_cons, List.all_append, rD_flat_BA' l]; rfl
theorem concat_spec (L : List (List ByteArray)) (h0 : 0 < (flatB L).length) (hL : (flatB L).length ≤ 2 ^ 40) (hLL : L.length ≤ 2 ^ 36) : Spec Tryd.prog 62 [.one (.r (.sl L.length (L.map fun l => RT.sl l.length (rR l))))] [none] [dr (flatB L)] [.one (.r (.sl L.length (L.map fun l => RT.sl l.length (rR l))))] := by
  refine Spec.intro Tryd.func62 rfl rfl Tryd.ntmps62 rfl (by simp) ?_
  have hll : L.length ≤ 2 ^ 36 := hLL
  refine DW.seq ?_
  refine DW.reg (by simp (maxSteps := 200000) (disch := first | omega | (simp; done) | fail) [wrapI, leT, leF, ltT, ltF, eqF, nleT, nleF, nltT, nltF]; rfl) ?_
  refine DW.seq ?_
  refine DW.reg (by simp (maxSteps := 200000) (disch := first | omega | (simp; done) | fail) [wrapI, leT, leF, ltT, ltF, eqF, nleT, nleF, nltT, nltF]; rfl) ?_
  refine DW.seq ?_
  refine DW.seq ?_
  refine DW.reg (by simp (maxSteps := 200000) (disch := first | omega | (simp; done) | fail) [wrapI, leT, leF, ltT, ltF, eqF, nleT, nleF, nltT, nltF]; rfl) ?_
  refine DW.block ?_
  refine DW.loopS (α := Nat) (fun i => i ≤ L.length) (fun i => L.length - i) (fun i => [(11, vi i), (3, vi ((flatB (L.take i)).length : Int))]) (fun i => []) [(0, _), (9, _), (10, _)] [] [] 0 (Nat.zero_le _) (by simp [flatB_nil]; exact ⟨rfl, rfl, rfl⟩) (by simp [flatB_nil]) (by simp) (by rfl) ?_
  intro i hi
  refine DW.seq ?_
  refine DW.reg (by simp (maxSteps := 200000) (disch := first | omega | (simp; done) | fail) [wrapI, leT, leF, ltT, ltF, eqF, nleT, nleF, nltT, nltF]; rfl) ?_
  refine DW.seq ?_
  refine DW.condB (by simp (maxSteps := 200000) (disch := first | omega | (simp; done) | fail) [wrapI, leT, leF, ltT, ltF, eqF, nleT, nleF, nltT, nltF]; exact rfl) (fun hc0 => ?_) (fun hc0 => ?_)
  · have hlt : i < L.length := by simpa using hc0
    have hlt1 : (i : Int) < L.length := by omega
    have hd : List.drop i (L.map fun l => RT.sl l.length (rR l)) = RT.sl (L[i]).length (rR L[i]) :: List.drop (i + 1) (L.map fun l => RT.sl l.length (rR l)) := by rw [List.drop_eq_getElem_cons (by simpa using hlt)]; simp
    have hts := tot_succ L i hlt
    have htl := tot_le L (i + 1)
    rw [hts, List.length_append] at htl
    generalize L[i] = c at hd hts htl
    generalize hT : flatB (L.take i) = T0 at *
    have hn1 : ((flatB (L.take (i + 1))).length : Nat) = T0.length + c.length := by rw [hts, List.length_append]
    have hb1 : (T0.length + c.length) * 16 ≤ 140737488355328 := by omega
    have hb2 : T0.length + c.length ≤ 140737488355328 := by omega
    have htk : List.take T0.length (rD T0) = rD T0 := List.take_of_length_le (by rw [rD_len_ByteArray]; omega)
    have hrl : (rD T0).length = T0.length := by rw [rD_len_ByteArray]; omega
    refine DW.skip ?_
    refine DW.seq ?_
    refine DW.block ?_
    refine DW.seq ?_
    refine DW.reg (by simp (maxSteps := 200000) (disch := first | omega | (simp; done) | fail) [wrapI, leT, leF, ltT, ltF, eqF, nleT, nleF, nltT, nltF, hlt1, hd, hb1, hb2, htk, hrl]; rfl) ?_
    refine DW.seq ?_
    refine DW.reg (by simp (maxSteps := 200000) (disch := first | omega | (simp; done) | fail) [wrapI, leT, leF, ltT, ltF, eqF, nleT, nleF, nltT, nltF, hlt1, hd, hb1, hb2, htk, hrl]; rfl) ?_
    refine DW.seq ?_
    refine DW.reg (by simp (maxSteps := 200000) (disch := first | omega | (simp; done) | fail) [wrapI, leT, leF, ltT, ltF, eqF, nleT, nleF, nltT, nltF, hlt1, hd, hb1, hb2, htk, hrl]; rfl) ?_
    refine DW.condF (by simp (maxSteps := 200000) (disch := first | omega | (simp; done) | fail) [wrapI, leT, leF, ltT, ltF, eqF, nleT, nleF, nltT, nltF, hlt1, hd, hb1, hb2, htk, hrl]) ?_
    refine DW.skip ?_
    refine DW.reg (by simp (maxSteps := 200000) (disch := first | omega | (simp; done) | fail) [wrapI, leT, leF, ltT, ltF, eqF, nleT, nleF, nltT, nltF, hlt1, hd, hb1, hb2, htk, hrl]; rfl) ?_
    exact ⟨i + 1, hlt, by omega, by simp only [hn1]; simp; try omega, by simp, by simp, by rfl⟩
  · have hil : i = L.length := by
      have : ¬ i < L.length := by simpa using hc0
      omega
    subst hil
    rw [List.take_length]
    refine DW.exit ?_
    refine DW.seq ?_
    refine DW.regs ?_
    refine RegO.opN 1 (by simp (maxSteps := 200000) (disch := first | omega | (simp; done) | fail) [wrapI, leT, leF, ltT, ltF, eqF, nleT, nleF, nltT, nltF]; rfl) ?_
    refine RegO.step rfl (OpStep.growNil (n := (flatB L).length) rfl (by simp) h0 hL (by simp; rfl)) ?_
    refine RegO.opN 1 (by simp (maxSteps := 200000) (disch := first | omega | (simp; done) | fail) [wrapI, leT, leF, ltT, ltF, eqF, nleT, nleF, nltT, nltF]; rfl) ?_
    refine RegO.nil ?_
    refine DW.ghost (Ghost.move (id := 24) (id' := 33) (p := [0]) (by simp; rfl) (by simp; first | exact ⟨rfl, rfl, rfl⟩ | rfl) (by simp)) ?_
    refine DW.seq ?_
    refine DW.seq ?_
    refine DW.reg (by simp (maxSteps := 200000) (disch := first | omega | (simp; done) | fail) [wrapI, leT, leF, ltT, ltF, eqF, nleT, nleF, nltT, nltF]; rfl) ?_
    refine DW.block ?_
    refine DW.loopS (α := Nat) (fun i => i ≤ L.length) (fun i => L.length - i) (fun i => [(27, vi i), (6, .v (.one (.sl 33 [] 0 (flatB (L.take i)).length)))]) (fun i => [(33, .ow () 1 (flatB (L.take i)).length (rD (flatB (L.take i))))]) [(25, _), (26, _)] [] [] 0 (Nat.zero_le _) (by simp [flatB_nil]; exact ⟨rfl, rfl⟩) (by simp [flatB_nil]) (by simp) (by rfl) ?_
    intro i hi
    refine DW.seq ?_
    refine DW.reg (by simp (maxSteps := 200000) (disch := first | omega | (simp; done) | fail) [wrapI, leT, leF, ltT, ltF, eqF, nleT, nleF, nltT, nltF]; rfl) ?_
    refine DW.seq ?_
    refine DW.condB (by simp (maxSteps := 200000) (disch := first | omega | (simp; done) | fail) [wrapI, leT, leF, ltT, ltF, eqF, nleT, nleF, nltT, nltF]; exact rfl) (fun hc2 => ?_) (fun hc2 => ?_)
    · have hlt : i < L.length := by simpa using hc2
      have hlt1 : (i : Int) < L.length := by omega
      have hd : List.drop i (L.map fun l => RT.sl l.length (rR l)) = RT.sl (L[i]).length (rR L[i]) :: List.drop (i + 1) (L.map fun l => RT.sl l.length (rR l)) := by rw [List.drop_eq_getElem_cons (by simpa using hlt)]; simp
      have hts := tot_succ L i hlt
      have htl := tot_le L (i + 1)
      rw [hts, List.length_append] at htl
      generalize L[i] = c at hd hts htl
      generalize hT : flatB (L.take i) = T0 at *
      have hn1 : ((flatB (L.take (i + 1))).length : Nat) = T0.length + c.length := by rw [hts, List.length_append]
      have hb1 : (T0.length + c.length) * 16 ≤ 140737488355328 := by omega
      have hb2 : T0.length + c.length ≤ 140737488355328 := by omega
      have htk : List.take T0.length (rD T0) = rD T0 := List.take_of_length_le (by rw [rD_len_ByteArray]; omega)
      have hrl : (rD T0).length = T0.length := by rw [rD_len_ByteArray]; omega
      refine DW.skip ?_
      refine DW.seq ?_
      refine DW.block ?_
      refine DW.seq ?_
      refine DW.reg (by simp (maxSteps := 200000) (disch := first | omega | (simp; done) | fail) [wrapI, leT, leF, ltT, ltF, eqF, nleT, nleF, nltT, nltF, hlt1, hd, hb1, hb2, htk, hrl]; rfl) ?_
      refine DW.reg (by simp [hlt1, hd, hb1, hb2, htk, hrl]; rfl) ?_
      refine DW.reg (by simp (maxSteps := 200000) (disch := first | omega | (simp; done) | fail) [wrapI, leT, leF, ltT, ltF, eqF, nleT, nleF, nltT, nltF, hlt1, hd, hb1, hb2, htk, hrl]; rfl) ?_
      exact ⟨i + 1, hlt, by omega, by simp only [hn1]; simp; try omega, by simp only [hn1, hts]; simp [rD_append], by simp, by rfl⟩
    · have hil : i = L.length := by
        have : ¬ i < L.length := by simpa using hc2
        omega
      subst hil
      rw [List.take_length]
      refine DW.exit ?_
      refine DW.seq ?_
      refine DW.reg (by simp (maxSteps := 200000) (disch := first | omega | (simp; done) | fail) [wrapI, leT, leF, ltT, ltF, eqF, nleT, nleF, nltT, nltF]; rfl) ?_
      refine DW.ret ?_
      simp [Tryd.results62]
end Go.Proofs.YtciieaidbiejmaaDoor.DM
