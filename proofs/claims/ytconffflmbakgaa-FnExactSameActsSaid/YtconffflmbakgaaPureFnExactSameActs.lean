/-
  FnExactSameActs: the pure part: what the law computes is true, whatever the input.
-/
import Derived.Test.YtconffflmbakgaaFamFnExactSameActs
namespace Go.Proofs.Ytconffflmbakgaa.Pure
open Go.RowKit Go.Proofs.YtconffflmbakgaaW.PrintWords Go.Proofs.YtconffflmbakgaaW.PrintLast Go.Proofs.YtconffflmbakgaaW.PrintMore Go.Proofs.Ytconffflmbakgaa.QFnExactSameActs Go.Proofs.Ytconffflmbakgaa.Kit
set_option linter.unusedVariables false
set_option linter.unusedSimpArgs false
def eqs (a b : ByteArray) : Bool := decide (a.toList = b.toList)
theorem eqs_if {γ : Type} (a b : ByteArray) (x y : γ) : (if a.toList = b.toList then x else y) = if eqs a b = true then x else y := by
  unfold eqs
  simp only [decide_eq_true_eq]
theorem all2_len {α : Type} (e : α → α → Bool) : ∀ xs ys : List α, xs.length ≠ ys.length → all2 e xs ys = false
  | [], [], h => absurd rfl h
  | [], _ :: _, _ => rfl
  | _ :: _, [], _ => rfl
  | a :: x, b :: y, h => by
    simp only [all2, all2_len e x y (fun e => h (by simp [e])), Bool.and_false]
def shape (a b : S130) : Bool := decide ((a.f2.f5.size : Int) = (b.f2.f5.size : Int)) && ((a.f2.f0 == b.f2.f0) && ((a.f2.f1.toList == b.f2.f1.toList) && ((a.f2.f2.toList == b.f2.f2.toList) && ((a.f2.f3 == b.f2.f3) && (a.f2.f4 == b.f2.f4)))))
def short (a b : S130) : Bool := ((a.f0 == b.f0) && ((a.f1 == b.f1) && (a.f3 == b.f3)))
def long (a b : S130) : Bool := ((a.f0 == b.f0) && ((a.f1 == b.f1) && (((a.f2.f0 == b.f2.f0) && ((a.f2.f1.toList == b.f2.f1.toList) && ((a.f2.f2.toList == b.f2.f2.toList) && ((a.f2.f3 == b.f2.f3) && ((a.f2.f4 == b.f2.f4) && (a.f2.f5.toList == b.f2.f5.toList)))))) && (a.f3 == b.f3))))
theorem nshort (a b : S130) : (!(a.f0 == b.f0) || (!(a.f1 == b.f1) || !(a.f3 == b.f3))) = !short a b := by
  unfold short
  simp only [Bool.not_and]
theorem nlong (a b : S130) : (!(a.f0 == b.f0) || (!(a.f1 == b.f1) || ((!(a.f2.f0 == b.f2.f0) || (!(a.f2.f1.toList == b.f2.f1.toList) || (!(a.f2.f2.toList == b.f2.f2.toList) || (!(a.f2.f3 == b.f2.f3) || (!(a.f2.f4 == b.f2.f4) || !(a.f2.f5.toList == b.f2.f5.toList)))))) || !(a.f3 == b.f3)))) = !long a b := by
  unfold long
  simp only [Bool.not_and]
def actE (t : Int) (a b : S130) : Bool := if a.f0 = 1 then if a.f1 = t then if shape a b = true then short a b else long a b else long a b else long a b
theorem spec_shape (a b : S130) : spec_SameShape.f a.f2.f0 a.f2.f1 a.f2.f2 a.f2.f3 a.f2.f4 a.f2.f5 b.f2.f0 b.f2.f1 b.f2.f2 b.f2.f3 b.f2.f4 b.f2.f5 = some (shape a b) := by
  unfold spec_SameShape.f shape
  by_cases c : (a.f2.f5.size : Int) = (b.f2.f5.size : Int)
  · simp only [if_pos c, decide_eq_true c, Bool.true_and]
  · simp only [if_neg c, decide_eq_false c, Bool.false_and]
theorem impl_shape (a b : S130) : impl_SameShape.f a.f2.f0 a.f2.f1 a.f2.f2 a.f2.f3 a.f2.f4 a.f2.f5 b.f2.f0 b.f2.f1 b.f2.f2 b.f2.f3 b.f2.f4 b.f2.f5 = some (shape a b) := by
  unfold impl_SameShape.f shape
  by_cases c : (a.f2.f5.size : Int) = (b.f2.f5.size : Int)
  · simp only [if_pos c, decide_eq_true c, Bool.true_and]
  · simp only [if_neg c, decide_eq_false c, Bool.false_and]
theorem impl_one (t : Int) (a b : S130) : impl_SameActs_1.f a.f0 a.f1 a.f2.f0 a.f2.f1 a.f2.f2 a.f2.f3 a.f2.f4 a.f2.f5 a.f3 b.f0 b.f1 b.f2.f0 b.f2.f1 b.f2.f2 b.f2.f3 b.f2.f4 b.f2.f5 b.f3 t = some (actE t a b) := by
  unfold impl_SameActs_1.f actE
  rw [impl_shape]
  simp only [Option.bind_some]
  by_cases c0 : a.f0 = 1
  · by_cases c1 : a.f1 = t
    · by_cases c2 : shape a b = true
      · simp only [if_pos c0, if_pos c1, if_pos c2, short]
      · simp only [if_pos c0, if_pos c1, if_neg c2, long]
    · simp only [if_pos c0, if_neg c1, long]
  · simp only [if_neg c0, long]
theorem flip {γ : Type} (c : Bool) (x y : γ) : (if (!c) = true then x else y) = if c = true then y else x := by cases c <;> rfl
theorem spec_step (xs ys : List S130) (t : Int) (hl : xs.length = ys.length) (h1 : xs.length ≤ 1048576) (i : Nat) (a b : S130) (ha : xs[i]? = some a) (hb : ys[i]? = some b) (hlt : i < xs.length) (k : Nat) :
    spec_SameActs.l0 (k + 1 + 1) xs ys t (i : Int) = if actE t a b = true then spec_SameActs.l0 k xs ys t ((i : Int) + 1) else some false := by
  have e1 : wrap64 ((i : Int) + 1) = (i : Int) + 1 := w64 (by omega) (by omega)
  have hr : rd_T130 xs (i : Int) = a := getD_get i a ha
  have hr' : rd_T130 ys (i : Int) = b := getD_get i b hb
  rw [spec_SameActs.l0]
  simp only [hr, hr', if_pos (show (i : Int) < (xs.length : Int) by omega), if_pos (show (0 : Int) ≤ (i : Int) by omega), if_pos (show (i : Int) < (ys.length : Int) by omega), spec_shape, Option.bind_some]
  unfold actE
  by_cases c0 : a.f0 = 1
  · by_cases c1 : a.f1 = t
    · simp only [if_pos c0, if_pos c1]
      rw [spec_SameActs.j1, nshort, nlong, flip, flip, e1]
      by_cases c2 : shape a b = true
      · simp only [if_pos c2]
      · simp only [if_neg c2]
    · simp only [if_pos c0, if_neg c1]
      rw [spec_SameActs.j1, nlong, flip, e1]
      simp only [Bool.false_eq_true, if_false]
  · simp only [if_neg c0]
    rw [spec_SameActs.j1, nlong, flip, e1]
    simp only [Bool.false_eq_true, if_false]
theorem core (xs ys : List S130) (t : Int) (h1 : xs.length ≤ 1048576) : Ev (fun k => spec_SameActs.f k xs ys t) (all2 (actE t) xs ys) ∧ Ev (fun k => impl_SameActs.f k xs ys t) (all2 (actE t) xs ys) := by
  unfold spec_SameActs.f impl_SameActs.f impl_Act.f
  by_cases hl : (xs.length : Int) = (ys.length : Int)
  · simp only [if_pos hl]
    refine ⟨all2_ev (actE t) (fun k i => spec_SameActs.l0 k xs ys t i) (by omega) ?_ ?_, Ev.bind (all2_ev (actE t) (fun k i => impl_Act.l0 k ys t xs xs.length i) (by omega) ?_ ?_) (Ev.now _)⟩
    · intro k
      rw [spec_SameActs.l0]
      simp only [if_neg (Int.lt_irrefl _)]
    · intro i a b ha hb hlt
      have hs := spec_step xs ys t (by omega) h1 i a b ha hb hlt
      refine ⟨fun he r ih => ev_succ (ev_succ ?_), fun he => ev_succ (ev_succ ?_)⟩
      · simp only [hs, he, if_true]
        exact ih
      · simp only [hs, he, Bool.false_eq_true, if_false]
        exact Ev.now _
    · intro k
      simp only [impl_Act.l0, if_neg (Int.lt_irrefl _)]
    · intro i a b ha hb hlt
      have e1 : wrap64 ((i : Int) + 1) = (i : Int) + 1 := w64 (by omega) (by omega)
      have hr : rd_T130 xs (i : Int) = a := getD_get i a ha
      have hr' : rd_T130 ys (i : Int) = b := getD_get i b hb
      refine ⟨fun he r ih => ev_succ ?_, fun he => ev_succ ?_⟩
      all_goals simp only [impl_Act.l0, e1, hr, hr', if_pos (show (i : Int) < (xs.length : Int) by omega), if_pos (show (0 : Int) ≤ (i : Int) by omega), if_pos (show (i : Int) < (ys.length : Int) by omega), impl_one, Option.bind_some, he, Bool.false_eq_true, if_true, if_false]
      · exact ih
      · exact Ev.now _
  · simp only [if_neg hl]
    rw [all2_len (actE t) xs ys (by omega)]
    exact ⟨Ev.now _, Ev.bind (Ev.now _) (Ev.now _)⟩
theorem FnExactSameActs : Go.Proofs.Ytconffflmbakgaa.QFnExactSameActs.Stated := by
  intro l0 m0 t y0 z0 yt
  unfold laws_FnExactSameActs.f
  refine Ev.rounds (Ev.bind (szActS_sz l0 y0 1048576 (by decide) (by decide)) ?_)
  refine (Classical.em _).elim (fun hc => ev_pos hc (Ev.now _)) (fun hc => ev_neg hc ?_)
  have hW := szv_nonneg hc
  have hb := szv_bounds hc (by decide)
  refine Ev.bind (szActS_sz m0 z0 _ hb.1 hb.2) ?_
  refine (Classical.em _).elim (fun hc => ev_pos hc (Ev.now _)) (fun hc2 => ev_neg hc2 ?_)
  have hW2 := szv_nonneg hc2
  have hto1 := toActS_to l0 (by omega)
  have hto2 := toActS_to m0 (by omega)
  have hw1 : (l0.map c128).length ≤ 1048576 := by rw [List.length_map]; omega
  have hw2 : (m0.map c128).length ≤ 1048576 := by rw [List.length_map]; omega
  obtain ⟨hs1, hs2⟩ := core (l0.map c128) (m0.map c128) t hw1
  refine Ev.bind hto1 ?_
  refine Ev.bind hto2 ?_
  refine Ev.bind hs1 ?_
  refine Ev.bind hto1 ?_
  refine Ev.bind hto2 ?_
  refine Ev.bind hs2 ?_
  refine ev_neg (by simp) ?_
  refine Ev.bind hto1 ?_
  refine Ev.bind (eqActS_eq _ (by rw [cws128]; omega)) ?_
  refine ev_pos rfl ?_
  refine Ev.bind hto2 ?_
  refine Ev.bind (eqActS_eq _ (by rw [cws128]; omega)) ?_
  exact ev_pos rfl (Ev.now _)
end Go.Proofs.Ytconffflmbakgaa.Pure
