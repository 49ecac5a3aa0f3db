/-
  FnExactCodesTo: the pure part: what the law computes is true, whatever the input.
-/
import Derived.Test.YtklghegofjigoaaFamFnExactCodesTo
import Derived.Test.YtklghegofjigoaaKit2
namespace Go.Proofs.Ytklghegofjigoaa.Pure
open Go.RowKit Go.Proofs.YtklghegofjigoaaW.PrintWords Go.Proofs.YtklghegofjigoaaW.PrintLast Go.Proofs.YtklghegofjigoaaW.PrintMore Go.Proofs.Ytklghegofjigoaa.QFnExactCodesTo Go.Proofs.Ytklghegofjigoaa.Kit
set_option linter.unusedVariables false
set_option linter.unusedSimpArgs false

theorem wmS_ev (n : Nat) : ∀ (m i : Nat) (c : Int), i + m = n → n ≤ 1048576 → 1 ≤ c → c + (m : Int) ≤ 1125899906842624 → Ev (fun k => wmS.l0 k (n : Int) c (i : Int)) (c + (m : Int)) := by
  intro m
  induction m with
  | zero =>
    intro i c hi hn h1 h2
    refine ev_succ ?_
    simp only [wmS.l0, if_neg (show ¬ (i : Int) < (n : Int) by omega)]
    exact ev_eq (Ev.now _) (by omega)
  | succ m ih =>
    intro i c hi hn h1 h2
    have key := ih (i + 1) (c + 1) (by omega) hn (by omega) (by omega)
    have f1 : (i : Int) < (n : Int) := by omega
    have f2 : (0 : Int) ≤ (i : Int) := by omega
    have h3 : c ≤ 1125899906842624 := by omega
    have h4 : c + 1 + (m : Int) = c + ((m + 1 : Nat) : Int) := by omega
    have h5 : ((i + 1 : Nat) : Int) = (i : Int) + 1 := by omega
    have e1 : wrap64 ((i : Int) + 1) = (i : Int) + 1 := w64 (by omega) (by omega)
    have e2 : wrap64 (c + 1) = c + 1 := w64 (by omega) (by omega)
    refine ev_succ ?_
    simp only [wmS.l0, if_pos f1, e1, e2]
    refine Ev.bind (mt_ev c h3) (ev_pos f2 ?_)
    rw [h5] at key
    exact ev_eq key h4
def nsz (x : S127) : Nat := 7 + x.f3.f4.length
theorem nsz_le (l : List S127) : (l.map nsz).sum ≤ 7 * l.length + (l.map w127).sum := by
  induction l with
  | nil => simp
  | cons a l ih =>
    have h : nsz a ≤ 7 + w127 a := by unfold nsz w127; omega
    simp only [List.map_cons, List.sum_cons, List.length_cons]
    omega
theorem wmT_ev (l : List S127) (hl : l.length + (l.map w127).sum ≤ 1048576) (c0 : Int) (h1 : 1 ≤ c0) (h2 : c0 ≤ 1099511627776) : Ev (fun k => laws_markToldS.f k l c0) (c0 + ((l.map nsz).sum : Nat)) := by
  have hz := nsz_le l
  unfold laws_markToldS.f
  refine loop (xs := l) (fun k c i => wmT.l0 k l c i) (fun c rest => c + ((rest.map nsz).sum : Nat)) (fun c i rest => 1 ≤ c ∧ c + ((rest.map nsz).sum : Nat) ≤ 1125899906842600 ∧ ∀ x ∈ rest, x ∈ l) ?_ ?_ c0 ⟨h1, by omega, fun _ h => h⟩
  · intro c _
    refine ev_succ ?_
    simp only [wmT.l0, if_neg (Int.lt_irrefl _)]
    exact ev_eq (Ev.now _) (by simp)
  · intro c i a rest hd hlt hget ⟨q1, q2, q3⟩ ih
    have hr : rd_T127 l (i : Int) = a := getD_get i a hget
    have hn : nsz a = 7 + a.f3.f4.length := rfl
    have hq : a.f3.f4.length ≤ 1048576 := by
      have hw := mem_w (w := w127) hl (q3 a List.mem_cons_self)
      unfold w127 at hw
      omega
    simp only [List.map_cons, List.sum_cons] at q2 ⊢
    have f1 : (i : Int) < (l.length : Int) := by omega
    have f2 : (0 : Int) ≤ (i : Int) := by omega
    have f4 : c + 1 + 1 + 1 + 1 ≤ 1125899906842624 := by omega
    have key := wmS_ev a.f3.f4.length a.f3.f4.length 0 (c + 1 + 1 + 1 + 1 + 1 + 1 + 1) (by omega) hq (by omega) (by omega)
    have nxt := ih (c + 1 + 1 + 1 + 1 + 1 + 1 + 1 + (a.f3.f4.length : Int)) ⟨by omega, by omega, fun x hx => q3 x (List.mem_cons_of_mem _ hx)⟩
    have hs : c + 1 + 1 + 1 + 1 + 1 + 1 + 1 + (a.f3.f4.length : Int) + ((rest.map nsz).sum : Nat) = c + ((nsz a + (rest.map nsz).sum : Nat) : Int) := by omega
    have a1 : -9223372036854775808 ≤ c + 1 := by omega
    have b1 : c + 1 ≤ 9223372036854775807 := by omega
    have a2 : -9223372036854775808 ≤ c + 1 + 1 := by omega
    have b2 : c + 1 + 1 ≤ 9223372036854775807 := by omega
    have a3 : -9223372036854775808 ≤ c + 1 + 1 + 1 := by omega
    have b3 : c + 1 + 1 + 1 ≤ 9223372036854775807 := by omega
    have a4 : -9223372036854775808 ≤ c + 1 + 1 + 1 + 1 := by omega
    have b4 : c + 1 + 1 + 1 + 1 ≤ 9223372036854775807 := by omega
    have a5 : -9223372036854775808 ≤ c + 1 + 1 + 1 + 1 + 1 := by omega
    have b5 : c + 1 + 1 + 1 + 1 + 1 ≤ 9223372036854775807 := by omega
    have a6 : -9223372036854775808 ≤ c + 1 + 1 + 1 + 1 + 1 + 1 := by omega
    have b6 : c + 1 + 1 + 1 + 1 + 1 + 1 ≤ 9223372036854775807 := by omega
    have a7 : -9223372036854775808 ≤ c + 1 + 1 + 1 + 1 + 1 + 1 + 1 := by omega
    have b7 : c + 1 + 1 + 1 + 1 + 1 + 1 + 1 ≤ 9223372036854775807 := by omega
    have e0 : wrap64 ((i : Int) + 1) = (i : Int) + 1 := w64 (by omega) (by omega)
    have e1 : wrap64 (c + 1) = c + 1 := w64 a1 b1
    have e2 : wrap64 (c + 1 + 1) = c + 1 + 1 := w64 a2 b2
    have e3 : wrap64 (c + 1 + 1 + 1) = c + 1 + 1 + 1 := w64 a3 b3
    have e4 : wrap64 (c + 1 + 1 + 1 + 1) = c + 1 + 1 + 1 + 1 := w64 a4 b4
    have e5 : wrap64 (c + 1 + 1 + 1 + 1 + 1) = c + 1 + 1 + 1 + 1 + 1 := w64 a5 b5
    have e6 : wrap64 (c + 1 + 1 + 1 + 1 + 1 + 1) = c + 1 + 1 + 1 + 1 + 1 + 1 := w64 a6 b6
    have e7 : wrap64 (c + 1 + 1 + 1 + 1 + 1 + 1 + 1) = c + 1 + 1 + 1 + 1 + 1 + 1 + 1 := w64 a7 b7
    refine ev_succ ?_
    simp only [wmT.l0, if_pos f1, if_pos f2, e0, e1, e2, e3, e4, e5, e6, e7, hr]
    refine Ev.bind (mt_ev _ f4) (Ev.bind key ?_)
    exact ev_eq nxt hs

def pick (t : Int) (x : S127) : List Int := if x.f1 = t then [x.f0] else []
theorem pick_le (t : Int) (x : S127) : (pick t x).length ≤ 1 := by unfold pick; split <;> simp
theorem flat_len (t : Int) (l : List S127) : (l.flatMap (pick t)).length ≤ l.length := by
  induction l with
  | nil => simp
  | cons a l ih => have := pick_le t a; simp only [List.flatMap_cons, List.length_append, List.length_cons]; omega
theorem spec_CodesTo_ev (xs : List S127) (t : Int) (hl : xs.length ≤ 1048576) : Ev (fun k => spec_CodesTo.f k xs t) (xs.flatMap (pick t)) := by
  refine collect_ev (pick t) (pick_le t) (fun k y i => spec_CodesTo.l0 k xs t y i) ?_ ?_
  · intro k y
    simp only [spec_CodesTo.l0, if_neg (Int.lt_irrefl _)]
  · intro y i a hget hlt hy r ih
    have f1 : (i : Int) < (xs.length : Int) := by omega
    have f2 : (0 : Int) ≤ (i : Int) := by omega
    have f3 : y.length < 17592186044416 := by omega
    have e1 : wrap64 ((i : Int) + 1) = (i : Int) + 1 := w64 (by omega) (by omega)
    have hr : rd_T127 xs (i : Int) = a := getD_get i a hget
    refine ev_succ ?_
    simp only [spec_CodesTo.l0, e1, hr, if_pos f1, if_pos f2, if_pos f3]
    unfold pick at ih
    by_cases h1 : a.f1 = t
    · rw [if_pos h1] at ih
      simp only [if_pos h1]
      exact ih
    · rw [if_neg h1, List.append_nil] at ih
      simp only [if_neg h1]
      exact ih
theorem impl_CodesTo_ev (xs : List S127) (t : Int) (hl : xs.length ≤ 1048576) : Ev (fun k => impl_CodesTo.f k xs t) (xs.flatMap (pick t)) := by
  refine collect_ev (pick t) (pick_le t) (fun k y i => impl_CodesTo.l0 k t y xs xs.length i) ?_ ?_
  · intro k y
    simp only [impl_CodesTo.l0, if_neg (Int.lt_irrefl _)]
  · intro y i a hget hlt hy r ih
    have f1 : (i : Int) < (xs.length : Int) := by omega
    have f2 : (0 : Int) ≤ (i : Int) := by omega
    have f3 : y.length < 17592186044416 := by omega
    have e1 : wrap64 ((i : Int) + 1) = (i : Int) + 1 := w64 (by omega) (by omega)
    have hr : rd_T127 xs (i : Int) = a := getD_get i a hget
    refine ev_succ ?_
    simp only [impl_CodesTo.l0, e1, hr, if_pos f1, if_pos f2, if_pos f3]
    unfold pick at ih
    by_cases h1 : a.f1 = t
    · rw [if_pos h1] at ih
      simp only [if_pos h1]
      exact ih
    · rw [if_neg h1, List.append_nil] at ih
      simp only [if_neg h1]
      exact ih

theorem FnExactCodesTo : Go.Proofs.Ytklghegofjigoaa.QFnExactCodesTo.Stated := by
  intro l0 a1 y0 _
  unfold laws_FnExactCodesTo.f
  refine Ev.rounds (Ev.bind (szToldS_sz l0 y0 1048576 (by decide) (by decide)) ?_)
  refine (Classical.em _).elim (fun hc => ev_pos hc (Ev.now _)) (fun hc => ev_neg hc ?_)
  have hW := szv_nonneg hc
  have hto := toToldS_to l0 (by omega)
  have hW' : (l0.map c124).length + ((l0.map c124).map w127).sum ≤ 1048576 := by rw [cws124]; omega
  have hL : (l0.map c124).length ≤ 1048576 := by omega
  have hs := spec_CodesTo_ev (l0.map c124) a1 hL
  have hi := impl_CodesTo_ev (l0.map c124) a1 hL
  have hz := flat_len a1 (l0.map c124)
  have hmk := wmT_ev (l0.map c124) hW' 1 (by decide) (by decide)
  generalize ((l0.map c124).flatMap (pick a1)) = z at hs hi hz
  have heW := eqIntS_eq z (by omega)
  have hmk2 := markIntS_mk z (by omega)
  have hhd := heldIntS_hd z (by omega)
  refine Ev.bind hto ?_
  refine Ev.bind hs ?_
  refine Ev.bind hto ?_
  refine Ev.bind hi ?_
  refine Ev.bind heW ?_
  refine ev_pos rfl ?_
  refine Ev.bind hto ?_
  refine Ev.bind (eqToldS_eq (l0.map c124) hW') ?_
  refine ev_pos rfl ?_
  refine Ev.bind hmk ?_
  refine ev_neg (by omega) ?_
  refine Ev.bind heW ?_
  refine ev_succ ?_
  simp only [laws_FnExactCodesTo.j0, Bool.not_true, Bool.false_eq_true, if_false]
  refine Ev.bind hmk2 ?_
  refine Ev.bind hhd ?_
  refine ev_neg (by omega) ?_
  refine ev_pos rfl ?_
  refine Ev.bind hto ?_
  refine Ev.bind hi ?_
  refine Ev.bind heW ?_
  refine ev_pos rfl ?_
  refine Ev.bind hhd ?_
  refine ev_neg (by omega) ?_
  exact ev_pos rfl (Ev.now _)
end Go.Proofs.Ytklghegofjigoaa.Pure
