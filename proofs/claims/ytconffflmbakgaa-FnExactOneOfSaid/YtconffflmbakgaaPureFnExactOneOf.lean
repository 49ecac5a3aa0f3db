/-
  FnExactOneOf: the pure part: what the law computes is true, whatever the input.
-/
import Derived.Test.YtconffflmbakgaaFamFnExactOneOf
namespace Go.Proofs.Ytconffflmbakgaa.Pure
open Go.RowKit Go.Proofs.YtconffflmbakgaaW.PrintWords Go.Proofs.YtconffflmbakgaaW.PrintLast Go.Proofs.YtconffflmbakgaaW.PrintMore Go.Proofs.Ytconffflmbakgaa.QFnExactOneOf Go.Proofs.Ytconffflmbakgaa.Kit
set_option linter.unusedVariables false
set_option linter.unusedSimpArgs false
theorem all2_len {α : Type} (e : α → α → Bool) : ∀ xs ys : List α, xs.length ≠ ys.length → all2 e xs ys = false
  | [], [], h => absurd rfl h
  | [], _ :: _, _ => rfl
  | _ :: _, [], _ => rfl
  | a :: x, b :: y, h => by
    simp only [all2, all2_len e x y (fun e => h (by simp [e])), Bool.and_false]

def iE (a b : S176) : Bool := !(!(a.f0.toList == b.f0.toList) || (!(a.f1 == b.f1) || (!(a.f2.toList == b.f2.toList))))
theorem flip {γ : Type} (a b : S176) (x y : γ) : (if (!(a.f0.toList == b.f0.toList) || (!(a.f1 == b.f1) || (!(a.f2.toList == b.f2.toList)))) = true then x else y) = if iE a b = true then y else x := by
  unfold iE
  cases (!(a.f0.toList == b.f0.toList) || (!(a.f1 == b.f1) || (!(a.f2.toList == b.f2.toList)))) <;> rfl
theorem items_ev (xs ys : List S176) (h1 : xs.length ≤ 1048576) : Ev (fun k => spec_SameView.f k xs ys) (all2 iE xs ys) ∧ Ev (fun k => impl_SameView.f k xs ys) (all2 iE xs ys) := by
  unfold spec_SameView.f impl_SameView.f impl_Item.f
  by_cases hl : (xs.length : Int) = (ys.length : Int)
  · simp only [if_pos hl]
    refine ⟨all2_ev iE (fun k i => spec_SameView.l0 k i xs ys) (by omega) ?_ ?_, Ev.bind (all2_ev iE (fun k i => impl_Item.l0 k xs ys xs.length i) (by omega) ?_ ?_) (Ev.now _)⟩
    · intro k
      simp only [spec_SameView.l0, if_neg (Int.lt_irrefl _)]
    · intro i a b ha hb hlt
      have e1 : wrap64 ((i : Int) + 1) = (i : Int) + 1 := w64 (by omega) (by omega)
      have hr : rd_T176 xs (i : Int) = a := getD_get i a ha
      have hr' : rd_T176 ys (i : Int) = b := getD_get i b hb
      refine ⟨fun he r ih => ev_succ ?_, fun he => ev_succ ?_⟩
      all_goals simp only [spec_SameView.l0, e1, hr, hr', if_pos (show (i : Int) < (xs.length : Int) by omega), if_pos (show (0 : Int) ≤ (i : Int) by omega), if_pos (show (i : Int) < (ys.length : Int) by omega), flip, he, Bool.false_eq_true, if_true, if_false]
      · exact ih
      · exact Ev.now _
    · intro k
      simp only [impl_Item.l0, if_neg (Int.lt_irrefl _)]
    · intro i a b ha hb hlt
      have e1 : wrap64 ((i : Int) + 1) = (i : Int) + 1 := w64 (by omega) (by omega)
      have hr : rd_T176 xs (i : Int) = a := getD_get i a ha
      have hr' : rd_T176 ys (i : Int) = b := getD_get i b hb
      refine ⟨fun he r ih => ev_succ ?_, fun he => ev_succ ?_⟩
      all_goals simp only [impl_Item.l0, e1, hr, hr', if_pos (show (i : Int) < (xs.length : Int) by omega), if_pos (show (0 : Int) ≤ (i : Int) by omega), if_pos (show (i : Int) < (ys.length : Int) by omega), flip, he, Bool.false_eq_true, if_true, if_false]
      · exact ih
      · exact Ev.now _
  · simp only [if_neg hl]
    rw [all2_len iE xs ys (by omega)]
    exact ⟨Ev.now _, Ev.bind (Ev.now _) (Ev.now _)⟩
theorem rd117_mem {xs : List S117} {i : Nat} (h : i < xs.length) : rd_T117 xs (i : Int) ∈ xs := by
  unfold rd_T117
  rw [Int.toNat_natCast, List.getD_eq_getElem?_getD, List.getElem?_eq_getElem h]
  exact List.getElem_mem h
theorem loop_ev (b0 b1 b2 b3 : Int) (b4 : ByteArray) (b5 : List S155) (b6 : List S105) (b7 : List S166) (W H : List S117) (b10 : Int) (a0 a1 a2 a3 : Int) (a4 : ByteArray) (a5 : List S155) (a6 : List S105) (a7 : List S166) (V a9 : List S117) (a10 : Int)
    (h1 : V.length ≤ 1048576) (hv : ∀ x ∈ V, x.f0.length ≤ 1048576) (hw : W.length = V.length) (hh : H.length = V.length) : ∀ d i : Nat, i + d = V.length → ∃ r, Ev (fun k => spec_OneOf.l0 k (i : Int) b0 b1 b2 b3 b4 b5 b6 b7 W H b10 a0 a1 a2 a3 a4 a5 a6 a7 V a9 a10) r ∧ Ev (fun k => impl_OneOf.l0 k V (V.length : Int) (i : Int) b0 b1 b2 b3 b4 b5 b6 b7 W H b10) r
  | 0, i, h => by
    refine ⟨true, ev_succ (ev_some fun k => ?_), ev_succ (ev_some fun k => ?_)⟩
    · rw [spec_OneOf.l0, if_neg (by omega)]
    · rw [impl_OneOf.l0, if_neg (by omega)]
  | d + 1, i, h => by
    obtain ⟨r, ih1, ih2⟩ := loop_ev b0 b1 b2 b3 b4 b5 b6 b7 W H b10 a0 a1 a2 a3 a4 a5 a6 a7 V a9 a10 h1 hv hw hh d (i + 1) (by omega)
    have e1 : wrap64 ((i : Int) + 1) = ((i + 1 : Nat) : Int) := by rw [w64 (by omega) (by omega)]; omega
    have hm := hv _ (rd117_mem (show i < V.length by omega))
    obtain ⟨p1, p2⟩ := items_ev (rd_T117 V (i : Int)).f0 (rd_T117 W (i : Int)).f0 hm
    obtain ⟨q1, q2⟩ := items_ev (rd_T117 V (i : Int)).f0 (rd_T117 H (i : Int)).f0 hm
    by_cases c1 : all2 iE (rd_T117 V (i : Int)).f0 (rd_T117 W (i : Int)).f0 = true
    · refine ⟨r, ev_succ ?_, ev_succ ?_⟩
      · simp only [spec_OneOf.l0, if_pos (show (i : Int) < (V.length : Int) by omega), if_pos (show (0 : Int) ≤ (i : Int) by omega), if_pos (show (i : Int) < (W.length : Int) by omega), e1]
        exact Ev.bind p1 (ev_pos c1 ih1)
      · simp only [impl_OneOf.l0, if_pos (show (i : Int) < (V.length : Int) by omega), if_pos (show (0 : Int) ≤ (i : Int) by omega), if_pos (show (i : Int) < (W.length : Int) by omega), e1]
        exact Ev.bind p2 (ev_pos c1 ih2)
    · by_cases c2 : all2 iE (rd_T117 V (i : Int)).f0 (rd_T117 H (i : Int)).f0 = true
      · refine ⟨r, ev_succ ?_, ev_succ ?_⟩
        · simp only [spec_OneOf.l0, if_pos (show (i : Int) < (V.length : Int) by omega), if_pos (show (0 : Int) ≤ (i : Int) by omega), if_pos (show (i : Int) < (W.length : Int) by omega), if_pos (show (i : Int) < (H.length : Int) by omega), e1]
          exact Ev.bind p1 (ev_neg c1 (Ev.bind q1 (ev_pos c2 ih1)))
        · simp only [impl_OneOf.l0, if_pos (show (i : Int) < (V.length : Int) by omega), if_pos (show (0 : Int) ≤ (i : Int) by omega), if_pos (show (i : Int) < (W.length : Int) by omega), if_pos (show (i : Int) < (H.length : Int) by omega), e1]
          exact Ev.bind p2 (ev_neg c1 (Ev.bind q2 (ev_pos c2 ih2)))
      · refine ⟨false, ev_succ ?_, ev_succ ?_⟩
        · simp only [spec_OneOf.l0, if_pos (show (i : Int) < (V.length : Int) by omega), if_pos (show (0 : Int) ≤ (i : Int) by omega), if_pos (show (i : Int) < (W.length : Int) by omega), if_pos (show (i : Int) < (H.length : Int) by omega), e1]
          exact Ev.bind p1 (ev_neg c1 (Ev.bind q1 (ev_neg c2 (Ev.now _))))
        · simp only [impl_OneOf.l0, if_pos (show (i : Int) < (V.length : Int) by omega), if_pos (show (0 : Int) ≤ (i : Int) by omega), if_pos (show (i : Int) < (W.length : Int) by omega), if_pos (show (i : Int) < (H.length : Int) by omega), e1]
          exact Ev.bind p2 (ev_neg c1 (Ev.bind q2 (ev_neg c2 (Ev.now _))))
theorem core (b0 b1 b2 b3 : Int) (b4 : ByteArray) (b5 : List S155) (b6 : List S105) (b7 : List S166) (W H : List S117) (b10 : Int) (a0 a1 a2 a3 : Int) (a4 : ByteArray) (a5 : List S155) (a6 : List S105) (a7 : List S166) (V a9 : List S117) (a10 : Int)
    (h1 : V.length ≤ 1048576) (hv : ∀ x ∈ V, x.f0.length ≤ 1048576) : ∃ r, Ev (fun k => spec_OneOf.f k b0 b1 b2 b3 b4 b5 b6 b7 W H b10 a0 a1 a2 a3 a4 a5 a6 a7 V a9 a10) r ∧ Ev (fun k => impl_OneOf.f k b0 b1 b2 b3 b4 b5 b6 b7 W H b10 a0 a1 a2 a3 a4 a5 a6 a7 V a9 a10) r := by
  unfold spec_OneOf.f impl_OneOf.f
  by_cases c1 : W.length = V.length
  · by_cases c2 : H.length = V.length
    · obtain ⟨r, g1, g2⟩ := loop_ev b0 b1 b2 b3 b4 b5 b6 b7 W H b10 a0 a1 a2 a3 a4 a5 a6 a7 V a9 a10 h1 hv c1 c2 V.length 0 (by omega)
      have n1 : ((H.length : Int) != (V.length : Int)) = false := by simp [c2]
      have n2 : ((V.length : Int) != (H.length : Int)) = false := by simp [c2]
      refine ⟨r, ev_pos (by omega) (ev_succ ?_), ev_pos (by omega) (ev_succ ?_)⟩
      · simp only [spec_OneOf.j0, n1, Bool.false_eq_true, if_false]
        exact g1
      · simp only [impl_OneOf.j0, n2, Bool.false_eq_true, if_false]
        exact g2
    · have n1 : ((H.length : Int) != (V.length : Int)) = true := by simp; omega
      have n2 : ((V.length : Int) != (H.length : Int)) = true := by simp; omega
      refine ⟨false, ev_pos (by omega) (ev_succ ?_), ev_pos (by omega) (ev_succ ?_)⟩
      · simp only [spec_OneOf.j0, n1, if_true]
        exact Ev.now _
      · simp only [impl_OneOf.j0, n2, if_true]
        exact Ev.now _
  · refine ⟨false, ev_neg (by omega) (ev_succ ?_), ev_neg (by omega) (ev_succ ?_)⟩
    · simp only [spec_OneOf.j0, if_true]
      exact Ev.now _
    · simp only [impl_OneOf.j0, if_true]
      exact Ev.now _
theorem FnExactOneOf : Go.Proofs.Ytconffflmbakgaa.QFnExactOneOf.Stated := by
  intro b0 b1 b2 b3 b4 b5 b6 b7 b8 b9 b10 a0 a1 a2 a3 a4 a5 a6 a7 a8 a9 a10 u0 u1 u2 u3 u4 u5 u6 u7 u8 u9 u10 v0 v1 v2 v3 v4 v5 v6 v7 v8 v9 v10
  unfold laws_FnExactOneOf.f
  refine Ev.rounds (Ev.bind (szWorld_sz b0 b1 b2 b3 b4 b5 b6 b7 b8 b9 b10 u4 u5 u6 u7 u8 u9 1048576 (by decide) (by decide)) ?_)
  refine (Classical.em _).elim (fun hc => ev_pos hc (Ev.now _)) (fun hc => ev_neg hc ?_)
  have hW := szv_nonneg hc
  have hb := szv_bounds hc (by decide)
  refine Ev.bind (szWorld_sz a0 a1 a2 a3 a4 a5 a6 a7 a8 a9 a10 v4 v5 v6 v7 v8 v9 _ hb.1 hb.2) ?_
  refine (Classical.em _).elim (fun hc => ev_pos hc (Ev.now _)) (fun hc2 => ev_neg hc2 ?_)
  have hW2 := szv_nonneg hc2
  have hto1 := toWorld_to b0 b1 b2 b3 b4 b5 b6 b7 b8 b9 b10 (by omega)
  have hto2 := toWorld_to a0 a1 a2 a3 a4 a5 a6 a7 a8 a9 a10 (by omega)
  have hq : (a8.map c174).length + ((a8.map c174).map w117).sum ≤ 1048576 := by rw [cws174]; omega
  obtain ⟨r, hs, hi⟩ := core b0 b1 b2 b3 b4 (b5.map c149) (b6.map c161) (b7.map c164) (b8.map c174) (b9.map c174) b10 a0 a1 a2 a3 a4 (a5.map c149) (a6.map c161) (a7.map c164) (a8.map c174) (a9.map c174) a10 (by omega) (fun x hx => by have := mem_w hq hx; unfold w117 at this; omega)
  refine Ev.bind hto1 (Ev.bind hto2 (Ev.bind hs (Ev.bind hto1 (Ev.bind hto2 (Ev.bind hi ?_)))))
  refine ev_neg (by simp) (Ev.bind hto1 ?_)
  have q1 := cws149 b5; have q2 := cws161 b6; have q3 := cws164 b7; have q4 := cws174 b8; have q5 := cws174 b9
  have p1 := cws149 a5; have p2 := cws161 a6; have p3 := cws164 a7; have p4 := cws174 a8; have p5 := cws174 a9
  refine Ev.bind (eqWorld_eq b0 b1 b2 b3 b4 (b5.map c149) (b6.map c161) (b7.map c164) (b8.map c174) (b9.map c174) b10 (by omega)) ?_
  refine ev_pos rfl (Ev.bind hto2 ?_)
  refine Ev.bind (eqWorld_eq a0 a1 a2 a3 a4 (a5.map c149) (a6.map c161) (a7.map c164) (a8.map c174) (a9.map c174) a10 (by omega)) ?_
  exact ev_pos rfl (Ev.now _)
end Go.Proofs.Ytconffflmbakgaa.Pure
