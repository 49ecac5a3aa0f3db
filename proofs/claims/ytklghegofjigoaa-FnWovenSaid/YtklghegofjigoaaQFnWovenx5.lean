/- Go functions as Lean functions, and their contracts. Own text: written by wip/gen/pr.py (a turned copy of the print). -/
import Derived.Test.YtklghegofjigoaaQFnWovenx0
namespace Go.Proofs.Ytklghegofjigoaa.QFnWoven
open Go.RowKit Go.Proofs.YtklghegofjigoaaW.PrintWords Go.Proofs.YtklghegofjigoaaW.PrintLast Go.Proofs.YtklghegofjigoaaW.PrintMore
attribute [local go_sem] max2_int min2_int max_two min_two max_three min_three max_four min_four   -- for this text's walks alone
set_option linter.unusedVariables false
set_option linter.unusedSimpArgs false

/-! ### impl_Woven: function 16 -/
def impl_Woven.l0 : Nat → List (S33) → List (S33) → List Int → List (S33) → Int → Option ((List (S33)))
  | 0, _, _, _, _, _ => none
  | k + 1, x0, x1, x2, x7, x8 => if (wrap64 ((x0.length : Int) + (x1.length : Int))) > 0 then (if x8 < (x2.length : Int) then (if 0 ≤ x8 then (if (x0.length : Int) = 0 then (if 0 < (x1.length : Int) then (if x7.length < 1466015503701 then (if 1 ≤ (x1.length : Int) then (impl_Woven.l0 k x0 (x1.drop 1) x2 (x7 ++ [(⟨(rd_T33 x1 0).f0, (rd_T33 x1 0).f1, (⟨(rd_T33 x1 0).f2.f0, (rd_T33 x1 0).f2.f1, (rd_T33 x1 0).f2.f2, (rd_T33 x1 0).f2.f3, (rd_T33 x1 0).f2.f4, (rd_T33 x1 0).f2.f5⟩ : S31), (rd_T33 x1 0).f3⟩ : S33)]) (wrap64 (x8 + 1))) else (none)) else (none)) else (none)) else (if (Int.tmod (rd x2 x8) 2) = 0 then (if 0 < (x0.length : Int) then (if x7.length < 1466015503701 then (if 1 ≤ (x0.length : Int) then (impl_Woven.l0 k (x0.drop 1) x1 x2 (x7 ++ [(⟨(rd_T33 x0 0).f0, (rd_T33 x0 0).f1, (⟨(rd_T33 x0 0).f2.f0, (rd_T33 x0 0).f2.f1, (rd_T33 x0 0).f2.f2, (rd_T33 x0 0).f2.f3, (rd_T33 x0 0).f2.f4, (rd_T33 x0 0).f2.f5⟩ : S31), (rd_T33 x0 0).f3⟩ : S33)]) (wrap64 (x8 + 1))) else (none)) else (none)) else (none)) else (if (x1.length : Int) > 0 then (if 0 < (x1.length : Int) then (if x7.length < 1466015503701 then (if 1 ≤ (x1.length : Int) then (impl_Woven.l0 k x0 (x1.drop 1) x2 (x7 ++ [(⟨(rd_T33 x1 0).f0, (rd_T33 x1 0).f1, (⟨(rd_T33 x1 0).f2.f0, (rd_T33 x1 0).f2.f1, (rd_T33 x1 0).f2.f2, (rd_T33 x1 0).f2.f3, (rd_T33 x1 0).f2.f4, (rd_T33 x1 0).f2.f5⟩ : S31), (rd_T33 x1 0).f3⟩ : S33)]) (wrap64 (x8 + 1))) else (none)) else (none)) else (none)) else (if 0 < (x0.length : Int) then (if x7.length < 1466015503701 then (if 1 ≤ (x0.length : Int) then (impl_Woven.l0 k (x0.drop 1) x1 x2 (x7 ++ [(⟨(rd_T33 x0 0).f0, (rd_T33 x0 0).f1, (⟨(rd_T33 x0 0).f2.f0, (rd_T33 x0 0).f2.f1, (rd_T33 x0 0).f2.f2, (rd_T33 x0 0).f2.f3, (rd_T33 x0 0).f2.f4, (rd_T33 x0 0).f2.f5⟩ : S31), (rd_T33 x0 0).f3⟩ : S33)]) (wrap64 (x8 + 1))) else (none)) else (none)) else (none))))) else (none)) else (if (x0.length : Int) = 0 then (if 0 < (x1.length : Int) then (if x7.length < 1466015503701 then (if 1 ≤ (x1.length : Int) then (impl_Woven.l0 k x0 (x1.drop 1) x2 (x7 ++ [(⟨(rd_T33 x1 0).f0, (rd_T33 x1 0).f1, (⟨(rd_T33 x1 0).f2.f0, (rd_T33 x1 0).f2.f1, (rd_T33 x1 0).f2.f2, (rd_T33 x1 0).f2.f3, (rd_T33 x1 0).f2.f4, (rd_T33 x1 0).f2.f5⟩ : S31), (rd_T33 x1 0).f3⟩ : S33)]) (wrap64 (x8 + 1))) else (none)) else (none)) else (none)) else (if 0 < (x0.length : Int) then (if x7.length < 1466015503701 then (if 1 ≤ (x0.length : Int) then (impl_Woven.l0 k (x0.drop 1) x1 x2 (x7 ++ [(⟨(rd_T33 x0 0).f0, (rd_T33 x0 0).f1, (⟨(rd_T33 x0 0).f2.f0, (rd_T33 x0 0).f2.f1, (rd_T33 x0 0).f2.f2, (rd_T33 x0 0).f2.f3, (rd_T33 x0 0).f2.f4, (rd_T33 x0 0).f2.f5⟩ : S31), (rd_T33 x0 0).f3⟩ : S33)]) (wrap64 (x8 + 1))) else (none)) else (none)) else (none)))) else (some x7)
def impl_Woven.f (k : Nat) (l0 : List (S33)) (l1 : List (S33)) (l2 : List Int) : Option ((List (S33))) := impl_Woven.l0 k l0 l1 l2 (([] : List (S33))) 0
theorem impl_Woven.mono_l : ∀ k, (∀ y0 y1 y2 y3 y4, LeO (impl_Woven.l0 k y0 y1 y2 y3 y4) (impl_Woven.l0 (k + 1) y0 y1 y2 y3 y4))
  | 0 => fun _ _ _ _ _ r h => by simp [impl_Woven.l0] at h
  | k + 1 => by
    have ih0 := impl_Woven.mono_l k
    · intro y0 y1 y2 y3 y4
      unfold impl_Woven.l0
      repeat' first
      | (with_reducible exact ih0 _ _ _ _ _)
      | (with_reducible exact LeO.refl _)
      | (with_reducible exact LeO.none _)
      | (with_reducible refine LeO.ite ?_ ?_)
      | (with_reducible refine LeO.bind ?_ (fun _ => ?_))
      | exact ih0 _ _ _ _ _
      | exact LeO.none _
      | refine LeO.ite ?_ ?_
      | refine LeO.bind ?_ (fun _ => ?_)
theorem impl_Woven.mono : ∀ a0 a1 a2 k, LeO (impl_Woven.f k a0 a1 a2) (impl_Woven.f (k + 1) a0 a1 a2) := by
  intro a0 a1 a2 k
  have ih0 := impl_Woven.mono_l k
  unfold impl_Woven.f
  repeat' first
      | (with_reducible exact ih0 _ _ _ _ _)
      | (with_reducible exact LeO.refl _)
      | (with_reducible exact LeO.none _)
      | (with_reducible refine LeO.ite ?_ ?_)
      | (with_reducible refine LeO.bind ?_ (fun _ => ?_))
      | exact ih0 _ _ _ _ _
      | exact LeO.none _
      | refine LeO.ite ?_ ?_
      | refine LeO.bind ?_ (fun _ => ?_)
set_option maxHeartbeats 8000000 in
set_option maxRecDepth 100000 in
theorem impl_Woven.calls (k : Nat) (P0_ : Nat → Prop) (A0 : Option Addr) (c0 : Nat) (l0 : List (S33)) (P1_ : Nat → Prop) (A1 : Option Addr) (c1 : Nat) (l1 : List (S33)) (A2 : Option Addr) (c2 : Nat) (l2 : List Int) (r : List (S33)) (w : World) (hs0 : Kd.V k33 33 w w.heap.size (fun k_ => P0_ k_) (.slice A0 l0.length c0) l0) (hs1 : Kd.V k33 33 w w.heap.size (fun k_ => P1_ k_) (.slice A1 l1.length c1) l1) (hr2 : Kd.C (Kd.int .i64) w A2 l2.length l2) (hc2 : l2.length ≤ c2) (h : impl_Woven.f k l0 l1 l2 = some r) :
    Calls Try.prog 16 #[.slice A0 l0.length c0, .slice A1 l1.length c1, .slice A2 l2.length c2] w fun e w' => ∃ v0_ : Value, e = .returned (v0_) ∧ Kd.R k33 33 w' w.heap.size (fun k_ => (w.heap.size ≤ k_)) v0_ r ∧ Below w.heap.size w w' := by
  have hu33 := Try.underlying33
  have HO0 := Aside0.mk (show Kd.V k33 33 w w.heap.size (fun k_ => ((P0_ k_ ∨ P1_ k_) ∨ w.heap.size ≤ k_)) (.slice A0 l0.length c0) l0 from Kd.V_mono hs0 (fun k_ hk => .inl (.inl hk)))
  have HO1 := Aside0.mk (show Kd.V k33 33 w w.heap.size (fun k_ => ((P0_ k_ ∨ P1_ k_) ∨ w.heap.size ≤ k_)) (.slice A1 l1.length c1) l1 from Kd.V_mono hs1 (fun k_ hk => .inl (.inr hk)))
  have HR2 := Aside0.mk hr2
  have HC2 := Aside0.mk hc2
  clear hr2 hc2
  have HB := Aside0.mk (Below.refl w.heap.size w)
  have H : (impl_Woven.l0 k l0 l1 l2 (([] : List (S33))) 0) = some r := h
  clear h
  obtain ⟨y335, hy335⟩ : ∃ y_ : List (S33), y_ = (([] : List (S33))) := ⟨_, rfl⟩
  replace H : (impl_Woven.l0 k l0 l1 l2 y335 0) = some r := by first | (rw [hy335]; with_reducible exact H) | (have H2_ := (Option.bind_some _ _).symm.trans H; rw [hy335]; with_reducible exact H2_) | (have H2_ := (Option.bind_some _ _).symm.trans H; with_reducible exact H2_) | with_reducible exact H | (rw [hy335]; exact H) | exact H
  have Ny335 := Aside0.mk hy335
  clear hy335
  have H' := Aside0.mk H
  clear H
  go_enter Try.func16, Try.ntmps16
  go_wp2_with (first | ((with_reducible refine gate_dst (N := 10) rfl ?_); (try (refine gate_guard (by rfl) ?_; dsimp only)); refine Kd.R_lit k33 _ 33 ?hg (N := 10) ?hd (xs := ([] : List (S33))) (inner := []) (ok := fun _ => True) (okp := fun _ => True) ?hr ?hp (fun _ hk => hk) trivial (Below.refl _ _) (Nat.le_refl _) (by simp) ?_; (case hd => rfl); (case hg => rfl); (case hr => first | (go_simp; done) | (go_simp; rfl)); (case hp => exact (Reps.none _ _)); intro v336 w4 ho5 hb hg_ hnew_; clear hg_ hnew_; (first | rw [← Ny335.out] at ho5 | (simp only [Int.reduceToNat] at ho5; rw [← Ny335.out] at ho5)); have n0_ := Aside0.mk (Kd.V_elder' (by (with_reducible repeat (first | apply Kd.V_alloc | apply Kd.V_drewN | apply Kd.V_drew)); exact HO0.out) (Kd.R_base ho5) hb); have n1_ := Aside0.mk (Kd.V_elder' (by (with_reducible repeat (first | apply Kd.V_alloc | apply Kd.V_drewN | apply Kd.V_drew)); exact HO1.out) (Kd.R_base ho5) hb); have n2_ := Aside0.mk (Kd.R_lower (Kd.R_newM (M := fun k_ => (w.heap.size ≤ k_)) ho5 (below_size (by repeat (first | (with_reducible first | exact HB.out | apply below_alloc | apply pw_below_drewN | apply below_drew1) | exact HB.out))) (fun k_ h_ => h_)) (below_size (by repeat (first | (with_reducible first | exact HB.out | apply below_alloc | apply pw_below_drewN | apply below_drew1) | exact HB.out)))); have n3_ := Aside0.mk (below_step (by repeat (first | (with_reducible first | exact HB.out | apply below_alloc | apply pw_below_drewN | apply below_drew1) | exact HB.out)) hb); clear HO0; clear HO1; clear HB; have HO0 := n0_; have HO1 := n1_; have HO337 := n2_; have HB := n3_; clear n0_ n1_ n2_ n3_; clear hb ho5))
  go_loopg [0, 1, 7, 8] k (fun kq v0 v1 v7 v8 w' => ∃ (x0_1 : List (S33)) (x1_1 : List (S33)) (x7_1 : List (S33)) (x8_1 : Int), v8 = .int .i64 x8_1 ∧ Aside0 (impl_Woven.l0 kq x0_1 x1_1 l2 x7_1 x8_1 = some r) ∧ Aside0 (kq ≤ k) ∧ Aside0 (Kd.V k33 33 w' w.heap.size (fun k_ => ((P0_ k_ ∨ P1_ k_) ∨ w.heap.size ≤ k_) ∧ some k_ ≠ (v7 : Value).ownBlock) v0 x0_1) ∧ Aside0 (Kd.V k33 33 w' w.heap.size (fun k_ => ((P0_ k_ ∨ P1_ k_) ∨ w.heap.size ≤ k_) ∧ some k_ ≠ (v7 : Value).ownBlock) v1 x1_1) ∧ Aside0 (Kd.R k33 33 w' w.heap.size (fun k_ => (w.heap.size ≤ k_)) v7 x7_1) ∧ Aside0 (Below w.heap.size w w'))
  case atStart => exact ⟨(l0), (l1), (y335), (0), (by first | rfl | (simp; done) | (simp [*]; done)), H', ⟨Nat.le_refl _⟩, ⟨by (with_reducible repeat (first | apply Kd.V_alloc | apply Kd.V_drewN | apply Kd.V_drew)); exact HO0.out⟩, ⟨by (with_reducible repeat (first | apply Kd.V_alloc | apply Kd.V_drewN | apply Kd.V_drew)); exact HO1.out⟩, ⟨by (with_reducible repeat (first | apply Kd.R_alloc | apply Kd.R_drewN | apply Kd.R_drew)); exact Kd.R_mono HO337.out (fun _ hk => hk.1)⟩, ⟨by repeat (first | (with_reducible first | exact HB.out | apply below_alloc | apply pw_below_drewN | apply below_drew1) | exact HB.out)⟩⟩
  case round =>
    clear H'
    try clear c1
    try clear c2
    try clear p2
    obtain ⟨x0_1, x1_1, x7_1, x8_1, rfl, HA, HK1, HO_0, HO_1, HO_7, HB⟩ := hrel
    cases gk with
    | zero => exact absurd HA.out (by simp [impl_Woven.l0])
    | succ k1 =>
      have H := HA.out
      clear HA
      simp only [impl_Woven.l0] at H
      by_cases c6 : (wrap64 ((x0_1.length : Int) + (x1_1.length : Int))) > 0
      · rw [if_pos c6] at H
        have c6b0 : decide (0 < (wrap64 ((x0_1.length : Int) + (x1_1.length : Int)))) = true := decide_eq_true c6
        clear c6
        by_cases c7 : x8_1 < (l2.length : Int)
        · rw [if_pos c7] at H
          have c7b0 : decide (x8_1 < (l2.length : Int)) = true := decide_eq_true c7
          clear c7
          by_cases c8 : 0 ≤ x8_1
          · rw [if_pos c8] at H
            have c8b0 : decide (0 ≤ x8_1) = true := decide_eq_true c8
            clear c8
            by_cases c9 : (x0_1.length : Int) = 0
            · rw [if_pos c9] at H
              have c9b0 : ((x0_1.length : Int) == 0) = true := beq_iff_eq.mpr c9
              have c9b1 : ((x0_1.length : Int) != 0) = false := bne_eq_false_iff_eq.mpr c9
              clear c9
              by_cases c10 : 0 < (x1_1.length : Int)
              · rw [if_pos c10] at H
                have c10b0 : decide (0 < (x1_1.length : Int)) = true := decide_eq_true c10
                have c10b1 : decide (0 < x1_1.length) = true := decide_eq_true (by omega)
                clear c10
                by_cases c11 : x7_1.length < 1466015503701
                · rw [if_pos c11] at H
                  have LMc11 := Aside0.mk c11
                  clear c11
                  obtain ⟨y340, hy340⟩ : ∃ y_ : List (S33), y_ = (x7_1 ++ [(⟨(rd_T33 x1_1 0).f0, (rd_T33 x1_1 0).f1, (⟨(rd_T33 x1_1 0).f2.f0, (rd_T33 x1_1 0).f2.f1, (rd_T33 x1_1 0).f2.f2, (rd_T33 x1_1 0).f2.f3, (rd_T33 x1_1 0).f2.f4, (rd_T33 x1_1 0).f2.f5⟩ : S31), (rd_T33 x1_1 0).f3⟩ : S33)]) := ⟨_, rfl⟩
                  replace H : (if 1 ≤ (x1_1.length : Int) then (impl_Woven.l0 k1 x0_1 (x1_1.drop 1) l2 y340 (wrap64 (x8_1 + 1))) else (none)) = some r := by first | (rw [hy340]; with_reducible exact H) | (have H2_ := (Option.bind_some _ _).symm.trans H; rw [hy340]; with_reducible exact H2_) | (have H2_ := (Option.bind_some _ _).symm.trans H; with_reducible exact H2_) | with_reducible exact H | (rw [hy340]; exact H) | exact H
                  have Ny340 := Aside0.mk hy340
                  clear hy340
                  by_cases c12 : 1 ≤ (x1_1.length : Int)
                  · rw [if_pos c12] at H
                    have c12b0 := eq_true c12
                    have c12b1 : decide (1 ≤ (x1_1.length : Int)) = true := decide_eq_true c12
                    clear c12
                    obtain ⟨y343, hy343⟩ : ∃ y_ : List (S33), y_ = (x1_1.drop 1) := ⟨_, rfl⟩
                    replace H : (impl_Woven.l0 k1 x0_1 y343 l2 y340 (wrap64 (x8_1 + 1))) = some r := by first | (rw [hy343]; with_reducible exact H) | (have H2_ := (Option.bind_some _ _).symm.trans H; rw [hy343]; with_reducible exact H2_) | (have H2_ := (Option.bind_some _ _).symm.trans H; with_reducible exact H2_) | with_reducible exact H | (rw [hy343]; exact H) | exact H
                    have Ny343 := Aside0.mk hy343
                    clear hy343
                    have H' := Aside0.mk H
                    clear H
                    obtain ⟨Ao13, co13, eo13⟩ := Kd.V_slice HO_0.out
                    subst eo13
                    obtain ⟨Ao14, co14, eo14⟩ := Kd.V_slice HO_1.out
                    subst eo14
                    have p338 : 0 ≤ (x8_1 : Int) := of_decide_eq_true (by first | (with_reducible assumption) | assumption)
                    have q338 : x8_1 < (l2.length : Int) := of_decide_eq_true (by first | (with_reducible assumption) | assumption)
                    obtain ⟨ad338, e338, hx338_0⟩ := Kd.at_int HR2.out x8_1 p338 q338
                    cases e338
                    replace hx338_0 := (HB.out.cell (World.block_lt_of_cell? w _ hx338_0)).trans hx338_0
                    replace p338 := eq_true p338
                    replace q338 := eq_true q338
                    have p339 : 0 ≤ (0 : Int) := (by omega)
                    have q339 : 0 < (x1_1.length : Int) := of_decide_eq_true (by first | (with_reducible assumption) | assumption)
                    obtain ⟨ad339, e339, hx339_0, hx339_1, hx339_2, hx339_3, hx339_4, hx339_5, hx339_6, hx339_7, hx339_8⟩ := at_T33 (Kd.V_reads' HO_1.out).2.2 0 p339 q339
                    cases e339
                    have qi339 : (0 < x1_1.length) = True := eq_true (by omega)
                    (try rw [show ((0 : Int)).toNat = 0 from rfl] at hx339_0)
                    (try rw [show 0 * 9 = 0 from rfl] at hx339_0)
                    (try rw [Addr.add_zero'] at hx339_0)
                    (try rw [show ((0 : Int)).toNat = 0 from rfl] at hx339_1)
                    (try rw [show 0 * 9 = 0 from rfl] at hx339_1)
                    (try rw [Addr.add_zero'] at hx339_1)
                    (try rw [show ((0 : Int)).toNat = 0 from rfl] at hx339_2)
                    (try rw [show 0 * 9 = 0 from rfl] at hx339_2)
                    (try rw [Addr.add_zero'] at hx339_2)
                    (try rw [show ((0 : Int)).toNat = 0 from rfl] at hx339_3)
                    (try rw [show 0 * 9 = 0 from rfl] at hx339_3)
                    (try rw [Addr.add_zero'] at hx339_3)
                    (try rw [show ((0 : Int)).toNat = 0 from rfl] at hx339_4)
                    (try rw [show 0 * 9 = 0 from rfl] at hx339_4)
                    (try rw [Addr.add_zero'] at hx339_4)
                    (try rw [show ((0 : Int)).toNat = 0 from rfl] at hx339_5)
                    (try rw [show 0 * 9 = 0 from rfl] at hx339_5)
                    (try rw [Addr.add_zero'] at hx339_5)
                    (try rw [show ((0 : Int)).toNat = 0 from rfl] at hx339_6)
                    (try rw [show 0 * 9 = 0 from rfl] at hx339_6)
                    (try rw [Addr.add_zero'] at hx339_6)
                    (try rw [show ((0 : Int)).toNat = 0 from rfl] at hx339_7)
                    (try rw [show 0 * 9 = 0 from rfl] at hx339_7)
                    (try rw [Addr.add_zero'] at hx339_7)
                    (try rw [show ((0 : Int)).toNat = 0 from rfl] at hx339_8)
                    (try rw [show 0 * 9 = 0 from rfl] at hx339_8)
                    (try rw [Addr.add_zero'] at hx339_8)
                    replace p339 := eq_true p339
                    replace q339 := eq_true q339
                    go_wp2_with (first | ((with_reducible refine gate_builtin (b := .append) (xs := #[.tmp 42, .tmp 46]) rfl ?_); (try (refine gate_guard (by rfl) ?_; dsimp only)); at_builtin; refine Kd.R_append k33 (w0 := w) w.heap.size rfl (.tmp 42) (.tmp 46) 24 33 (.agg #[(.int .i64 0), (.int .i64 0), (.int .i64 0), (.string ⟨#[]⟩), (.string ⟨#[]⟩), (.int .i64 0), (.int .i64 0), (.string ⟨#[]⟩), (.int .i64 0)]) 96 rfl Try.underlying24 info33 rfl (by decide) (by omega) u7 x7_1 (⟨(rd_T33 x1_1 0).f0, (rd_T33 x1_1 0).f1, (⟨(rd_T33 x1_1 0).f2.f0, (rd_T33 x1_1 0).f2.f1, (rd_T33 x1_1 0).f2.f2, (rd_T33 x1_1 0).f2.f3, (rd_T33 x1_1 0).f2.f4, (rd_T33 x1_1 0).f2.f5⟩ : S31), (rd_T33 x1_1 0).f3⟩ : S33) [.int .i64 ((rd_T33 x1_1 0).f0), .int .i64 ((rd_T33 x1_1 0).f1), .int .i64 ((rd_T33 x1_1 0).f2.f0), .string ((rd_T33 x1_1 0).f2.f1), .string ((rd_T33 x1_1 0).f2.f2), .int .i64 ((rd_T33 x1_1 0).f2.f3), .int .i64 ((rd_T33 x1_1 0).f2.f4), .string ((rd_T33 x1_1 0).f2.f5), .int .i64 ((rd_T33 x1_1 0).f3)] (fun k_ => (w.heap.size ≤ k_)) (fun _ => False) rfl rfl ?aP (fun _ hk => hk.elim) ?aF ?aO ?aB ?aS ?aL ?_; (case aP => exact k33_mkM _ _ _ (⟨(rd_T33 x1_1 0).f0, (rd_T33 x1_1 0).f1, (⟨(rd_T33 x1_1 0).f2.f0, (rd_T33 x1_1 0).f2.f1, (rd_T33 x1_1 0).f2.f2, (rd_T33 x1_1 0).f2.f3, (rd_T33 x1_1 0).f2.f4, (rd_T33 x1_1 0).f2.f5⟩ : S31), (rd_T33 x1_1 0).f3⟩ : S33)); (case aB => exact (by repeat (first | (with_reducible first | exact HB.out | apply below_alloc | apply pw_below_drewN | apply below_drew1) | exact HB.out))); (case aF => exact (fun k_ hk => (Nat.le_trans (below_size (by repeat (first | (with_reducible first | exact HB.out | apply below_alloc | apply pw_below_drewN | apply below_drew1) | exact HB.out))) hk))); (case aO => exact (by (with_reducible repeat (first | apply Kd.R_alloc | apply Kd.R_drewN | apply Kd.R_drew)); exact HO_7.out)); (case aS => exact (below_size (by repeat (first | (with_reducible first | exact HB.out | apply below_alloc | apply pw_below_drewN | apply below_drew1) | exact HB.out)))); (case aL => have := LMc11.out; omega); intro v341 w15 ho hb hg hat; rw [← Ny340.out] at ho; have n0_ := Aside0.mk (Kd.V_afterv (ok := (fun k_ => ((P0_ k_ ∨ P1_ k_) ∨ w.heap.size ≤ k_))) (by (with_reducible repeat (first | apply Kd.V_alloc | apply Kd.V_drewN | apply Kd.V_drew)); exact HO_0.out) hg hat); have n1_ := Aside0.mk (Kd.V_afterv (ok := (fun k_ => ((P0_ k_ ∨ P1_ k_) ∨ w.heap.size ≤ k_))) (by (with_reducible repeat (first | apply Kd.V_alloc | apply Kd.V_drewN | apply Kd.V_drew)); exact HO_1.out) hg hat); have n2_ := Aside0.mk (hb); have n3_ := Aside0.mk (ho); clear HO_0; clear HO_1; clear HB; clear HO_7; have HO_0 := n0_; have HO_1 := n1_; have HB := n2_; have HO342 := n3_; clear n0_ n1_ n2_ n3_; clear ho hb hg hat; have q16 : (1 : Int) ≤ ((x1_1.length : Int) : Int) := of_decide_eq_true (by first | (with_reducible assumption) | assumption); obtain ⟨i016, hi016, _, hsz16, _⟩ := info_parts info33; have hroom16 : x1_1.length ≤ co14 := (Kd.V_reads' HO_1.out).2.1; have hC16 : Kd.F k33 _ _ (some ad339) x1_1.length x1_1 := (Kd.V_at (base := w.heap.size) HO_1.out).2.2; have hcut16 := cut_from (P := Try.prog) 24 33 .i64 Try.underlying24 hi016 9 hsz16 (some ad339) x1_1.length co14 1 (by omega) q16; have hr16 := Kd.F_cut (m := (1 : Int).toNat) (c := co14) hC16 (by omega) hroom16; obtain ⟨A16, hA16⟩ : ∃ A1, A1 = (if co14 = (1 : Int).toNat then (some ad339) else ((some ad339) : Option Addr).map (·.add ((1 : Int).toNat * 9))) := ⟨_, rfl⟩; obtain ⟨c16, hc16⟩ : ∃ c1, c1 = co14 - (1 : Int).toNat := ⟨_, rfl⟩; have hy16 : y343.length = x1_1.length - (1 : Int).toNat := (by rw [Ny343.out, List.length_drop] <;> omega); rw [show (x1_1).drop (1 : Int).toNat = y343 from Ny343.out.symm] at hr16; replace hr16 : Kd.F k33 _ _ A16 y343.length y343 := (by rw [hA16]; exact hr16); rw [← hy16, ← hA16, ← hc16] at hcut16; have HO347 := Aside0.mk (show Kd.V k33 33 _ w.heap.size _ (.slice A16 y343.length c16) y343 from Kd.V_mk (by rw [hy16, hc16]; exact Nat.sub_le_sub_right hroom16 _) hr16); have HC347 := Aside0.mk (show y343.length ≤ c16 from by rw [hy16, hc16]; exact Nat.sub_le_sub_right hroom16 _); clear hr16 hC16 hroom16 hi016 hsz16 hc16; have KY16 := Aside0.mk hy16; have KA16 := Aside0.mk hA16; clear hy16 hA16; replace q16 := eq_true q16))
                    go_roundg k1
                    case measure => have := HK1.out; omega
                    case rel => exact ⟨(x0_1), (y343), (y340), (wrap64 (x8_1 + 1)), (by first | rfl | (simp; done) | (simp [*]; done)), H', ⟨by have := HK1.out; omega⟩, ⟨by (with_reducible repeat (first | apply Kd.V_alloc | apply Kd.V_drewN | apply Kd.V_drew)); exact HO_0.out⟩, ⟨by (with_reducible repeat (first | apply Kd.V_alloc | apply Kd.V_drewN | apply Kd.V_drew)); exact HO347.out⟩, ⟨by (with_reducible repeat (first | apply Kd.R_alloc | apply Kd.R_drewN | apply Kd.R_drew)); exact HO342.out⟩, ⟨by repeat (first | (with_reducible first | exact HB.out | apply below_alloc | apply pw_below_drewN | apply below_drew1) | exact HB.out)⟩⟩
                  · rw [if_neg c12] at H
                    exact absurd H (by simp)
                · rw [if_neg c11] at H
                  exact absurd H (by simp)
              · rw [if_neg c10] at H
                exact absurd H (by simp)
            · rw [if_neg c9] at H
              have c9b0 : ((x0_1.length : Int) == 0) = false := beq_eq_false_iff_ne.mpr c9
              have c9b1 : ((x0_1.length : Int) != 0) = true := bne_iff_ne.mpr c9
              have c9b2 : ¬ (x0_1 = []) := fun h_ => c9 (by rw [h_]; rfl)
              by_cases c17 : (Int.tmod (rd l2 x8_1) 2) = 0
              · rw [if_pos c17] at H
                have c17b0 : ((Int.tmod (rd l2 x8_1) 2) == 0) = true := beq_iff_eq.mpr c17
                have c17b1 : ((Int.tmod (rd l2 x8_1) 2) != 0) = false := bne_eq_false_iff_eq.mpr c17
                clear c17
                by_cases c18 : 0 < (x0_1.length : Int)
                · rw [if_pos c18] at H
                  have c18b0 : decide (0 < (x0_1.length : Int)) = true := decide_eq_true c18
                  have c18b1 : decide (0 < x0_1.length) = true := decide_eq_true (by omega)
                  clear c18
                  by_cases c19 : x7_1.length < 1466015503701
                  · rw [if_pos c19] at H
                    have LMc19 := Aside0.mk c19
                    clear c19
                    obtain ⟨y349, hy349⟩ : ∃ y_ : List (S33), y_ = (x7_1 ++ [(⟨(rd_T33 x0_1 0).f0, (rd_T33 x0_1 0).f1, (⟨(rd_T33 x0_1 0).f2.f0, (rd_T33 x0_1 0).f2.f1, (rd_T33 x0_1 0).f2.f2, (rd_T33 x0_1 0).f2.f3, (rd_T33 x0_1 0).f2.f4, (rd_T33 x0_1 0).f2.f5⟩ : S31), (rd_T33 x0_1 0).f3⟩ : S33)]) := ⟨_, rfl⟩
                    replace H : (if 1 ≤ (x0_1.length : Int) then (impl_Woven.l0 k1 (x0_1.drop 1) x1_1 l2 y349 (wrap64 (x8_1 + 1))) else (none)) = some r := by first | (rw [hy349]; with_reducible exact H) | (have H2_ := (Option.bind_some _ _).symm.trans H; rw [hy349]; with_reducible exact H2_) | (have H2_ := (Option.bind_some _ _).symm.trans H; with_reducible exact H2_) | with_reducible exact H | (rw [hy349]; exact H) | exact H
                    have Ny349 := Aside0.mk hy349
                    clear hy349
                    by_cases c20 : 1 ≤ (x0_1.length : Int)
                    · rw [if_pos c20] at H
                      have c20b0 := eq_true c20
                      have c20b1 : decide (1 ≤ (x0_1.length : Int)) = true := decide_eq_true c20
                      clear c20
                      obtain ⟨y352, hy352⟩ : ∃ y_ : List (S33), y_ = (x0_1.drop 1) := ⟨_, rfl⟩
                      replace H : (impl_Woven.l0 k1 y352 x1_1 l2 y349 (wrap64 (x8_1 + 1))) = some r := by first | (rw [hy352]; with_reducible exact H) | (have H2_ := (Option.bind_some _ _).symm.trans H; rw [hy352]; with_reducible exact H2_) | (have H2_ := (Option.bind_some _ _).symm.trans H; with_reducible exact H2_) | with_reducible exact H | (rw [hy352]; exact H) | exact H
                      have Ny352 := Aside0.mk hy352
                      clear hy352
                      have H' := Aside0.mk H
                      clear H
                      obtain ⟨Ao21, co21, eo21⟩ := Kd.V_slice HO_0.out
                      subst eo21
                      obtain ⟨Ao22, co22, eo22⟩ := Kd.V_slice HO_1.out
                      subst eo22
                      have p338 : 0 ≤ (x8_1 : Int) := of_decide_eq_true (by first | (with_reducible assumption) | assumption)
                      have q338 : x8_1 < (l2.length : Int) := of_decide_eq_true (by first | (with_reducible assumption) | assumption)
                      obtain ⟨ad338, e338, hx338_0⟩ := Kd.at_int HR2.out x8_1 p338 q338
                      cases e338
                      replace hx338_0 := (HB.out.cell (World.block_lt_of_cell? w _ hx338_0)).trans hx338_0
                      replace p338 := eq_true p338
                      replace q338 := eq_true q338
                      have p348 : 0 ≤ (0 : Int) := (by omega)
                      have q348 : 0 < (x0_1.length : Int) := of_decide_eq_true (by first | (with_reducible assumption) | assumption)
                      obtain ⟨ad348, e348, hx348_0, hx348_1, hx348_2, hx348_3, hx348_4, hx348_5, hx348_6, hx348_7, hx348_8⟩ := at_T33 (Kd.V_reads' HO_0.out).2.2 0 p348 q348
                      cases e348
                      have qi348 : (0 < x0_1.length) = True := eq_true (by omega)
                      (try rw [show ((0 : Int)).toNat = 0 from rfl] at hx348_0)
                      (try rw [show 0 * 9 = 0 from rfl] at hx348_0)
                      (try rw [Addr.add_zero'] at hx348_0)
                      (try rw [show ((0 : Int)).toNat = 0 from rfl] at hx348_1)
                      (try rw [show 0 * 9 = 0 from rfl] at hx348_1)
                      (try rw [Addr.add_zero'] at hx348_1)
                      (try rw [show ((0 : Int)).toNat = 0 from rfl] at hx348_2)
                      (try rw [show 0 * 9 = 0 from rfl] at hx348_2)
                      (try rw [Addr.add_zero'] at hx348_2)
                      (try rw [show ((0 : Int)).toNat = 0 from rfl] at hx348_3)
                      (try rw [show 0 * 9 = 0 from rfl] at hx348_3)
                      (try rw [Addr.add_zero'] at hx348_3)
                      (try rw [show ((0 : Int)).toNat = 0 from rfl] at hx348_4)
                      (try rw [show 0 * 9 = 0 from rfl] at hx348_4)
                      (try rw [Addr.add_zero'] at hx348_4)
                      (try rw [show ((0 : Int)).toNat = 0 from rfl] at hx348_5)
                      (try rw [show 0 * 9 = 0 from rfl] at hx348_5)
                      (try rw [Addr.add_zero'] at hx348_5)
                      (try rw [show ((0 : Int)).toNat = 0 from rfl] at hx348_6)
                      (try rw [show 0 * 9 = 0 from rfl] at hx348_6)
                      (try rw [Addr.add_zero'] at hx348_6)
                      (try rw [show ((0 : Int)).toNat = 0 from rfl] at hx348_7)
                      (try rw [show 0 * 9 = 0 from rfl] at hx348_7)
                      (try rw [Addr.add_zero'] at hx348_7)
                      (try rw [show ((0 : Int)).toNat = 0 from rfl] at hx348_8)
                      (try rw [show 0 * 9 = 0 from rfl] at hx348_8)
                      (try rw [Addr.add_zero'] at hx348_8)
                      replace p348 := eq_true p348
                      replace q348 := eq_true q348
                      go_wp2_with (first | ((with_reducible refine gate_builtin (b := .append) (xs := #[.tmp 50, .tmp 54]) rfl ?_); (try (refine gate_guard (by rfl) ?_; dsimp only)); at_builtin; refine Kd.R_append k33 (w0 := w) w.heap.size rfl (.tmp 50) (.tmp 54) 24 33 (.agg #[(.int .i64 0), (.int .i64 0), (.int .i64 0), (.string ⟨#[]⟩), (.string ⟨#[]⟩), (.int .i64 0), (.int .i64 0), (.string ⟨#[]⟩), (.int .i64 0)]) 96 rfl Try.underlying24 info33 rfl (by decide) (by omega) u7 x7_1 (⟨(rd_T33 x0_1 0).f0, (rd_T33 x0_1 0).f1, (⟨(rd_T33 x0_1 0).f2.f0, (rd_T33 x0_1 0).f2.f1, (rd_T33 x0_1 0).f2.f2, (rd_T33 x0_1 0).f2.f3, (rd_T33 x0_1 0).f2.f4, (rd_T33 x0_1 0).f2.f5⟩ : S31), (rd_T33 x0_1 0).f3⟩ : S33) [.int .i64 ((rd_T33 x0_1 0).f0), .int .i64 ((rd_T33 x0_1 0).f1), .int .i64 ((rd_T33 x0_1 0).f2.f0), .string ((rd_T33 x0_1 0).f2.f1), .string ((rd_T33 x0_1 0).f2.f2), .int .i64 ((rd_T33 x0_1 0).f2.f3), .int .i64 ((rd_T33 x0_1 0).f2.f4), .string ((rd_T33 x0_1 0).f2.f5), .int .i64 ((rd_T33 x0_1 0).f3)] (fun k_ => (w.heap.size ≤ k_)) (fun _ => False) rfl rfl ?aP (fun _ hk => hk.elim) ?aF ?aO ?aB ?aS ?aL ?_; (case aP => exact k33_mkM _ _ _ (⟨(rd_T33 x0_1 0).f0, (rd_T33 x0_1 0).f1, (⟨(rd_T33 x0_1 0).f2.f0, (rd_T33 x0_1 0).f2.f1, (rd_T33 x0_1 0).f2.f2, (rd_T33 x0_1 0).f2.f3, (rd_T33 x0_1 0).f2.f4, (rd_T33 x0_1 0).f2.f5⟩ : S31), (rd_T33 x0_1 0).f3⟩ : S33)); (case aB => exact (by repeat (first | (with_reducible first | exact HB.out | apply below_alloc | apply pw_below_drewN | apply below_drew1) | exact HB.out))); (case aF => exact (fun k_ hk => (Nat.le_trans (below_size (by repeat (first | (with_reducible first | exact HB.out | apply below_alloc | apply pw_below_drewN | apply below_drew1) | exact HB.out))) hk))); (case aO => exact (by (with_reducible repeat (first | apply Kd.R_alloc | apply Kd.R_drewN | apply Kd.R_drew)); exact HO_7.out)); (case aS => exact (below_size (by repeat (first | (with_reducible first | exact HB.out | apply below_alloc | apply pw_below_drewN | apply below_drew1) | exact HB.out)))); (case aL => have := LMc19.out; omega); intro v350 w23 ho hb hg hat; rw [← Ny349.out] at ho; have n0_ := Aside0.mk (Kd.V_afterv (ok := (fun k_ => ((P0_ k_ ∨ P1_ k_) ∨ w.heap.size ≤ k_))) (by (with_reducible repeat (first | apply Kd.V_alloc | apply Kd.V_drewN | apply Kd.V_drew)); exact HO_0.out) hg hat); have n1_ := Aside0.mk (Kd.V_afterv (ok := (fun k_ => ((P0_ k_ ∨ P1_ k_) ∨ w.heap.size ≤ k_))) (by (with_reducible repeat (first | apply Kd.V_alloc | apply Kd.V_drewN | apply Kd.V_drew)); exact HO_1.out) hg hat); have n2_ := Aside0.mk (hb); have n3_ := Aside0.mk (ho); clear HO_0; clear HO_1; clear HB; clear HO_7; have HO_0 := n0_; have HO_1 := n1_; have HB := n2_; have HO351 := n3_; clear n0_ n1_ n2_ n3_; clear ho hb hg hat; have q24 : (1 : Int) ≤ ((x0_1.length : Int) : Int) := of_decide_eq_true (by first | (with_reducible assumption) | assumption); obtain ⟨i024, hi024, _, hsz24, _⟩ := info_parts info33; have hroom24 : x0_1.length ≤ co21 := (Kd.V_reads' HO_0.out).2.1; have hC24 : Kd.F k33 _ _ (some ad348) x0_1.length x0_1 := (Kd.V_at (base := w.heap.size) HO_0.out).2.2; have hcut24 := cut_from (P := Try.prog) 24 33 .i64 Try.underlying24 hi024 9 hsz24 (some ad348) x0_1.length co21 1 (by omega) q24; have hr24 := Kd.F_cut (m := (1 : Int).toNat) (c := co21) hC24 (by omega) hroom24; obtain ⟨A24, hA24⟩ : ∃ A1, A1 = (if co21 = (1 : Int).toNat then (some ad348) else ((some ad348) : Option Addr).map (·.add ((1 : Int).toNat * 9))) := ⟨_, rfl⟩; obtain ⟨c24, hc24⟩ : ∃ c1, c1 = co21 - (1 : Int).toNat := ⟨_, rfl⟩; have hy24 : y352.length = x0_1.length - (1 : Int).toNat := (by rw [Ny352.out, List.length_drop] <;> omega); rw [show (x0_1).drop (1 : Int).toNat = y352 from Ny352.out.symm] at hr24; replace hr24 : Kd.F k33 _ _ A24 y352.length y352 := (by rw [hA24]; exact hr24); rw [← hy24, ← hA24, ← hc24] at hcut24; have HO356 := Aside0.mk (show Kd.V k33 33 _ w.heap.size _ (.slice A24 y352.length c24) y352 from Kd.V_mk (by rw [hy24, hc24]; exact Nat.sub_le_sub_right hroom24 _) hr24); have HC356 := Aside0.mk (show y352.length ≤ c24 from by rw [hy24, hc24]; exact Nat.sub_le_sub_right hroom24 _); clear hr24 hC24 hroom24 hi024 hsz24 hc24; have KY24 := Aside0.mk hy24; have KA24 := Aside0.mk hA24; clear hy24 hA24; replace q24 := eq_true q24))
                      go_roundg k1
                      case measure => have := HK1.out; omega
                      case rel => exact ⟨(y352), (x1_1), (y349), (wrap64 (x8_1 + 1)), (by first | rfl | (simp; done) | (simp [*]; done)), H', ⟨by have := HK1.out; omega⟩, ⟨by (with_reducible repeat (first | apply Kd.V_alloc | apply Kd.V_drewN | apply Kd.V_drew)); exact HO356.out⟩, ⟨by (with_reducible repeat (first | apply Kd.V_alloc | apply Kd.V_drewN | apply Kd.V_drew)); exact HO_1.out⟩, ⟨by (with_reducible repeat (first | apply Kd.R_alloc | apply Kd.R_drewN | apply Kd.R_drew)); exact HO351.out⟩, ⟨by repeat (first | (with_reducible first | exact HB.out | apply below_alloc | apply pw_below_drewN | apply below_drew1) | exact HB.out)⟩⟩
                    · rw [if_neg c20] at H
                      exact absurd H (by simp)
                  · rw [if_neg c19] at H
                    exact absurd H (by simp)
                · rw [if_neg c18] at H
                  exact absurd H (by simp)
              · rw [if_neg c17] at H
                have c17b0 : ((Int.tmod (rd l2 x8_1) 2) == 0) = false := beq_eq_false_iff_ne.mpr c17
                have c17b1 : ((Int.tmod (rd l2 x8_1) 2) != 0) = true := bne_iff_ne.mpr c17
                by_cases c25 : (x1_1.length : Int) > 0
                · rw [if_pos c25] at H
                  have c25b0 : decide (0 < (x1_1.length : Int)) = true := decide_eq_true c25
                  have c25b1 : decide (0 < x1_1.length) = true := decide_eq_true (by omega)
                  clear c25
                  by_cases c26 : 0 < (x1_1.length : Int)
                  · rw [if_pos c26] at H
                    have c26b0 : decide (0 < (x1_1.length : Int)) = true := decide_eq_true c26
                    have c26b1 : decide (0 < x1_1.length) = true := decide_eq_true (by omega)
                    clear c26
                    by_cases c27 : x7_1.length < 1466015503701
                    · rw [if_pos c27] at H
                      have LMc27 := Aside0.mk c27
                      clear c27
                      obtain ⟨y358, hy358⟩ : ∃ y_ : List (S33), y_ = (x7_1 ++ [(⟨(rd_T33 x1_1 0).f0, (rd_T33 x1_1 0).f1, (⟨(rd_T33 x1_1 0).f2.f0, (rd_T33 x1_1 0).f2.f1, (rd_T33 x1_1 0).f2.f2, (rd_T33 x1_1 0).f2.f3, (rd_T33 x1_1 0).f2.f4, (rd_T33 x1_1 0).f2.f5⟩ : S31), (rd_T33 x1_1 0).f3⟩ : S33)]) := ⟨_, rfl⟩
                      replace H : (if 1 ≤ (x1_1.length : Int) then (impl_Woven.l0 k1 x0_1 (x1_1.drop 1) l2 y358 (wrap64 (x8_1 + 1))) else (none)) = some r := by first | (rw [hy358]; with_reducible exact H) | (have H2_ := (Option.bind_some _ _).symm.trans H; rw [hy358]; with_reducible exact H2_) | (have H2_ := (Option.bind_some _ _).symm.trans H; with_reducible exact H2_) | with_reducible exact H | (rw [hy358]; exact H) | exact H
                      have Ny358 := Aside0.mk hy358
                      clear hy358
                      by_cases c28 : 1 ≤ (x1_1.length : Int)
                      · rw [if_pos c28] at H
                        have c28b0 := eq_true c28
                        have c28b1 : decide (1 ≤ (x1_1.length : Int)) = true := decide_eq_true c28
                        clear c28
                        obtain ⟨y361, hy361⟩ : ∃ y_ : List (S33), y_ = (x1_1.drop 1) := ⟨_, rfl⟩
                        replace H : (impl_Woven.l0 k1 x0_1 y361 l2 y358 (wrap64 (x8_1 + 1))) = some r := by first | (rw [hy361]; with_reducible exact H) | (have H2_ := (Option.bind_some _ _).symm.trans H; rw [hy361]; with_reducible exact H2_) | (have H2_ := (Option.bind_some _ _).symm.trans H; with_reducible exact H2_) | with_reducible exact H | (rw [hy361]; exact H) | exact H
                        have Ny361 := Aside0.mk hy361
                        clear hy361
                        have H' := Aside0.mk H
                        clear H
                        obtain ⟨Ao29, co29, eo29⟩ := Kd.V_slice HO_0.out
                        subst eo29
                        obtain ⟨Ao30, co30, eo30⟩ := Kd.V_slice HO_1.out
                        subst eo30
                        have p338 : 0 ≤ (x8_1 : Int) := of_decide_eq_true (by first | (with_reducible assumption) | assumption)
                        have q338 : x8_1 < (l2.length : Int) := of_decide_eq_true (by first | (with_reducible assumption) | assumption)
                        obtain ⟨ad338, e338, hx338_0⟩ := Kd.at_int HR2.out x8_1 p338 q338
                        cases e338
                        replace hx338_0 := (HB.out.cell (World.block_lt_of_cell? w _ hx338_0)).trans hx338_0
                        replace p338 := eq_true p338
                        replace q338 := eq_true q338
                        have p357 : 0 ≤ (0 : Int) := (by omega)
                        have q357 : 0 < (x1_1.length : Int) := of_decide_eq_true (by first | (with_reducible assumption) | assumption)
                        obtain ⟨ad357, e357, hx357_0, hx357_1, hx357_2, hx357_3, hx357_4, hx357_5, hx357_6, hx357_7, hx357_8⟩ := at_T33 (Kd.V_reads' HO_1.out).2.2 0 p357 q357
                        cases e357
                        have qi357 : (0 < x1_1.length) = True := eq_true (by omega)
                        (try rw [show ((0 : Int)).toNat = 0 from rfl] at hx357_0)
                        (try rw [show 0 * 9 = 0 from rfl] at hx357_0)
                        (try rw [Addr.add_zero'] at hx357_0)
                        (try rw [show ((0 : Int)).toNat = 0 from rfl] at hx357_1)
                        (try rw [show 0 * 9 = 0 from rfl] at hx357_1)
                        (try rw [Addr.add_zero'] at hx357_1)
                        (try rw [show ((0 : Int)).toNat = 0 from rfl] at hx357_2)
                        (try rw [show 0 * 9 = 0 from rfl] at hx357_2)
                        (try rw [Addr.add_zero'] at hx357_2)
                        (try rw [show ((0 : Int)).toNat = 0 from rfl] at hx357_3)
                        (try rw [show 0 * 9 = 0 from rfl] at hx357_3)
                        (try rw [Addr.add_zero'] at hx357_3)
                        (try rw [show ((0 : Int)).toNat = 0 from rfl] at hx357_4)
                        (try rw [show 0 * 9 = 0 from rfl] at hx357_4)
                        (try rw [Addr.add_zero'] at hx357_4)
                        (try rw [show ((0 : Int)).toNat = 0 from rfl] at hx357_5)
                        (try rw [show 0 * 9 = 0 from rfl] at hx357_5)
                        (try rw [Addr.add_zero'] at hx357_5)
                        (try rw [show ((0 : Int)).toNat = 0 from rfl] at hx357_6)
                        (try rw [show 0 * 9 = 0 from rfl] at hx357_6)
                        (try rw [Addr.add_zero'] at hx357_6)
                        (try rw [show ((0 : Int)).toNat = 0 from rfl] at hx357_7)
                        (try rw [show 0 * 9 = 0 from rfl] at hx357_7)
                        (try rw [Addr.add_zero'] at hx357_7)
                        (try rw [show ((0 : Int)).toNat = 0 from rfl] at hx357_8)
                        (try rw [show 0 * 9 = 0 from rfl] at hx357_8)
                        (try rw [Addr.add_zero'] at hx357_8)
                        replace p357 := eq_true p357
                        replace q357 := eq_true q357
                        go_wp2_with (first | ((with_reducible refine gate_builtin (b := .append) (xs := #[.tmp 42, .tmp 46]) rfl ?_); (try (refine gate_guard (by rfl) ?_; dsimp only)); at_builtin; refine Kd.R_append k33 (w0 := w) w.heap.size rfl (.tmp 42) (.tmp 46) 24 33 (.agg #[(.int .i64 0), (.int .i64 0), (.int .i64 0), (.string ⟨#[]⟩), (.string ⟨#[]⟩), (.int .i64 0), (.int .i64 0), (.string ⟨#[]⟩), (.int .i64 0)]) 96 rfl Try.underlying24 info33 rfl (by decide) (by omega) u7 x7_1 (⟨(rd_T33 x1_1 0).f0, (rd_T33 x1_1 0).f1, (⟨(rd_T33 x1_1 0).f2.f0, (rd_T33 x1_1 0).f2.f1, (rd_T33 x1_1 0).f2.f2, (rd_T33 x1_1 0).f2.f3, (rd_T33 x1_1 0).f2.f4, (rd_T33 x1_1 0).f2.f5⟩ : S31), (rd_T33 x1_1 0).f3⟩ : S33) [.int .i64 ((rd_T33 x1_1 0).f0), .int .i64 ((rd_T33 x1_1 0).f1), .int .i64 ((rd_T33 x1_1 0).f2.f0), .string ((rd_T33 x1_1 0).f2.f1), .string ((rd_T33 x1_1 0).f2.f2), .int .i64 ((rd_T33 x1_1 0).f2.f3), .int .i64 ((rd_T33 x1_1 0).f2.f4), .string ((rd_T33 x1_1 0).f2.f5), .int .i64 ((rd_T33 x1_1 0).f3)] (fun k_ => (w.heap.size ≤ k_)) (fun _ => False) rfl rfl ?aP (fun _ hk => hk.elim) ?aF ?aO ?aB ?aS ?aL ?_; (case aP => exact k33_mkM _ _ _ (⟨(rd_T33 x1_1 0).f0, (rd_T33 x1_1 0).f1, (⟨(rd_T33 x1_1 0).f2.f0, (rd_T33 x1_1 0).f2.f1, (rd_T33 x1_1 0).f2.f2, (rd_T33 x1_1 0).f2.f3, (rd_T33 x1_1 0).f2.f4, (rd_T33 x1_1 0).f2.f5⟩ : S31), (rd_T33 x1_1 0).f3⟩ : S33)); (case aB => exact (by repeat (first | (with_reducible first | exact HB.out | apply below_alloc | apply pw_below_drewN | apply below_drew1) | exact HB.out))); (case aF => exact (fun k_ hk => (Nat.le_trans (below_size (by repeat (first | (with_reducible first | exact HB.out | apply below_alloc | apply pw_below_drewN | apply below_drew1) | exact HB.out))) hk))); (case aO => exact (by (with_reducible repeat (first | apply Kd.R_alloc | apply Kd.R_drewN | apply Kd.R_drew)); exact HO_7.out)); (case aS => exact (below_size (by repeat (first | (with_reducible first | exact HB.out | apply below_alloc | apply pw_below_drewN | apply below_drew1) | exact HB.out)))); (case aL => have := LMc27.out; omega); intro v359 w31 ho hb hg hat; rw [← Ny358.out] at ho; have n0_ := Aside0.mk (Kd.V_afterv (ok := (fun k_ => ((P0_ k_ ∨ P1_ k_) ∨ w.heap.size ≤ k_))) (by (with_reducible repeat (first | apply Kd.V_alloc | apply Kd.V_drewN | apply Kd.V_drew)); exact HO_0.out) hg hat); have n1_ := Aside0.mk (Kd.V_afterv (ok := (fun k_ => ((P0_ k_ ∨ P1_ k_) ∨ w.heap.size ≤ k_))) (by (with_reducible repeat (first | apply Kd.V_alloc | apply Kd.V_drewN | apply Kd.V_drew)); exact HO_1.out) hg hat); have n2_ := Aside0.mk (hb); have n3_ := Aside0.mk (ho); clear HO_0; clear HO_1; clear HB; clear HO_7; have HO_0 := n0_; have HO_1 := n1_; have HB := n2_; have HO360 := n3_; clear n0_ n1_ n2_ n3_; clear ho hb hg hat; have q32 : (1 : Int) ≤ ((x1_1.length : Int) : Int) := of_decide_eq_true (by first | (with_reducible assumption) | assumption); obtain ⟨i032, hi032, _, hsz32, _⟩ := info_parts info33; have hroom32 : x1_1.length ≤ co30 := (Kd.V_reads' HO_1.out).2.1; have hC32 : Kd.F k33 _ _ (some ad357) x1_1.length x1_1 := (Kd.V_at (base := w.heap.size) HO_1.out).2.2; have hcut32 := cut_from (P := Try.prog) 24 33 .i64 Try.underlying24 hi032 9 hsz32 (some ad357) x1_1.length co30 1 (by omega) q32; have hr32 := Kd.F_cut (m := (1 : Int).toNat) (c := co30) hC32 (by omega) hroom32; obtain ⟨A32, hA32⟩ : ∃ A1, A1 = (if co30 = (1 : Int).toNat then (some ad357) else ((some ad357) : Option Addr).map (·.add ((1 : Int).toNat * 9))) := ⟨_, rfl⟩; obtain ⟨c32, hc32⟩ : ∃ c1, c1 = co30 - (1 : Int).toNat := ⟨_, rfl⟩; have hy32 : y361.length = x1_1.length - (1 : Int).toNat := (by rw [Ny361.out, List.length_drop] <;> omega); rw [show (x1_1).drop (1 : Int).toNat = y361 from Ny361.out.symm] at hr32; replace hr32 : Kd.F k33 _ _ A32 y361.length y361 := (by rw [hA32]; exact hr32); rw [← hy32, ← hA32, ← hc32] at hcut32; have HO365 := Aside0.mk (show Kd.V k33 33 _ w.heap.size _ (.slice A32 y361.length c32) y361 from Kd.V_mk (by rw [hy32, hc32]; exact Nat.sub_le_sub_right hroom32 _) hr32); have HC365 := Aside0.mk (show y361.length ≤ c32 from by rw [hy32, hc32]; exact Nat.sub_le_sub_right hroom32 _); clear hr32 hC32 hroom32 hi032 hsz32 hc32; have KY32 := Aside0.mk hy32; have KA32 := Aside0.mk hA32; clear hy32 hA32; replace q32 := eq_true q32))
                        go_roundg k1
                        case measure => have := HK1.out; omega
                        case rel => exact ⟨(x0_1), (y361), (y358), (wrap64 (x8_1 + 1)), (by first | rfl | (simp; done) | (simp [*]; done)), H', ⟨by have := HK1.out; omega⟩, ⟨by (with_reducible repeat (first | apply Kd.V_alloc | apply Kd.V_drewN | apply Kd.V_drew)); exact HO_0.out⟩, ⟨by (with_reducible repeat (first | apply Kd.V_alloc | apply Kd.V_drewN | apply Kd.V_drew)); exact HO365.out⟩, ⟨by (with_reducible repeat (first | apply Kd.R_alloc | apply Kd.R_drewN | apply Kd.R_drew)); exact HO360.out⟩, ⟨by repeat (first | (with_reducible first | exact HB.out | apply below_alloc | apply pw_below_drewN | apply below_drew1) | exact HB.out)⟩⟩
                      · rw [if_neg c28] at H
                        exact absurd H (by simp)
                    · rw [if_neg c27] at H
                      exact absurd H (by simp)
                  · rw [if_neg c26] at H
                    exact absurd H (by simp)
                · rw [if_neg c25] at H
                  have c25b0 : decide (0 < (x1_1.length : Int)) = false := decide_eq_false c25
                  have c25b1 : decide (0 < x1_1.length) = false := decide_eq_false (by omega)
                  clear c25
                  by_cases c33 : 0 < (x0_1.length : Int)
                  · rw [if_pos c33] at H
                    have c33b0 : decide (0 < (x0_1.length : Int)) = true := decide_eq_true c33
                    have c33b1 : decide (0 < x0_1.length) = true := decide_eq_true (by omega)
                    clear c33
                    by_cases c34 : x7_1.length < 1466015503701
                    · rw [if_pos c34] at H
                      have LMc34 := Aside0.mk c34
                      clear c34
                      obtain ⟨y367, hy367⟩ : ∃ y_ : List (S33), y_ = (x7_1 ++ [(⟨(rd_T33 x0_1 0).f0, (rd_T33 x0_1 0).f1, (⟨(rd_T33 x0_1 0).f2.f0, (rd_T33 x0_1 0).f2.f1, (rd_T33 x0_1 0).f2.f2, (rd_T33 x0_1 0).f2.f3, (rd_T33 x0_1 0).f2.f4, (rd_T33 x0_1 0).f2.f5⟩ : S31), (rd_T33 x0_1 0).f3⟩ : S33)]) := ⟨_, rfl⟩
                      replace H : (if 1 ≤ (x0_1.length : Int) then (impl_Woven.l0 k1 (x0_1.drop 1) x1_1 l2 y367 (wrap64 (x8_1 + 1))) else (none)) = some r := by first | (rw [hy367]; with_reducible exact H) | (have H2_ := (Option.bind_some _ _).symm.trans H; rw [hy367]; with_reducible exact H2_) | (have H2_ := (Option.bind_some _ _).symm.trans H; with_reducible exact H2_) | with_reducible exact H | (rw [hy367]; exact H) | exact H
                      have Ny367 := Aside0.mk hy367
                      clear hy367
                      by_cases c35 : 1 ≤ (x0_1.length : Int)
                      · rw [if_pos c35] at H
                        have c35b0 := eq_true c35
                        have c35b1 : decide (1 ≤ (x0_1.length : Int)) = true := decide_eq_true c35
                        clear c35
                        obtain ⟨y370, hy370⟩ : ∃ y_ : List (S33), y_ = (x0_1.drop 1) := ⟨_, rfl⟩
                        replace H : (impl_Woven.l0 k1 y370 x1_1 l2 y367 (wrap64 (x8_1 + 1))) = some r := by first | (rw [hy370]; with_reducible exact H) | (have H2_ := (Option.bind_some _ _).symm.trans H; rw [hy370]; with_reducible exact H2_) | (have H2_ := (Option.bind_some _ _).symm.trans H; with_reducible exact H2_) | with_reducible exact H | (rw [hy370]; exact H) | exact H
                        have Ny370 := Aside0.mk hy370
                        clear hy370
                        have H' := Aside0.mk H
                        clear H
                        obtain ⟨Ao36, co36, eo36⟩ := Kd.V_slice HO_0.out
                        subst eo36
                        obtain ⟨Ao37, co37, eo37⟩ := Kd.V_slice HO_1.out
                        subst eo37
                        have p338 : 0 ≤ (x8_1 : Int) := of_decide_eq_true (by first | (with_reducible assumption) | assumption)
                        have q338 : x8_1 < (l2.length : Int) := of_decide_eq_true (by first | (with_reducible assumption) | assumption)
                        obtain ⟨ad338, e338, hx338_0⟩ := Kd.at_int HR2.out x8_1 p338 q338
                        cases e338
                        replace hx338_0 := (HB.out.cell (World.block_lt_of_cell? w _ hx338_0)).trans hx338_0
                        replace p338 := eq_true p338
                        replace q338 := eq_true q338
                        have p366 : 0 ≤ (0 : Int) := (by omega)
                        have q366 : 0 < (x0_1.length : Int) := of_decide_eq_true (by first | (with_reducible assumption) | assumption)
                        obtain ⟨ad366, e366, hx366_0, hx366_1, hx366_2, hx366_3, hx366_4, hx366_5, hx366_6, hx366_7, hx366_8⟩ := at_T33 (Kd.V_reads' HO_0.out).2.2 0 p366 q366
                        cases e366
                        have qi366 : (0 < x0_1.length) = True := eq_true (by omega)
                        (try rw [show ((0 : Int)).toNat = 0 from rfl] at hx366_0)
                        (try rw [show 0 * 9 = 0 from rfl] at hx366_0)
                        (try rw [Addr.add_zero'] at hx366_0)
                        (try rw [show ((0 : Int)).toNat = 0 from rfl] at hx366_1)
                        (try rw [show 0 * 9 = 0 from rfl] at hx366_1)
                        (try rw [Addr.add_zero'] at hx366_1)
                        (try rw [show ((0 : Int)).toNat = 0 from rfl] at hx366_2)
                        (try rw [show 0 * 9 = 0 from rfl] at hx366_2)
                        (try rw [Addr.add_zero'] at hx366_2)
                        (try rw [show ((0 : Int)).toNat = 0 from rfl] at hx366_3)
                        (try rw [show 0 * 9 = 0 from rfl] at hx366_3)
                        (try rw [Addr.add_zero'] at hx366_3)
                        (try rw [show ((0 : Int)).toNat = 0 from rfl] at hx366_4)
                        (try rw [show 0 * 9 = 0 from rfl] at hx366_4)
                        (try rw [Addr.add_zero'] at hx366_4)
                        (try rw [show ((0 : Int)).toNat = 0 from rfl] at hx366_5)
                        (try rw [show 0 * 9 = 0 from rfl] at hx366_5)
                        (try rw [Addr.add_zero'] at hx366_5)
                        (try rw [show ((0 : Int)).toNat = 0 from rfl] at hx366_6)
                        (try rw [show 0 * 9 = 0 from rfl] at hx366_6)
                        (try rw [Addr.add_zero'] at hx366_6)
                        (try rw [show ((0 : Int)).toNat = 0 from rfl] at hx366_7)
                        (try rw [show 0 * 9 = 0 from rfl] at hx366_7)
                        (try rw [Addr.add_zero'] at hx366_7)
                        (try rw [show ((0 : Int)).toNat = 0 from rfl] at hx366_8)
                        (try rw [show 0 * 9 = 0 from rfl] at hx366_8)
                        (try rw [Addr.add_zero'] at hx366_8)
                        replace p366 := eq_true p366
                        replace q366 := eq_true q366
                        go_wp2_with (first | ((with_reducible refine gate_builtin (b := .append) (xs := #[.tmp 50, .tmp 54]) rfl ?_); (try (refine gate_guard (by rfl) ?_; dsimp only)); at_builtin; refine Kd.R_append k33 (w0 := w) w.heap.size rfl (.tmp 50) (.tmp 54) 24 33 (.agg #[(.int .i64 0), (.int .i64 0), (.int .i64 0), (.string ⟨#[]⟩), (.string ⟨#[]⟩), (.int .i64 0), (.int .i64 0), (.string ⟨#[]⟩), (.int .i64 0)]) 96 rfl Try.underlying24 info33 rfl (by decide) (by omega) u7 x7_1 (⟨(rd_T33 x0_1 0).f0, (rd_T33 x0_1 0).f1, (⟨(rd_T33 x0_1 0).f2.f0, (rd_T33 x0_1 0).f2.f1, (rd_T33 x0_1 0).f2.f2, (rd_T33 x0_1 0).f2.f3, (rd_T33 x0_1 0).f2.f4, (rd_T33 x0_1 0).f2.f5⟩ : S31), (rd_T33 x0_1 0).f3⟩ : S33) [.int .i64 ((rd_T33 x0_1 0).f0), .int .i64 ((rd_T33 x0_1 0).f1), .int .i64 ((rd_T33 x0_1 0).f2.f0), .string ((rd_T33 x0_1 0).f2.f1), .string ((rd_T33 x0_1 0).f2.f2), .int .i64 ((rd_T33 x0_1 0).f2.f3), .int .i64 ((rd_T33 x0_1 0).f2.f4), .string ((rd_T33 x0_1 0).f2.f5), .int .i64 ((rd_T33 x0_1 0).f3)] (fun k_ => (w.heap.size ≤ k_)) (fun _ => False) rfl rfl ?aP (fun _ hk => hk.elim) ?aF ?aO ?aB ?aS ?aL ?_; (case aP => exact k33_mkM _ _ _ (⟨(rd_T33 x0_1 0).f0, (rd_T33 x0_1 0).f1, (⟨(rd_T33 x0_1 0).f2.f0, (rd_T33 x0_1 0).f2.f1, (rd_T33 x0_1 0).f2.f2, (rd_T33 x0_1 0).f2.f3, (rd_T33 x0_1 0).f2.f4, (rd_T33 x0_1 0).f2.f5⟩ : S31), (rd_T33 x0_1 0).f3⟩ : S33)); (case aB => exact (by repeat (first | (with_reducible first | exact HB.out | apply below_alloc | apply pw_below_drewN | apply below_drew1) | exact HB.out))); (case aF => exact (fun k_ hk => (Nat.le_trans (below_size (by repeat (first | (with_reducible first | exact HB.out | apply below_alloc | apply pw_below_drewN | apply below_drew1) | exact HB.out))) hk))); (case aO => exact (by (with_reducible repeat (first | apply Kd.R_alloc | apply Kd.R_drewN | apply Kd.R_drew)); exact HO_7.out)); (case aS => exact (below_size (by repeat (first | (with_reducible first | exact HB.out | apply below_alloc | apply pw_below_drewN | apply below_drew1) | exact HB.out)))); (case aL => have := LMc34.out; omega); intro v368 w38 ho hb hg hat; rw [← Ny367.out] at ho; have n0_ := Aside0.mk (Kd.V_afterv (ok := (fun k_ => ((P0_ k_ ∨ P1_ k_) ∨ w.heap.size ≤ k_))) (by (with_reducible repeat (first | apply Kd.V_alloc | apply Kd.V_drewN | apply Kd.V_drew)); exact HO_0.out) hg hat); have n1_ := Aside0.mk (Kd.V_afterv (ok := (fun k_ => ((P0_ k_ ∨ P1_ k_) ∨ w.heap.size ≤ k_))) (by (with_reducible repeat (first | apply Kd.V_alloc | apply Kd.V_drewN | apply Kd.V_drew)); exact HO_1.out) hg hat); have n2_ := Aside0.mk (hb); have n3_ := Aside0.mk (ho); clear HO_0; clear HO_1; clear HB; clear HO_7; have HO_0 := n0_; have HO_1 := n1_; have HB := n2_; have HO369 := n3_; clear n0_ n1_ n2_ n3_; clear ho hb hg hat; have q39 : (1 : Int) ≤ ((x0_1.length : Int) : Int) := of_decide_eq_true (by first | (with_reducible assumption) | assumption); obtain ⟨i039, hi039, _, hsz39, _⟩ := info_parts info33; have hroom39 : x0_1.length ≤ co36 := (Kd.V_reads' HO_0.out).2.1; have hC39 : Kd.F k33 _ _ (some ad366) x0_1.length x0_1 := (Kd.V_at (base := w.heap.size) HO_0.out).2.2; have hcut39 := cut_from (P := Try.prog) 24 33 .i64 Try.underlying24 hi039 9 hsz39 (some ad366) x0_1.length co36 1 (by omega) q39; have hr39 := Kd.F_cut (m := (1 : Int).toNat) (c := co36) hC39 (by omega) hroom39; obtain ⟨A39, hA39⟩ : ∃ A1, A1 = (if co36 = (1 : Int).toNat then (some ad366) else ((some ad366) : Option Addr).map (·.add ((1 : Int).toNat * 9))) := ⟨_, rfl⟩; obtain ⟨c39, hc39⟩ : ∃ c1, c1 = co36 - (1 : Int).toNat := ⟨_, rfl⟩; have hy39 : y370.length = x0_1.length - (1 : Int).toNat := (by rw [Ny370.out, List.length_drop] <;> omega); rw [show (x0_1).drop (1 : Int).toNat = y370 from Ny370.out.symm] at hr39; replace hr39 : Kd.F k33 _ _ A39 y370.length y370 := (by rw [hA39]; exact hr39); rw [← hy39, ← hA39, ← hc39] at hcut39; have HO374 := Aside0.mk (show Kd.V k33 33 _ w.heap.size _ (.slice A39 y370.length c39) y370 from Kd.V_mk (by rw [hy39, hc39]; exact Nat.sub_le_sub_right hroom39 _) hr39); have HC374 := Aside0.mk (show y370.length ≤ c39 from by rw [hy39, hc39]; exact Nat.sub_le_sub_right hroom39 _); clear hr39 hC39 hroom39 hi039 hsz39 hc39; have KY39 := Aside0.mk hy39; have KA39 := Aside0.mk hA39; clear hy39 hA39; replace q39 := eq_true q39))
                        go_roundg k1
                        case measure => have := HK1.out; omega
                        case rel => exact ⟨(y370), (x1_1), (y367), (wrap64 (x8_1 + 1)), (by first | rfl | (simp; done) | (simp [*]; done)), H', ⟨by have := HK1.out; omega⟩, ⟨by (with_reducible repeat (first | apply Kd.V_alloc | apply Kd.V_drewN | apply Kd.V_drew)); exact HO374.out⟩, ⟨by (with_reducible repeat (first | apply Kd.V_alloc | apply Kd.V_drewN | apply Kd.V_drew)); exact HO_1.out⟩, ⟨by (with_reducible repeat (first | apply Kd.R_alloc | apply Kd.R_drewN | apply Kd.R_drew)); exact HO369.out⟩, ⟨by repeat (first | (with_reducible first | exact HB.out | apply below_alloc | apply pw_below_drewN | apply below_drew1) | exact HB.out)⟩⟩
                      · rw [if_neg c35] at H
                        exact absurd H (by simp)
                    · rw [if_neg c34] at H
                      exact absurd H (by simp)
                  · rw [if_neg c33] at H
                    exact absurd H (by simp)
          · rw [if_neg c8] at H
            exact absurd H (by simp)
        · rw [if_neg c7] at H
          have c7b0 : decide (x8_1 < (l2.length : Int)) = false := decide_eq_false c7
          clear c7
          by_cases c40 : (x0_1.length : Int) = 0
          · rw [if_pos c40] at H
            have c40b0 : ((x0_1.length : Int) == 0) = true := beq_iff_eq.mpr c40
            have c40b1 : ((x0_1.length : Int) != 0) = false := bne_eq_false_iff_eq.mpr c40
            clear c40
            by_cases c41 : 0 < (x1_1.length : Int)
            · rw [if_pos c41] at H
              have c41b0 : decide (0 < (x1_1.length : Int)) = true := decide_eq_true c41
              have c41b1 : decide (0 < x1_1.length) = true := decide_eq_true (by omega)
              clear c41
              by_cases c42 : x7_1.length < 1466015503701
              · rw [if_pos c42] at H
                have LMc42 := Aside0.mk c42
                clear c42
                obtain ⟨y376, hy376⟩ : ∃ y_ : List (S33), y_ = (x7_1 ++ [(⟨(rd_T33 x1_1 0).f0, (rd_T33 x1_1 0).f1, (⟨(rd_T33 x1_1 0).f2.f0, (rd_T33 x1_1 0).f2.f1, (rd_T33 x1_1 0).f2.f2, (rd_T33 x1_1 0).f2.f3, (rd_T33 x1_1 0).f2.f4, (rd_T33 x1_1 0).f2.f5⟩ : S31), (rd_T33 x1_1 0).f3⟩ : S33)]) := ⟨_, rfl⟩
                replace H : (if 1 ≤ (x1_1.length : Int) then (impl_Woven.l0 k1 x0_1 (x1_1.drop 1) l2 y376 (wrap64 (x8_1 + 1))) else (none)) = some r := by first | (rw [hy376]; with_reducible exact H) | (have H2_ := (Option.bind_some _ _).symm.trans H; rw [hy376]; with_reducible exact H2_) | (have H2_ := (Option.bind_some _ _).symm.trans H; with_reducible exact H2_) | with_reducible exact H | (rw [hy376]; exact H) | exact H
                have Ny376 := Aside0.mk hy376
                clear hy376
                by_cases c43 : 1 ≤ (x1_1.length : Int)
                · rw [if_pos c43] at H
                  have c43b0 := eq_true c43
                  have c43b1 : decide (1 ≤ (x1_1.length : Int)) = true := decide_eq_true c43
                  clear c43
                  obtain ⟨y379, hy379⟩ : ∃ y_ : List (S33), y_ = (x1_1.drop 1) := ⟨_, rfl⟩
                  replace H : (impl_Woven.l0 k1 x0_1 y379 l2 y376 (wrap64 (x8_1 + 1))) = some r := by first | (rw [hy379]; with_reducible exact H) | (have H2_ := (Option.bind_some _ _).symm.trans H; rw [hy379]; with_reducible exact H2_) | (have H2_ := (Option.bind_some _ _).symm.trans H; with_reducible exact H2_) | with_reducible exact H | (rw [hy379]; exact H) | exact H
                  have Ny379 := Aside0.mk hy379
                  clear hy379
                  have H' := Aside0.mk H
                  clear H
                  obtain ⟨Ao44, co44, eo44⟩ := Kd.V_slice HO_0.out
                  subst eo44
                  obtain ⟨Ao45, co45, eo45⟩ := Kd.V_slice HO_1.out
                  subst eo45
                  have p375 : 0 ≤ (0 : Int) := (by omega)
                  have q375 : 0 < (x1_1.length : Int) := of_decide_eq_true (by first | (with_reducible assumption) | assumption)
                  obtain ⟨ad375, e375, hx375_0, hx375_1, hx375_2, hx375_3, hx375_4, hx375_5, hx375_6, hx375_7, hx375_8⟩ := at_T33 (Kd.V_reads' HO_1.out).2.2 0 p375 q375
                  cases e375
                  have qi375 : (0 < x1_1.length) = True := eq_true (by omega)
                  (try rw [show ((0 : Int)).toNat = 0 from rfl] at hx375_0)
                  (try rw [show 0 * 9 = 0 from rfl] at hx375_0)
                  (try rw [Addr.add_zero'] at hx375_0)
                  (try rw [show ((0 : Int)).toNat = 0 from rfl] at hx375_1)
                  (try rw [show 0 * 9 = 0 from rfl] at hx375_1)
                  (try rw [Addr.add_zero'] at hx375_1)
                  (try rw [show ((0 : Int)).toNat = 0 from rfl] at hx375_2)
                  (try rw [show 0 * 9 = 0 from rfl] at hx375_2)
                  (try rw [Addr.add_zero'] at hx375_2)
                  (try rw [show ((0 : Int)).toNat = 0 from rfl] at hx375_3)
                  (try rw [show 0 * 9 = 0 from rfl] at hx375_3)
                  (try rw [Addr.add_zero'] at hx375_3)
                  (try rw [show ((0 : Int)).toNat = 0 from rfl] at hx375_4)
                  (try rw [show 0 * 9 = 0 from rfl] at hx375_4)
                  (try rw [Addr.add_zero'] at hx375_4)
                  (try rw [show ((0 : Int)).toNat = 0 from rfl] at hx375_5)
                  (try rw [show 0 * 9 = 0 from rfl] at hx375_5)
                  (try rw [Addr.add_zero'] at hx375_5)
                  (try rw [show ((0 : Int)).toNat = 0 from rfl] at hx375_6)
                  (try rw [show 0 * 9 = 0 from rfl] at hx375_6)
                  (try rw [Addr.add_zero'] at hx375_6)
                  (try rw [show ((0 : Int)).toNat = 0 from rfl] at hx375_7)
                  (try rw [show 0 * 9 = 0 from rfl] at hx375_7)
                  (try rw [Addr.add_zero'] at hx375_7)
                  (try rw [show ((0 : Int)).toNat = 0 from rfl] at hx375_8)
                  (try rw [show 0 * 9 = 0 from rfl] at hx375_8)
                  (try rw [Addr.add_zero'] at hx375_8)
                  replace p375 := eq_true p375
                  replace q375 := eq_true q375
                  go_wp2_with (first | ((with_reducible refine gate_builtin (b := .append) (xs := #[.tmp 42, .tmp 46]) rfl ?_); (try (refine gate_guard (by rfl) ?_; dsimp only)); at_builtin; refine Kd.R_append k33 (w0 := w) w.heap.size rfl (.tmp 42) (.tmp 46) 24 33 (.agg #[(.int .i64 0), (.int .i64 0), (.int .i64 0), (.string ⟨#[]⟩), (.string ⟨#[]⟩), (.int .i64 0), (.int .i64 0), (.string ⟨#[]⟩), (.int .i64 0)]) 96 rfl Try.underlying24 info33 rfl (by decide) (by omega) u7 x7_1 (⟨(rd_T33 x1_1 0).f0, (rd_T33 x1_1 0).f1, (⟨(rd_T33 x1_1 0).f2.f0, (rd_T33 x1_1 0).f2.f1, (rd_T33 x1_1 0).f2.f2, (rd_T33 x1_1 0).f2.f3, (rd_T33 x1_1 0).f2.f4, (rd_T33 x1_1 0).f2.f5⟩ : S31), (rd_T33 x1_1 0).f3⟩ : S33) [.int .i64 ((rd_T33 x1_1 0).f0), .int .i64 ((rd_T33 x1_1 0).f1), .int .i64 ((rd_T33 x1_1 0).f2.f0), .string ((rd_T33 x1_1 0).f2.f1), .string ((rd_T33 x1_1 0).f2.f2), .int .i64 ((rd_T33 x1_1 0).f2.f3), .int .i64 ((rd_T33 x1_1 0).f2.f4), .string ((rd_T33 x1_1 0).f2.f5), .int .i64 ((rd_T33 x1_1 0).f3)] (fun k_ => (w.heap.size ≤ k_)) (fun _ => False) rfl rfl ?aP (fun _ hk => hk.elim) ?aF ?aO ?aB ?aS ?aL ?_; (case aP => exact k33_mkM _ _ _ (⟨(rd_T33 x1_1 0).f0, (rd_T33 x1_1 0).f1, (⟨(rd_T33 x1_1 0).f2.f0, (rd_T33 x1_1 0).f2.f1, (rd_T33 x1_1 0).f2.f2, (rd_T33 x1_1 0).f2.f3, (rd_T33 x1_1 0).f2.f4, (rd_T33 x1_1 0).f2.f5⟩ : S31), (rd_T33 x1_1 0).f3⟩ : S33)); (case aB => exact (by repeat (first | (with_reducible first | exact HB.out | apply below_alloc | apply pw_below_drewN | apply below_drew1) | exact HB.out))); (case aF => exact (fun k_ hk => (Nat.le_trans (below_size (by repeat (first | (with_reducible first | exact HB.out | apply below_alloc | apply pw_below_drewN | apply below_drew1) | exact HB.out))) hk))); (case aO => exact (by (with_reducible repeat (first | apply Kd.R_alloc | apply Kd.R_drewN | apply Kd.R_drew)); exact HO_7.out)); (case aS => exact (below_size (by repeat (first | (with_reducible first | exact HB.out | apply below_alloc | apply pw_below_drewN | apply below_drew1) | exact HB.out)))); (case aL => have := LMc42.out; omega); intro v377 w46 ho hb hg hat; rw [← Ny376.out] at ho; have n0_ := Aside0.mk (Kd.V_afterv (ok := (fun k_ => ((P0_ k_ ∨ P1_ k_) ∨ w.heap.size ≤ k_))) (by (with_reducible repeat (first | apply Kd.V_alloc | apply Kd.V_drewN | apply Kd.V_drew)); exact HO_0.out) hg hat); have n1_ := Aside0.mk (Kd.V_afterv (ok := (fun k_ => ((P0_ k_ ∨ P1_ k_) ∨ w.heap.size ≤ k_))) (by (with_reducible repeat (first | apply Kd.V_alloc | apply Kd.V_drewN | apply Kd.V_drew)); exact HO_1.out) hg hat); have n2_ := Aside0.mk (hb); have n3_ := Aside0.mk (ho); clear HO_0; clear HO_1; clear HB; clear HO_7; have HO_0 := n0_; have HO_1 := n1_; have HB := n2_; have HO378 := n3_; clear n0_ n1_ n2_ n3_; clear ho hb hg hat; have q47 : (1 : Int) ≤ ((x1_1.length : Int) : Int) := of_decide_eq_true (by first | (with_reducible assumption) | assumption); obtain ⟨i047, hi047, _, hsz47, _⟩ := info_parts info33; have hroom47 : x1_1.length ≤ co45 := (Kd.V_reads' HO_1.out).2.1; have hC47 : Kd.F k33 _ _ (some ad375) x1_1.length x1_1 := (Kd.V_at (base := w.heap.size) HO_1.out).2.2; have hcut47 := cut_from (P := Try.prog) 24 33 .i64 Try.underlying24 hi047 9 hsz47 (some ad375) x1_1.length co45 1 (by omega) q47; have hr47 := Kd.F_cut (m := (1 : Int).toNat) (c := co45) hC47 (by omega) hroom47; obtain ⟨A47, hA47⟩ : ∃ A1, A1 = (if co45 = (1 : Int).toNat then (some ad375) else ((some ad375) : Option Addr).map (·.add ((1 : Int).toNat * 9))) := ⟨_, rfl⟩; obtain ⟨c47, hc47⟩ : ∃ c1, c1 = co45 - (1 : Int).toNat := ⟨_, rfl⟩; have hy47 : y379.length = x1_1.length - (1 : Int).toNat := (by rw [Ny379.out, List.length_drop] <;> omega); rw [show (x1_1).drop (1 : Int).toNat = y379 from Ny379.out.symm] at hr47; replace hr47 : Kd.F k33 _ _ A47 y379.length y379 := (by rw [hA47]; exact hr47); rw [← hy47, ← hA47, ← hc47] at hcut47; have HO383 := Aside0.mk (show Kd.V k33 33 _ w.heap.size _ (.slice A47 y379.length c47) y379 from Kd.V_mk (by rw [hy47, hc47]; exact Nat.sub_le_sub_right hroom47 _) hr47); have HC383 := Aside0.mk (show y379.length ≤ c47 from by rw [hy47, hc47]; exact Nat.sub_le_sub_right hroom47 _); clear hr47 hC47 hroom47 hi047 hsz47 hc47; have KY47 := Aside0.mk hy47; have KA47 := Aside0.mk hA47; clear hy47 hA47; replace q47 := eq_true q47))
                  go_roundg k1
                  case measure => have := HK1.out; omega
                  case rel => exact ⟨(x0_1), (y379), (y376), (wrap64 (x8_1 + 1)), (by first | rfl | (simp; done) | (simp [*]; done)), H', ⟨by have := HK1.out; omega⟩, ⟨by (with_reducible repeat (first | apply Kd.V_alloc | apply Kd.V_drewN | apply Kd.V_drew)); exact HO_0.out⟩, ⟨by (with_reducible repeat (first | apply Kd.V_alloc | apply Kd.V_drewN | apply Kd.V_drew)); exact HO383.out⟩, ⟨by (with_reducible repeat (first | apply Kd.R_alloc | apply Kd.R_drewN | apply Kd.R_drew)); exact HO378.out⟩, ⟨by repeat (first | (with_reducible first | exact HB.out | apply below_alloc | apply pw_below_drewN | apply below_drew1) | exact HB.out)⟩⟩
                · rw [if_neg c43] at H
                  exact absurd H (by simp)
              · rw [if_neg c42] at H
                exact absurd H (by simp)
            · rw [if_neg c41] at H
              exact absurd H (by simp)
          · rw [if_neg c40] at H
            have c40b0 : ((x0_1.length : Int) == 0) = false := beq_eq_false_iff_ne.mpr c40
            have c40b1 : ((x0_1.length : Int) != 0) = true := bne_iff_ne.mpr c40
            have c40b2 : ¬ (x0_1 = []) := fun h_ => c40 (by rw [h_]; rfl)
            by_cases c48 : 0 < (x0_1.length : Int)
            · rw [if_pos c48] at H
              have c48b0 : decide (0 < (x0_1.length : Int)) = true := decide_eq_true c48
              have c48b1 : decide (0 < x0_1.length) = true := decide_eq_true (by omega)
              clear c48
              by_cases c49 : x7_1.length < 1466015503701
              · rw [if_pos c49] at H
                have LMc49 := Aside0.mk c49
                clear c49
                obtain ⟨y385, hy385⟩ : ∃ y_ : List (S33), y_ = (x7_1 ++ [(⟨(rd_T33 x0_1 0).f0, (rd_T33 x0_1 0).f1, (⟨(rd_T33 x0_1 0).f2.f0, (rd_T33 x0_1 0).f2.f1, (rd_T33 x0_1 0).f2.f2, (rd_T33 x0_1 0).f2.f3, (rd_T33 x0_1 0).f2.f4, (rd_T33 x0_1 0).f2.f5⟩ : S31), (rd_T33 x0_1 0).f3⟩ : S33)]) := ⟨_, rfl⟩
                replace H : (if 1 ≤ (x0_1.length : Int) then (impl_Woven.l0 k1 (x0_1.drop 1) x1_1 l2 y385 (wrap64 (x8_1 + 1))) else (none)) = some r := by first | (rw [hy385]; with_reducible exact H) | (have H2_ := (Option.bind_some _ _).symm.trans H; rw [hy385]; with_reducible exact H2_) | (have H2_ := (Option.bind_some _ _).symm.trans H; with_reducible exact H2_) | with_reducible exact H | (rw [hy385]; exact H) | exact H
                have Ny385 := Aside0.mk hy385
                clear hy385
                by_cases c50 : 1 ≤ (x0_1.length : Int)
                · rw [if_pos c50] at H
                  have c50b0 := eq_true c50
                  have c50b1 : decide (1 ≤ (x0_1.length : Int)) = true := decide_eq_true c50
                  clear c50
                  obtain ⟨y388, hy388⟩ : ∃ y_ : List (S33), y_ = (x0_1.drop 1) := ⟨_, rfl⟩
                  replace H : (impl_Woven.l0 k1 y388 x1_1 l2 y385 (wrap64 (x8_1 + 1))) = some r := by first | (rw [hy388]; with_reducible exact H) | (have H2_ := (Option.bind_some _ _).symm.trans H; rw [hy388]; with_reducible exact H2_) | (have H2_ := (Option.bind_some _ _).symm.trans H; with_reducible exact H2_) | with_reducible exact H | (rw [hy388]; exact H) | exact H
                  have Ny388 := Aside0.mk hy388
                  clear hy388
                  have H' := Aside0.mk H
                  clear H
                  obtain ⟨Ao51, co51, eo51⟩ := Kd.V_slice HO_0.out
                  subst eo51
                  obtain ⟨Ao52, co52, eo52⟩ := Kd.V_slice HO_1.out
                  subst eo52
                  have p384 : 0 ≤ (0 : Int) := (by omega)
                  have q384 : 0 < (x0_1.length : Int) := of_decide_eq_true (by first | (with_reducible assumption) | assumption)
                  obtain ⟨ad384, e384, hx384_0, hx384_1, hx384_2, hx384_3, hx384_4, hx384_5, hx384_6, hx384_7, hx384_8⟩ := at_T33 (Kd.V_reads' HO_0.out).2.2 0 p384 q384
                  cases e384
                  have qi384 : (0 < x0_1.length) = True := eq_true (by omega)
                  (try rw [show ((0 : Int)).toNat = 0 from rfl] at hx384_0)
                  (try rw [show 0 * 9 = 0 from rfl] at hx384_0)
                  (try rw [Addr.add_zero'] at hx384_0)
                  (try rw [show ((0 : Int)).toNat = 0 from rfl] at hx384_1)
                  (try rw [show 0 * 9 = 0 from rfl] at hx384_1)
                  (try rw [Addr.add_zero'] at hx384_1)
                  (try rw [show ((0 : Int)).toNat = 0 from rfl] at hx384_2)
                  (try rw [show 0 * 9 = 0 from rfl] at hx384_2)
                  (try rw [Addr.add_zero'] at hx384_2)
                  (try rw [show ((0 : Int)).toNat = 0 from rfl] at hx384_3)
                  (try rw [show 0 * 9 = 0 from rfl] at hx384_3)
                  (try rw [Addr.add_zero'] at hx384_3)
                  (try rw [show ((0 : Int)).toNat = 0 from rfl] at hx384_4)
                  (try rw [show 0 * 9 = 0 from rfl] at hx384_4)
                  (try rw [Addr.add_zero'] at hx384_4)
                  (try rw [show ((0 : Int)).toNat = 0 from rfl] at hx384_5)
                  (try rw [show 0 * 9 = 0 from rfl] at hx384_5)
                  (try rw [Addr.add_zero'] at hx384_5)
                  (try rw [show ((0 : Int)).toNat = 0 from rfl] at hx384_6)
                  (try rw [show 0 * 9 = 0 from rfl] at hx384_6)
                  (try rw [Addr.add_zero'] at hx384_6)
                  (try rw [show ((0 : Int)).toNat = 0 from rfl] at hx384_7)
                  (try rw [show 0 * 9 = 0 from rfl] at hx384_7)
                  (try rw [Addr.add_zero'] at hx384_7)
                  (try rw [show ((0 : Int)).toNat = 0 from rfl] at hx384_8)
                  (try rw [show 0 * 9 = 0 from rfl] at hx384_8)
                  (try rw [Addr.add_zero'] at hx384_8)
                  replace p384 := eq_true p384
                  replace q384 := eq_true q384
                  go_wp2_with (first | ((with_reducible refine gate_builtin (b := .append) (xs := #[.tmp 50, .tmp 54]) rfl ?_); (try (refine gate_guard (by rfl) ?_; dsimp only)); at_builtin; refine Kd.R_append k33 (w0 := w) w.heap.size rfl (.tmp 50) (.tmp 54) 24 33 (.agg #[(.int .i64 0), (.int .i64 0), (.int .i64 0), (.string ⟨#[]⟩), (.string ⟨#[]⟩), (.int .i64 0), (.int .i64 0), (.string ⟨#[]⟩), (.int .i64 0)]) 96 rfl Try.underlying24 info33 rfl (by decide) (by omega) u7 x7_1 (⟨(rd_T33 x0_1 0).f0, (rd_T33 x0_1 0).f1, (⟨(rd_T33 x0_1 0).f2.f0, (rd_T33 x0_1 0).f2.f1, (rd_T33 x0_1 0).f2.f2, (rd_T33 x0_1 0).f2.f3, (rd_T33 x0_1 0).f2.f4, (rd_T33 x0_1 0).f2.f5⟩ : S31), (rd_T33 x0_1 0).f3⟩ : S33) [.int .i64 ((rd_T33 x0_1 0).f0), .int .i64 ((rd_T33 x0_1 0).f1), .int .i64 ((rd_T33 x0_1 0).f2.f0), .string ((rd_T33 x0_1 0).f2.f1), .string ((rd_T33 x0_1 0).f2.f2), .int .i64 ((rd_T33 x0_1 0).f2.f3), .int .i64 ((rd_T33 x0_1 0).f2.f4), .string ((rd_T33 x0_1 0).f2.f5), .int .i64 ((rd_T33 x0_1 0).f3)] (fun k_ => (w.heap.size ≤ k_)) (fun _ => False) rfl rfl ?aP (fun _ hk => hk.elim) ?aF ?aO ?aB ?aS ?aL ?_; (case aP => exact k33_mkM _ _ _ (⟨(rd_T33 x0_1 0).f0, (rd_T33 x0_1 0).f1, (⟨(rd_T33 x0_1 0).f2.f0, (rd_T33 x0_1 0).f2.f1, (rd_T33 x0_1 0).f2.f2, (rd_T33 x0_1 0).f2.f3, (rd_T33 x0_1 0).f2.f4, (rd_T33 x0_1 0).f2.f5⟩ : S31), (rd_T33 x0_1 0).f3⟩ : S33)); (case aB => exact (by repeat (first | (with_reducible first | exact HB.out | apply below_alloc | apply pw_below_drewN | apply below_drew1) | exact HB.out))); (case aF => exact (fun k_ hk => (Nat.le_trans (below_size (by repeat (first | (with_reducible first | exact HB.out | apply below_alloc | apply pw_below_drewN | apply below_drew1) | exact HB.out))) hk))); (case aO => exact (by (with_reducible repeat (first | apply Kd.R_alloc | apply Kd.R_drewN | apply Kd.R_drew)); exact HO_7.out)); (case aS => exact (below_size (by repeat (first | (with_reducible first | exact HB.out | apply below_alloc | apply pw_below_drewN | apply below_drew1) | exact HB.out)))); (case aL => have := LMc49.out; omega); intro v386 w53 ho hb hg hat; rw [← Ny385.out] at ho; have n0_ := Aside0.mk (Kd.V_afterv (ok := (fun k_ => ((P0_ k_ ∨ P1_ k_) ∨ w.heap.size ≤ k_))) (by (with_reducible repeat (first | apply Kd.V_alloc | apply Kd.V_drewN | apply Kd.V_drew)); exact HO_0.out) hg hat); have n1_ := Aside0.mk (Kd.V_afterv (ok := (fun k_ => ((P0_ k_ ∨ P1_ k_) ∨ w.heap.size ≤ k_))) (by (with_reducible repeat (first | apply Kd.V_alloc | apply Kd.V_drewN | apply Kd.V_drew)); exact HO_1.out) hg hat); have n2_ := Aside0.mk (hb); have n3_ := Aside0.mk (ho); clear HO_0; clear HO_1; clear HB; clear HO_7; have HO_0 := n0_; have HO_1 := n1_; have HB := n2_; have HO387 := n3_; clear n0_ n1_ n2_ n3_; clear ho hb hg hat; have q54 : (1 : Int) ≤ ((x0_1.length : Int) : Int) := of_decide_eq_true (by first | (with_reducible assumption) | assumption); obtain ⟨i054, hi054, _, hsz54, _⟩ := info_parts info33; have hroom54 : x0_1.length ≤ co51 := (Kd.V_reads' HO_0.out).2.1; have hC54 : Kd.F k33 _ _ (some ad384) x0_1.length x0_1 := (Kd.V_at (base := w.heap.size) HO_0.out).2.2; have hcut54 := cut_from (P := Try.prog) 24 33 .i64 Try.underlying24 hi054 9 hsz54 (some ad384) x0_1.length co51 1 (by omega) q54; have hr54 := Kd.F_cut (m := (1 : Int).toNat) (c := co51) hC54 (by omega) hroom54; obtain ⟨A54, hA54⟩ : ∃ A1, A1 = (if co51 = (1 : Int).toNat then (some ad384) else ((some ad384) : Option Addr).map (·.add ((1 : Int).toNat * 9))) := ⟨_, rfl⟩; obtain ⟨c54, hc54⟩ : ∃ c1, c1 = co51 - (1 : Int).toNat := ⟨_, rfl⟩; have hy54 : y388.length = x0_1.length - (1 : Int).toNat := (by rw [Ny388.out, List.length_drop] <;> omega); rw [show (x0_1).drop (1 : Int).toNat = y388 from Ny388.out.symm] at hr54; replace hr54 : Kd.F k33 _ _ A54 y388.length y388 := (by rw [hA54]; exact hr54); rw [← hy54, ← hA54, ← hc54] at hcut54; have HO392 := Aside0.mk (show Kd.V k33 33 _ w.heap.size _ (.slice A54 y388.length c54) y388 from Kd.V_mk (by rw [hy54, hc54]; exact Nat.sub_le_sub_right hroom54 _) hr54); have HC392 := Aside0.mk (show y388.length ≤ c54 from by rw [hy54, hc54]; exact Nat.sub_le_sub_right hroom54 _); clear hr54 hC54 hroom54 hi054 hsz54 hc54; have KY54 := Aside0.mk hy54; have KA54 := Aside0.mk hA54; clear hy54 hA54; replace q54 := eq_true q54))
                  go_roundg k1
                  case measure => have := HK1.out; omega
                  case rel => exact ⟨(y388), (x1_1), (y385), (wrap64 (x8_1 + 1)), (by first | rfl | (simp; done) | (simp [*]; done)), H', ⟨by have := HK1.out; omega⟩, ⟨by (with_reducible repeat (first | apply Kd.V_alloc | apply Kd.V_drewN | apply Kd.V_drew)); exact HO392.out⟩, ⟨by (with_reducible repeat (first | apply Kd.V_alloc | apply Kd.V_drewN | apply Kd.V_drew)); exact HO_1.out⟩, ⟨by (with_reducible repeat (first | apply Kd.R_alloc | apply Kd.R_drewN | apply Kd.R_drew)); exact HO387.out⟩, ⟨by repeat (first | (with_reducible first | exact HB.out | apply below_alloc | apply pw_below_drewN | apply below_drew1) | exact HB.out)⟩⟩
                · rw [if_neg c50] at H
                  exact absurd H (by simp)
              · rw [if_neg c49] at H
                exact absurd H (by simp)
            · rw [if_neg c48] at H
              exact absurd H (by simp)
      · rw [if_neg c6] at H
        have c6b0 : decide (0 < (wrap64 ((x0_1.length : Int) + (x1_1.length : Int)))) = false := decide_eq_false c6
        clear c6
        obtain rfl := Option.some.inj H
        obtain ⟨Ao55, co55, eo55⟩ := Kd.V_slice HO_0.out
        subst eo55
        obtain ⟨Ao56, co56, eo56⟩ := Kd.V_slice HO_1.out
        subst eo56
        go_wp2
        go_ret
        exact ⟨_, by first | rfl | (simp [errW_none, errW_some] <;> rfl) | (simp [*, errW_none, errW_some] <;> rfl), by (with_reducible repeat (first | apply Kd.R_alloc | apply Kd.R_drewN | apply Kd.R_drew)); exact HO_7.out, by repeat (first | (with_reducible first | exact HB.out | apply below_alloc | apply pw_below_drewN | apply below_drew1) | exact HB.out)⟩

/-! ### impl_OnlyOf: function 17 -/
def impl_OnlyOf.l0 : Nat → Int → List (S33) → List (S33) → Int → Int → Option ((List (S33)))
  | 0, _, _, _, _, _ => none
  | k + 1, x1, x5, x9, x10, x11 => if x11 < x10 then (if 0 ≤ x11 then (if x11 < (x9.length : Int) then (if ((rd_T33 x9 x11).f0) = 1 then (if ((rd_T33 x9 x11).f1) = x1 then (if x5.length < 1466015503701 then (impl_OnlyOf.l0 k x1 (x5 ++ [(⟨(rd_T33 x9 x11).f0, (rd_T33 x9 x11).f1, (⟨(rd_T33 x9 x11).f2.f0, (rd_T33 x9 x11).f2.f1, (rd_T33 x9 x11).f2.f2, (rd_T33 x9 x11).f2.f3, (rd_T33 x9 x11).f2.f4, (rd_T33 x9 x11).f2.f5⟩ : S31), (rd_T33 x9 x11).f3⟩ : S33)]) x9 x10 (wrap64 (x11 + 1))) else (none)) else (impl_OnlyOf.l0 k x1 x5 x9 x10 (wrap64 (x11 + 1)))) else (if ((rd_T33 x9 x11).f0) = 2 then (if ((rd_T33 x9 x11).f1) = x1 then (if x5.length < 1466015503701 then (impl_OnlyOf.l0 k x1 (x5 ++ [(⟨(rd_T33 x9 x11).f0, (rd_T33 x9 x11).f1, (⟨(rd_T33 x9 x11).f2.f0, (rd_T33 x9 x11).f2.f1, (rd_T33 x9 x11).f2.f2, (rd_T33 x9 x11).f2.f3, (rd_T33 x9 x11).f2.f4, (rd_T33 x9 x11).f2.f5⟩ : S31), (rd_T33 x9 x11).f3⟩ : S33)]) x9 x10 (wrap64 (x11 + 1))) else (none)) else (impl_OnlyOf.l0 k x1 x5 x9 x10 (wrap64 (x11 + 1)))) else (impl_OnlyOf.l0 k x1 x5 x9 x10 (wrap64 (x11 + 1))))) else (none)) else (none)) else (some x5)
def impl_OnlyOf.f (k : Nat) (l0 : List (S33)) (a1 : Int) : Option ((List (S33))) := impl_OnlyOf.l0 k a1 (([] : List (S33))) l0 (l0.length : Int) 0
theorem impl_OnlyOf.mono_l : ∀ k, (∀ y0 y1 y2 y3 y4, LeO (impl_OnlyOf.l0 k y0 y1 y2 y3 y4) (impl_OnlyOf.l0 (k + 1) y0 y1 y2 y3 y4))
  | 0 => fun _ _ _ _ _ r h => by simp [impl_OnlyOf.l0] at h
  | k + 1 => by
    have ih0 := impl_OnlyOf.mono_l k
    · intro y0 y1 y2 y3 y4
      unfold impl_OnlyOf.l0
      repeat' first
      | (with_reducible exact ih0 _ _ _ _ _)
      | (with_reducible exact LeO.refl _)
      | (with_reducible exact LeO.none _)
      | (with_reducible refine LeO.ite ?_ ?_)
      | (with_reducible refine LeO.bind ?_ (fun _ => ?_))
      | exact ih0 _ _ _ _ _
      | exact LeO.none _
      | refine LeO.ite ?_ ?_
      | refine LeO.bind ?_ (fun _ => ?_)
theorem impl_OnlyOf.mono : ∀ a0 a1 k, LeO (impl_OnlyOf.f k a0 a1) (impl_OnlyOf.f (k + 1) a0 a1) := by
  intro a0 a1 k
  have ih0 := impl_OnlyOf.mono_l k
  unfold impl_OnlyOf.f
  repeat' first
      | (with_reducible exact ih0 _ _ _ _ _)
      | (with_reducible exact LeO.refl _)
      | (with_reducible exact LeO.none _)
      | (with_reducible refine LeO.ite ?_ ?_)
      | (with_reducible refine LeO.bind ?_ (fun _ => ?_))
      | exact ih0 _ _ _ _ _
      | exact LeO.none _
      | refine LeO.ite ?_ ?_
      | refine LeO.bind ?_ (fun _ => ?_)
set_option maxHeartbeats 8000000 in
set_option maxRecDepth 100000 in
theorem impl_OnlyOf.calls (k : Nat) (A0 : Option Addr) (c0 : Nat) (l0 : List (S33)) (a1 : Int) (r : List (S33)) (w : World) (hr0 : Kd.C k33 w A0 l0.length l0) (hc0 : l0.length ≤ c0) (h : impl_OnlyOf.f k l0 a1 = some r) :
    Calls Try.prog 17 #[.slice A0 l0.length c0, .int .i64 a1] w fun e w' => ∃ v0_ : Value, e = .returned (v0_) ∧ Kd.R k33 33 w' w.heap.size (fun _ => True) v0_ r ∧ Below w.heap.size w w' := by
  have hu33 := Try.underlying33
  have HR0 := Aside0.mk hr0
  have HC0 := Aside0.mk hc0
  clear hr0 hc0
  have HB := Aside0.mk (Below.refl w.heap.size w)
  have H : (impl_OnlyOf.l0 k a1 (([] : List (S33))) l0 (l0.length : Int) 0) = some r := h
  clear h
  obtain ⟨y393, hy393⟩ : ∃ y_ : List (S33), y_ = (([] : List (S33))) := ⟨_, rfl⟩
  replace H : (impl_OnlyOf.l0 k a1 y393 l0 (l0.length : Int) 0) = some r := by first | (rw [hy393]; with_reducible exact H) | (have H2_ := (Option.bind_some _ _).symm.trans H; rw [hy393]; with_reducible exact H2_) | (have H2_ := (Option.bind_some _ _).symm.trans H; with_reducible exact H2_) | with_reducible exact H | (rw [hy393]; exact H) | exact H
  have Ny393 := Aside0.mk hy393
  clear hy393
  have H' := Aside0.mk H
  clear H
  go_enter Try.func17, Try.ntmps17
  go_wp2_with (first | ((with_reducible refine gate_dst (N := 8) rfl ?_); refine Kd.R_lit k33 _ 33 ?hg (N := 8) ?hd (xs := ([] : List (S33))) (inner := []) (ok := fun _ => True) (okp := fun _ => True) ?hr ?hp (fun _ hk => hk) trivial (Below.refl _ _) (Nat.le_refl _) (by simp) ?_; (case hd => rfl); (case hg => rfl); (case hr => first | (go_simp; done) | (go_simp; rfl)); (case hp => exact (Reps.none _ _)); intro v394 w3 ho4 hb hg_ hnew_; clear hg_ hnew_; (first | rw [← Ny393.out] at ho4 | (simp only [Int.reduceToNat] at ho4; rw [← Ny393.out] at ho4)); have n0_ := Aside0.mk (Kd.R_lower ho4 (below_size (by repeat (first | (with_reducible first | exact HB.out | apply below_alloc | apply pw_below_drewN | apply below_drew1) | exact HB.out)))); have n1_ := Aside0.mk (below_step (by repeat (first | (with_reducible first | exact HB.out | apply below_alloc | apply pw_below_drewN | apply below_drew1) | exact HB.out)) hb); clear HB; have HO395 := n0_; have HB := n1_; clear n0_ n1_; clear hb ho4))
  go_loopg [5, 11] k (fun kq v5 v11 w' => ∃ (x5_1 : List (S33)) (x11_1 : Int), v11 = .int .i64 x11_1 ∧ Aside0 (impl_OnlyOf.l0 kq a1 x5_1 l0 (l0.length : Int) x11_1 = some r) ∧ Aside0 (kq ≤ k) ∧ Aside0 (Kd.R k33 33 w' w.heap.size (fun _ => True) v5 x5_1) ∧ Aside0 (Below w.heap.size w w'))
  case atStart => exact ⟨(y393), (0), (by first | rfl | (simp; done) | (simp [*]; done)), H', ⟨Nat.le_refl _⟩, ⟨by (with_reducible repeat (first | apply Kd.R_alloc | apply Kd.R_drewN | apply Kd.R_drew)); exact HO395.out⟩, ⟨by repeat (first | (with_reducible first | exact HB.out | apply below_alloc | apply pw_below_drewN | apply below_drew1) | exact HB.out)⟩⟩
  case round =>
    clear H'
    try clear c1
    try clear p2
    obtain ⟨x5_1, x11_1, rfl, HA, HK1, HO_5, HB⟩ := hrel
    cases gk with
    | zero => exact absurd HA.out (by simp [impl_OnlyOf.l0])
    | succ k1 =>
      have H := HA.out
      clear HA
      simp only [impl_OnlyOf.l0] at H
      by_cases c5 : x11_1 < (l0.length : Int)
      · rw [if_pos c5] at H
        have c5b0 : decide (x11_1 < (l0.length : Int)) = true := decide_eq_true c5
        clear c5
        by_cases c6 : 0 ≤ x11_1
        · rw [if_pos c6] at H
          have c6b0 : decide (0 ≤ x11_1) = true := decide_eq_true c6
          clear c6
          by_cases c7 : x11_1 < (l0.length : Int)
          · rw [if_pos c7] at H
            have c7b0 : decide (x11_1 < (l0.length : Int)) = true := decide_eq_true c7
            clear c7
            by_cases c8 : ((rd_T33 l0 x11_1).f0) = 1
            · rw [if_pos c8] at H
              have c8b0 : (((rd_T33 l0 x11_1).f0) == 1) = true := beq_iff_eq.mpr c8
              have c8b1 : (((rd_T33 l0 x11_1).f0) != 1) = false := bne_eq_false_iff_eq.mpr c8
              clear c8
              by_cases c9 : ((rd_T33 l0 x11_1).f1) = a1
              · rw [if_pos c9] at H
                have c9b0 : (((rd_T33 l0 x11_1).f1) == a1) = true := beq_iff_eq.mpr c9
                have c9b1 : (((rd_T33 l0 x11_1).f1) != a1) = false := bne_eq_false_iff_eq.mpr c9
                clear c9
                by_cases c10 : x5_1.length < 1466015503701
                · rw [if_pos c10] at H
                  have LMc10 := Aside0.mk c10
                  clear c10
                  obtain ⟨y398, hy398⟩ : ∃ y_ : List (S33), y_ = (x5_1 ++ [(⟨(rd_T33 l0 x11_1).f0, (rd_T33 l0 x11_1).f1, (⟨(rd_T33 l0 x11_1).f2.f0, (rd_T33 l0 x11_1).f2.f1, (rd_T33 l0 x11_1).f2.f2, (rd_T33 l0 x11_1).f2.f3, (rd_T33 l0 x11_1).f2.f4, (rd_T33 l0 x11_1).f2.f5⟩ : S31), (rd_T33 l0 x11_1).f3⟩ : S33)]) := ⟨_, rfl⟩
                  replace H : (impl_OnlyOf.l0 k1 a1 y398 l0 (l0.length : Int) (wrap64 (x11_1 + 1))) = some r := by first | (rw [hy398]; with_reducible exact H) | (have H2_ := (Option.bind_some _ _).symm.trans H; rw [hy398]; with_reducible exact H2_) | (have H2_ := (Option.bind_some _ _).symm.trans H; with_reducible exact H2_) | with_reducible exact H | (rw [hy398]; exact H) | exact H
                  have Ny398 := Aside0.mk hy398
                  clear hy398
                  have H' := Aside0.mk H
                  clear H
                  have p396 : 0 ≤ (x11_1 : Int) := of_decide_eq_true (by first | (with_reducible assumption) | assumption)
                  have q396 : x11_1 < (l0.length : Int) := of_decide_eq_true (by first | (with_reducible assumption) | assumption)
                  obtain ⟨ad396, e396, hx396_0, hx396_1, hx396_2, hx396_3, hx396_4, hx396_5, hx396_6, hx396_7, hx396_8⟩ := at_T33 HR0.out x11_1 p396 q396
                  cases e396
                  replace hx396_0 := (HB.out.cell (World.block_lt_of_cell? w _ hx396_0)).trans hx396_0
                  replace hx396_1 := (HB.out.cell (World.block_lt_of_cell? w _ hx396_1)).trans hx396_1
                  replace hx396_2 := (HB.out.cell (World.block_lt_of_cell? w _ hx396_2)).trans hx396_2
                  replace hx396_3 := (HB.out.cell (World.block_lt_of_cell? w _ hx396_3)).trans hx396_3
                  replace hx396_4 := (HB.out.cell (World.block_lt_of_cell? w _ hx396_4)).trans hx396_4
                  replace hx396_5 := (HB.out.cell (World.block_lt_of_cell? w _ hx396_5)).trans hx396_5
                  replace hx396_6 := (HB.out.cell (World.block_lt_of_cell? w _ hx396_6)).trans hx396_6
                  replace hx396_7 := (HB.out.cell (World.block_lt_of_cell? w _ hx396_7)).trans hx396_7
                  replace hx396_8 := (HB.out.cell (World.block_lt_of_cell? w _ hx396_8)).trans hx396_8
                  replace p396 := eq_true p396
                  replace q396 := eq_true q396
                  go_wp2_with (first | ((with_reducible refine gate_dst (N := 7) rfl ?_); refine box_event ?hg (N := 7) ?hd (cs := #[.int .i64 0, .int .i64 0, .int .i64 0, .string (⟨#[]⟩ : ByteArray), .string (⟨#[]⟩ : ByteArray), .int .i64 0, .int .i64 0, .string (⟨#[]⟩ : ByteArray), .int .i64 0]) (t := 33) ?hr ?_; (case hd => rfl); (case hg => rfl); (case hr => first | (go_simp; done) | (go_simp; rfl)); intro gb397 hg w11 hbox hb; have n0_ := Aside0.mk (Kd.R_below (Kd.R_elderB (by (with_reducible repeat (first | apply Kd.R_alloc | apply Kd.R_drewN | apply Kd.R_drew)); exact HO_5.out) gb397 (Nat.le_of_eq hg.symm)) hb); have n1_ := Aside0.mk (below_step (by repeat (first | (with_reducible first | exact HB.out | apply below_alloc | apply pw_below_drewN | apply below_drew1) | exact HB.out)) hb); have n2_ := Aside0.mk (hbox); have n3_ := Aside0.mk ((by rw [hg]; exact (below_size (by repeat (first | (with_reducible first | exact HB.out | apply below_alloc | apply pw_below_drewN | apply below_drew1) | exact HB.out))) : w.heap.size ≤ gb397)); have n4_ := Aside0.mk ((by rw [hg]; exact (below_size (by repeat (first | (with_reducible first | exact HB.out | apply below_alloc | apply pw_below_drewN | apply below_drew1) | exact HB.out))) : w.heap.size ≤ gb397)); clear HO_5; clear HB; have HO_5 := n0_; have HB := n1_; have BK397 := n2_; have GW397 := n3_; have GE397 := n4_; clear n0_ n1_ n2_ n3_ n4_; clear hb hbox hg; have hcz12_0 : w11.cell? ⟨gb397, 0, none⟩ = some (.int .i64 0) := (blk_cell BK397.out 0).trans rfl; have hcz12_1 : w11.cell? ⟨gb397, 1, none⟩ = some (.int .i64 0) := (blk_cell BK397.out 1).trans rfl; have hcz12_2 : w11.cell? ⟨gb397, 2, none⟩ = some (.int .i64 0) := (blk_cell BK397.out 2).trans rfl; have hcz12_3 : w11.cell? ⟨gb397, 3, none⟩ = some (.string (⟨#[]⟩ : ByteArray)) := (blk_cell BK397.out 3).trans rfl; have hcz12_4 : w11.cell? ⟨gb397, 4, none⟩ = some (.string (⟨#[]⟩ : ByteArray)) := (blk_cell BK397.out 4).trans rfl; have hcz12_5 : w11.cell? ⟨gb397, 5, none⟩ = some (.int .i64 0) := (blk_cell BK397.out 5).trans rfl; have hcz12_6 : w11.cell? ⟨gb397, 6, none⟩ = some (.int .i64 0) := (blk_cell BK397.out 6).trans rfl; have hcz12_7 : w11.cell? ⟨gb397, 7, none⟩ = some (.string (⟨#[]⟩ : ByteArray)) := (blk_cell BK397.out 7).trans rfl; have hcz12_8 : w11.cell? ⟨gb397, 8, none⟩ = some (.int .i64 0) := (blk_cell BK397.out 8).trans rfl; have hfz12_0 := blk_frozen BK397.out 0; have hfz12_1 := blk_frozen BK397.out 1; have hfz12_2 := blk_frozen BK397.out 2; have hfz12_3 := blk_frozen BK397.out 3; have hfz12_4 := blk_frozen BK397.out 4; have hfz12_5 := blk_frozen BK397.out 5; have hfz12_6 := blk_frozen BK397.out 6; have hfz12_7 := blk_frozen BK397.out 7; have hfz12_8 := blk_frozen BK397.out 8) | ((with_reducible refine gate_builtin (b := .append) (xs := #[.tmp 29, .tmp 31]) rfl ?_); at_builtin; refine Kd.R_append k33 (w0 := w) w.heap.size rfl (.tmp 29) (.tmp 31) 24 33 (.agg #[(.int .i64 0), (.int .i64 0), (.int .i64 0), (.string ⟨#[]⟩), (.string ⟨#[]⟩), (.int .i64 0), (.int .i64 0), (.string ⟨#[]⟩), (.int .i64 0)]) 96 rfl Try.underlying24 info33 rfl (by decide) (by omega) u5 x5_1 (⟨(rd_T33 l0 x11_1).f0, (rd_T33 l0 x11_1).f1, (⟨(rd_T33 l0 x11_1).f2.f0, (rd_T33 l0 x11_1).f2.f1, (rd_T33 l0 x11_1).f2.f2, (rd_T33 l0 x11_1).f2.f3, (rd_T33 l0 x11_1).f2.f4, (rd_T33 l0 x11_1).f2.f5⟩ : S31), (rd_T33 l0 x11_1).f3⟩ : S33) [.int .i64 ((rd_T33 l0 x11_1).f0), .int .i64 ((rd_T33 l0 x11_1).f1), .int .i64 ((rd_T33 l0 x11_1).f2.f0), .string ((rd_T33 l0 x11_1).f2.f1), .string ((rd_T33 l0 x11_1).f2.f2), .int .i64 ((rd_T33 l0 x11_1).f2.f3), .int .i64 ((rd_T33 l0 x11_1).f2.f4), .string ((rd_T33 l0 x11_1).f2.f5), .int .i64 ((rd_T33 l0 x11_1).f3)] (fun k_ => k_ ≠ gb397) (fun _ => False) rfl (by first | (go_simp; done) | (go_simp; rfl)) ?aP (fun _ hk => hk.elim) ?aF ?aO ?aB ?aS ?aL ?_; (case aP => exact k33_mkM _ _ _ (⟨(rd_T33 l0 x11_1).f0, (rd_T33 l0 x11_1).f1, (⟨(rd_T33 l0 x11_1).f2.f0, (rd_T33 l0 x11_1).f2.f1, (rd_T33 l0 x11_1).f2.f2, (rd_T33 l0 x11_1).f2.f3, (rd_T33 l0 x11_1).f2.f4, (rd_T33 l0 x11_1).f2.f5⟩ : S31), (rd_T33 l0 x11_1).f3⟩ : S33)); (case aB => exact (by repeat (first | (with_reducible first | exact HB.out | apply below_alloc | apply pw_below_drewN | apply below_drew1 | refine below_set ?_ GE397.out) | exact HB.out))); (case aF => exact (fun k_ hk => Kd.freshB (g := gb397) (o := .cells #[.int .i64 ((rd_T33 l0 x11_1).f0), .int .i64 ((rd_T33 l0 x11_1).f1), .int .i64 ((rd_T33 l0 x11_1).f2.f0), .string ((rd_T33 l0 x11_1).f2.f1), .string ((rd_T33 l0 x11_1).f2.f2), .int .i64 ((rd_T33 l0 x11_1).f2.f3), .int .i64 ((rd_T33 l0 x11_1).f2.f4), .string ((rd_T33 l0 x11_1).f2.f5), .int .i64 ((rd_T33 l0 x11_1).f3)] 33 (0, 0)) (by (with_reducible repeat (first | refine blk_drewN ?_ _ | refine blk_drew ?_ | refine blk_alloc ?_ _)); refine blk_put (cs := #[.int .i64 ((rd_T33 l0 x11_1).f0), .int .i64 ((rd_T33 l0 x11_1).f1), .int .i64 ((rd_T33 l0 x11_1).f2.f0), .string ((rd_T33 l0 x11_1).f2.f1), .string ((rd_T33 l0 x11_1).f2.f2), .int .i64 ((rd_T33 l0 x11_1).f2.f3), .int .i64 ((rd_T33 l0 x11_1).f2.f4), .string ((rd_T33 l0 x11_1).f2.f5), .int .i64 0]) ?_ 8 _ rfl; (with_reducible repeat (first | refine blk_drewN ?_ _ | refine blk_drew ?_ | refine blk_alloc ?_ _)); refine blk_put (cs := #[.int .i64 ((rd_T33 l0 x11_1).f0), .int .i64 ((rd_T33 l0 x11_1).f1), .int .i64 ((rd_T33 l0 x11_1).f2.f0), .string ((rd_T33 l0 x11_1).f2.f1), .string ((rd_T33 l0 x11_1).f2.f2), .int .i64 ((rd_T33 l0 x11_1).f2.f3), .int .i64 ((rd_T33 l0 x11_1).f2.f4), .string (⟨#[]⟩ : ByteArray), .int .i64 0]) ?_ 7 _ rfl; (with_reducible repeat (first | refine blk_drewN ?_ _ | refine blk_drew ?_ | refine blk_alloc ?_ _)); refine blk_put (cs := #[.int .i64 ((rd_T33 l0 x11_1).f0), .int .i64 ((rd_T33 l0 x11_1).f1), .int .i64 ((rd_T33 l0 x11_1).f2.f0), .string ((rd_T33 l0 x11_1).f2.f1), .string ((rd_T33 l0 x11_1).f2.f2), .int .i64 ((rd_T33 l0 x11_1).f2.f3), .int .i64 0, .string (⟨#[]⟩ : ByteArray), .int .i64 0]) ?_ 6 _ rfl; (with_reducible repeat (first | refine blk_drewN ?_ _ | refine blk_drew ?_ | refine blk_alloc ?_ _)); refine blk_put (cs := #[.int .i64 ((rd_T33 l0 x11_1).f0), .int .i64 ((rd_T33 l0 x11_1).f1), .int .i64 ((rd_T33 l0 x11_1).f2.f0), .string ((rd_T33 l0 x11_1).f2.f1), .string ((rd_T33 l0 x11_1).f2.f2), .int .i64 0, .int .i64 0, .string (⟨#[]⟩ : ByteArray), .int .i64 0]) ?_ 5 _ rfl; (with_reducible repeat (first | refine blk_drewN ?_ _ | refine blk_drew ?_ | refine blk_alloc ?_ _)); refine blk_put (cs := #[.int .i64 ((rd_T33 l0 x11_1).f0), .int .i64 ((rd_T33 l0 x11_1).f1), .int .i64 ((rd_T33 l0 x11_1).f2.f0), .string ((rd_T33 l0 x11_1).f2.f1), .string (⟨#[]⟩ : ByteArray), .int .i64 0, .int .i64 0, .string (⟨#[]⟩ : ByteArray), .int .i64 0]) ?_ 4 _ rfl; (with_reducible repeat (first | refine blk_drewN ?_ _ | refine blk_drew ?_ | refine blk_alloc ?_ _)); refine blk_put (cs := #[.int .i64 ((rd_T33 l0 x11_1).f0), .int .i64 ((rd_T33 l0 x11_1).f1), .int .i64 ((rd_T33 l0 x11_1).f2.f0), .string (⟨#[]⟩ : ByteArray), .string (⟨#[]⟩ : ByteArray), .int .i64 0, .int .i64 0, .string (⟨#[]⟩ : ByteArray), .int .i64 0]) ?_ 3 _ rfl; (with_reducible repeat (first | refine blk_drewN ?_ _ | refine blk_drew ?_ | refine blk_alloc ?_ _)); refine blk_put (cs := #[.int .i64 ((rd_T33 l0 x11_1).f0), .int .i64 ((rd_T33 l0 x11_1).f1), .int .i64 0, .string (⟨#[]⟩ : ByteArray), .string (⟨#[]⟩ : ByteArray), .int .i64 0, .int .i64 0, .string (⟨#[]⟩ : ByteArray), .int .i64 0]) ?_ 2 _ rfl; (with_reducible repeat (first | refine blk_drewN ?_ _ | refine blk_drew ?_ | refine blk_alloc ?_ _)); refine blk_put (cs := #[.int .i64 ((rd_T33 l0 x11_1).f0), .int .i64 0, .int .i64 0, .string (⟨#[]⟩ : ByteArray), .string (⟨#[]⟩ : ByteArray), .int .i64 0, .int .i64 0, .string (⟨#[]⟩ : ByteArray), .int .i64 0]) ?_ 1 _ rfl; (with_reducible repeat (first | refine blk_drewN ?_ _ | refine blk_drew ?_ | refine blk_alloc ?_ _)); refine blk_put (cs := #[.int .i64 0, .int .i64 0, .int .i64 0, .string (⟨#[]⟩ : ByteArray), .string (⟨#[]⟩ : ByteArray), .int .i64 0, .int .i64 0, .string (⟨#[]⟩ : ByteArray), .int .i64 0]) ?_ 0 _ rfl; (with_reducible repeat (first | refine blk_drewN ?_ _ | refine blk_drew ?_ | refine blk_alloc ?_ _)); exact BK397.out) k_ hk)); (case aO => exact (by (with_reducible repeat (first | apply Kd.R_alloc | apply Kd.R_drewN | apply Kd.R_drew)); exact Kd.R_mono (Kd.R_far (p := ⟨gb397, 8, none⟩) (Kd.R_far (p := ⟨gb397, 7, none⟩) (Kd.R_far (p := ⟨gb397, 6, none⟩) (Kd.R_far (p := ⟨gb397, 5, none⟩) (Kd.R_far (p := ⟨gb397, 4, none⟩) (Kd.R_far (p := ⟨gb397, 3, none⟩) (Kd.R_far (p := ⟨gb397, 2, none⟩) (Kd.R_far (p := ⟨gb397, 1, none⟩) (Kd.R_far (p := ⟨gb397, 0, none⟩) (Kd.R_mono HO_5.out (fun k_ hk => (⟨hk, hk.2⟩ : _ ∧ k_ ≠ gb397))) (fun _ hk => hk.2) (.int .i64 ((rd_T33 l0 x11_1).f0))) (fun _ hk => hk.2) (.int .i64 ((rd_T33 l0 x11_1).f1))) (fun _ hk => hk.2) (.int .i64 ((rd_T33 l0 x11_1).f2.f0))) (fun _ hk => hk.2) (.string ((rd_T33 l0 x11_1).f2.f1))) (fun _ hk => hk.2) (.string ((rd_T33 l0 x11_1).f2.f2))) (fun _ hk => hk.2) (.int .i64 ((rd_T33 l0 x11_1).f2.f3))) (fun _ hk => hk.2) (.int .i64 ((rd_T33 l0 x11_1).f2.f4))) (fun _ hk => hk.2) (.string ((rd_T33 l0 x11_1).f2.f5))) (fun _ hk => hk.2) (.int .i64 ((rd_T33 l0 x11_1).f3))) (fun _ hk => hk.1.2))); (case aS => exact (below_size (by repeat (first | (with_reducible first | exact HB.out | apply below_alloc | apply pw_below_drewN | apply below_drew1 | refine below_set ?_ GE397.out) | exact HB.out)))); (case aL => have := LMc10.out; omega); intro v399 w13 ho hb hg hat; rw [← Ny398.out] at ho; have n0_ := Aside0.mk (blk_grown (g := gb397) (o := .cells #[.int .i64 ((rd_T33 l0 x11_1).f0), .int .i64 ((rd_T33 l0 x11_1).f1), .int .i64 ((rd_T33 l0 x11_1).f2.f0), .string ((rd_T33 l0 x11_1).f2.f1), .string ((rd_T33 l0 x11_1).f2.f2), .int .i64 ((rd_T33 l0 x11_1).f2.f3), .int .i64 ((rd_T33 l0 x11_1).f2.f4), .string ((rd_T33 l0 x11_1).f2.f5), .int .i64 ((rd_T33 l0 x11_1).f3)] 33 (0, 0)) (by (with_reducible repeat (first | refine blk_drewN ?_ _ | refine blk_drew ?_ | refine blk_alloc ?_ _)); refine blk_put (cs := #[.int .i64 ((rd_T33 l0 x11_1).f0), .int .i64 ((rd_T33 l0 x11_1).f1), .int .i64 ((rd_T33 l0 x11_1).f2.f0), .string ((rd_T33 l0 x11_1).f2.f1), .string ((rd_T33 l0 x11_1).f2.f2), .int .i64 ((rd_T33 l0 x11_1).f2.f3), .int .i64 ((rd_T33 l0 x11_1).f2.f4), .string ((rd_T33 l0 x11_1).f2.f5), .int .i64 0]) ?_ 8 _ rfl; (with_reducible repeat (first | refine blk_drewN ?_ _ | refine blk_drew ?_ | refine blk_alloc ?_ _)); refine blk_put (cs := #[.int .i64 ((rd_T33 l0 x11_1).f0), .int .i64 ((rd_T33 l0 x11_1).f1), .int .i64 ((rd_T33 l0 x11_1).f2.f0), .string ((rd_T33 l0 x11_1).f2.f1), .string ((rd_T33 l0 x11_1).f2.f2), .int .i64 ((rd_T33 l0 x11_1).f2.f3), .int .i64 ((rd_T33 l0 x11_1).f2.f4), .string (⟨#[]⟩ : ByteArray), .int .i64 0]) ?_ 7 _ rfl; (with_reducible repeat (first | refine blk_drewN ?_ _ | refine blk_drew ?_ | refine blk_alloc ?_ _)); refine blk_put (cs := #[.int .i64 ((rd_T33 l0 x11_1).f0), .int .i64 ((rd_T33 l0 x11_1).f1), .int .i64 ((rd_T33 l0 x11_1).f2.f0), .string ((rd_T33 l0 x11_1).f2.f1), .string ((rd_T33 l0 x11_1).f2.f2), .int .i64 ((rd_T33 l0 x11_1).f2.f3), .int .i64 0, .string (⟨#[]⟩ : ByteArray), .int .i64 0]) ?_ 6 _ rfl; (with_reducible repeat (first | refine blk_drewN ?_ _ | refine blk_drew ?_ | refine blk_alloc ?_ _)); refine blk_put (cs := #[.int .i64 ((rd_T33 l0 x11_1).f0), .int .i64 ((rd_T33 l0 x11_1).f1), .int .i64 ((rd_T33 l0 x11_1).f2.f0), .string ((rd_T33 l0 x11_1).f2.f1), .string ((rd_T33 l0 x11_1).f2.f2), .int .i64 0, .int .i64 0, .string (⟨#[]⟩ : ByteArray), .int .i64 0]) ?_ 5 _ rfl; (with_reducible repeat (first | refine blk_drewN ?_ _ | refine blk_drew ?_ | refine blk_alloc ?_ _)); refine blk_put (cs := #[.int .i64 ((rd_T33 l0 x11_1).f0), .int .i64 ((rd_T33 l0 x11_1).f1), .int .i64 ((rd_T33 l0 x11_1).f2.f0), .string ((rd_T33 l0 x11_1).f2.f1), .string (⟨#[]⟩ : ByteArray), .int .i64 0, .int .i64 0, .string (⟨#[]⟩ : ByteArray), .int .i64 0]) ?_ 4 _ rfl; (with_reducible repeat (first | refine blk_drewN ?_ _ | refine blk_drew ?_ | refine blk_alloc ?_ _)); refine blk_put (cs := #[.int .i64 ((rd_T33 l0 x11_1).f0), .int .i64 ((rd_T33 l0 x11_1).f1), .int .i64 ((rd_T33 l0 x11_1).f2.f0), .string (⟨#[]⟩ : ByteArray), .string (⟨#[]⟩ : ByteArray), .int .i64 0, .int .i64 0, .string (⟨#[]⟩ : ByteArray), .int .i64 0]) ?_ 3 _ rfl; (with_reducible repeat (first | refine blk_drewN ?_ _ | refine blk_drew ?_ | refine blk_alloc ?_ _)); refine blk_put (cs := #[.int .i64 ((rd_T33 l0 x11_1).f0), .int .i64 ((rd_T33 l0 x11_1).f1), .int .i64 0, .string (⟨#[]⟩ : ByteArray), .string (⟨#[]⟩ : ByteArray), .int .i64 0, .int .i64 0, .string (⟨#[]⟩ : ByteArray), .int .i64 0]) ?_ 2 _ rfl; (with_reducible repeat (first | refine blk_drewN ?_ _ | refine blk_drew ?_ | refine blk_alloc ?_ _)); refine blk_put (cs := #[.int .i64 ((rd_T33 l0 x11_1).f0), .int .i64 0, .int .i64 0, .string (⟨#[]⟩ : ByteArray), .string (⟨#[]⟩ : ByteArray), .int .i64 0, .int .i64 0, .string (⟨#[]⟩ : ByteArray), .int .i64 0]) ?_ 1 _ rfl; (with_reducible repeat (first | refine blk_drewN ?_ _ | refine blk_drew ?_ | refine blk_alloc ?_ _)); refine blk_put (cs := #[.int .i64 0, .int .i64 0, .int .i64 0, .string (⟨#[]⟩ : ByteArray), .string (⟨#[]⟩ : ByteArray), .int .i64 0, .int .i64 0, .string (⟨#[]⟩ : ByteArray), .int .i64 0]) ?_ 0 _ rfl; (with_reducible repeat (first | refine blk_drewN ?_ _ | refine blk_drew ?_ | refine blk_alloc ?_ _)); exact BK397.out) hg (Kd.R_away HO_5.out (fun _ hk => hk.2))); have n1_ := Aside0.mk (hb); have n2_ := Aside0.mk (ho); clear BK397; clear HB; clear HO_5; have BK397 := n0_; have HB := n1_; have HO400 := n2_; clear n0_ n1_ n2_; clear ho hb hg hat))
                  go_roundg k1
                  case measure => have := HK1.out; omega
                  case rel => exact ⟨(y398), (wrap64 (x11_1 + 1)), (by first | rfl | (simp; done) | (simp [*]; done)), H', ⟨by have := HK1.out; omega⟩, ⟨by (with_reducible repeat (first | apply Kd.R_alloc | apply Kd.R_drewN | apply Kd.R_drew)); exact Kd.R_mono HO400.out (fun _ hk => trivial)⟩, ⟨by repeat (first | (with_reducible first | exact HB.out | apply below_alloc | apply pw_below_drewN | apply below_drew1 | refine below_set ?_ GE397.out) | exact HB.out)⟩⟩
                · rw [if_neg c10] at H
                  exact absurd H (by simp)
              · rw [if_neg c9] at H
                have c9b0 : (((rd_T33 l0 x11_1).f1) == a1) = false := beq_eq_false_iff_ne.mpr c9
                have c9b1 : (((rd_T33 l0 x11_1).f1) != a1) = true := bne_iff_ne.mpr c9
                have H' := Aside0.mk H
                clear H
                have p396 : 0 ≤ (x11_1 : Int) := of_decide_eq_true (by first | (with_reducible assumption) | assumption)
                have q396 : x11_1 < (l0.length : Int) := of_decide_eq_true (by first | (with_reducible assumption) | assumption)
                obtain ⟨ad396, e396, hx396_0, hx396_1, hx396_2, hx396_3, hx396_4, hx396_5, hx396_6, hx396_7, hx396_8⟩ := at_T33 HR0.out x11_1 p396 q396
                cases e396
                replace hx396_0 := (HB.out.cell (World.block_lt_of_cell? w _ hx396_0)).trans hx396_0
                replace hx396_1 := (HB.out.cell (World.block_lt_of_cell? w _ hx396_1)).trans hx396_1
                replace hx396_2 := (HB.out.cell (World.block_lt_of_cell? w _ hx396_2)).trans hx396_2
                replace hx396_3 := (HB.out.cell (World.block_lt_of_cell? w _ hx396_3)).trans hx396_3
                replace hx396_4 := (HB.out.cell (World.block_lt_of_cell? w _ hx396_4)).trans hx396_4
                replace hx396_5 := (HB.out.cell (World.block_lt_of_cell? w _ hx396_5)).trans hx396_5
                replace hx396_6 := (HB.out.cell (World.block_lt_of_cell? w _ hx396_6)).trans hx396_6
                replace hx396_7 := (HB.out.cell (World.block_lt_of_cell? w _ hx396_7)).trans hx396_7
                replace hx396_8 := (HB.out.cell (World.block_lt_of_cell? w _ hx396_8)).trans hx396_8
                replace p396 := eq_true p396
                replace q396 := eq_true q396
                go_wp2_with (first | ((with_reducible refine gate_dst (N := 7) rfl ?_); refine box_event ?hg (N := 7) ?hd (cs := #[.int .i64 0, .int .i64 0, .int .i64 0, .string (⟨#[]⟩ : ByteArray), .string (⟨#[]⟩ : ByteArray), .int .i64 0, .int .i64 0, .string (⟨#[]⟩ : ByteArray), .int .i64 0]) (t := 33) ?hr ?_; (case hd => rfl); (case hg => rfl); (case hr => first | (go_simp; done) | (go_simp; rfl)); intro gb397 hg w14 hbox hb; have n0_ := Aside0.mk (Kd.R_below (Kd.R_elderB (by (with_reducible repeat (first | apply Kd.R_alloc | apply Kd.R_drewN | apply Kd.R_drew)); exact HO_5.out) gb397 (Nat.le_of_eq hg.symm)) hb); have n1_ := Aside0.mk (below_step (by repeat (first | (with_reducible first | exact HB.out | apply below_alloc | apply pw_below_drewN | apply below_drew1) | exact HB.out)) hb); have n2_ := Aside0.mk (hbox); have n3_ := Aside0.mk ((by rw [hg]; exact (below_size (by repeat (first | (with_reducible first | exact HB.out | apply below_alloc | apply pw_below_drewN | apply below_drew1) | exact HB.out))) : w.heap.size ≤ gb397)); have n4_ := Aside0.mk ((by rw [hg]; exact (below_size (by repeat (first | (with_reducible first | exact HB.out | apply below_alloc | apply pw_below_drewN | apply below_drew1) | exact HB.out))) : w.heap.size ≤ gb397)); clear HO_5; clear HB; have HO_5 := n0_; have HB := n1_; have BK397 := n2_; have GW397 := n3_; have GE397 := n4_; clear n0_ n1_ n2_ n3_ n4_; clear hb hbox hg; have hcz15_0 : w14.cell? ⟨gb397, 0, none⟩ = some (.int .i64 0) := (blk_cell BK397.out 0).trans rfl; have hcz15_1 : w14.cell? ⟨gb397, 1, none⟩ = some (.int .i64 0) := (blk_cell BK397.out 1).trans rfl; have hcz15_2 : w14.cell? ⟨gb397, 2, none⟩ = some (.int .i64 0) := (blk_cell BK397.out 2).trans rfl; have hcz15_3 : w14.cell? ⟨gb397, 3, none⟩ = some (.string (⟨#[]⟩ : ByteArray)) := (blk_cell BK397.out 3).trans rfl; have hcz15_4 : w14.cell? ⟨gb397, 4, none⟩ = some (.string (⟨#[]⟩ : ByteArray)) := (blk_cell BK397.out 4).trans rfl; have hcz15_5 : w14.cell? ⟨gb397, 5, none⟩ = some (.int .i64 0) := (blk_cell BK397.out 5).trans rfl; have hcz15_6 : w14.cell? ⟨gb397, 6, none⟩ = some (.int .i64 0) := (blk_cell BK397.out 6).trans rfl; have hcz15_7 : w14.cell? ⟨gb397, 7, none⟩ = some (.string (⟨#[]⟩ : ByteArray)) := (blk_cell BK397.out 7).trans rfl; have hcz15_8 : w14.cell? ⟨gb397, 8, none⟩ = some (.int .i64 0) := (blk_cell BK397.out 8).trans rfl; have hfz15_0 := blk_frozen BK397.out 0; have hfz15_1 := blk_frozen BK397.out 1; have hfz15_2 := blk_frozen BK397.out 2; have hfz15_3 := blk_frozen BK397.out 3; have hfz15_4 := blk_frozen BK397.out 4; have hfz15_5 := blk_frozen BK397.out 5; have hfz15_6 := blk_frozen BK397.out 6; have hfz15_7 := blk_frozen BK397.out 7; have hfz15_8 := blk_frozen BK397.out 8))
                go_roundg k1
                case measure => have := HK1.out; omega
                case rel => exact ⟨(x5_1), (wrap64 (x11_1 + 1)), (by first | rfl | (simp; done) | (simp [*]; done)), H', ⟨by have := HK1.out; omega⟩, ⟨by (with_reducible repeat (first | apply Kd.R_alloc | apply Kd.R_drewN | apply Kd.R_drew)); exact Kd.R_mono (Kd.R_far (p := ⟨gb397, 8, none⟩) (Kd.R_far (p := ⟨gb397, 7, none⟩) (Kd.R_far (p := ⟨gb397, 6, none⟩) (Kd.R_far (p := ⟨gb397, 5, none⟩) (Kd.R_far (p := ⟨gb397, 4, none⟩) (Kd.R_far (p := ⟨gb397, 3, none⟩) (Kd.R_far (p := ⟨gb397, 2, none⟩) (Kd.R_far (p := ⟨gb397, 1, none⟩) (Kd.R_far (p := ⟨gb397, 0, none⟩) (Kd.R_mono HO_5.out (fun k_ hk => (⟨hk, hk.2⟩ : _ ∧ k_ ≠ gb397))) (fun _ hk => hk.2) (.int .i64 ((rd_T33 l0 x11_1).f0))) (fun _ hk => hk.2) (.int .i64 ((rd_T33 l0 x11_1).f1))) (fun _ hk => hk.2) (.int .i64 ((rd_T33 l0 x11_1).f2.f0))) (fun _ hk => hk.2) (.string ((rd_T33 l0 x11_1).f2.f1))) (fun _ hk => hk.2) (.string ((rd_T33 l0 x11_1).f2.f2))) (fun _ hk => hk.2) (.int .i64 ((rd_T33 l0 x11_1).f2.f3))) (fun _ hk => hk.2) (.int .i64 ((rd_T33 l0 x11_1).f2.f4))) (fun _ hk => hk.2) (.string ((rd_T33 l0 x11_1).f2.f5))) (fun _ hk => hk.2) (.int .i64 ((rd_T33 l0 x11_1).f3))) (fun _ hk => trivial)⟩, ⟨by repeat (first | (with_reducible first | exact HB.out | apply below_alloc | apply pw_below_drewN | apply below_drew1 | refine below_set ?_ GE397.out) | exact HB.out)⟩⟩
            · rw [if_neg c8] at H
              have c8b0 : (((rd_T33 l0 x11_1).f0) == 1) = false := beq_eq_false_iff_ne.mpr c8
              have c8b1 : (((rd_T33 l0 x11_1).f0) != 1) = true := bne_iff_ne.mpr c8
              by_cases c16 : ((rd_T33 l0 x11_1).f0) = 2
              · rw [if_pos c16] at H
                have c16b0 : (((rd_T33 l0 x11_1).f0) == 2) = true := beq_iff_eq.mpr c16
                have c16b1 : (((rd_T33 l0 x11_1).f0) != 2) = false := bne_eq_false_iff_eq.mpr c16
                clear c16
                by_cases c17 : ((rd_T33 l0 x11_1).f1) = a1
                · rw [if_pos c17] at H
                  have c17b0 : (((rd_T33 l0 x11_1).f1) == a1) = true := beq_iff_eq.mpr c17
                  have c17b1 : (((rd_T33 l0 x11_1).f1) != a1) = false := bne_eq_false_iff_eq.mpr c17
                  clear c17
                  by_cases c18 : x5_1.length < 1466015503701
                  · rw [if_pos c18] at H
                    have LMc18 := Aside0.mk c18
                    clear c18
                    obtain ⟨y401, hy401⟩ : ∃ y_ : List (S33), y_ = (x5_1 ++ [(⟨(rd_T33 l0 x11_1).f0, (rd_T33 l0 x11_1).f1, (⟨(rd_T33 l0 x11_1).f2.f0, (rd_T33 l0 x11_1).f2.f1, (rd_T33 l0 x11_1).f2.f2, (rd_T33 l0 x11_1).f2.f3, (rd_T33 l0 x11_1).f2.f4, (rd_T33 l0 x11_1).f2.f5⟩ : S31), (rd_T33 l0 x11_1).f3⟩ : S33)]) := ⟨_, rfl⟩
                    replace H : (impl_OnlyOf.l0 k1 a1 y401 l0 (l0.length : Int) (wrap64 (x11_1 + 1))) = some r := by first | (rw [hy401]; with_reducible exact H) | (have H2_ := (Option.bind_some _ _).symm.trans H; rw [hy401]; with_reducible exact H2_) | (have H2_ := (Option.bind_some _ _).symm.trans H; with_reducible exact H2_) | with_reducible exact H | (rw [hy401]; exact H) | exact H
                    have Ny401 := Aside0.mk hy401
                    clear hy401
                    have H' := Aside0.mk H
                    clear H
                    have p396 : 0 ≤ (x11_1 : Int) := of_decide_eq_true (by first | (with_reducible assumption) | assumption)
                    have q396 : x11_1 < (l0.length : Int) := of_decide_eq_true (by first | (with_reducible assumption) | assumption)
                    obtain ⟨ad396, e396, hx396_0, hx396_1, hx396_2, hx396_3, hx396_4, hx396_5, hx396_6, hx396_7, hx396_8⟩ := at_T33 HR0.out x11_1 p396 q396
                    cases e396
                    replace hx396_0 := (HB.out.cell (World.block_lt_of_cell? w _ hx396_0)).trans hx396_0
                    replace hx396_1 := (HB.out.cell (World.block_lt_of_cell? w _ hx396_1)).trans hx396_1
                    replace hx396_2 := (HB.out.cell (World.block_lt_of_cell? w _ hx396_2)).trans hx396_2
                    replace hx396_3 := (HB.out.cell (World.block_lt_of_cell? w _ hx396_3)).trans hx396_3
                    replace hx396_4 := (HB.out.cell (World.block_lt_of_cell? w _ hx396_4)).trans hx396_4
                    replace hx396_5 := (HB.out.cell (World.block_lt_of_cell? w _ hx396_5)).trans hx396_5
                    replace hx396_6 := (HB.out.cell (World.block_lt_of_cell? w _ hx396_6)).trans hx396_6
                    replace hx396_7 := (HB.out.cell (World.block_lt_of_cell? w _ hx396_7)).trans hx396_7
                    replace hx396_8 := (HB.out.cell (World.block_lt_of_cell? w _ hx396_8)).trans hx396_8
                    replace p396 := eq_true p396
                    replace q396 := eq_true q396
                    go_wp2_with (first | ((with_reducible refine gate_dst (N := 7) rfl ?_); refine box_event ?hg (N := 7) ?hd (cs := #[.int .i64 0, .int .i64 0, .int .i64 0, .string (⟨#[]⟩ : ByteArray), .string (⟨#[]⟩ : ByteArray), .int .i64 0, .int .i64 0, .string (⟨#[]⟩ : ByteArray), .int .i64 0]) (t := 33) ?hr ?_; (case hd => rfl); (case hg => rfl); (case hr => first | (go_simp; done) | (go_simp; rfl)); intro gb397 hg w19 hbox hb; have n0_ := Aside0.mk (Kd.R_below (Kd.R_elderB (by (with_reducible repeat (first | apply Kd.R_alloc | apply Kd.R_drewN | apply Kd.R_drew)); exact HO_5.out) gb397 (Nat.le_of_eq hg.symm)) hb); have n1_ := Aside0.mk (below_step (by repeat (first | (with_reducible first | exact HB.out | apply below_alloc | apply pw_below_drewN | apply below_drew1) | exact HB.out)) hb); have n2_ := Aside0.mk (hbox); have n3_ := Aside0.mk ((by rw [hg]; exact (below_size (by repeat (first | (with_reducible first | exact HB.out | apply below_alloc | apply pw_below_drewN | apply below_drew1) | exact HB.out))) : w.heap.size ≤ gb397)); have n4_ := Aside0.mk ((by rw [hg]; exact (below_size (by repeat (first | (with_reducible first | exact HB.out | apply below_alloc | apply pw_below_drewN | apply below_drew1) | exact HB.out))) : w.heap.size ≤ gb397)); clear HO_5; clear HB; have HO_5 := n0_; have HB := n1_; have BK397 := n2_; have GW397 := n3_; have GE397 := n4_; clear n0_ n1_ n2_ n3_ n4_; clear hb hbox hg; have hcz20_0 : w19.cell? ⟨gb397, 0, none⟩ = some (.int .i64 0) := (blk_cell BK397.out 0).trans rfl; have hcz20_1 : w19.cell? ⟨gb397, 1, none⟩ = some (.int .i64 0) := (blk_cell BK397.out 1).trans rfl; have hcz20_2 : w19.cell? ⟨gb397, 2, none⟩ = some (.int .i64 0) := (blk_cell BK397.out 2).trans rfl; have hcz20_3 : w19.cell? ⟨gb397, 3, none⟩ = some (.string (⟨#[]⟩ : ByteArray)) := (blk_cell BK397.out 3).trans rfl; have hcz20_4 : w19.cell? ⟨gb397, 4, none⟩ = some (.string (⟨#[]⟩ : ByteArray)) := (blk_cell BK397.out 4).trans rfl; have hcz20_5 : w19.cell? ⟨gb397, 5, none⟩ = some (.int .i64 0) := (blk_cell BK397.out 5).trans rfl; have hcz20_6 : w19.cell? ⟨gb397, 6, none⟩ = some (.int .i64 0) := (blk_cell BK397.out 6).trans rfl; have hcz20_7 : w19.cell? ⟨gb397, 7, none⟩ = some (.string (⟨#[]⟩ : ByteArray)) := (blk_cell BK397.out 7).trans rfl; have hcz20_8 : w19.cell? ⟨gb397, 8, none⟩ = some (.int .i64 0) := (blk_cell BK397.out 8).trans rfl; have hfz20_0 := blk_frozen BK397.out 0; have hfz20_1 := blk_frozen BK397.out 1; have hfz20_2 := blk_frozen BK397.out 2; have hfz20_3 := blk_frozen BK397.out 3; have hfz20_4 := blk_frozen BK397.out 4; have hfz20_5 := blk_frozen BK397.out 5; have hfz20_6 := blk_frozen BK397.out 6; have hfz20_7 := blk_frozen BK397.out 7; have hfz20_8 := blk_frozen BK397.out 8) | ((with_reducible refine gate_builtin (b := .append) (xs := #[.tmp 29, .tmp 31]) rfl ?_); at_builtin; refine Kd.R_append k33 (w0 := w) w.heap.size rfl (.tmp 29) (.tmp 31) 24 33 (.agg #[(.int .i64 0), (.int .i64 0), (.int .i64 0), (.string ⟨#[]⟩), (.string ⟨#[]⟩), (.int .i64 0), (.int .i64 0), (.string ⟨#[]⟩), (.int .i64 0)]) 96 rfl Try.underlying24 info33 rfl (by decide) (by omega) u5 x5_1 (⟨(rd_T33 l0 x11_1).f0, (rd_T33 l0 x11_1).f1, (⟨(rd_T33 l0 x11_1).f2.f0, (rd_T33 l0 x11_1).f2.f1, (rd_T33 l0 x11_1).f2.f2, (rd_T33 l0 x11_1).f2.f3, (rd_T33 l0 x11_1).f2.f4, (rd_T33 l0 x11_1).f2.f5⟩ : S31), (rd_T33 l0 x11_1).f3⟩ : S33) [.int .i64 ((rd_T33 l0 x11_1).f0), .int .i64 ((rd_T33 l0 x11_1).f1), .int .i64 ((rd_T33 l0 x11_1).f2.f0), .string ((rd_T33 l0 x11_1).f2.f1), .string ((rd_T33 l0 x11_1).f2.f2), .int .i64 ((rd_T33 l0 x11_1).f2.f3), .int .i64 ((rd_T33 l0 x11_1).f2.f4), .string ((rd_T33 l0 x11_1).f2.f5), .int .i64 ((rd_T33 l0 x11_1).f3)] (fun k_ => k_ ≠ gb397) (fun _ => False) rfl (by first | (go_simp; done) | (go_simp; rfl)) ?aP (fun _ hk => hk.elim) ?aF ?aO ?aB ?aS ?aL ?_; (case aP => exact k33_mkM _ _ _ (⟨(rd_T33 l0 x11_1).f0, (rd_T33 l0 x11_1).f1, (⟨(rd_T33 l0 x11_1).f2.f0, (rd_T33 l0 x11_1).f2.f1, (rd_T33 l0 x11_1).f2.f2, (rd_T33 l0 x11_1).f2.f3, (rd_T33 l0 x11_1).f2.f4, (rd_T33 l0 x11_1).f2.f5⟩ : S31), (rd_T33 l0 x11_1).f3⟩ : S33)); (case aB => exact (by repeat (first | (with_reducible first | exact HB.out | apply below_alloc | apply pw_below_drewN | apply below_drew1 | refine below_set ?_ GE397.out) | exact HB.out))); (case aF => exact (fun k_ hk => Kd.freshB (g := gb397) (o := .cells #[.int .i64 ((rd_T33 l0 x11_1).f0), .int .i64 ((rd_T33 l0 x11_1).f1), .int .i64 ((rd_T33 l0 x11_1).f2.f0), .string ((rd_T33 l0 x11_1).f2.f1), .string ((rd_T33 l0 x11_1).f2.f2), .int .i64 ((rd_T33 l0 x11_1).f2.f3), .int .i64 ((rd_T33 l0 x11_1).f2.f4), .string ((rd_T33 l0 x11_1).f2.f5), .int .i64 ((rd_T33 l0 x11_1).f3)] 33 (0, 0)) (by (with_reducible repeat (first | refine blk_drewN ?_ _ | refine blk_drew ?_ | refine blk_alloc ?_ _)); refine blk_put (cs := #[.int .i64 ((rd_T33 l0 x11_1).f0), .int .i64 ((rd_T33 l0 x11_1).f1), .int .i64 ((rd_T33 l0 x11_1).f2.f0), .string ((rd_T33 l0 x11_1).f2.f1), .string ((rd_T33 l0 x11_1).f2.f2), .int .i64 ((rd_T33 l0 x11_1).f2.f3), .int .i64 ((rd_T33 l0 x11_1).f2.f4), .string ((rd_T33 l0 x11_1).f2.f5), .int .i64 0]) ?_ 8 _ rfl; (with_reducible repeat (first | refine blk_drewN ?_ _ | refine blk_drew ?_ | refine blk_alloc ?_ _)); refine blk_put (cs := #[.int .i64 ((rd_T33 l0 x11_1).f0), .int .i64 ((rd_T33 l0 x11_1).f1), .int .i64 ((rd_T33 l0 x11_1).f2.f0), .string ((rd_T33 l0 x11_1).f2.f1), .string ((rd_T33 l0 x11_1).f2.f2), .int .i64 ((rd_T33 l0 x11_1).f2.f3), .int .i64 ((rd_T33 l0 x11_1).f2.f4), .string (⟨#[]⟩ : ByteArray), .int .i64 0]) ?_ 7 _ rfl; (with_reducible repeat (first | refine blk_drewN ?_ _ | refine blk_drew ?_ | refine blk_alloc ?_ _)); refine blk_put (cs := #[.int .i64 ((rd_T33 l0 x11_1).f0), .int .i64 ((rd_T33 l0 x11_1).f1), .int .i64 ((rd_T33 l0 x11_1).f2.f0), .string ((rd_T33 l0 x11_1).f2.f1), .string ((rd_T33 l0 x11_1).f2.f2), .int .i64 ((rd_T33 l0 x11_1).f2.f3), .int .i64 0, .string (⟨#[]⟩ : ByteArray), .int .i64 0]) ?_ 6 _ rfl; (with_reducible repeat (first | refine blk_drewN ?_ _ | refine blk_drew ?_ | refine blk_alloc ?_ _)); refine blk_put (cs := #[.int .i64 ((rd_T33 l0 x11_1).f0), .int .i64 ((rd_T33 l0 x11_1).f1), .int .i64 ((rd_T33 l0 x11_1).f2.f0), .string ((rd_T33 l0 x11_1).f2.f1), .string ((rd_T33 l0 x11_1).f2.f2), .int .i64 0, .int .i64 0, .string (⟨#[]⟩ : ByteArray), .int .i64 0]) ?_ 5 _ rfl; (with_reducible repeat (first | refine blk_drewN ?_ _ | refine blk_drew ?_ | refine blk_alloc ?_ _)); refine blk_put (cs := #[.int .i64 ((rd_T33 l0 x11_1).f0), .int .i64 ((rd_T33 l0 x11_1).f1), .int .i64 ((rd_T33 l0 x11_1).f2.f0), .string ((rd_T33 l0 x11_1).f2.f1), .string (⟨#[]⟩ : ByteArray), .int .i64 0, .int .i64 0, .string (⟨#[]⟩ : ByteArray), .int .i64 0]) ?_ 4 _ rfl; (with_reducible repeat (first | refine blk_drewN ?_ _ | refine blk_drew ?_ | refine blk_alloc ?_ _)); refine blk_put (cs := #[.int .i64 ((rd_T33 l0 x11_1).f0), .int .i64 ((rd_T33 l0 x11_1).f1), .int .i64 ((rd_T33 l0 x11_1).f2.f0), .string (⟨#[]⟩ : ByteArray), .string (⟨#[]⟩ : ByteArray), .int .i64 0, .int .i64 0, .string (⟨#[]⟩ : ByteArray), .int .i64 0]) ?_ 3 _ rfl; (with_reducible repeat (first | refine blk_drewN ?_ _ | refine blk_drew ?_ | refine blk_alloc ?_ _)); refine blk_put (cs := #[.int .i64 ((rd_T33 l0 x11_1).f0), .int .i64 ((rd_T33 l0 x11_1).f1), .int .i64 0, .string (⟨#[]⟩ : ByteArray), .string (⟨#[]⟩ : ByteArray), .int .i64 0, .int .i64 0, .string (⟨#[]⟩ : ByteArray), .int .i64 0]) ?_ 2 _ rfl; (with_reducible repeat (first | refine blk_drewN ?_ _ | refine blk_drew ?_ | refine blk_alloc ?_ _)); refine blk_put (cs := #[.int .i64 ((rd_T33 l0 x11_1).f0), .int .i64 0, .int .i64 0, .string (⟨#[]⟩ : ByteArray), .string (⟨#[]⟩ : ByteArray), .int .i64 0, .int .i64 0, .string (⟨#[]⟩ : ByteArray), .int .i64 0]) ?_ 1 _ rfl; (with_reducible repeat (first | refine blk_drewN ?_ _ | refine blk_drew ?_ | refine blk_alloc ?_ _)); refine blk_put (cs := #[.int .i64 0, .int .i64 0, .int .i64 0, .string (⟨#[]⟩ : ByteArray), .string (⟨#[]⟩ : ByteArray), .int .i64 0, .int .i64 0, .string (⟨#[]⟩ : ByteArray), .int .i64 0]) ?_ 0 _ rfl; (with_reducible repeat (first | refine blk_drewN ?_ _ | refine blk_drew ?_ | refine blk_alloc ?_ _)); exact BK397.out) k_ hk)); (case aO => exact (by (with_reducible repeat (first | apply Kd.R_alloc | apply Kd.R_drewN | apply Kd.R_drew)); exact Kd.R_mono (Kd.R_far (p := ⟨gb397, 8, none⟩) (Kd.R_far (p := ⟨gb397, 7, none⟩) (Kd.R_far (p := ⟨gb397, 6, none⟩) (Kd.R_far (p := ⟨gb397, 5, none⟩) (Kd.R_far (p := ⟨gb397, 4, none⟩) (Kd.R_far (p := ⟨gb397, 3, none⟩) (Kd.R_far (p := ⟨gb397, 2, none⟩) (Kd.R_far (p := ⟨gb397, 1, none⟩) (Kd.R_far (p := ⟨gb397, 0, none⟩) (Kd.R_mono HO_5.out (fun k_ hk => (⟨hk, hk.2⟩ : _ ∧ k_ ≠ gb397))) (fun _ hk => hk.2) (.int .i64 ((rd_T33 l0 x11_1).f0))) (fun _ hk => hk.2) (.int .i64 ((rd_T33 l0 x11_1).f1))) (fun _ hk => hk.2) (.int .i64 ((rd_T33 l0 x11_1).f2.f0))) (fun _ hk => hk.2) (.string ((rd_T33 l0 x11_1).f2.f1))) (fun _ hk => hk.2) (.string ((rd_T33 l0 x11_1).f2.f2))) (fun _ hk => hk.2) (.int .i64 ((rd_T33 l0 x11_1).f2.f3))) (fun _ hk => hk.2) (.int .i64 ((rd_T33 l0 x11_1).f2.f4))) (fun _ hk => hk.2) (.string ((rd_T33 l0 x11_1).f2.f5))) (fun _ hk => hk.2) (.int .i64 ((rd_T33 l0 x11_1).f3))) (fun _ hk => hk.1.2))); (case aS => exact (below_size (by repeat (first | (with_reducible first | exact HB.out | apply below_alloc | apply pw_below_drewN | apply below_drew1 | refine below_set ?_ GE397.out) | exact HB.out)))); (case aL => have := LMc18.out; omega); intro v402 w21 ho hb hg hat; rw [← Ny401.out] at ho; have n0_ := Aside0.mk (blk_grown (g := gb397) (o := .cells #[.int .i64 ((rd_T33 l0 x11_1).f0), .int .i64 ((rd_T33 l0 x11_1).f1), .int .i64 ((rd_T33 l0 x11_1).f2.f0), .string ((rd_T33 l0 x11_1).f2.f1), .string ((rd_T33 l0 x11_1).f2.f2), .int .i64 ((rd_T33 l0 x11_1).f2.f3), .int .i64 ((rd_T33 l0 x11_1).f2.f4), .string ((rd_T33 l0 x11_1).f2.f5), .int .i64 ((rd_T33 l0 x11_1).f3)] 33 (0, 0)) (by (with_reducible repeat (first | refine blk_drewN ?_ _ | refine blk_drew ?_ | refine blk_alloc ?_ _)); refine blk_put (cs := #[.int .i64 ((rd_T33 l0 x11_1).f0), .int .i64 ((rd_T33 l0 x11_1).f1), .int .i64 ((rd_T33 l0 x11_1).f2.f0), .string ((rd_T33 l0 x11_1).f2.f1), .string ((rd_T33 l0 x11_1).f2.f2), .int .i64 ((rd_T33 l0 x11_1).f2.f3), .int .i64 ((rd_T33 l0 x11_1).f2.f4), .string ((rd_T33 l0 x11_1).f2.f5), .int .i64 0]) ?_ 8 _ rfl; (with_reducible repeat (first | refine blk_drewN ?_ _ | refine blk_drew ?_ | refine blk_alloc ?_ _)); refine blk_put (cs := #[.int .i64 ((rd_T33 l0 x11_1).f0), .int .i64 ((rd_T33 l0 x11_1).f1), .int .i64 ((rd_T33 l0 x11_1).f2.f0), .string ((rd_T33 l0 x11_1).f2.f1), .string ((rd_T33 l0 x11_1).f2.f2), .int .i64 ((rd_T33 l0 x11_1).f2.f3), .int .i64 ((rd_T33 l0 x11_1).f2.f4), .string (⟨#[]⟩ : ByteArray), .int .i64 0]) ?_ 7 _ rfl; (with_reducible repeat (first | refine blk_drewN ?_ _ | refine blk_drew ?_ | refine blk_alloc ?_ _)); refine blk_put (cs := #[.int .i64 ((rd_T33 l0 x11_1).f0), .int .i64 ((rd_T33 l0 x11_1).f1), .int .i64 ((rd_T33 l0 x11_1).f2.f0), .string ((rd_T33 l0 x11_1).f2.f1), .string ((rd_T33 l0 x11_1).f2.f2), .int .i64 ((rd_T33 l0 x11_1).f2.f3), .int .i64 0, .string (⟨#[]⟩ : ByteArray), .int .i64 0]) ?_ 6 _ rfl; (with_reducible repeat (first | refine blk_drewN ?_ _ | refine blk_drew ?_ | refine blk_alloc ?_ _)); refine blk_put (cs := #[.int .i64 ((rd_T33 l0 x11_1).f0), .int .i64 ((rd_T33 l0 x11_1).f1), .int .i64 ((rd_T33 l0 x11_1).f2.f0), .string ((rd_T33 l0 x11_1).f2.f1), .string ((rd_T33 l0 x11_1).f2.f2), .int .i64 0, .int .i64 0, .string (⟨#[]⟩ : ByteArray), .int .i64 0]) ?_ 5 _ rfl; (with_reducible repeat (first | refine blk_drewN ?_ _ | refine blk_drew ?_ | refine blk_alloc ?_ _)); refine blk_put (cs := #[.int .i64 ((rd_T33 l0 x11_1).f0), .int .i64 ((rd_T33 l0 x11_1).f1), .int .i64 ((rd_T33 l0 x11_1).f2.f0), .string ((rd_T33 l0 x11_1).f2.f1), .string (⟨#[]⟩ : ByteArray), .int .i64 0, .int .i64 0, .string (⟨#[]⟩ : ByteArray), .int .i64 0]) ?_ 4 _ rfl; (with_reducible repeat (first | refine blk_drewN ?_ _ | refine blk_drew ?_ | refine blk_alloc ?_ _)); refine blk_put (cs := #[.int .i64 ((rd_T33 l0 x11_1).f0), .int .i64 ((rd_T33 l0 x11_1).f1), .int .i64 ((rd_T33 l0 x11_1).f2.f0), .string (⟨#[]⟩ : ByteArray), .string (⟨#[]⟩ : ByteArray), .int .i64 0, .int .i64 0, .string (⟨#[]⟩ : ByteArray), .int .i64 0]) ?_ 3 _ rfl; (with_reducible repeat (first | refine blk_drewN ?_ _ | refine blk_drew ?_ | refine blk_alloc ?_ _)); refine blk_put (cs := #[.int .i64 ((rd_T33 l0 x11_1).f0), .int .i64 ((rd_T33 l0 x11_1).f1), .int .i64 0, .string (⟨#[]⟩ : ByteArray), .string (⟨#[]⟩ : ByteArray), .int .i64 0, .int .i64 0, .string (⟨#[]⟩ : ByteArray), .int .i64 0]) ?_ 2 _ rfl; (with_reducible repeat (first | refine blk_drewN ?_ _ | refine blk_drew ?_ | refine blk_alloc ?_ _)); refine blk_put (cs := #[.int .i64 ((rd_T33 l0 x11_1).f0), .int .i64 0, .int .i64 0, .string (⟨#[]⟩ : ByteArray), .string (⟨#[]⟩ : ByteArray), .int .i64 0, .int .i64 0, .string (⟨#[]⟩ : ByteArray), .int .i64 0]) ?_ 1 _ rfl; (with_reducible repeat (first | refine blk_drewN ?_ _ | refine blk_drew ?_ | refine blk_alloc ?_ _)); refine blk_put (cs := #[.int .i64 0, .int .i64 0, .int .i64 0, .string (⟨#[]⟩ : ByteArray), .string (⟨#[]⟩ : ByteArray), .int .i64 0, .int .i64 0, .string (⟨#[]⟩ : ByteArray), .int .i64 0]) ?_ 0 _ rfl; (with_reducible repeat (first | refine blk_drewN ?_ _ | refine blk_drew ?_ | refine blk_alloc ?_ _)); exact BK397.out) hg (Kd.R_away HO_5.out (fun _ hk => hk.2))); have n1_ := Aside0.mk (hb); have n2_ := Aside0.mk (ho); clear BK397; clear HB; clear HO_5; have BK397 := n0_; have HB := n1_; have HO403 := n2_; clear n0_ n1_ n2_; clear ho hb hg hat))
                    go_roundg k1
                    case measure => have := HK1.out; omega
                    case rel => exact ⟨(y401), (wrap64 (x11_1 + 1)), (by first | rfl | (simp; done) | (simp [*]; done)), H', ⟨by have := HK1.out; omega⟩, ⟨by (with_reducible repeat (first | apply Kd.R_alloc | apply Kd.R_drewN | apply Kd.R_drew)); exact Kd.R_mono HO403.out (fun _ hk => trivial)⟩, ⟨by repeat (first | (with_reducible first | exact HB.out | apply below_alloc | apply pw_below_drewN | apply below_drew1 | refine below_set ?_ GE397.out) | exact HB.out)⟩⟩
                  · rw [if_neg c18] at H
                    exact absurd H (by simp)
                · rw [if_neg c17] at H
                  have c17b0 : (((rd_T33 l0 x11_1).f1) == a1) = false := beq_eq_false_iff_ne.mpr c17
                  have c17b1 : (((rd_T33 l0 x11_1).f1) != a1) = true := bne_iff_ne.mpr c17
                  have H' := Aside0.mk H
                  clear H
                  have p396 : 0 ≤ (x11_1 : Int) := of_decide_eq_true (by first | (with_reducible assumption) | assumption)
                  have q396 : x11_1 < (l0.length : Int) := of_decide_eq_true (by first | (with_reducible assumption) | assumption)
                  obtain ⟨ad396, e396, hx396_0, hx396_1, hx396_2, hx396_3, hx396_4, hx396_5, hx396_6, hx396_7, hx396_8⟩ := at_T33 HR0.out x11_1 p396 q396
                  cases e396
                  replace hx396_0 := (HB.out.cell (World.block_lt_of_cell? w _ hx396_0)).trans hx396_0
                  replace hx396_1 := (HB.out.cell (World.block_lt_of_cell? w _ hx396_1)).trans hx396_1
                  replace hx396_2 := (HB.out.cell (World.block_lt_of_cell? w _ hx396_2)).trans hx396_2
                  replace hx396_3 := (HB.out.cell (World.block_lt_of_cell? w _ hx396_3)).trans hx396_3
                  replace hx396_4 := (HB.out.cell (World.block_lt_of_cell? w _ hx396_4)).trans hx396_4
                  replace hx396_5 := (HB.out.cell (World.block_lt_of_cell? w _ hx396_5)).trans hx396_5
                  replace hx396_6 := (HB.out.cell (World.block_lt_of_cell? w _ hx396_6)).trans hx396_6
                  replace hx396_7 := (HB.out.cell (World.block_lt_of_cell? w _ hx396_7)).trans hx396_7
                  replace hx396_8 := (HB.out.cell (World.block_lt_of_cell? w _ hx396_8)).trans hx396_8
                  replace p396 := eq_true p396
                  replace q396 := eq_true q396
                  go_wp2_with (first | ((with_reducible refine gate_dst (N := 7) rfl ?_); refine box_event ?hg (N := 7) ?hd (cs := #[.int .i64 0, .int .i64 0, .int .i64 0, .string (⟨#[]⟩ : ByteArray), .string (⟨#[]⟩ : ByteArray), .int .i64 0, .int .i64 0, .string (⟨#[]⟩ : ByteArray), .int .i64 0]) (t := 33) ?hr ?_; (case hd => rfl); (case hg => rfl); (case hr => first | (go_simp; done) | (go_simp; rfl)); intro gb397 hg w22 hbox hb; have n0_ := Aside0.mk (Kd.R_below (Kd.R_elderB (by (with_reducible repeat (first | apply Kd.R_alloc | apply Kd.R_drewN | apply Kd.R_drew)); exact HO_5.out) gb397 (Nat.le_of_eq hg.symm)) hb); have n1_ := Aside0.mk (below_step (by repeat (first | (with_reducible first | exact HB.out | apply below_alloc | apply pw_below_drewN | apply below_drew1) | exact HB.out)) hb); have n2_ := Aside0.mk (hbox); have n3_ := Aside0.mk ((by rw [hg]; exact (below_size (by repeat (first | (with_reducible first | exact HB.out | apply below_alloc | apply pw_below_drewN | apply below_drew1) | exact HB.out))) : w.heap.size ≤ gb397)); have n4_ := Aside0.mk ((by rw [hg]; exact (below_size (by repeat (first | (with_reducible first | exact HB.out | apply below_alloc | apply pw_below_drewN | apply below_drew1) | exact HB.out))) : w.heap.size ≤ gb397)); clear HO_5; clear HB; have HO_5 := n0_; have HB := n1_; have BK397 := n2_; have GW397 := n3_; have GE397 := n4_; clear n0_ n1_ n2_ n3_ n4_; clear hb hbox hg; have hcz23_0 : w22.cell? ⟨gb397, 0, none⟩ = some (.int .i64 0) := (blk_cell BK397.out 0).trans rfl; have hcz23_1 : w22.cell? ⟨gb397, 1, none⟩ = some (.int .i64 0) := (blk_cell BK397.out 1).trans rfl; have hcz23_2 : w22.cell? ⟨gb397, 2, none⟩ = some (.int .i64 0) := (blk_cell BK397.out 2).trans rfl; have hcz23_3 : w22.cell? ⟨gb397, 3, none⟩ = some (.string (⟨#[]⟩ : ByteArray)) := (blk_cell BK397.out 3).trans rfl; have hcz23_4 : w22.cell? ⟨gb397, 4, none⟩ = some (.string (⟨#[]⟩ : ByteArray)) := (blk_cell BK397.out 4).trans rfl; have hcz23_5 : w22.cell? ⟨gb397, 5, none⟩ = some (.int .i64 0) := (blk_cell BK397.out 5).trans rfl; have hcz23_6 : w22.cell? ⟨gb397, 6, none⟩ = some (.int .i64 0) := (blk_cell BK397.out 6).trans rfl; have hcz23_7 : w22.cell? ⟨gb397, 7, none⟩ = some (.string (⟨#[]⟩ : ByteArray)) := (blk_cell BK397.out 7).trans rfl; have hcz23_8 : w22.cell? ⟨gb397, 8, none⟩ = some (.int .i64 0) := (blk_cell BK397.out 8).trans rfl; have hfz23_0 := blk_frozen BK397.out 0; have hfz23_1 := blk_frozen BK397.out 1; have hfz23_2 := blk_frozen BK397.out 2; have hfz23_3 := blk_frozen BK397.out 3; have hfz23_4 := blk_frozen BK397.out 4; have hfz23_5 := blk_frozen BK397.out 5; have hfz23_6 := blk_frozen BK397.out 6; have hfz23_7 := blk_frozen BK397.out 7; have hfz23_8 := blk_frozen BK397.out 8))
                  go_roundg k1
                  case measure => have := HK1.out; omega
                  case rel => exact ⟨(x5_1), (wrap64 (x11_1 + 1)), (by first | rfl | (simp; done) | (simp [*]; done)), H', ⟨by have := HK1.out; omega⟩, ⟨by (with_reducible repeat (first | apply Kd.R_alloc | apply Kd.R_drewN | apply Kd.R_drew)); exact Kd.R_mono (Kd.R_far (p := ⟨gb397, 8, none⟩) (Kd.R_far (p := ⟨gb397, 7, none⟩) (Kd.R_far (p := ⟨gb397, 6, none⟩) (Kd.R_far (p := ⟨gb397, 5, none⟩) (Kd.R_far (p := ⟨gb397, 4, none⟩) (Kd.R_far (p := ⟨gb397, 3, none⟩) (Kd.R_far (p := ⟨gb397, 2, none⟩) (Kd.R_far (p := ⟨gb397, 1, none⟩) (Kd.R_far (p := ⟨gb397, 0, none⟩) (Kd.R_mono HO_5.out (fun k_ hk => (⟨hk, hk.2⟩ : _ ∧ k_ ≠ gb397))) (fun _ hk => hk.2) (.int .i64 ((rd_T33 l0 x11_1).f0))) (fun _ hk => hk.2) (.int .i64 ((rd_T33 l0 x11_1).f1))) (fun _ hk => hk.2) (.int .i64 ((rd_T33 l0 x11_1).f2.f0))) (fun _ hk => hk.2) (.string ((rd_T33 l0 x11_1).f2.f1))) (fun _ hk => hk.2) (.string ((rd_T33 l0 x11_1).f2.f2))) (fun _ hk => hk.2) (.int .i64 ((rd_T33 l0 x11_1).f2.f3))) (fun _ hk => hk.2) (.int .i64 ((rd_T33 l0 x11_1).f2.f4))) (fun _ hk => hk.2) (.string ((rd_T33 l0 x11_1).f2.f5))) (fun _ hk => hk.2) (.int .i64 ((rd_T33 l0 x11_1).f3))) (fun _ hk => trivial)⟩, ⟨by repeat (first | (with_reducible first | exact HB.out | apply below_alloc | apply pw_below_drewN | apply below_drew1 | refine below_set ?_ GE397.out) | exact HB.out)⟩⟩
              · rw [if_neg c16] at H
                have c16b0 : (((rd_T33 l0 x11_1).f0) == 2) = false := beq_eq_false_iff_ne.mpr c16
                have c16b1 : (((rd_T33 l0 x11_1).f0) != 2) = true := bne_iff_ne.mpr c16
                have H' := Aside0.mk H
                clear H
                have p396 : 0 ≤ (x11_1 : Int) := of_decide_eq_true (by first | (with_reducible assumption) | assumption)
                have q396 : x11_1 < (l0.length : Int) := of_decide_eq_true (by first | (with_reducible assumption) | assumption)
                obtain ⟨ad396, e396, hx396_0, hx396_1, hx396_2, hx396_3, hx396_4, hx396_5, hx396_6, hx396_7, hx396_8⟩ := at_T33 HR0.out x11_1 p396 q396
                cases e396
                replace hx396_0 := (HB.out.cell (World.block_lt_of_cell? w _ hx396_0)).trans hx396_0
                replace hx396_1 := (HB.out.cell (World.block_lt_of_cell? w _ hx396_1)).trans hx396_1
                replace hx396_2 := (HB.out.cell (World.block_lt_of_cell? w _ hx396_2)).trans hx396_2
                replace hx396_3 := (HB.out.cell (World.block_lt_of_cell? w _ hx396_3)).trans hx396_3
                replace hx396_4 := (HB.out.cell (World.block_lt_of_cell? w _ hx396_4)).trans hx396_4
                replace hx396_5 := (HB.out.cell (World.block_lt_of_cell? w _ hx396_5)).trans hx396_5
                replace hx396_6 := (HB.out.cell (World.block_lt_of_cell? w _ hx396_6)).trans hx396_6
                replace hx396_7 := (HB.out.cell (World.block_lt_of_cell? w _ hx396_7)).trans hx396_7
                replace hx396_8 := (HB.out.cell (World.block_lt_of_cell? w _ hx396_8)).trans hx396_8
                replace p396 := eq_true p396
                replace q396 := eq_true q396
                go_wp2_with (first | ((with_reducible refine gate_dst (N := 7) rfl ?_); refine box_event ?hg (N := 7) ?hd (cs := #[.int .i64 0, .int .i64 0, .int .i64 0, .string (⟨#[]⟩ : ByteArray), .string (⟨#[]⟩ : ByteArray), .int .i64 0, .int .i64 0, .string (⟨#[]⟩ : ByteArray), .int .i64 0]) (t := 33) ?hr ?_; (case hd => rfl); (case hg => rfl); (case hr => first | (go_simp; done) | (go_simp; rfl)); intro gb397 hg w24 hbox hb; have n0_ := Aside0.mk (Kd.R_below (Kd.R_elderB (by (with_reducible repeat (first | apply Kd.R_alloc | apply Kd.R_drewN | apply Kd.R_drew)); exact HO_5.out) gb397 (Nat.le_of_eq hg.symm)) hb); have n1_ := Aside0.mk (below_step (by repeat (first | (with_reducible first | exact HB.out | apply below_alloc | apply pw_below_drewN | apply below_drew1) | exact HB.out)) hb); have n2_ := Aside0.mk (hbox); have n3_ := Aside0.mk ((by rw [hg]; exact (below_size (by repeat (first | (with_reducible first | exact HB.out | apply below_alloc | apply pw_below_drewN | apply below_drew1) | exact HB.out))) : w.heap.size ≤ gb397)); have n4_ := Aside0.mk ((by rw [hg]; exact (below_size (by repeat (first | (with_reducible first | exact HB.out | apply below_alloc | apply pw_below_drewN | apply below_drew1) | exact HB.out))) : w.heap.size ≤ gb397)); clear HO_5; clear HB; have HO_5 := n0_; have HB := n1_; have BK397 := n2_; have GW397 := n3_; have GE397 := n4_; clear n0_ n1_ n2_ n3_ n4_; clear hb hbox hg; have hcz25_0 : w24.cell? ⟨gb397, 0, none⟩ = some (.int .i64 0) := (blk_cell BK397.out 0).trans rfl; have hcz25_1 : w24.cell? ⟨gb397, 1, none⟩ = some (.int .i64 0) := (blk_cell BK397.out 1).trans rfl; have hcz25_2 : w24.cell? ⟨gb397, 2, none⟩ = some (.int .i64 0) := (blk_cell BK397.out 2).trans rfl; have hcz25_3 : w24.cell? ⟨gb397, 3, none⟩ = some (.string (⟨#[]⟩ : ByteArray)) := (blk_cell BK397.out 3).trans rfl; have hcz25_4 : w24.cell? ⟨gb397, 4, none⟩ = some (.string (⟨#[]⟩ : ByteArray)) := (blk_cell BK397.out 4).trans rfl; have hcz25_5 : w24.cell? ⟨gb397, 5, none⟩ = some (.int .i64 0) := (blk_cell BK397.out 5).trans rfl; have hcz25_6 : w24.cell? ⟨gb397, 6, none⟩ = some (.int .i64 0) := (blk_cell BK397.out 6).trans rfl; have hcz25_7 : w24.cell? ⟨gb397, 7, none⟩ = some (.string (⟨#[]⟩ : ByteArray)) := (blk_cell BK397.out 7).trans rfl; have hcz25_8 : w24.cell? ⟨gb397, 8, none⟩ = some (.int .i64 0) := (blk_cell BK397.out 8).trans rfl; have hfz25_0 := blk_frozen BK397.out 0; have hfz25_1 := blk_frozen BK397.out 1; have hfz25_2 := blk_frozen BK397.out 2; have hfz25_3 := blk_frozen BK397.out 3; have hfz25_4 := blk_frozen BK397.out 4; have hfz25_5 := blk_frozen BK397.out 5; have hfz25_6 := blk_frozen BK397.out 6; have hfz25_7 := blk_frozen BK397.out 7; have hfz25_8 := blk_frozen BK397.out 8))
                go_roundg k1
                case measure => have := HK1.out; omega
                case rel => exact ⟨(x5_1), (wrap64 (x11_1 + 1)), (by first | rfl | (simp; done) | (simp [*]; done)), H', ⟨by have := HK1.out; omega⟩, ⟨by (with_reducible repeat (first | apply Kd.R_alloc | apply Kd.R_drewN | apply Kd.R_drew)); exact Kd.R_mono (Kd.R_far (p := ⟨gb397, 8, none⟩) (Kd.R_far (p := ⟨gb397, 7, none⟩) (Kd.R_far (p := ⟨gb397, 6, none⟩) (Kd.R_far (p := ⟨gb397, 5, none⟩) (Kd.R_far (p := ⟨gb397, 4, none⟩) (Kd.R_far (p := ⟨gb397, 3, none⟩) (Kd.R_far (p := ⟨gb397, 2, none⟩) (Kd.R_far (p := ⟨gb397, 1, none⟩) (Kd.R_far (p := ⟨gb397, 0, none⟩) (Kd.R_mono HO_5.out (fun k_ hk => (⟨hk, hk.2⟩ : _ ∧ k_ ≠ gb397))) (fun _ hk => hk.2) (.int .i64 ((rd_T33 l0 x11_1).f0))) (fun _ hk => hk.2) (.int .i64 ((rd_T33 l0 x11_1).f1))) (fun _ hk => hk.2) (.int .i64 ((rd_T33 l0 x11_1).f2.f0))) (fun _ hk => hk.2) (.string ((rd_T33 l0 x11_1).f2.f1))) (fun _ hk => hk.2) (.string ((rd_T33 l0 x11_1).f2.f2))) (fun _ hk => hk.2) (.int .i64 ((rd_T33 l0 x11_1).f2.f3))) (fun _ hk => hk.2) (.int .i64 ((rd_T33 l0 x11_1).f2.f4))) (fun _ hk => hk.2) (.string ((rd_T33 l0 x11_1).f2.f5))) (fun _ hk => hk.2) (.int .i64 ((rd_T33 l0 x11_1).f3))) (fun _ hk => trivial)⟩, ⟨by repeat (first | (with_reducible first | exact HB.out | apply below_alloc | apply pw_below_drewN | apply below_drew1 | refine below_set ?_ GE397.out) | exact HB.out)⟩⟩
          · rw [if_neg c7] at H
            exact absurd H (by simp)
        · rw [if_neg c6] at H
          exact absurd H (by simp)
      · rw [if_neg c5] at H
        have c5b0 : decide (x11_1 < (l0.length : Int)) = false := decide_eq_false c5
        clear c5
        obtain rfl := Option.some.inj H
        go_wp2
        go_ret
        exact ⟨_, by first | rfl | (simp [errW_none, errW_some] <;> rfl) | (simp [*, errW_none, errW_some] <;> rfl), by (with_reducible repeat (first | apply Kd.R_alloc | apply Kd.R_drewN | apply Kd.R_drew)); exact HO_5.out, by repeat (first | (with_reducible first | exact HB.out | apply below_alloc | apply pw_below_drewN | apply below_drew1) | exact HB.out)⟩

end Go.Proofs.Ytklghegofjigoaa.QFnWoven
