/- Go functions as Lean functions, and their contracts. Own text: written by wip/gen/pr.py (a turned copy of the print). -/
import Derived.Test.YtklghegofjigoaaQFnExactWovenx0
namespace Go.Proofs.Ytklghegofjigoaa.QFnExactWoven
open Go.RowKit Go.Proofs.YtklghegofjigoaaW.PrintWords Go.Proofs.YtklghegofjigoaaW.PrintLast Go.Proofs.YtklghegofjigoaaW.PrintMore
attribute [local go_sem] max2_int min2_int max_two min_two max_three min_three max_four min_four   -- for this text's walks alone
open Go.Proofs.YtklghegofjigoaaW.PrintWords renaming below_alloc → ba, pw_below_drewN → bn, below_drew1 → be, below_set → bs, blk_drewN → kn, blk_drew → ke, blk_alloc → ka, blk_below → kb, blk_frozen → kf, blk_cell → kc, below_step → bt, below_size → bz, blk_lt → kl, blk_put → kp
open Go.Proofs.YtklghegofjigoaaW.PrintWords.Kd renaming R_alloc → ra, R_drewN → rn, R_drew → re
open Go.Proofs.YtklghegofjigoaaW.PrintWords.Aside0 renaming mk → Am
set_option linter.unusedVariables false
set_option linter.unusedSimpArgs false

theorem cl1 {w w2 : World} {a : Addr} {v : Value} (h : Aside0 (Below w.heap.size w w2)) (e : w.cell? a = some v) : w2.cell? a = some v := (h.out.cell (World.block_lt_of_cell? w _ e)).trans e
def o1b0 (p0 : Int) (p1 : Int) (p2 : Int) (p3 : ByteArray) (p4 : ByteArray) (p5 : Int) (p6 : Int) (p7 : ByteArray) (p8 : Int) : Obj := .cells #[.int .i64 p0, .int .i64 p1, .int .i64 p2, .string p3, .string p4, .int .i64 p5, .int .i64 p6, .string p7, .int .i64 p8] 104 (0, 0)
def o1b1 (p0 : Int) (p1 : ByteArray) (p2 : ByteArray) (p3 : Int) (p4 : Int) (p5 : ByteArray) : Obj := .cells #[.int .i64 p0, .string p1, .string p2, .int .i64 p3, .int .i64 p4, .string p5] 102 (0, 0)
/-! ### impl_Woven: function 16 -/
def impl_Woven.l0 : Nat → List (S33) → List (S33) → List Int → List (S33) → Int → Option ((List (S33)))
 | 0, _, _, _, _, _ => none
 | k + 1, x0, x1, x2, x7, x8 => if (wrap64 ((x0.length : Int) + (x1.length : Int))) > 0 then (if x8 < (x2.length : Int) then (if 0 ≤ x8 then (if (x0.length : Int) = 0 then (if 0 < (x1.length : Int) then (if x7.length < 1466015503701 then (if 1 ≤ (x1.length : Int) then (impl_Woven.l0 k x0 (x1.drop 1) x2 (x7 ++ [(⟨(rd_T33 x1 0).f0, (rd_T33 x1 0).f1, (⟨(rd_T33 x1 0).f2.f0, (rd_T33 x1 0).f2.f1, (rd_T33 x1 0).f2.f2, (rd_T33 x1 0).f2.f3, (rd_T33 x1 0).f2.f4, (rd_T33 x1 0).f2.f5⟩ : S31), (rd_T33 x1 0).f3⟩ : S33)]) (wrap64 (x8 + 1))) else (none)) else (none)) else (none)) else (if (Int.tmod (rd x2 x8) 2) = 0 then (if 0 < (x0.length : Int) then (if x7.length < 1466015503701 then (if 1 ≤ (x0.length : Int) then (impl_Woven.l0 k (x0.drop 1) x1 x2 (x7 ++ [(⟨(rd_T33 x0 0).f0, (rd_T33 x0 0).f1, (⟨(rd_T33 x0 0).f2.f0, (rd_T33 x0 0).f2.f1, (rd_T33 x0 0).f2.f2, (rd_T33 x0 0).f2.f3, (rd_T33 x0 0).f2.f4, (rd_T33 x0 0).f2.f5⟩ : S31), (rd_T33 x0 0).f3⟩ : S33)]) (wrap64 (x8 + 1))) else (none)) else (none)) else (none)) else (if (x1.length : Int) > 0 then (if 0 < (x1.length : Int) then (if x7.length < 1466015503701 then (if 1 ≤ (x1.length : Int) then (impl_Woven.l0 k x0 (x1.drop 1) x2 (x7 ++ [(⟨(rd_T33 x1 0).f0, (rd_T33 x1 0).f1, (⟨(rd_T33 x1 0).f2.f0, (rd_T33 x1 0).f2.f1, (rd_T33 x1 0).f2.f2, (rd_T33 x1 0).f2.f3, (rd_T33 x1 0).f2.f4, (rd_T33 x1 0).f2.f5⟩ : S31), (rd_T33 x1 0).f3⟩ : S33)]) (wrap64 (x8 + 1))) else (none)) else (none)) else (none)) else (if 0 < (x0.length : Int) then (if x7.length < 1466015503701 then (if 1 ≤ (x0.length : Int) then (impl_Woven.l0 k (x0.drop 1) x1 x2 (x7 ++ [(⟨(rd_T33 x0 0).f0, (rd_T33 x0 0).f1, (⟨(rd_T33 x0 0).f2.f0, (rd_T33 x0 0).f2.f1, (rd_T33 x0 0).f2.f2, (rd_T33 x0 0).f2.f3, (rd_T33 x0 0).f2.f4, (rd_T33 x0 0).f2.f5⟩ : S31), (rd_T33 x0 0).f3⟩ : S33)]) (wrap64 (x8 + 1))) else (none)) else (none)) else (none))))) else (none)) else (if (x0.length : Int) = 0 then (if 0 < (x1.length : Int) then (if x7.length < 1466015503701 then (if 1 ≤ (x1.length : Int) then (impl_Woven.l0 k x0 (x1.drop 1) x2 (x7 ++ [(⟨(rd_T33 x1 0).f0, (rd_T33 x1 0).f1, (⟨(rd_T33 x1 0).f2.f0, (rd_T33 x1 0).f2.f1, (rd_T33 x1 0).f2.f2, (rd_T33 x1 0).f2.f3, (rd_T33 x1 0).f2.f4, (rd_T33 x1 0).f2.f5⟩ : S31), (rd_T33 x1 0).f3⟩ : S33)]) (wrap64 (x8 + 1))) else (none)) else (none)) else (none)) else (if 0 < (x0.length : Int) then (if x7.length < 1466015503701 then (if 1 ≤ (x0.length : Int) then (impl_Woven.l0 k (x0.drop 1) x1 x2 (x7 ++ [(⟨(rd_T33 x0 0).f0, (rd_T33 x0 0).f1, (⟨(rd_T33 x0 0).f2.f0, (rd_T33 x0 0).f2.f1, (rd_T33 x0 0).f2.f2, (rd_T33 x0 0).f2.f3, (rd_T33 x0 0).f2.f4, (rd_T33 x0 0).f2.f5⟩ : S31), (rd_T33 x0 0).f3⟩ : S33)]) (wrap64 (x8 + 1))) else (none)) else (none)) else (none)))) else (some x7)
def impl_Woven.f (k : Nat) (l0 : List (S33)) (l1 : List (S33)) (l2 : List Int) : Option ((List (S33))) := impl_Woven.l0 k l0 l1 l2 (([] : List (S33))) 0
theorem impl_Woven.mono_l : ∀ k, (∀ y0 y1 y2 y3 y4, LeO (impl_Woven.l0 k y0 y1 y2 y3 y4) (impl_Woven.l0 (k + 1) y0 y1 y2 y3 y4))
 | 0 => fun _ _ _ _ _ r h => by simp [impl_Woven.l0] at h
 | k + 1 => by
  have ih0 := impl_Woven.mono_l k
  ·intro y0 y1 y2 y3 y4
   unfold impl_Woven.l0
   repeat' first
   | (with_reducible exact ih0 _ _ _ _ _)
   | (with_reducible exact LeO.refl _)
   | (with_reducible exact LeO.none _)
   | (with_reducible refine LeO.ite ?_ ?_)
   | (with_reducible refine LeO.bind ?_ (fun _ => ?_))
   | exact ih0 _ _ _ _ _
   | exact LeO.none _
   | refine LeO.ite ?_ ?_
   | refine LeO.bind ?_ (fun _ => ?_)
theorem impl_Woven.mono : ∀ a0 a1 a2 k, LeO (impl_Woven.f k a0 a1 a2) (impl_Woven.f (k + 1) a0 a1 a2) := by
 intro a0 a1 a2 k
 have ih0 := impl_Woven.mono_l k
 unfold impl_Woven.f
 repeat' first
   | (with_reducible exact ih0 _ _ _ _ _)
   | (with_reducible exact LeO.refl _)
   | (with_reducible exact LeO.none _)
   | (with_reducible refine LeO.ite ?_ ?_)
   | (with_reducible refine LeO.bind ?_ (fun _ => ?_))
   | exact ih0 _ _ _ _ _
   | exact LeO.none _
   | refine LeO.ite ?_ ?_
   | refine LeO.bind ?_ (fun _ => ?_)
set_option maxHeartbeats 8000000 in
set_option maxRecDepth 100000 in
theorem impl_Woven.calls (k : Nat) (P0_ : Nat → Prop) (A0 : Option Addr) (c0 : Nat) (l0 : List (S33)) (P1_ : Nat → Prop) (A1 : Option Addr) (c1 : Nat) (l1 : List (S33)) (A2 : Option Addr) (c2 : Nat) (l2 : List Int) (r : List (S33)) (w : World) (hs0 : Kd.V k33 33 w w.heap.size (fun k_ => P0_ k_) (.slice A0 l0.length c0) l0) (hs1 : Kd.V k33 33 w w.heap.size (fun k_ => P1_ k_) (.slice A1 l1.length c1) l1) (hr2 : Kd.C (Kd.int .i64) w A2 l2.length l2) (hc2 : l2.length ≤ c2) (h : impl_Woven.f k l0 l1 l2 = some r) :
  Calls Try.prog 16 #[.slice A0 l0.length c0, .slice A1 l1.length c1, .slice A2 l2.length c2] w fun e w' => ∃ v0_ : Value, e = .returned (v0_) ∧ Kd.R k33 33 w' w.heap.size (fun k_ => (w.heap.size ≤ k_)) v0_ r ∧ Below w.heap.size w w' := by
 have hu33 := Try.underlying33
 have HO0 := Am (show Kd.V k33 33 w w.heap.size (fun k_ => ((P0_ k_ ∨ P1_ k_) ∨ w.heap.size ≤ k_)) (.slice A0 l0.length c0) l0 from Kd.V_mono hs0 (fun k_ hk => .inl (.inl hk)))
 have HO1 := Am (show Kd.V k33 33 w w.heap.size (fun k_ => ((P0_ k_ ∨ P1_ k_) ∨ w.heap.size ≤ k_)) (.slice A1 l1.length c1) l1 from Kd.V_mono hs1 (fun k_ hk => .inl (.inr hk)))
 have HR2 := Am hr2
 have HC2 := Am hc2
 clear hr2 hc2
 have HB := Am (Below.refl w.heap.size w)
 have H : (impl_Woven.l0 k l0 l1 l2 (([] : List (S33))) 0) = some r := h
 clear h
 obtain ⟨y101, hy101⟩ : ∃ y_ : List (S33), y_ = (([] : List (S33))) := ⟨_, rfl⟩
 replace H : (impl_Woven.l0 k l0 l1 l2 y101 0) = some r := by first | (rw [hy101]; with_reducible exact H) | (have H2_ := (Option.bind_some _ _).symm.trans H; rw [hy101]; with_reducible exact H2_) | (have H2_ := (Option.bind_some _ _).symm.trans H; with_reducible exact H2_) | with_reducible exact H | (rw [hy101]; exact H) | exact H
 have Ny101 := Am hy101
 clear hy101
 have H' := Am H
 clear H
 go_enter Try.func16, Try.ntmps16
 go_wp2_with (first | ((with_reducible refine gate_dst (N := 10) rfl ?_); (try (refine gate_guard (by rfl) ?_; dsimp only)); refine Kd.R_lit k33 _ 33 ?hg (N := 10) ?hd (xs := ([] : List (S33))) (inner := []) (ok := fun _ => True) (okp := fun _ => True) ?hr ?hp (fun _ hk => hk) trivial (Below.refl _ _) (Nat.le_refl _) (by simp) ?_; (case hd => rfl); (case hg => rfl); (case hr => first | (go_simp; done) | (go_simp; rfl)); (case hp => exact (Reps.none _ _)); intro v102 w4 ho5 hb hg_ hnew_; clear hg_ hnew_; (first | rw [← Ny101.out] at ho5 | (simp only [Int.reduceToNat] at ho5; rw [← Ny101.out] at ho5)); replace HO0 := Am (Kd.V_elder' (by (with_reducible repeat (first | apply Kd.V_alloc | apply Kd.V_drewN | apply Kd.V_drew)); exact HO0.out) (Kd.R_base ho5) hb); replace HO1 := Am (Kd.V_elder' (by (with_reducible repeat (first | apply Kd.V_alloc | apply Kd.V_drewN | apply Kd.V_drew)); exact HO1.out) (Kd.R_base ho5) hb); have HO103 := Am (Kd.R_lower (Kd.R_newM (M := fun k_ => (w.heap.size ≤ k_)) ho5 (bz (by repeat (first | (with_reducible first | exact HB.out | apply ba | apply bn | apply be) | exact HB.out))) (fun k_ h_ => h_)) (bz (by repeat (first | (with_reducible first | exact HB.out | apply ba | apply bn | apply be) | exact HB.out)))); replace HB := Am (bt (by repeat (first | (with_reducible first | exact HB.out | apply ba | apply bn | apply be) | exact HB.out)) hb); clear hb ho5))
 go_loopg [0, 1, 7, 8] k (fun kq v0 v1 v7 v8 w' => ∃ (x0_1 : List (S33)) (x1_1 : List (S33)) (x7_1 : List (S33)) (x8_1 : Int), v8 = .int .i64 x8_1 ∧ Aside0 (impl_Woven.l0 kq x0_1 x1_1 l2 x7_1 x8_1 = some r) ∧ Aside0 (kq ≤ k) ∧ Aside0 (Kd.V k33 33 w' w.heap.size (fun k_ => ((P0_ k_ ∨ P1_ k_) ∨ w.heap.size ≤ k_) ∧ some k_ ≠ (v7 : Value).ownBlock) v0 x0_1) ∧ Aside0 (Kd.V k33 33 w' w.heap.size (fun k_ => ((P0_ k_ ∨ P1_ k_) ∨ w.heap.size ≤ k_) ∧ some k_ ≠ (v7 : Value).ownBlock) v1 x1_1) ∧ Aside0 (Kd.R k33 33 w' w.heap.size (fun k_ => (w.heap.size ≤ k_)) v7 x7_1) ∧ Aside0 (Below w.heap.size w w'))
 case atStart => exact ⟨(l0), (l1), (y101), (0), (by first | rfl | (simp; done) | (simp [*]; done)), H', ⟨Nat.le_refl _⟩, ⟨by (with_reducible repeat (first | apply Kd.V_alloc | apply Kd.V_drewN | apply Kd.V_drew)); exact HO0.out⟩, ⟨by (with_reducible repeat (first | apply Kd.V_alloc | apply Kd.V_drewN | apply Kd.V_drew)); exact HO1.out⟩, ⟨by (with_reducible repeat (first | apply ra | apply rn | apply re)); exact Kd.R_mono HO103.out (fun _ hk => hk.1)⟩, ⟨by repeat (first | (with_reducible first | apply ba | apply bn | apply be) | exact HB.out)⟩⟩
 case round =>
  clear H'
  try clear c1
  try clear c2
  try clear p2
  obtain ⟨x0_1, x1_1, x7_1, x8_1, rfl, HA, HK1, HO_0, HO_1, HO_7, HB⟩ := hrel
  cases gk with
  | zero => exact absurd HA.out (by simp [impl_Woven.l0])
  | succ k1 =>
   have H := HA.out
   clear HA
   simp only [impl_Woven.l0] at H
   by_cases c6 : (wrap64 ((x0_1.length : Int) + (x1_1.length : Int))) > 0
   ·rw [if_pos c6] at H
    have c6b0 : decide (0 < (wrap64 ((x0_1.length : Int) + (x1_1.length : Int)))) = true := decide_eq_true c6
    clear c6
    by_cases c7 : x8_1 < (l2.length : Int)
    ·rw [if_pos c7] at H
     have c7b0 : decide (x8_1 < (l2.length : Int)) = true := decide_eq_true c7
     clear c7
     by_cases c8 : 0 ≤ x8_1
     ·rw [if_pos c8] at H
      have c8b0 : decide (0 ≤ x8_1) = true := decide_eq_true c8
      clear c8
      by_cases c9 : (x0_1.length : Int) = 0
      ·rw [if_pos c9] at H
       have c9b0 : ((x0_1.length : Int) == 0) = true := beq_iff_eq.mpr c9
       have c9b1 : ((x0_1.length : Int) != 0) = false := bne_eq_false_iff_eq.mpr c9
       clear c9
       by_cases c10 : 0 < (x1_1.length : Int)
       ·rw [if_pos c10] at H
        have c10b0 : decide (0 < (x1_1.length : Int)) = true := decide_eq_true c10
        have c10b1 : decide (0 < x1_1.length) = true := decide_eq_true (by omega)
        clear c10
        by_cases c11 : x7_1.length < 1466015503701
        ·rw [if_pos c11] at H
         have LMc11 := Am c11
         clear c11
         obtain ⟨y106, hy106⟩ : ∃ y_ : List (S33), y_ = (x7_1 ++ [(⟨(rd_T33 x1_1 0).f0, (rd_T33 x1_1 0).f1, (⟨(rd_T33 x1_1 0).f2.f0, (rd_T33 x1_1 0).f2.f1, (rd_T33 x1_1 0).f2.f2, (rd_T33 x1_1 0).f2.f3, (rd_T33 x1_1 0).f2.f4, (rd_T33 x1_1 0).f2.f5⟩ : S31), (rd_T33 x1_1 0).f3⟩ : S33)]) := ⟨_, rfl⟩
         replace H : (if 1 ≤ (x1_1.length : Int) then (impl_Woven.l0 k1 x0_1 (x1_1.drop 1) l2 y106 (wrap64 (x8_1 + 1))) else (none)) = some r := by first | (rw [hy106]; with_reducible exact H) | (have H2_ := (Option.bind_some _ _).symm.trans H; rw [hy106]; with_reducible exact H2_) | (have H2_ := (Option.bind_some _ _).symm.trans H; with_reducible exact H2_) | with_reducible exact H | (rw [hy106]; exact H) | exact H
         have Ny106 := Am hy106
         clear hy106
         by_cases c12 : 1 ≤ (x1_1.length : Int)
         ·rw [if_pos c12] at H
          have c12b0 := eq_true c12
          have c12b1 : decide (1 ≤ (x1_1.length : Int)) = true := decide_eq_true c12
          clear c12
          obtain ⟨y109, hy109⟩ : ∃ y_ : List (S33), y_ = (x1_1.drop 1) := ⟨_, rfl⟩
          replace H : (impl_Woven.l0 k1 x0_1 y109 l2 y106 (wrap64 (x8_1 + 1))) = some r := by first | (rw [hy109]; with_reducible exact H) | (have H2_ := (Option.bind_some _ _).symm.trans H; rw [hy109]; with_reducible exact H2_) | (have H2_ := (Option.bind_some _ _).symm.trans H; with_reducible exact H2_) | with_reducible exact H | (rw [hy109]; exact H) | exact H
          have Ny109 := Am hy109
          clear hy109
          have H' := Am H
          clear H
          obtain ⟨Ao13, co13, eo13⟩ := Kd.V_slice HO_0.out
          subst eo13
          obtain ⟨Ao14, co14, eo14⟩ := Kd.V_slice HO_1.out
          subst eo14
          have p104 : 0 ≤ (x8_1 : Int) := of_decide_eq_true (by assumption)
          have q104 : x8_1 < (l2.length : Int) := of_decide_eq_true (by assumption)
          obtain ⟨ad104, e104, hx104_0⟩ := Kd.at_int HR2.out x8_1 p104 q104
          cases e104
          replace hx104_0 := cl1 HB hx104_0
          replace p104 := eq_true p104
          replace q104 := eq_true q104
          have p105 : 0 ≤ (0 : Int) := (by omega)
          have q105 : 0 < (x1_1.length : Int) := of_decide_eq_true (by assumption)
          obtain ⟨ad105, e105, hx105_0, hx105_1, hx105_2, hx105_3, hx105_4, hx105_5, hx105_6, hx105_7, hx105_8⟩ := at_T33 (Kd.V_reads' HO_1.out).2.2 0 p105 q105
          cases e105
          have qi105 : (0 < x1_1.length) = True := eq_true (by omega)
          (try rw [show ((0 : Int)).toNat = 0 from rfl] at hx105_0)
          (try rw [show 0 * 9 = 0 from rfl] at hx105_0)
          (try rw [Addr.add_zero'] at hx105_0)
          (try rw [show ((0 : Int)).toNat = 0 from rfl] at hx105_1)
          (try rw [show 0 * 9 = 0 from rfl] at hx105_1)
          (try rw [Addr.add_zero'] at hx105_1)
          (try rw [show ((0 : Int)).toNat = 0 from rfl] at hx105_2)
          (try rw [show 0 * 9 = 0 from rfl] at hx105_2)
          (try rw [Addr.add_zero'] at hx105_2)
          (try rw [show ((0 : Int)).toNat = 0 from rfl] at hx105_3)
          (try rw [show 0 * 9 = 0 from rfl] at hx105_3)
          (try rw [Addr.add_zero'] at hx105_3)
          (try rw [show ((0 : Int)).toNat = 0 from rfl] at hx105_4)
          (try rw [show 0 * 9 = 0 from rfl] at hx105_4)
          (try rw [Addr.add_zero'] at hx105_4)
          (try rw [show ((0 : Int)).toNat = 0 from rfl] at hx105_5)
          (try rw [show 0 * 9 = 0 from rfl] at hx105_5)
          (try rw [Addr.add_zero'] at hx105_5)
          (try rw [show ((0 : Int)).toNat = 0 from rfl] at hx105_6)
          (try rw [show 0 * 9 = 0 from rfl] at hx105_6)
          (try rw [Addr.add_zero'] at hx105_6)
          (try rw [show ((0 : Int)).toNat = 0 from rfl] at hx105_7)
          (try rw [show 0 * 9 = 0 from rfl] at hx105_7)
          (try rw [Addr.add_zero'] at hx105_7)
          (try rw [show ((0 : Int)).toNat = 0 from rfl] at hx105_8)
          (try rw [show 0 * 9 = 0 from rfl] at hx105_8)
          (try rw [Addr.add_zero'] at hx105_8)
          replace p105 := eq_true p105
          replace q105 := eq_true q105
          go_wp2_with (first | ((with_reducible refine gate_builtin (b := .append) (xs := #[.tmp 42, .tmp 46]) rfl ?_); (try (refine gate_guard (by rfl) ?_; dsimp only)); at_builtin; refine Kd.R_append k33 (w0 := w) w.heap.size rfl (.tmp 42) (.tmp 46) 24 33 (.agg #[(.int .i64 0), (.int .i64 0), (.int .i64 0), (.string ⟨#[]⟩), (.string ⟨#[]⟩), (.int .i64 0), (.int .i64 0), (.string ⟨#[]⟩), (.int .i64 0)]) 96 rfl Try.underlying24 info33 rfl (by decide) (by omega) u7 x7_1 (⟨(rd_T33 x1_1 0).f0, (rd_T33 x1_1 0).f1, (⟨(rd_T33 x1_1 0).f2.f0, (rd_T33 x1_1 0).f2.f1, (rd_T33 x1_1 0).f2.f2, (rd_T33 x1_1 0).f2.f3, (rd_T33 x1_1 0).f2.f4, (rd_T33 x1_1 0).f2.f5⟩ : S31), (rd_T33 x1_1 0).f3⟩ : S33) [.int .i64 ((rd_T33 x1_1 0).f0), .int .i64 ((rd_T33 x1_1 0).f1), .int .i64 ((rd_T33 x1_1 0).f2.f0), .string ((rd_T33 x1_1 0).f2.f1), .string ((rd_T33 x1_1 0).f2.f2), .int .i64 ((rd_T33 x1_1 0).f2.f3), .int .i64 ((rd_T33 x1_1 0).f2.f4), .string ((rd_T33 x1_1 0).f2.f5), .int .i64 ((rd_T33 x1_1 0).f3)] (fun k_ => (w.heap.size ≤ k_)) (fun _ => False) rfl rfl ?aP (fun _ hk => hk.elim) ?aF ?aO ?aB ?aS ?aL ?_; (case aP => exact k33_mkM _ _ _ (⟨(rd_T33 x1_1 0).f0, (rd_T33 x1_1 0).f1, (⟨(rd_T33 x1_1 0).f2.f0, (rd_T33 x1_1 0).f2.f1, (rd_T33 x1_1 0).f2.f2, (rd_T33 x1_1 0).f2.f3, (rd_T33 x1_1 0).f2.f4, (rd_T33 x1_1 0).f2.f5⟩ : S31), (rd_T33 x1_1 0).f3⟩ : S33)); (case aB => exact (by repeat (first | (with_reducible first | exact HB.out | apply ba | apply bn | apply be) | exact HB.out))); (case aF => exact (fun k_ hk => (Nat.le_trans (bz (by repeat (first | (with_reducible first | exact HB.out | apply ba | apply bn | apply be) | exact HB.out))) hk))); (case aO => exact (by (with_reducible repeat (first | apply ra | apply rn | apply re)); exact HO_7.out)); (case aS => exact (bz (by repeat (first | (with_reducible first | exact HB.out | apply ba | apply bn | apply be) | exact HB.out)))); (case aL => have := LMc11.out; omega); intro v107 w15 ho hb hg hat; rw [← Ny106.out] at ho; have n0_ := Am (Kd.V_afterv (ok := (fun k_ => ((P0_ k_ ∨ P1_ k_) ∨ w.heap.size ≤ k_))) (by (with_reducible repeat (first | apply Kd.V_alloc | apply Kd.V_drewN | apply Kd.V_drew)); exact HO_0.out) hg hat); have n1_ := Am (Kd.V_afterv (ok := (fun k_ => ((P0_ k_ ∨ P1_ k_) ∨ w.heap.size ≤ k_))) (by (with_reducible repeat (first | apply Kd.V_alloc | apply Kd.V_drewN | apply Kd.V_drew)); exact HO_1.out) hg hat); have n2_ := Am (hb); have n3_ := Am (ho); clear HO_0; clear HO_1; clear HB; clear HO_7; have HO_0 := n0_; have HO_1 := n1_; have HB := n2_; have HO108 := n3_; clear n0_ n1_ n2_ n3_; clear ho hb hg hat; have q16 : (1 : Int) ≤ ((x1_1.length : Int) : Int) := of_decide_eq_true (by assumption); obtain ⟨i016, hi016, _, hsz16, _⟩ := info_parts info33; have hroom16 : x1_1.length ≤ co14 := (Kd.V_reads' HO_1.out).2.1; have hC16 : Kd.F k33 _ _ (some ad105) x1_1.length x1_1 := (Kd.V_at (base := w.heap.size) HO_1.out).2.2; have hcut16 := cut_from (P := Try.prog) 24 33 .i64 Try.underlying24 hi016 9 hsz16 (some ad105) x1_1.length co14 1 (by omega) q16; have hr16 := Kd.F_cut (m := (1 : Int).toNat) (c := co14) hC16 (by omega) hroom16; obtain ⟨A16, hA16⟩ : ∃ A1, A1 = (if co14 = (1 : Int).toNat then (some ad105) else ((some ad105) : Option Addr).map (·.add ((1 : Int).toNat * 9))) := ⟨_, rfl⟩; obtain ⟨c16, hc16⟩ : ∃ c1, c1 = co14 - (1 : Int).toNat := ⟨_, rfl⟩; have hy16 : y109.length = x1_1.length - (1 : Int).toNat := (by rw [Ny109.out, List.length_drop] <;> omega); rw [show (x1_1).drop (1 : Int).toNat = y109 from Ny109.out.symm] at hr16; replace hr16 : Kd.F k33 _ _ A16 y109.length y109 := (by rw [hA16]; exact hr16); rw [← hy16, ← hA16, ← hc16] at hcut16; have HO113 := Am (show Kd.V k33 33 _ w.heap.size _ (.slice A16 y109.length c16) y109 from Kd.V_mk (by rw [hy16, hc16]; exact Nat.sub_le_sub_right hroom16 _) hr16); have HC113 := Am (show y109.length ≤ c16 from by rw [hy16, hc16]; exact Nat.sub_le_sub_right hroom16 _); clear hr16 hC16 hroom16 hi016 hsz16 hc16; have KY16 := Am hy16; have KA16 := Am hA16; clear hy16 hA16; replace q16 := eq_true q16))
          go_roundg k1
          case measure => have := HK1.out; omega
          case rel => exact ⟨(x0_1), (y109), (y106), (wrap64 (x8_1 + 1)), (by first | rfl | (simp; done) | (simp [*]; done)), H', ⟨by have := HK1.out; omega⟩, ⟨by (with_reducible repeat (first | apply Kd.V_alloc | apply Kd.V_drewN | apply Kd.V_drew)); exact HO_0.out⟩, ⟨by (with_reducible repeat (first | apply Kd.V_alloc | apply Kd.V_drewN | apply Kd.V_drew)); exact HO113.out⟩, ⟨by (with_reducible repeat (first | apply ra | apply rn | apply re)); exact HO108.out⟩, ⟨by repeat (first | (with_reducible first | apply ba | apply bn | apply be) | exact HB.out)⟩⟩
         ·rw [if_neg c12] at H
          exact absurd H (by simp)
        ·rw [if_neg c11] at H
         exact absurd H (by simp)
       ·rw [if_neg c10] at H
        exact absurd H (by simp)
      ·rw [if_neg c9] at H
       have c9b0 : ((x0_1.length : Int) == 0) = false := beq_eq_false_iff_ne.mpr c9
       have c9b1 : ((x0_1.length : Int) != 0) = true := bne_iff_ne.mpr c9
       have c9b2 : ¬ (x0_1 = []) := fun h_ => c9 (by rw [h_]; rfl)
       by_cases c17 : (Int.tmod (rd l2 x8_1) 2) = 0
       ·rw [if_pos c17] at H
        have c17b0 : ((Int.tmod (rd l2 x8_1) 2) == 0) = true := beq_iff_eq.mpr c17
        have c17b1 : ((Int.tmod (rd l2 x8_1) 2) != 0) = false := bne_eq_false_iff_eq.mpr c17
        clear c17
        by_cases c18 : 0 < (x0_1.length : Int)
        ·rw [if_pos c18] at H
         have c18b0 : decide (0 < (x0_1.length : Int)) = true := decide_eq_true c18
         have c18b1 : decide (0 < x0_1.length) = true := decide_eq_true (by omega)
         clear c18
         by_cases c19 : x7_1.length < 1466015503701
         ·rw [if_pos c19] at H
          have LMc19 := Am c19
          clear c19
          obtain ⟨y115, hy115⟩ : ∃ y_ : List (S33), y_ = (x7_1 ++ [(⟨(rd_T33 x0_1 0).f0, (rd_T33 x0_1 0).f1, (⟨(rd_T33 x0_1 0).f2.f0, (rd_T33 x0_1 0).f2.f1, (rd_T33 x0_1 0).f2.f2, (rd_T33 x0_1 0).f2.f3, (rd_T33 x0_1 0).f2.f4, (rd_T33 x0_1 0).f2.f5⟩ : S31), (rd_T33 x0_1 0).f3⟩ : S33)]) := ⟨_, rfl⟩
          replace H : (if 1 ≤ (x0_1.length : Int) then (impl_Woven.l0 k1 (x0_1.drop 1) x1_1 l2 y115 (wrap64 (x8_1 + 1))) else (none)) = some r := by first | (rw [hy115]; with_reducible exact H) | (have H2_ := (Option.bind_some _ _).symm.trans H; rw [hy115]; with_reducible exact H2_) | (have H2_ := (Option.bind_some _ _).symm.trans H; with_reducible exact H2_) | with_reducible exact H | (rw [hy115]; exact H) | exact H
          have Ny115 := Am hy115
          clear hy115
          by_cases c20 : 1 ≤ (x0_1.length : Int)
          ·rw [if_pos c20] at H
           have c20b0 := eq_true c20
           have c20b1 : decide (1 ≤ (x0_1.length : Int)) = true := decide_eq_true c20
           clear c20
           obtain ⟨y118, hy118⟩ : ∃ y_ : List (S33), y_ = (x0_1.drop 1) := ⟨_, rfl⟩
           replace H : (impl_Woven.l0 k1 y118 x1_1 l2 y115 (wrap64 (x8_1 + 1))) = some r := by first | (rw [hy118]; with_reducible exact H) | (have H2_ := (Option.bind_some _ _).symm.trans H; rw [hy118]; with_reducible exact H2_) | (have H2_ := (Option.bind_some _ _).symm.trans H; with_reducible exact H2_) | with_reducible exact H | (rw [hy118]; exact H) | exact H
           have Ny118 := Am hy118
           clear hy118
           have H' := Am H
           clear H
           obtain ⟨Ao21, co21, eo21⟩ := Kd.V_slice HO_0.out
           subst eo21
           obtain ⟨Ao22, co22, eo22⟩ := Kd.V_slice HO_1.out
           subst eo22
           have p104 : 0 ≤ (x8_1 : Int) := of_decide_eq_true (by assumption)
           have q104 : x8_1 < (l2.length : Int) := of_decide_eq_true (by assumption)
           obtain ⟨ad104, e104, hx104_0⟩ := Kd.at_int HR2.out x8_1 p104 q104
           cases e104
           replace hx104_0 := cl1 HB hx104_0
           replace p104 := eq_true p104
           replace q104 := eq_true q104
           have p114 : 0 ≤ (0 : Int) := (by omega)
           have q114 : 0 < (x0_1.length : Int) := of_decide_eq_true (by assumption)
           obtain ⟨ad114, e114, hx114_0, hx114_1, hx114_2, hx114_3, hx114_4, hx114_5, hx114_6, hx114_7, hx114_8⟩ := at_T33 (Kd.V_reads' HO_0.out).2.2 0 p114 q114
           cases e114
           have qi114 : (0 < x0_1.length) = True := eq_true (by omega)
           (try rw [show ((0 : Int)).toNat = 0 from rfl] at hx114_0)
           (try rw [show 0 * 9 = 0 from rfl] at hx114_0)
           (try rw [Addr.add_zero'] at hx114_0)
           (try rw [show ((0 : Int)).toNat = 0 from rfl] at hx114_1)
           (try rw [show 0 * 9 = 0 from rfl] at hx114_1)
           (try rw [Addr.add_zero'] at hx114_1)
           (try rw [show ((0 : Int)).toNat = 0 from rfl] at hx114_2)
           (try rw [show 0 * 9 = 0 from rfl] at hx114_2)
           (try rw [Addr.add_zero'] at hx114_2)
           (try rw [show ((0 : Int)).toNat = 0 from rfl] at hx114_3)
           (try rw [show 0 * 9 = 0 from rfl] at hx114_3)
           (try rw [Addr.add_zero'] at hx114_3)
           (try rw [show ((0 : Int)).toNat = 0 from rfl] at hx114_4)
           (try rw [show 0 * 9 = 0 from rfl] at hx114_4)
           (try rw [Addr.add_zero'] at hx114_4)
           (try rw [show ((0 : Int)).toNat = 0 from rfl] at hx114_5)
           (try rw [show 0 * 9 = 0 from rfl] at hx114_5)
           (try rw [Addr.add_zero'] at hx114_5)
           (try rw [show ((0 : Int)).toNat = 0 from rfl] at hx114_6)
           (try rw [show 0 * 9 = 0 from rfl] at hx114_6)
           (try rw [Addr.add_zero'] at hx114_6)
           (try rw [show ((0 : Int)).toNat = 0 from rfl] at hx114_7)
           (try rw [show 0 * 9 = 0 from rfl] at hx114_7)
           (try rw [Addr.add_zero'] at hx114_7)
           (try rw [show ((0 : Int)).toNat = 0 from rfl] at hx114_8)
           (try rw [show 0 * 9 = 0 from rfl] at hx114_8)
           (try rw [Addr.add_zero'] at hx114_8)
           replace p114 := eq_true p114
           replace q114 := eq_true q114
           go_wp2_with (first | ((with_reducible refine gate_builtin (b := .append) (xs := #[.tmp 50, .tmp 54]) rfl ?_); (try (refine gate_guard (by rfl) ?_; dsimp only)); at_builtin; refine Kd.R_append k33 (w0 := w) w.heap.size rfl (.tmp 50) (.tmp 54) 24 33 (.agg #[(.int .i64 0), (.int .i64 0), (.int .i64 0), (.string ⟨#[]⟩), (.string ⟨#[]⟩), (.int .i64 0), (.int .i64 0), (.string ⟨#[]⟩), (.int .i64 0)]) 96 rfl Try.underlying24 info33 rfl (by decide) (by omega) u7 x7_1 (⟨(rd_T33 x0_1 0).f0, (rd_T33 x0_1 0).f1, (⟨(rd_T33 x0_1 0).f2.f0, (rd_T33 x0_1 0).f2.f1, (rd_T33 x0_1 0).f2.f2, (rd_T33 x0_1 0).f2.f3, (rd_T33 x0_1 0).f2.f4, (rd_T33 x0_1 0).f2.f5⟩ : S31), (rd_T33 x0_1 0).f3⟩ : S33) [.int .i64 ((rd_T33 x0_1 0).f0), .int .i64 ((rd_T33 x0_1 0).f1), .int .i64 ((rd_T33 x0_1 0).f2.f0), .string ((rd_T33 x0_1 0).f2.f1), .string ((rd_T33 x0_1 0).f2.f2), .int .i64 ((rd_T33 x0_1 0).f2.f3), .int .i64 ((rd_T33 x0_1 0).f2.f4), .string ((rd_T33 x0_1 0).f2.f5), .int .i64 ((rd_T33 x0_1 0).f3)] (fun k_ => (w.heap.size ≤ k_)) (fun _ => False) rfl rfl ?aP (fun _ hk => hk.elim) ?aF ?aO ?aB ?aS ?aL ?_; (case aP => exact k33_mkM _ _ _ (⟨(rd_T33 x0_1 0).f0, (rd_T33 x0_1 0).f1, (⟨(rd_T33 x0_1 0).f2.f0, (rd_T33 x0_1 0).f2.f1, (rd_T33 x0_1 0).f2.f2, (rd_T33 x0_1 0).f2.f3, (rd_T33 x0_1 0).f2.f4, (rd_T33 x0_1 0).f2.f5⟩ : S31), (rd_T33 x0_1 0).f3⟩ : S33)); (case aB => exact (by repeat (first | (with_reducible first | exact HB.out | apply ba | apply bn | apply be) | exact HB.out))); (case aF => exact (fun k_ hk => (Nat.le_trans (bz (by repeat (first | (with_reducible first | exact HB.out | apply ba | apply bn | apply be) | exact HB.out))) hk))); (case aO => exact (by (with_reducible repeat (first | apply ra | apply rn | apply re)); exact HO_7.out)); (case aS => exact (bz (by repeat (first | (with_reducible first | exact HB.out | apply ba | apply bn | apply be) | exact HB.out)))); (case aL => have := LMc19.out; omega); intro v116 w23 ho hb hg hat; rw [← Ny115.out] at ho; have n0_ := Am (Kd.V_afterv (ok := (fun k_ => ((P0_ k_ ∨ P1_ k_) ∨ w.heap.size ≤ k_))) (by (with_reducible repeat (first | apply Kd.V_alloc | apply Kd.V_drewN | apply Kd.V_drew)); exact HO_0.out) hg hat); have n1_ := Am (Kd.V_afterv (ok := (fun k_ => ((P0_ k_ ∨ P1_ k_) ∨ w.heap.size ≤ k_))) (by (with_reducible repeat (first | apply Kd.V_alloc | apply Kd.V_drewN | apply Kd.V_drew)); exact HO_1.out) hg hat); have n2_ := Am (hb); have n3_ := Am (ho); clear HO_0; clear HO_1; clear HB; clear HO_7; have HO_0 := n0_; have HO_1 := n1_; have HB := n2_; have HO117 := n3_; clear n0_ n1_ n2_ n3_; clear ho hb hg hat; have q24 : (1 : Int) ≤ ((x0_1.length : Int) : Int) := of_decide_eq_true (by assumption); obtain ⟨i024, hi024, _, hsz24, _⟩ := info_parts info33; have hroom24 : x0_1.length ≤ co21 := (Kd.V_reads' HO_0.out).2.1; have hC24 : Kd.F k33 _ _ (some ad114) x0_1.length x0_1 := (Kd.V_at (base := w.heap.size) HO_0.out).2.2; have hcut24 := cut_from (P := Try.prog) 24 33 .i64 Try.underlying24 hi024 9 hsz24 (some ad114) x0_1.length co21 1 (by omega) q24; have hr24 := Kd.F_cut (m := (1 : Int).toNat) (c := co21) hC24 (by omega) hroom24; obtain ⟨A24, hA24⟩ : ∃ A1, A1 = (if co21 = (1 : Int).toNat then (some ad114) else ((some ad114) : Option Addr).map (·.add ((1 : Int).toNat * 9))) := ⟨_, rfl⟩; obtain ⟨c24, hc24⟩ : ∃ c1, c1 = co21 - (1 : Int).toNat := ⟨_, rfl⟩; have hy24 : y118.length = x0_1.length - (1 : Int).toNat := (by rw [Ny118.out, List.length_drop] <;> omega); rw [show (x0_1).drop (1 : Int).toNat = y118 from Ny118.out.symm] at hr24; replace hr24 : Kd.F k33 _ _ A24 y118.length y118 := (by rw [hA24]; exact hr24); rw [← hy24, ← hA24, ← hc24] at hcut24; have HO122 := Am (show Kd.V k33 33 _ w.heap.size _ (.slice A24 y118.length c24) y118 from Kd.V_mk (by rw [hy24, hc24]; exact Nat.sub_le_sub_right hroom24 _) hr24); have HC122 := Am (show y118.length ≤ c24 from by rw [hy24, hc24]; exact Nat.sub_le_sub_right hroom24 _); clear hr24 hC24 hroom24 hi024 hsz24 hc24; have KY24 := Am hy24; have KA24 := Am hA24; clear hy24 hA24; replace q24 := eq_true q24))
           go_roundg k1
           case measure => have := HK1.out; omega
           case rel => exact ⟨(y118), (x1_1), (y115), (wrap64 (x8_1 + 1)), (by first | rfl | (simp; done) | (simp [*]; done)), H', ⟨by have := HK1.out; omega⟩, ⟨by (with_reducible repeat (first | apply Kd.V_alloc | apply Kd.V_drewN | apply Kd.V_drew)); exact HO122.out⟩, ⟨by (with_reducible repeat (first | apply Kd.V_alloc | apply Kd.V_drewN | apply Kd.V_drew)); exact HO_1.out⟩, ⟨by (with_reducible repeat (first | apply ra | apply rn | apply re)); exact HO117.out⟩, ⟨by repeat (first | (with_reducible first | apply ba | apply bn | apply be) | exact HB.out)⟩⟩
          ·rw [if_neg c20] at H
           exact absurd H (by simp)
         ·rw [if_neg c19] at H
          exact absurd H (by simp)
        ·rw [if_neg c18] at H
         exact absurd H (by simp)
       ·rw [if_neg c17] at H
        have c17b0 : ((Int.tmod (rd l2 x8_1) 2) == 0) = false := beq_eq_false_iff_ne.mpr c17
        have c17b1 : ((Int.tmod (rd l2 x8_1) 2) != 0) = true := bne_iff_ne.mpr c17
        by_cases c25 : (x1_1.length : Int) > 0
        ·rw [if_pos c25] at H
         have c25b0 : decide (0 < (x1_1.length : Int)) = true := decide_eq_true c25
         have c25b1 : decide (0 < x1_1.length) = true := decide_eq_true (by omega)
         clear c25
         by_cases c26 : 0 < (x1_1.length : Int)
         ·rw [if_pos c26] at H
          have c26b0 : decide (0 < (x1_1.length : Int)) = true := decide_eq_true c26
          have c26b1 : decide (0 < x1_1.length) = true := decide_eq_true (by omega)
          clear c26
          by_cases c27 : x7_1.length < 1466015503701
          ·rw [if_pos c27] at H
           have LMc27 := Am c27
           clear c27
           obtain ⟨y124, hy124⟩ : ∃ y_ : List (S33), y_ = (x7_1 ++ [(⟨(rd_T33 x1_1 0).f0, (rd_T33 x1_1 0).f1, (⟨(rd_T33 x1_1 0).f2.f0, (rd_T33 x1_1 0).f2.f1, (rd_T33 x1_1 0).f2.f2, (rd_T33 x1_1 0).f2.f3, (rd_T33 x1_1 0).f2.f4, (rd_T33 x1_1 0).f2.f5⟩ : S31), (rd_T33 x1_1 0).f3⟩ : S33)]) := ⟨_, rfl⟩
           replace H : (if 1 ≤ (x1_1.length : Int) then (impl_Woven.l0 k1 x0_1 (x1_1.drop 1) l2 y124 (wrap64 (x8_1 + 1))) else (none)) = some r := by first | (rw [hy124]; with_reducible exact H) | (have H2_ := (Option.bind_some _ _).symm.trans H; rw [hy124]; with_reducible exact H2_) | (have H2_ := (Option.bind_some _ _).symm.trans H; with_reducible exact H2_) | with_reducible exact H | (rw [hy124]; exact H) | exact H
           have Ny124 := Am hy124
           clear hy124
           by_cases c28 : 1 ≤ (x1_1.length : Int)
           ·rw [if_pos c28] at H
            have c28b0 := eq_true c28
            have c28b1 : decide (1 ≤ (x1_1.length : Int)) = true := decide_eq_true c28
            clear c28
            obtain ⟨y127, hy127⟩ : ∃ y_ : List (S33), y_ = (x1_1.drop 1) := ⟨_, rfl⟩
            replace H : (impl_Woven.l0 k1 x0_1 y127 l2 y124 (wrap64 (x8_1 + 1))) = some r := by first | (rw [hy127]; with_reducible exact H) | (have H2_ := (Option.bind_some _ _).symm.trans H; rw [hy127]; with_reducible exact H2_) | (have H2_ := (Option.bind_some _ _).symm.trans H; with_reducible exact H2_) | with_reducible exact H | (rw [hy127]; exact H) | exact H
            have Ny127 := Am hy127
            clear hy127
            have H' := Am H
            clear H
            obtain ⟨Ao29, co29, eo29⟩ := Kd.V_slice HO_0.out
            subst eo29
            obtain ⟨Ao30, co30, eo30⟩ := Kd.V_slice HO_1.out
            subst eo30
            have p104 : 0 ≤ (x8_1 : Int) := of_decide_eq_true (by assumption)
            have q104 : x8_1 < (l2.length : Int) := of_decide_eq_true (by assumption)
            obtain ⟨ad104, e104, hx104_0⟩ := Kd.at_int HR2.out x8_1 p104 q104
            cases e104
            replace hx104_0 := cl1 HB hx104_0
            replace p104 := eq_true p104
            replace q104 := eq_true q104
            have p123 : 0 ≤ (0 : Int) := (by omega)
            have q123 : 0 < (x1_1.length : Int) := of_decide_eq_true (by assumption)
            obtain ⟨ad123, e123, hx123_0, hx123_1, hx123_2, hx123_3, hx123_4, hx123_5, hx123_6, hx123_7, hx123_8⟩ := at_T33 (Kd.V_reads' HO_1.out).2.2 0 p123 q123
            cases e123
            have qi123 : (0 < x1_1.length) = True := eq_true (by omega)
            (try rw [show ((0 : Int)).toNat = 0 from rfl] at hx123_0)
            (try rw [show 0 * 9 = 0 from rfl] at hx123_0)
            (try rw [Addr.add_zero'] at hx123_0)
            (try rw [show ((0 : Int)).toNat = 0 from rfl] at hx123_1)
            (try rw [show 0 * 9 = 0 from rfl] at hx123_1)
            (try rw [Addr.add_zero'] at hx123_1)
            (try rw [show ((0 : Int)).toNat = 0 from rfl] at hx123_2)
            (try rw [show 0 * 9 = 0 from rfl] at hx123_2)
            (try rw [Addr.add_zero'] at hx123_2)
            (try rw [show ((0 : Int)).toNat = 0 from rfl] at hx123_3)
            (try rw [show 0 * 9 = 0 from rfl] at hx123_3)
            (try rw [Addr.add_zero'] at hx123_3)
            (try rw [show ((0 : Int)).toNat = 0 from rfl] at hx123_4)
            (try rw [show 0 * 9 = 0 from rfl] at hx123_4)
            (try rw [Addr.add_zero'] at hx123_4)
            (try rw [show ((0 : Int)).toNat = 0 from rfl] at hx123_5)
            (try rw [show 0 * 9 = 0 from rfl] at hx123_5)
            (try rw [Addr.add_zero'] at hx123_5)
            (try rw [show ((0 : Int)).toNat = 0 from rfl] at hx123_6)
            (try rw [show 0 * 9 = 0 from rfl] at hx123_6)
            (try rw [Addr.add_zero'] at hx123_6)
            (try rw [show ((0 : Int)).toNat = 0 from rfl] at hx123_7)
            (try rw [show 0 * 9 = 0 from rfl] at hx123_7)
            (try rw [Addr.add_zero'] at hx123_7)
            (try rw [show ((0 : Int)).toNat = 0 from rfl] at hx123_8)
            (try rw [show 0 * 9 = 0 from rfl] at hx123_8)
            (try rw [Addr.add_zero'] at hx123_8)
            replace p123 := eq_true p123
            replace q123 := eq_true q123
            go_wp2_with (first | ((with_reducible refine gate_builtin (b := .append) (xs := #[.tmp 42, .tmp 46]) rfl ?_); (try (refine gate_guard (by rfl) ?_; dsimp only)); at_builtin; refine Kd.R_append k33 (w0 := w) w.heap.size rfl (.tmp 42) (.tmp 46) 24 33 (.agg #[(.int .i64 0), (.int .i64 0), (.int .i64 0), (.string ⟨#[]⟩), (.string ⟨#[]⟩), (.int .i64 0), (.int .i64 0), (.string ⟨#[]⟩), (.int .i64 0)]) 96 rfl Try.underlying24 info33 rfl (by decide) (by omega) u7 x7_1 (⟨(rd_T33 x1_1 0).f0, (rd_T33 x1_1 0).f1, (⟨(rd_T33 x1_1 0).f2.f0, (rd_T33 x1_1 0).f2.f1, (rd_T33 x1_1 0).f2.f2, (rd_T33 x1_1 0).f2.f3, (rd_T33 x1_1 0).f2.f4, (rd_T33 x1_1 0).f2.f5⟩ : S31), (rd_T33 x1_1 0).f3⟩ : S33) [.int .i64 ((rd_T33 x1_1 0).f0), .int .i64 ((rd_T33 x1_1 0).f1), .int .i64 ((rd_T33 x1_1 0).f2.f0), .string ((rd_T33 x1_1 0).f2.f1), .string ((rd_T33 x1_1 0).f2.f2), .int .i64 ((rd_T33 x1_1 0).f2.f3), .int .i64 ((rd_T33 x1_1 0).f2.f4), .string ((rd_T33 x1_1 0).f2.f5), .int .i64 ((rd_T33 x1_1 0).f3)] (fun k_ => (w.heap.size ≤ k_)) (fun _ => False) rfl rfl ?aP (fun _ hk => hk.elim) ?aF ?aO ?aB ?aS ?aL ?_; (case aP => exact k33_mkM _ _ _ (⟨(rd_T33 x1_1 0).f0, (rd_T33 x1_1 0).f1, (⟨(rd_T33 x1_1 0).f2.f0, (rd_T33 x1_1 0).f2.f1, (rd_T33 x1_1 0).f2.f2, (rd_T33 x1_1 0).f2.f3, (rd_T33 x1_1 0).f2.f4, (rd_T33 x1_1 0).f2.f5⟩ : S31), (rd_T33 x1_1 0).f3⟩ : S33)); (case aB => exact (by repeat (first | (with_reducible first | exact HB.out | apply ba | apply bn | apply be) | exact HB.out))); (case aF => exact (fun k_ hk => (Nat.le_trans (bz (by repeat (first | (with_reducible first | exact HB.out | apply ba | apply bn | apply be) | exact HB.out))) hk))); (case aO => exact (by (with_reducible repeat (first | apply ra | apply rn | apply re)); exact HO_7.out)); (case aS => exact (bz (by repeat (first | (with_reducible first | exact HB.out | apply ba | apply bn | apply be) | exact HB.out)))); (case aL => have := LMc27.out; omega); intro v125 w31 ho hb hg hat; rw [← Ny124.out] at ho; have n0_ := Am (Kd.V_afterv (ok := (fun k_ => ((P0_ k_ ∨ P1_ k_) ∨ w.heap.size ≤ k_))) (by (with_reducible repeat (first | apply Kd.V_alloc | apply Kd.V_drewN | apply Kd.V_drew)); exact HO_0.out) hg hat); have n1_ := Am (Kd.V_afterv (ok := (fun k_ => ((P0_ k_ ∨ P1_ k_) ∨ w.heap.size ≤ k_))) (by (with_reducible repeat (first | apply Kd.V_alloc | apply Kd.V_drewN | apply Kd.V_drew)); exact HO_1.out) hg hat); have n2_ := Am (hb); have n3_ := Am (ho); clear HO_0; clear HO_1; clear HB; clear HO_7; have HO_0 := n0_; have HO_1 := n1_; have HB := n2_; have HO126 := n3_; clear n0_ n1_ n2_ n3_; clear ho hb hg hat; have q32 : (1 : Int) ≤ ((x1_1.length : Int) : Int) := of_decide_eq_true (by assumption); obtain ⟨i032, hi032, _, hsz32, _⟩ := info_parts info33; have hroom32 : x1_1.length ≤ co30 := (Kd.V_reads' HO_1.out).2.1; have hC32 : Kd.F k33 _ _ (some ad123) x1_1.length x1_1 := (Kd.V_at (base := w.heap.size) HO_1.out).2.2; have hcut32 := cut_from (P := Try.prog) 24 33 .i64 Try.underlying24 hi032 9 hsz32 (some ad123) x1_1.length co30 1 (by omega) q32; have hr32 := Kd.F_cut (m := (1 : Int).toNat) (c := co30) hC32 (by omega) hroom32; obtain ⟨A32, hA32⟩ : ∃ A1, A1 = (if co30 = (1 : Int).toNat then (some ad123) else ((some ad123) : Option Addr).map (·.add ((1 : Int).toNat * 9))) := ⟨_, rfl⟩; obtain ⟨c32, hc32⟩ : ∃ c1, c1 = co30 - (1 : Int).toNat := ⟨_, rfl⟩; have hy32 : y127.length = x1_1.length - (1 : Int).toNat := (by rw [Ny127.out, List.length_drop] <;> omega); rw [show (x1_1).drop (1 : Int).toNat = y127 from Ny127.out.symm] at hr32; replace hr32 : Kd.F k33 _ _ A32 y127.length y127 := (by rw [hA32]; exact hr32); rw [← hy32, ← hA32, ← hc32] at hcut32; have HO131 := Am (show Kd.V k33 33 _ w.heap.size _ (.slice A32 y127.length c32) y127 from Kd.V_mk (by rw [hy32, hc32]; exact Nat.sub_le_sub_right hroom32 _) hr32); have HC131 := Am (show y127.length ≤ c32 from by rw [hy32, hc32]; exact Nat.sub_le_sub_right hroom32 _); clear hr32 hC32 hroom32 hi032 hsz32 hc32; have KY32 := Am hy32; have KA32 := Am hA32; clear hy32 hA32; replace q32 := eq_true q32))
            go_roundg k1
            case measure => have := HK1.out; omega
            case rel => exact ⟨(x0_1), (y127), (y124), (wrap64 (x8_1 + 1)), (by first | rfl | (simp; done) | (simp [*]; done)), H', ⟨by have := HK1.out; omega⟩, ⟨by (with_reducible repeat (first | apply Kd.V_alloc | apply Kd.V_drewN | apply Kd.V_drew)); exact HO_0.out⟩, ⟨by (with_reducible repeat (first | apply Kd.V_alloc | apply Kd.V_drewN | apply Kd.V_drew)); exact HO131.out⟩, ⟨by (with_reducible repeat (first | apply ra | apply rn | apply re)); exact HO126.out⟩, ⟨by repeat (first | (with_reducible first | apply ba | apply bn | apply be) | exact HB.out)⟩⟩
           ·rw [if_neg c28] at H
            exact absurd H (by simp)
          ·rw [if_neg c27] at H
           exact absurd H (by simp)
         ·rw [if_neg c26] at H
          exact absurd H (by simp)
        ·rw [if_neg c25] at H
         have c25b0 : decide (0 < (x1_1.length : Int)) = false := decide_eq_false c25
         have c25b1 : decide (0 < x1_1.length) = false := decide_eq_false (by omega)
         clear c25
         by_cases c33 : 0 < (x0_1.length : Int)
         ·rw [if_pos c33] at H
          have c33b0 : decide (0 < (x0_1.length : Int)) = true := decide_eq_true c33
          have c33b1 : decide (0 < x0_1.length) = true := decide_eq_true (by omega)
          clear c33
          by_cases c34 : x7_1.length < 1466015503701
          ·rw [if_pos c34] at H
           have LMc34 := Am c34
           clear c34
           obtain ⟨y133, hy133⟩ : ∃ y_ : List (S33), y_ = (x7_1 ++ [(⟨(rd_T33 x0_1 0).f0, (rd_T33 x0_1 0).f1, (⟨(rd_T33 x0_1 0).f2.f0, (rd_T33 x0_1 0).f2.f1, (rd_T33 x0_1 0).f2.f2, (rd_T33 x0_1 0).f2.f3, (rd_T33 x0_1 0).f2.f4, (rd_T33 x0_1 0).f2.f5⟩ : S31), (rd_T33 x0_1 0).f3⟩ : S33)]) := ⟨_, rfl⟩
           replace H : (if 1 ≤ (x0_1.length : Int) then (impl_Woven.l0 k1 (x0_1.drop 1) x1_1 l2 y133 (wrap64 (x8_1 + 1))) else (none)) = some r := by first | (rw [hy133]; with_reducible exact H) | (have H2_ := (Option.bind_some _ _).symm.trans H; rw [hy133]; with_reducible exact H2_) | (have H2_ := (Option.bind_some _ _).symm.trans H; with_reducible exact H2_) | with_reducible exact H | (rw [hy133]; exact H) | exact H
           have Ny133 := Am hy133
           clear hy133
           by_cases c35 : 1 ≤ (x0_1.length : Int)
           ·rw [if_pos c35] at H
            have c35b0 := eq_true c35
            have c35b1 : decide (1 ≤ (x0_1.length : Int)) = true := decide_eq_true c35
            clear c35
            obtain ⟨y136, hy136⟩ : ∃ y_ : List (S33), y_ = (x0_1.drop 1) := ⟨_, rfl⟩
            replace H : (impl_Woven.l0 k1 y136 x1_1 l2 y133 (wrap64 (x8_1 + 1))) = some r := by first | (rw [hy136]; with_reducible exact H) | (have H2_ := (Option.bind_some _ _).symm.trans H; rw [hy136]; with_reducible exact H2_) | (have H2_ := (Option.bind_some _ _).symm.trans H; with_reducible exact H2_) | with_reducible exact H | (rw [hy136]; exact H) | exact H
            have Ny136 := Am hy136
            clear hy136
            have H' := Am H
            clear H
            obtain ⟨Ao36, co36, eo36⟩ := Kd.V_slice HO_0.out
            subst eo36
            obtain ⟨Ao37, co37, eo37⟩ := Kd.V_slice HO_1.out
            subst eo37
            have p104 : 0 ≤ (x8_1 : Int) := of_decide_eq_true (by assumption)
            have q104 : x8_1 < (l2.length : Int) := of_decide_eq_true (by assumption)
            obtain ⟨ad104, e104, hx104_0⟩ := Kd.at_int HR2.out x8_1 p104 q104
            cases e104
            replace hx104_0 := cl1 HB hx104_0
            replace p104 := eq_true p104
            replace q104 := eq_true q104
            have p132 : 0 ≤ (0 : Int) := (by omega)
            have q132 : 0 < (x0_1.length : Int) := of_decide_eq_true (by assumption)
            obtain ⟨ad132, e132, hx132_0, hx132_1, hx132_2, hx132_3, hx132_4, hx132_5, hx132_6, hx132_7, hx132_8⟩ := at_T33 (Kd.V_reads' HO_0.out).2.2 0 p132 q132
            cases e132
            have qi132 : (0 < x0_1.length) = True := eq_true (by omega)
            (try rw [show ((0 : Int)).toNat = 0 from rfl] at hx132_0)
            (try rw [show 0 * 9 = 0 from rfl] at hx132_0)
            (try rw [Addr.add_zero'] at hx132_0)
            (try rw [show ((0 : Int)).toNat = 0 from rfl] at hx132_1)
            (try rw [show 0 * 9 = 0 from rfl] at hx132_1)
            (try rw [Addr.add_zero'] at hx132_1)
            (try rw [show ((0 : Int)).toNat = 0 from rfl] at hx132_2)
            (try rw [show 0 * 9 = 0 from rfl] at hx132_2)
            (try rw [Addr.add_zero'] at hx132_2)
            (try rw [show ((0 : Int)).toNat = 0 from rfl] at hx132_3)
            (try rw [show 0 * 9 = 0 from rfl] at hx132_3)
            (try rw [Addr.add_zero'] at hx132_3)
            (try rw [show ((0 : Int)).toNat = 0 from rfl] at hx132_4)
            (try rw [show 0 * 9 = 0 from rfl] at hx132_4)
            (try rw [Addr.add_zero'] at hx132_4)
            (try rw [show ((0 : Int)).toNat = 0 from rfl] at hx132_5)
            (try rw [show 0 * 9 = 0 from rfl] at hx132_5)
            (try rw [Addr.add_zero'] at hx132_5)
            (try rw [show ((0 : Int)).toNat = 0 from rfl] at hx132_6)
            (try rw [show 0 * 9 = 0 from rfl] at hx132_6)
            (try rw [Addr.add_zero'] at hx132_6)
            (try rw [show ((0 : Int)).toNat = 0 from rfl] at hx132_7)
            (try rw [show 0 * 9 = 0 from rfl] at hx132_7)
            (try rw [Addr.add_zero'] at hx132_7)
            (try rw [show ((0 : Int)).toNat = 0 from rfl] at hx132_8)
            (try rw [show 0 * 9 = 0 from rfl] at hx132_8)
            (try rw [Addr.add_zero'] at hx132_8)
            replace p132 := eq_true p132
            replace q132 := eq_true q132
            go_wp2_with (first | ((with_reducible refine gate_builtin (b := .append) (xs := #[.tmp 50, .tmp 54]) rfl ?_); (try (refine gate_guard (by rfl) ?_; dsimp only)); at_builtin; refine Kd.R_append k33 (w0 := w) w.heap.size rfl (.tmp 50) (.tmp 54) 24 33 (.agg #[(.int .i64 0), (.int .i64 0), (.int .i64 0), (.string ⟨#[]⟩), (.string ⟨#[]⟩), (.int .i64 0), (.int .i64 0), (.string ⟨#[]⟩), (.int .i64 0)]) 96 rfl Try.underlying24 info33 rfl (by decide) (by omega) u7 x7_1 (⟨(rd_T33 x0_1 0).f0, (rd_T33 x0_1 0).f1, (⟨(rd_T33 x0_1 0).f2.f0, (rd_T33 x0_1 0).f2.f1, (rd_T33 x0_1 0).f2.f2, (rd_T33 x0_1 0).f2.f3, (rd_T33 x0_1 0).f2.f4, (rd_T33 x0_1 0).f2.f5⟩ : S31), (rd_T33 x0_1 0).f3⟩ : S33) [.int .i64 ((rd_T33 x0_1 0).f0), .int .i64 ((rd_T33 x0_1 0).f1), .int .i64 ((rd_T33 x0_1 0).f2.f0), .string ((rd_T33 x0_1 0).f2.f1), .string ((rd_T33 x0_1 0).f2.f2), .int .i64 ((rd_T33 x0_1 0).f2.f3), .int .i64 ((rd_T33 x0_1 0).f2.f4), .string ((rd_T33 x0_1 0).f2.f5), .int .i64 ((rd_T33 x0_1 0).f3)] (fun k_ => (w.heap.size ≤ k_)) (fun _ => False) rfl rfl ?aP (fun _ hk => hk.elim) ?aF ?aO ?aB ?aS ?aL ?_; (case aP => exact k33_mkM _ _ _ (⟨(rd_T33 x0_1 0).f0, (rd_T33 x0_1 0).f1, (⟨(rd_T33 x0_1 0).f2.f0, (rd_T33 x0_1 0).f2.f1, (rd_T33 x0_1 0).f2.f2, (rd_T33 x0_1 0).f2.f3, (rd_T33 x0_1 0).f2.f4, (rd_T33 x0_1 0).f2.f5⟩ : S31), (rd_T33 x0_1 0).f3⟩ : S33)); (case aB => exact (by repeat (first | (with_reducible first | exact HB.out | apply ba | apply bn | apply be) | exact HB.out))); (case aF => exact (fun k_ hk => (Nat.le_trans (bz (by repeat (first | (with_reducible first | exact HB.out | apply ba | apply bn | apply be) | exact HB.out))) hk))); (case aO => exact (by (with_reducible repeat (first | apply ra | apply rn | apply re)); exact HO_7.out)); (case aS => exact (bz (by repeat (first | (with_reducible first | exact HB.out | apply ba | apply bn | apply be) | exact HB.out)))); (case aL => have := LMc34.out; omega); intro v134 w38 ho hb hg hat; rw [← Ny133.out] at ho; have n0_ := Am (Kd.V_afterv (ok := (fun k_ => ((P0_ k_ ∨ P1_ k_) ∨ w.heap.size ≤ k_))) (by (with_reducible repeat (first | apply Kd.V_alloc | apply Kd.V_drewN | apply Kd.V_drew)); exact HO_0.out) hg hat); have n1_ := Am (Kd.V_afterv (ok := (fun k_ => ((P0_ k_ ∨ P1_ k_) ∨ w.heap.size ≤ k_))) (by (with_reducible repeat (first | apply Kd.V_alloc | apply Kd.V_drewN | apply Kd.V_drew)); exact HO_1.out) hg hat); have n2_ := Am (hb); have n3_ := Am (ho); clear HO_0; clear HO_1; clear HB; clear HO_7; have HO_0 := n0_; have HO_1 := n1_; have HB := n2_; have HO135 := n3_; clear n0_ n1_ n2_ n3_; clear ho hb hg hat; have q39 : (1 : Int) ≤ ((x0_1.length : Int) : Int) := of_decide_eq_true (by assumption); obtain ⟨i039, hi039, _, hsz39, _⟩ := info_parts info33; have hroom39 : x0_1.length ≤ co36 := (Kd.V_reads' HO_0.out).2.1; have hC39 : Kd.F k33 _ _ (some ad132) x0_1.length x0_1 := (Kd.V_at (base := w.heap.size) HO_0.out).2.2; have hcut39 := cut_from (P := Try.prog) 24 33 .i64 Try.underlying24 hi039 9 hsz39 (some ad132) x0_1.length co36 1 (by omega) q39; have hr39 := Kd.F_cut (m := (1 : Int).toNat) (c := co36) hC39 (by omega) hroom39; obtain ⟨A39, hA39⟩ : ∃ A1, A1 = (if co36 = (1 : Int).toNat then (some ad132) else ((some ad132) : Option Addr).map (·.add ((1 : Int).toNat * 9))) := ⟨_, rfl⟩; obtain ⟨c39, hc39⟩ : ∃ c1, c1 = co36 - (1 : Int).toNat := ⟨_, rfl⟩; have hy39 : y136.length = x0_1.length - (1 : Int).toNat := (by rw [Ny136.out, List.length_drop] <;> omega); rw [show (x0_1).drop (1 : Int).toNat = y136 from Ny136.out.symm] at hr39; replace hr39 : Kd.F k33 _ _ A39 y136.length y136 := (by rw [hA39]; exact hr39); rw [← hy39, ← hA39, ← hc39] at hcut39; have HO140 := Am (show Kd.V k33 33 _ w.heap.size _ (.slice A39 y136.length c39) y136 from Kd.V_mk (by rw [hy39, hc39]; exact Nat.sub_le_sub_right hroom39 _) hr39); have HC140 := Am (show y136.length ≤ c39 from by rw [hy39, hc39]; exact Nat.sub_le_sub_right hroom39 _); clear hr39 hC39 hroom39 hi039 hsz39 hc39; have KY39 := Am hy39; have KA39 := Am hA39; clear hy39 hA39; replace q39 := eq_true q39))
            go_roundg k1
            case measure => have := HK1.out; omega
            case rel => exact ⟨(y136), (x1_1), (y133), (wrap64 (x8_1 + 1)), (by first | rfl | (simp; done) | (simp [*]; done)), H', ⟨by have := HK1.out; omega⟩, ⟨by (with_reducible repeat (first | apply Kd.V_alloc | apply Kd.V_drewN | apply Kd.V_drew)); exact HO140.out⟩, ⟨by (with_reducible repeat (first | apply Kd.V_alloc | apply Kd.V_drewN | apply Kd.V_drew)); exact HO_1.out⟩, ⟨by (with_reducible repeat (first | apply ra | apply rn | apply re)); exact HO135.out⟩, ⟨by repeat (first | (with_reducible first | apply ba | apply bn | apply be) | exact HB.out)⟩⟩
           ·rw [if_neg c35] at H
            exact absurd H (by simp)
          ·rw [if_neg c34] at H
           exact absurd H (by simp)
         ·rw [if_neg c33] at H
          exact absurd H (by simp)
     ·rw [if_neg c8] at H
      exact absurd H (by simp)
    ·rw [if_neg c7] at H
     have c7b0 : decide (x8_1 < (l2.length : Int)) = false := decide_eq_false c7
     clear c7
     by_cases c40 : (x0_1.length : Int) = 0
     ·rw [if_pos c40] at H
      have c40b0 : ((x0_1.length : Int) == 0) = true := beq_iff_eq.mpr c40
      have c40b1 : ((x0_1.length : Int) != 0) = false := bne_eq_false_iff_eq.mpr c40
      clear c40
      by_cases c41 : 0 < (x1_1.length : Int)
      ·rw [if_pos c41] at H
       have c41b0 : decide (0 < (x1_1.length : Int)) = true := decide_eq_true c41
       have c41b1 : decide (0 < x1_1.length) = true := decide_eq_true (by omega)
       clear c41
       by_cases c42 : x7_1.length < 1466015503701
       ·rw [if_pos c42] at H
        have LMc42 := Am c42
        clear c42
        obtain ⟨y142, hy142⟩ : ∃ y_ : List (S33), y_ = (x7_1 ++ [(⟨(rd_T33 x1_1 0).f0, (rd_T33 x1_1 0).f1, (⟨(rd_T33 x1_1 0).f2.f0, (rd_T33 x1_1 0).f2.f1, (rd_T33 x1_1 0).f2.f2, (rd_T33 x1_1 0).f2.f3, (rd_T33 x1_1 0).f2.f4, (rd_T33 x1_1 0).f2.f5⟩ : S31), (rd_T33 x1_1 0).f3⟩ : S33)]) := ⟨_, rfl⟩
        replace H : (if 1 ≤ (x1_1.length : Int) then (impl_Woven.l0 k1 x0_1 (x1_1.drop 1) l2 y142 (wrap64 (x8_1 + 1))) else (none)) = some r := by first | (rw [hy142]; with_reducible exact H) | (have H2_ := (Option.bind_some _ _).symm.trans H; rw [hy142]; with_reducible exact H2_) | (have H2_ := (Option.bind_some _ _).symm.trans H; with_reducible exact H2_) | with_reducible exact H | (rw [hy142]; exact H) | exact H
        have Ny142 := Am hy142
        clear hy142
        by_cases c43 : 1 ≤ (x1_1.length : Int)
        ·rw [if_pos c43] at H
         have c43b0 := eq_true c43
         have c43b1 : decide (1 ≤ (x1_1.length : Int)) = true := decide_eq_true c43
         clear c43
         obtain ⟨y145, hy145⟩ : ∃ y_ : List (S33), y_ = (x1_1.drop 1) := ⟨_, rfl⟩
         replace H : (impl_Woven.l0 k1 x0_1 y145 l2 y142 (wrap64 (x8_1 + 1))) = some r := by first | (rw [hy145]; with_reducible exact H) | (have H2_ := (Option.bind_some _ _).symm.trans H; rw [hy145]; with_reducible exact H2_) | (have H2_ := (Option.bind_some _ _).symm.trans H; with_reducible exact H2_) | with_reducible exact H | (rw [hy145]; exact H) | exact H
         have Ny145 := Am hy145
         clear hy145
         have H' := Am H
         clear H
         obtain ⟨Ao44, co44, eo44⟩ := Kd.V_slice HO_0.out
         subst eo44
         obtain ⟨Ao45, co45, eo45⟩ := Kd.V_slice HO_1.out
         subst eo45
         have p141 : 0 ≤ (0 : Int) := (by omega)
         have q141 : 0 < (x1_1.length : Int) := of_decide_eq_true (by assumption)
         obtain ⟨ad141, e141, hx141_0, hx141_1, hx141_2, hx141_3, hx141_4, hx141_5, hx141_6, hx141_7, hx141_8⟩ := at_T33 (Kd.V_reads' HO_1.out).2.2 0 p141 q141
         cases e141
         have qi141 : (0 < x1_1.length) = True := eq_true (by omega)
         (try rw [show ((0 : Int)).toNat = 0 from rfl] at hx141_0)
         (try rw [show 0 * 9 = 0 from rfl] at hx141_0)
         (try rw [Addr.add_zero'] at hx141_0)
         (try rw [show ((0 : Int)).toNat = 0 from rfl] at hx141_1)
         (try rw [show 0 * 9 = 0 from rfl] at hx141_1)
         (try rw [Addr.add_zero'] at hx141_1)
         (try rw [show ((0 : Int)).toNat = 0 from rfl] at hx141_2)
         (try rw [show 0 * 9 = 0 from rfl] at hx141_2)
         (try rw [Addr.add_zero'] at hx141_2)
         (try rw [show ((0 : Int)).toNat = 0 from rfl] at hx141_3)
         (try rw [show 0 * 9 = 0 from rfl] at hx141_3)
         (try rw [Addr.add_zero'] at hx141_3)
         (try rw [show ((0 : Int)).toNat = 0 from rfl] at hx141_4)
         (try rw [show 0 * 9 = 0 from rfl] at hx141_4)
         (try rw [Addr.add_zero'] at hx141_4)
         (try rw [show ((0 : Int)).toNat = 0 from rfl] at hx141_5)
         (try rw [show 0 * 9 = 0 from rfl] at hx141_5)
         (try rw [Addr.add_zero'] at hx141_5)
         (try rw [show ((0 : Int)).toNat = 0 from rfl] at hx141_6)
         (try rw [show 0 * 9 = 0 from rfl] at hx141_6)
         (try rw [Addr.add_zero'] at hx141_6)
         (try rw [show ((0 : Int)).toNat = 0 from rfl] at hx141_7)
         (try rw [show 0 * 9 = 0 from rfl] at hx141_7)
         (try rw [Addr.add_zero'] at hx141_7)
         (try rw [show ((0 : Int)).toNat = 0 from rfl] at hx141_8)
         (try rw [show 0 * 9 = 0 from rfl] at hx141_8)
         (try rw [Addr.add_zero'] at hx141_8)
         replace p141 := eq_true p141
         replace q141 := eq_true q141
         go_wp2_with (first | ((with_reducible refine gate_builtin (b := .append) (xs := #[.tmp 42, .tmp 46]) rfl ?_); (try (refine gate_guard (by rfl) ?_; dsimp only)); at_builtin; refine Kd.R_append k33 (w0 := w) w.heap.size rfl (.tmp 42) (.tmp 46) 24 33 (.agg #[(.int .i64 0), (.int .i64 0), (.int .i64 0), (.string ⟨#[]⟩), (.string ⟨#[]⟩), (.int .i64 0), (.int .i64 0), (.string ⟨#[]⟩), (.int .i64 0)]) 96 rfl Try.underlying24 info33 rfl (by decide) (by omega) u7 x7_1 (⟨(rd_T33 x1_1 0).f0, (rd_T33 x1_1 0).f1, (⟨(rd_T33 x1_1 0).f2.f0, (rd_T33 x1_1 0).f2.f1, (rd_T33 x1_1 0).f2.f2, (rd_T33 x1_1 0).f2.f3, (rd_T33 x1_1 0).f2.f4, (rd_T33 x1_1 0).f2.f5⟩ : S31), (rd_T33 x1_1 0).f3⟩ : S33) [.int .i64 ((rd_T33 x1_1 0).f0), .int .i64 ((rd_T33 x1_1 0).f1), .int .i64 ((rd_T33 x1_1 0).f2.f0), .string ((rd_T33 x1_1 0).f2.f1), .string ((rd_T33 x1_1 0).f2.f2), .int .i64 ((rd_T33 x1_1 0).f2.f3), .int .i64 ((rd_T33 x1_1 0).f2.f4), .string ((rd_T33 x1_1 0).f2.f5), .int .i64 ((rd_T33 x1_1 0).f3)] (fun k_ => (w.heap.size ≤ k_)) (fun _ => False) rfl rfl ?aP (fun _ hk => hk.elim) ?aF ?aO ?aB ?aS ?aL ?_; (case aP => exact k33_mkM _ _ _ (⟨(rd_T33 x1_1 0).f0, (rd_T33 x1_1 0).f1, (⟨(rd_T33 x1_1 0).f2.f0, (rd_T33 x1_1 0).f2.f1, (rd_T33 x1_1 0).f2.f2, (rd_T33 x1_1 0).f2.f3, (rd_T33 x1_1 0).f2.f4, (rd_T33 x1_1 0).f2.f5⟩ : S31), (rd_T33 x1_1 0).f3⟩ : S33)); (case aB => exact (by repeat (first | (with_reducible first | exact HB.out | apply ba | apply bn | apply be) | exact HB.out))); (case aF => exact (fun k_ hk => (Nat.le_trans (bz (by repeat (first | (with_reducible first | exact HB.out | apply ba | apply bn | apply be) | exact HB.out))) hk))); (case aO => exact (by (with_reducible repeat (first | apply ra | apply rn | apply re)); exact HO_7.out)); (case aS => exact (bz (by repeat (first | (with_reducible first | exact HB.out | apply ba | apply bn | apply be) | exact HB.out)))); (case aL => have := LMc42.out; omega); intro v143 w46 ho hb hg hat; rw [← Ny142.out] at ho; have n0_ := Am (Kd.V_afterv (ok := (fun k_ => ((P0_ k_ ∨ P1_ k_) ∨ w.heap.size ≤ k_))) (by (with_reducible repeat (first | apply Kd.V_alloc | apply Kd.V_drewN | apply Kd.V_drew)); exact HO_0.out) hg hat); have n1_ := Am (Kd.V_afterv (ok := (fun k_ => ((P0_ k_ ∨ P1_ k_) ∨ w.heap.size ≤ k_))) (by (with_reducible repeat (first | apply Kd.V_alloc | apply Kd.V_drewN | apply Kd.V_drew)); exact HO_1.out) hg hat); have n2_ := Am (hb); have n3_ := Am (ho); clear HO_0; clear HO_1; clear HB; clear HO_7; have HO_0 := n0_; have HO_1 := n1_; have HB := n2_; have HO144 := n3_; clear n0_ n1_ n2_ n3_; clear ho hb hg hat; have q47 : (1 : Int) ≤ ((x1_1.length : Int) : Int) := of_decide_eq_true (by assumption); obtain ⟨i047, hi047, _, hsz47, _⟩ := info_parts info33; have hroom47 : x1_1.length ≤ co45 := (Kd.V_reads' HO_1.out).2.1; have hC47 : Kd.F k33 _ _ (some ad141) x1_1.length x1_1 := (Kd.V_at (base := w.heap.size) HO_1.out).2.2; have hcut47 := cut_from (P := Try.prog) 24 33 .i64 Try.underlying24 hi047 9 hsz47 (some ad141) x1_1.length co45 1 (by omega) q47; have hr47 := Kd.F_cut (m := (1 : Int).toNat) (c := co45) hC47 (by omega) hroom47; obtain ⟨A47, hA47⟩ : ∃ A1, A1 = (if co45 = (1 : Int).toNat then (some ad141) else ((some ad141) : Option Addr).map (·.add ((1 : Int).toNat * 9))) := ⟨_, rfl⟩; obtain ⟨c47, hc47⟩ : ∃ c1, c1 = co45 - (1 : Int).toNat := ⟨_, rfl⟩; have hy47 : y145.length = x1_1.length - (1 : Int).toNat := (by rw [Ny145.out, List.length_drop] <;> omega); rw [show (x1_1).drop (1 : Int).toNat = y145 from Ny145.out.symm] at hr47; replace hr47 : Kd.F k33 _ _ A47 y145.length y145 := (by rw [hA47]; exact hr47); rw [← hy47, ← hA47, ← hc47] at hcut47; have HO149 := Am (show Kd.V k33 33 _ w.heap.size _ (.slice A47 y145.length c47) y145 from Kd.V_mk (by rw [hy47, hc47]; exact Nat.sub_le_sub_right hroom47 _) hr47); have HC149 := Am (show y145.length ≤ c47 from by rw [hy47, hc47]; exact Nat.sub_le_sub_right hroom47 _); clear hr47 hC47 hroom47 hi047 hsz47 hc47; have KY47 := Am hy47; have KA47 := Am hA47; clear hy47 hA47; replace q47 := eq_true q47))
         go_roundg k1
         case measure => have := HK1.out; omega
         case rel => exact ⟨(x0_1), (y145), (y142), (wrap64 (x8_1 + 1)), (by first | rfl | (simp; done) | (simp [*]; done)), H', ⟨by have := HK1.out; omega⟩, ⟨by (with_reducible repeat (first | apply Kd.V_alloc | apply Kd.V_drewN | apply Kd.V_drew)); exact HO_0.out⟩, ⟨by (with_reducible repeat (first | apply Kd.V_alloc | apply Kd.V_drewN | apply Kd.V_drew)); exact HO149.out⟩, ⟨by (with_reducible repeat (first | apply ra | apply rn | apply re)); exact HO144.out⟩, ⟨by repeat (first | (with_reducible first | apply ba | apply bn | apply be) | exact HB.out)⟩⟩
        ·rw [if_neg c43] at H
         exact absurd H (by simp)
       ·rw [if_neg c42] at H
        exact absurd H (by simp)
      ·rw [if_neg c41] at H
       exact absurd H (by simp)
     ·rw [if_neg c40] at H
      have c40b0 : ((x0_1.length : Int) == 0) = false := beq_eq_false_iff_ne.mpr c40
      have c40b1 : ((x0_1.length : Int) != 0) = true := bne_iff_ne.mpr c40
      have c40b2 : ¬ (x0_1 = []) := fun h_ => c40 (by rw [h_]; rfl)
      by_cases c48 : 0 < (x0_1.length : Int)
      ·rw [if_pos c48] at H
       have c48b0 : decide (0 < (x0_1.length : Int)) = true := decide_eq_true c48
       have c48b1 : decide (0 < x0_1.length) = true := decide_eq_true (by omega)
       clear c48
       by_cases c49 : x7_1.length < 1466015503701
       ·rw [if_pos c49] at H
        have LMc49 := Am c49
        clear c49
        obtain ⟨y151, hy151⟩ : ∃ y_ : List (S33), y_ = (x7_1 ++ [(⟨(rd_T33 x0_1 0).f0, (rd_T33 x0_1 0).f1, (⟨(rd_T33 x0_1 0).f2.f0, (rd_T33 x0_1 0).f2.f1, (rd_T33 x0_1 0).f2.f2, (rd_T33 x0_1 0).f2.f3, (rd_T33 x0_1 0).f2.f4, (rd_T33 x0_1 0).f2.f5⟩ : S31), (rd_T33 x0_1 0).f3⟩ : S33)]) := ⟨_, rfl⟩
        replace H : (if 1 ≤ (x0_1.length : Int) then (impl_Woven.l0 k1 (x0_1.drop 1) x1_1 l2 y151 (wrap64 (x8_1 + 1))) else (none)) = some r := by first | (rw [hy151]; with_reducible exact H) | (have H2_ := (Option.bind_some _ _).symm.trans H; rw [hy151]; with_reducible exact H2_) | (have H2_ := (Option.bind_some _ _).symm.trans H; with_reducible exact H2_) | with_reducible exact H | (rw [hy151]; exact H) | exact H
        have Ny151 := Am hy151
        clear hy151
        by_cases c50 : 1 ≤ (x0_1.length : Int)
        ·rw [if_pos c50] at H
         have c50b0 := eq_true c50
         have c50b1 : decide (1 ≤ (x0_1.length : Int)) = true := decide_eq_true c50
         clear c50
         obtain ⟨y154, hy154⟩ : ∃ y_ : List (S33), y_ = (x0_1.drop 1) := ⟨_, rfl⟩
         replace H : (impl_Woven.l0 k1 y154 x1_1 l2 y151 (wrap64 (x8_1 + 1))) = some r := by first | (rw [hy154]; with_reducible exact H) | (have H2_ := (Option.bind_some _ _).symm.trans H; rw [hy154]; with_reducible exact H2_) | (have H2_ := (Option.bind_some _ _).symm.trans H; with_reducible exact H2_) | with_reducible exact H | (rw [hy154]; exact H) | exact H
         have Ny154 := Am hy154
         clear hy154
         have H' := Am H
         clear H
         obtain ⟨Ao51, co51, eo51⟩ := Kd.V_slice HO_0.out
         subst eo51
         obtain ⟨Ao52, co52, eo52⟩ := Kd.V_slice HO_1.out
         subst eo52
         have p150 : 0 ≤ (0 : Int) := (by omega)
         have q150 : 0 < (x0_1.length : Int) := of_decide_eq_true (by assumption)
         obtain ⟨ad150, e150, hx150_0, hx150_1, hx150_2, hx150_3, hx150_4, hx150_5, hx150_6, hx150_7, hx150_8⟩ := at_T33 (Kd.V_reads' HO_0.out).2.2 0 p150 q150
         cases e150
         have qi150 : (0 < x0_1.length) = True := eq_true (by omega)
         (try rw [show ((0 : Int)).toNat = 0 from rfl] at hx150_0)
         (try rw [show 0 * 9 = 0 from rfl] at hx150_0)
         (try rw [Addr.add_zero'] at hx150_0)
         (try rw [show ((0 : Int)).toNat = 0 from rfl] at hx150_1)
         (try rw [show 0 * 9 = 0 from rfl] at hx150_1)
         (try rw [Addr.add_zero'] at hx150_1)
         (try rw [show ((0 : Int)).toNat = 0 from rfl] at hx150_2)
         (try rw [show 0 * 9 = 0 from rfl] at hx150_2)
         (try rw [Addr.add_zero'] at hx150_2)
         (try rw [show ((0 : Int)).toNat = 0 from rfl] at hx150_3)
         (try rw [show 0 * 9 = 0 from rfl] at hx150_3)
         (try rw [Addr.add_zero'] at hx150_3)
         (try rw [show ((0 : Int)).toNat = 0 from rfl] at hx150_4)
         (try rw [show 0 * 9 = 0 from rfl] at hx150_4)
         (try rw [Addr.add_zero'] at hx150_4)
         (try rw [show ((0 : Int)).toNat = 0 from rfl] at hx150_5)
         (try rw [show 0 * 9 = 0 from rfl] at hx150_5)
         (try rw [Addr.add_zero'] at hx150_5)
         (try rw [show ((0 : Int)).toNat = 0 from rfl] at hx150_6)
         (try rw [show 0 * 9 = 0 from rfl] at hx150_6)
         (try rw [Addr.add_zero'] at hx150_6)
         (try rw [show ((0 : Int)).toNat = 0 from rfl] at hx150_7)
         (try rw [show 0 * 9 = 0 from rfl] at hx150_7)
         (try rw [Addr.add_zero'] at hx150_7)
         (try rw [show ((0 : Int)).toNat = 0 from rfl] at hx150_8)
         (try rw [show 0 * 9 = 0 from rfl] at hx150_8)
         (try rw [Addr.add_zero'] at hx150_8)
         replace p150 := eq_true p150
         replace q150 := eq_true q150
         go_wp2_with (first | ((with_reducible refine gate_builtin (b := .append) (xs := #[.tmp 50, .tmp 54]) rfl ?_); (try (refine gate_guard (by rfl) ?_; dsimp only)); at_builtin; refine Kd.R_append k33 (w0 := w) w.heap.size rfl (.tmp 50) (.tmp 54) 24 33 (.agg #[(.int .i64 0), (.int .i64 0), (.int .i64 0), (.string ⟨#[]⟩), (.string ⟨#[]⟩), (.int .i64 0), (.int .i64 0), (.string ⟨#[]⟩), (.int .i64 0)]) 96 rfl Try.underlying24 info33 rfl (by decide) (by omega) u7 x7_1 (⟨(rd_T33 x0_1 0).f0, (rd_T33 x0_1 0).f1, (⟨(rd_T33 x0_1 0).f2.f0, (rd_T33 x0_1 0).f2.f1, (rd_T33 x0_1 0).f2.f2, (rd_T33 x0_1 0).f2.f3, (rd_T33 x0_1 0).f2.f4, (rd_T33 x0_1 0).f2.f5⟩ : S31), (rd_T33 x0_1 0).f3⟩ : S33) [.int .i64 ((rd_T33 x0_1 0).f0), .int .i64 ((rd_T33 x0_1 0).f1), .int .i64 ((rd_T33 x0_1 0).f2.f0), .string ((rd_T33 x0_1 0).f2.f1), .string ((rd_T33 x0_1 0).f2.f2), .int .i64 ((rd_T33 x0_1 0).f2.f3), .int .i64 ((rd_T33 x0_1 0).f2.f4), .string ((rd_T33 x0_1 0).f2.f5), .int .i64 ((rd_T33 x0_1 0).f3)] (fun k_ => (w.heap.size ≤ k_)) (fun _ => False) rfl rfl ?aP (fun _ hk => hk.elim) ?aF ?aO ?aB ?aS ?aL ?_; (case aP => exact k33_mkM _ _ _ (⟨(rd_T33 x0_1 0).f0, (rd_T33 x0_1 0).f1, (⟨(rd_T33 x0_1 0).f2.f0, (rd_T33 x0_1 0).f2.f1, (rd_T33 x0_1 0).f2.f2, (rd_T33 x0_1 0).f2.f3, (rd_T33 x0_1 0).f2.f4, (rd_T33 x0_1 0).f2.f5⟩ : S31), (rd_T33 x0_1 0).f3⟩ : S33)); (case aB => exact (by repeat (first | (with_reducible first | exact HB.out | apply ba | apply bn | apply be) | exact HB.out))); (case aF => exact (fun k_ hk => (Nat.le_trans (bz (by repeat (first | (with_reducible first | exact HB.out | apply ba | apply bn | apply be) | exact HB.out))) hk))); (case aO => exact (by (with_reducible repeat (first | apply ra | apply rn | apply re)); exact HO_7.out)); (case aS => exact (bz (by repeat (first | (with_reducible first | exact HB.out | apply ba | apply bn | apply be) | exact HB.out)))); (case aL => have := LMc49.out; omega); intro v152 w53 ho hb hg hat; rw [← Ny151.out] at ho; have n0_ := Am (Kd.V_afterv (ok := (fun k_ => ((P0_ k_ ∨ P1_ k_) ∨ w.heap.size ≤ k_))) (by (with_reducible repeat (first | apply Kd.V_alloc | apply Kd.V_drewN | apply Kd.V_drew)); exact HO_0.out) hg hat); have n1_ := Am (Kd.V_afterv (ok := (fun k_ => ((P0_ k_ ∨ P1_ k_) ∨ w.heap.size ≤ k_))) (by (with_reducible repeat (first | apply Kd.V_alloc | apply Kd.V_drewN | apply Kd.V_drew)); exact HO_1.out) hg hat); have n2_ := Am (hb); have n3_ := Am (ho); clear HO_0; clear HO_1; clear HB; clear HO_7; have HO_0 := n0_; have HO_1 := n1_; have HB := n2_; have HO153 := n3_; clear n0_ n1_ n2_ n3_; clear ho hb hg hat; have q54 : (1 : Int) ≤ ((x0_1.length : Int) : Int) := of_decide_eq_true (by assumption); obtain ⟨i054, hi054, _, hsz54, _⟩ := info_parts info33; have hroom54 : x0_1.length ≤ co51 := (Kd.V_reads' HO_0.out).2.1; have hC54 : Kd.F k33 _ _ (some ad150) x0_1.length x0_1 := (Kd.V_at (base := w.heap.size) HO_0.out).2.2; have hcut54 := cut_from (P := Try.prog) 24 33 .i64 Try.underlying24 hi054 9 hsz54 (some ad150) x0_1.length co51 1 (by omega) q54; have hr54 := Kd.F_cut (m := (1 : Int).toNat) (c := co51) hC54 (by omega) hroom54; obtain ⟨A54, hA54⟩ : ∃ A1, A1 = (if co51 = (1 : Int).toNat then (some ad150) else ((some ad150) : Option Addr).map (·.add ((1 : Int).toNat * 9))) := ⟨_, rfl⟩; obtain ⟨c54, hc54⟩ : ∃ c1, c1 = co51 - (1 : Int).toNat := ⟨_, rfl⟩; have hy54 : y154.length = x0_1.length - (1 : Int).toNat := (by rw [Ny154.out, List.length_drop] <;> omega); rw [show (x0_1).drop (1 : Int).toNat = y154 from Ny154.out.symm] at hr54; replace hr54 : Kd.F k33 _ _ A54 y154.length y154 := (by rw [hA54]; exact hr54); rw [← hy54, ← hA54, ← hc54] at hcut54; have HO158 := Am (show Kd.V k33 33 _ w.heap.size _ (.slice A54 y154.length c54) y154 from Kd.V_mk (by rw [hy54, hc54]; exact Nat.sub_le_sub_right hroom54 _) hr54); have HC158 := Am (show y154.length ≤ c54 from by rw [hy54, hc54]; exact Nat.sub_le_sub_right hroom54 _); clear hr54 hC54 hroom54 hi054 hsz54 hc54; have KY54 := Am hy54; have KA54 := Am hA54; clear hy54 hA54; replace q54 := eq_true q54))
         go_roundg k1
         case measure => have := HK1.out; omega
         case rel => exact ⟨(y154), (x1_1), (y151), (wrap64 (x8_1 + 1)), (by first | rfl | (simp; done) | (simp [*]; done)), H', ⟨by have := HK1.out; omega⟩, ⟨by (with_reducible repeat (first | apply Kd.V_alloc | apply Kd.V_drewN | apply Kd.V_drew)); exact HO158.out⟩, ⟨by (with_reducible repeat (first | apply Kd.V_alloc | apply Kd.V_drewN | apply Kd.V_drew)); exact HO_1.out⟩, ⟨by (with_reducible repeat (first | apply ra | apply rn | apply re)); exact HO153.out⟩, ⟨by repeat (first | (with_reducible first | apply ba | apply bn | apply be) | exact HB.out)⟩⟩
        ·rw [if_neg c50] at H
         exact absurd H (by simp)
       ·rw [if_neg c49] at H
        exact absurd H (by simp)
      ·rw [if_neg c48] at H
       exact absurd H (by simp)
   ·rw [if_neg c6] at H
    have c6b0 : decide (0 < (wrap64 ((x0_1.length : Int) + (x1_1.length : Int)))) = false := decide_eq_false c6
    clear c6
    obtain rfl := Option.some.inj H
    obtain ⟨Ao55, co55, eo55⟩ := Kd.V_slice HO_0.out
    subst eo55
    obtain ⟨Ao56, co56, eo56⟩ := Kd.V_slice HO_1.out
    subst eo56
    go_wp2
    go_ret
    exact ⟨_, by first | rfl | (simp [errW_none, errW_some] <;> rfl) | (simp [*, errW_none, errW_some] <;> rfl), by (with_reducible repeat (first | apply ra | apply rn | apply re)); exact HO_7.out, by repeat (first | (with_reducible first | apply ba | apply bn | apply be) | exact HB.out)⟩

/-! ### laws_szAsk: function 115 -/
def laws_szAsk.f (a0_0 : Int) (a0_1 : ByteArray) (a0_2 : ByteArray) (a0_3 : Int) (a0_4 : Int) (a0_5 : ByteArray) (a1 : Int) : Option (Int) := if (wrap64 (a1 - (a0_1.size : Int))) < 0 then (some (-1)) else (if (wrap64 ((wrap64 (a1 - (a0_1.size : Int))) - (a0_2.size : Int))) < 0 then (some (-1)) else (if (wrap64 ((wrap64 ((wrap64 (a1 - (a0_1.size : Int))) - (a0_2.size : Int))) - (a0_5.size : Int))) < 0 then (some (-1)) else (some (wrap64 ((wrap64 ((wrap64 (a1 - (a0_1.size : Int))) - (a0_2.size : Int))) - (a0_5.size : Int))))))
set_option maxHeartbeats 8000000 in
set_option maxRecDepth 100000 in
theorem laws_szAsk.calls (a0_0 : Int) (a0_1 : ByteArray) (a0_2 : ByteArray) (a0_3 : Int) (a0_4 : Int) (a0_5 : ByteArray) (a1 : Int) (r : Int) (w : World) (h : laws_szAsk.f a0_0 a0_1 a0_2 a0_3 a0_4 a0_5 a1 = some r) :
  Calls Try.prog 115 #[.agg #[.int .i64 a0_0, .string a0_1, .string a0_2, .int .i64 a0_3, .int .i64 a0_4, .string a0_5], .int .i64 a1] w fun e w' => e = .returned (.int .i64 r) ∧ Below w.heap.size w w' := by
 have hu102 := Try.underlying102
 have HB := Am (Below.refl w.heap.size w)
 have H : (if (wrap64 (a1 - (a0_1.size : Int))) < 0 then (some (-1)) else (if (wrap64 ((wrap64 (a1 - (a0_1.size : Int))) - (a0_2.size : Int))) < 0 then (some (-1)) else (if (wrap64 ((wrap64 ((wrap64 (a1 - (a0_1.size : Int))) - (a0_2.size : Int))) - (a0_5.size : Int))) < 0 then (some (-1)) else (some (wrap64 ((wrap64 ((wrap64 (a1 - (a0_1.size : Int))) - (a0_2.size : Int))) - (a0_5.size : Int))))))) = some r := h
 clear h
 by_cases c3 : (wrap64 (a1 - (a0_1.size : Int))) < 0
 ·rw [if_pos c3] at H
  have c3b0 : decide ((wrap64 (a1 - (a0_1.size : Int))) < 0) = true := decide_eq_true c3
  clear c3
  obtain rfl := Option.some.inj H
  go_enter Try.func115, Try.ntmps115
  go_wp2_with (first | ((with_reducible refine gate_dst (N := 2) rfl ?_); refine box_event ?hg (N := 2) ?hd (cs := #[.int .i64 a0_0, .string a0_1, .string a0_2, .int .i64 a0_3, .int .i64 a0_4, .string a0_5]) (t := 102) ?hr ?_; (case hd => rfl); (case hg => rfl); (case hr => first | (go_simp; done) | (go_simp; rfl)); intro gb159 hg w4 hbox hb; have BK159 := Am (hbox); have GW159 := Am ((by rw [hg]; exact (bz (by repeat (first | (with_reducible first | exact HB.out | apply ba | apply bn | apply be) | exact HB.out))) : w.heap.size ≤ gb159)); have GE159 := Am ((by rw [hg]; exact (bz (by repeat (first | (with_reducible first | exact HB.out | apply ba | apply bn | apply be) | exact HB.out))) : w.heap.size ≤ gb159)); replace HB := Am (bt (by repeat (first | (with_reducible first | exact HB.out | apply ba | apply bn | apply be) | exact HB.out)) hb); clear hb hbox hg; have hcz5_0 : w4.cell? ⟨gb159, 0, none⟩ = some (.int .i64 a0_0) := (kc BK159.out 0).trans rfl; have hcz5_1 : w4.cell? ⟨gb159, 1, none⟩ = some (.string a0_1) := (kc BK159.out 1).trans rfl; have hcz5_2 : w4.cell? ⟨gb159, 2, none⟩ = some (.string a0_2) := (kc BK159.out 2).trans rfl; have hcz5_3 : w4.cell? ⟨gb159, 3, none⟩ = some (.int .i64 a0_3) := (kc BK159.out 3).trans rfl; have hcz5_4 : w4.cell? ⟨gb159, 4, none⟩ = some (.int .i64 a0_4) := (kc BK159.out 4).trans rfl; have hcz5_5 : w4.cell? ⟨gb159, 5, none⟩ = some (.string a0_5) := (kc BK159.out 5).trans rfl; have hfz5_0 := kf BK159.out 0; have hfz5_1 := kf BK159.out 1; have hfz5_2 := kf BK159.out 2; have hfz5_3 := kf BK159.out 3; have hfz5_4 := kf BK159.out 4; have hfz5_5 := kf BK159.out 5))
  go_ret
  exact ⟨by first | rfl | (simp [errW_none, errW_some] <;> rfl) | (simp [*, errW_none, errW_some] <;> rfl), by repeat (first | (with_reducible first | exact HB.out | apply ba | apply bn | apply be | refine bs ?_ GE159.out) | exact HB.out)⟩
 ·rw [if_neg c3] at H
  have c3b0 : decide ((wrap64 (a1 - (a0_1.size : Int))) < 0) = false := decide_eq_false c3
  clear c3
  by_cases c6 : (wrap64 ((wrap64 (a1 - (a0_1.size : Int))) - (a0_2.size : Int))) < 0
  ·rw [if_pos c6] at H
   have c6b0 : decide ((wrap64 ((wrap64 (a1 - (a0_1.size : Int))) - (a0_2.size : Int))) < 0) = true := decide_eq_true c6
   clear c6
   obtain rfl := Option.some.inj H
   go_enter Try.func115, Try.ntmps115
   go_wp2_with (first | ((with_reducible refine gate_dst (N := 2) rfl ?_); refine box_event ?hg (N := 2) ?hd (cs := #[.int .i64 a0_0, .string a0_1, .string a0_2, .int .i64 a0_3, .int .i64 a0_4, .string a0_5]) (t := 102) ?hr ?_; (case hd => rfl); (case hg => rfl); (case hr => first | (go_simp; done) | (go_simp; rfl)); intro gb159 hg w7 hbox hb; have BK159 := Am (hbox); have GW159 := Am ((by rw [hg]; exact (bz (by repeat (first | (with_reducible first | exact HB.out | apply ba | apply bn | apply be) | exact HB.out))) : w.heap.size ≤ gb159)); have GE159 := Am ((by rw [hg]; exact (bz (by repeat (first | (with_reducible first | exact HB.out | apply ba | apply bn | apply be) | exact HB.out))) : w.heap.size ≤ gb159)); replace HB := Am (bt (by repeat (first | (with_reducible first | exact HB.out | apply ba | apply bn | apply be) | exact HB.out)) hb); clear hb hbox hg; have hcz8_0 : w7.cell? ⟨gb159, 0, none⟩ = some (.int .i64 a0_0) := (kc BK159.out 0).trans rfl; have hcz8_1 : w7.cell? ⟨gb159, 1, none⟩ = some (.string a0_1) := (kc BK159.out 1).trans rfl; have hcz8_2 : w7.cell? ⟨gb159, 2, none⟩ = some (.string a0_2) := (kc BK159.out 2).trans rfl; have hcz8_3 : w7.cell? ⟨gb159, 3, none⟩ = some (.int .i64 a0_3) := (kc BK159.out 3).trans rfl; have hcz8_4 : w7.cell? ⟨gb159, 4, none⟩ = some (.int .i64 a0_4) := (kc BK159.out 4).trans rfl; have hcz8_5 : w7.cell? ⟨gb159, 5, none⟩ = some (.string a0_5) := (kc BK159.out 5).trans rfl; have hfz8_0 := kf BK159.out 0; have hfz8_1 := kf BK159.out 1; have hfz8_2 := kf BK159.out 2; have hfz8_3 := kf BK159.out 3; have hfz8_4 := kf BK159.out 4; have hfz8_5 := kf BK159.out 5))
   go_ret
   exact ⟨by first | rfl | (simp [errW_none, errW_some] <;> rfl) | (simp [*, errW_none, errW_some] <;> rfl), by repeat (first | (with_reducible first | exact HB.out | apply ba | apply bn | apply be | refine bs ?_ GE159.out) | exact HB.out)⟩
  ·rw [if_neg c6] at H
   have c6b0 : decide ((wrap64 ((wrap64 (a1 - (a0_1.size : Int))) - (a0_2.size : Int))) < 0) = false := decide_eq_false c6
   clear c6
   by_cases c9 : (wrap64 ((wrap64 ((wrap64 (a1 - (a0_1.size : Int))) - (a0_2.size : Int))) - (a0_5.size : Int))) < 0
   ·rw [if_pos c9] at H
    have c9b0 : decide ((wrap64 ((wrap64 ((wrap64 (a1 - (a0_1.size : Int))) - (a0_2.size : Int))) - (a0_5.size : Int))) < 0) = true := decide_eq_true c9
    clear c9
    obtain rfl := Option.some.inj H
    go_enter Try.func115, Try.ntmps115
    go_wp2_with (first | ((with_reducible refine gate_dst (N := 2) rfl ?_); refine box_event ?hg (N := 2) ?hd (cs := #[.int .i64 a0_0, .string a0_1, .string a0_2, .int .i64 a0_3, .int .i64 a0_4, .string a0_5]) (t := 102) ?hr ?_; (case hd => rfl); (case hg => rfl); (case hr => first | (go_simp; done) | (go_simp; rfl)); intro gb159 hg w10 hbox hb; have BK159 := Am (hbox); have GW159 := Am ((by rw [hg]; exact (bz (by repeat (first | (with_reducible first | exact HB.out | apply ba | apply bn | apply be) | exact HB.out))) : w.heap.size ≤ gb159)); have GE159 := Am ((by rw [hg]; exact (bz (by repeat (first | (with_reducible first | exact HB.out | apply ba | apply bn | apply be) | exact HB.out))) : w.heap.size ≤ gb159)); replace HB := Am (bt (by repeat (first | (with_reducible first | exact HB.out | apply ba | apply bn | apply be) | exact HB.out)) hb); clear hb hbox hg; have hcz11_0 : w10.cell? ⟨gb159, 0, none⟩ = some (.int .i64 a0_0) := (kc BK159.out 0).trans rfl; have hcz11_1 : w10.cell? ⟨gb159, 1, none⟩ = some (.string a0_1) := (kc BK159.out 1).trans rfl; have hcz11_2 : w10.cell? ⟨gb159, 2, none⟩ = some (.string a0_2) := (kc BK159.out 2).trans rfl; have hcz11_3 : w10.cell? ⟨gb159, 3, none⟩ = some (.int .i64 a0_3) := (kc BK159.out 3).trans rfl; have hcz11_4 : w10.cell? ⟨gb159, 4, none⟩ = some (.int .i64 a0_4) := (kc BK159.out 4).trans rfl; have hcz11_5 : w10.cell? ⟨gb159, 5, none⟩ = some (.string a0_5) := (kc BK159.out 5).trans rfl; have hfz11_0 := kf BK159.out 0; have hfz11_1 := kf BK159.out 1; have hfz11_2 := kf BK159.out 2; have hfz11_3 := kf BK159.out 3; have hfz11_4 := kf BK159.out 4; have hfz11_5 := kf BK159.out 5))
    go_ret
    exact ⟨by first | rfl | (simp [errW_none, errW_some] <;> rfl) | (simp [*, errW_none, errW_some] <;> rfl), by repeat (first | (with_reducible first | exact HB.out | apply ba | apply bn | apply be | refine bs ?_ GE159.out) | exact HB.out)⟩
   ·rw [if_neg c9] at H
    have c9b0 : decide ((wrap64 ((wrap64 ((wrap64 (a1 - (a0_1.size : Int))) - (a0_2.size : Int))) - (a0_5.size : Int))) < 0) = false := decide_eq_false c9
    clear c9
    obtain rfl := Option.some.inj H
    go_enter Try.func115, Try.ntmps115
    go_wp2_with (first | ((with_reducible refine gate_dst (N := 2) rfl ?_); refine box_event ?hg (N := 2) ?hd (cs := #[.int .i64 a0_0, .string a0_1, .string a0_2, .int .i64 a0_3, .int .i64 a0_4, .string a0_5]) (t := 102) ?hr ?_; (case hd => rfl); (case hg => rfl); (case hr => first | (go_simp; done) | (go_simp; rfl)); intro gb159 hg w12 hbox hb; have BK159 := Am (hbox); have GW159 := Am ((by rw [hg]; exact (bz (by repeat (first | (with_reducible first | exact HB.out | apply ba | apply bn | apply be) | exact HB.out))) : w.heap.size ≤ gb159)); have GE159 := Am ((by rw [hg]; exact (bz (by repeat (first | (with_reducible first | exact HB.out | apply ba | apply bn | apply be) | exact HB.out))) : w.heap.size ≤ gb159)); replace HB := Am (bt (by repeat (first | (with_reducible first | exact HB.out | apply ba | apply bn | apply be) | exact HB.out)) hb); clear hb hbox hg; have hcz13_0 : w12.cell? ⟨gb159, 0, none⟩ = some (.int .i64 a0_0) := (kc BK159.out 0).trans rfl; have hcz13_1 : w12.cell? ⟨gb159, 1, none⟩ = some (.string a0_1) := (kc BK159.out 1).trans rfl; have hcz13_2 : w12.cell? ⟨gb159, 2, none⟩ = some (.string a0_2) := (kc BK159.out 2).trans rfl; have hcz13_3 : w12.cell? ⟨gb159, 3, none⟩ = some (.int .i64 a0_3) := (kc BK159.out 3).trans rfl; have hcz13_4 : w12.cell? ⟨gb159, 4, none⟩ = some (.int .i64 a0_4) := (kc BK159.out 4).trans rfl; have hcz13_5 : w12.cell? ⟨gb159, 5, none⟩ = some (.string a0_5) := (kc BK159.out 5).trans rfl; have hfz13_0 := kf BK159.out 0; have hfz13_1 := kf BK159.out 1; have hfz13_2 := kf BK159.out 2; have hfz13_3 := kf BK159.out 3; have hfz13_4 := kf BK159.out 4; have hfz13_5 := kf BK159.out 5))
    go_ret
    exact ⟨by first | rfl | (simp [errW_none, errW_some] <;> rfl) | (simp [*, errW_none, errW_some] <;> rfl), by repeat (first | (with_reducible first | exact HB.out | apply ba | apply bn | apply be | refine bs ?_ GE159.out) | exact HB.out)⟩

/-! ### laws_szAct: function 73 -/
def laws_szAct.f (a0_0 : Int) (a0_1 : Int) (a0_2 : Int) (a0_3 : ByteArray) (a0_4 : ByteArray) (a0_5 : Int) (a0_6 : Int) (a0_7 : ByteArray) (a0_8 : Int) (a1 : Int) : Option (Int) := (laws_szAsk.f a0_2 a0_3 a0_4 a0_5 a0_6 a0_7 a1).bind fun t161 => (if t161 < 0 then (some (-1)) else (some t161))
set_option maxHeartbeats 8000000 in
set_option maxRecDepth 100000 in
theorem laws_szAct.calls (a0_0 : Int) (a0_1 : Int) (a0_2 : Int) (a0_3 : ByteArray) (a0_4 : ByteArray) (a0_5 : Int) (a0_6 : Int) (a0_7 : ByteArray) (a0_8 : Int) (a1 : Int) (r : Int) (w : World) (h : laws_szAct.f a0_0 a0_1 a0_2 a0_3 a0_4 a0_5 a0_6 a0_7 a0_8 a1 = some r) :
  Calls Try.prog 73 #[.agg #[.int .i64 a0_0, .int .i64 a0_1, .int .i64 a0_2, .string a0_3, .string a0_4, .int .i64 a0_5, .int .i64 a0_6, .string a0_7, .int .i64 a0_8], .int .i64 a1] w fun e w' => e = .returned (.int .i64 r) ∧ Below w.heap.size w w' := by
 have hu104 := Try.underlying104
 have hu102 := Try.underlying102
 have HB := Am (Below.refl w.heap.size w)
 have H : ((laws_szAsk.f a0_2 a0_3 a0_4 a0_5 a0_6 a0_7 a1).bind fun t161 => (if t161 < 0 then (some (-1)) else (some t161))) = some r := h
 clear h
 replace H := Option.bind_eq_some_iff.mp H
 obtain ⟨t161, A30, H⟩ := H
 replace H : (if t161 < 0 then (some (-1)) else (some t161)) = some r := H
 have A3 := Am A30
 clear A30
 by_cases c4 : t161 < 0
 ·rw [if_pos c4] at H
  have c4b0 : decide (t161 < 0) = true := decide_eq_true c4
  clear c4
  obtain rfl := Option.some.inj H
  go_enter Try.func73, Try.ntmps73
  go_wp2_with (first | ((with_reducible refine gate_dst (N := 2) rfl ?_); refine box_event ?hg (N := 2) ?hd (cs := #[.int .i64 a0_0, .int .i64 a0_1, .int .i64 a0_2, .string a0_3, .string a0_4, .int .i64 a0_5, .int .i64 a0_6, .string a0_7, .int .i64 a0_8]) (t := 104) ?hr ?_; (case hd => rfl); (case hg => rfl); (case hr => first | (go_simp; done) | (go_simp; rfl)); intro gb160 hg w5 hbox hb; have BK160 := Am (hbox); have GW160 := Am ((by rw [hg]; exact (bz (by repeat (first | (with_reducible first | exact HB.out | apply ba | apply bn | apply be) | exact HB.out))) : w.heap.size ≤ gb160)); have GE160 := Am ((by rw [hg]; exact (bz (by repeat (first | (with_reducible first | exact HB.out | apply ba | apply bn | apply be) | exact HB.out))) : w.heap.size ≤ gb160)); replace HB := Am (bt (by repeat (first | (with_reducible first | exact HB.out | apply ba | apply bn | apply be) | exact HB.out)) hb); clear hb hbox hg; have hcz6_0 : w5.cell? ⟨gb160, 0, none⟩ = some (.int .i64 a0_0) := (kc BK160.out 0).trans rfl; have hcz6_1 : w5.cell? ⟨gb160, 1, none⟩ = some (.int .i64 a0_1) := (kc BK160.out 1).trans rfl; have hcz6_2 : w5.cell? ⟨gb160, 2, none⟩ = some (.int .i64 a0_2) := (kc BK160.out 2).trans rfl; have hcz6_3 : w5.cell? ⟨gb160, 3, none⟩ = some (.string a0_3) := (kc BK160.out 3).trans rfl; have hcz6_4 : w5.cell? ⟨gb160, 4, none⟩ = some (.string a0_4) := (kc BK160.out 4).trans rfl; have hcz6_5 : w5.cell? ⟨gb160, 5, none⟩ = some (.int .i64 a0_5) := (kc BK160.out 5).trans rfl; have hcz6_6 : w5.cell? ⟨gb160, 6, none⟩ = some (.int .i64 a0_6) := (kc BK160.out 6).trans rfl; have hcz6_7 : w5.cell? ⟨gb160, 7, none⟩ = some (.string a0_7) := (kc BK160.out 7).trans rfl; have hcz6_8 : w5.cell? ⟨gb160, 8, none⟩ = some (.int .i64 a0_8) := (kc BK160.out 8).trans rfl; have hfz6_0 := kf BK160.out 0; have hfz6_1 := kf BK160.out 1; have hfz6_2 := kf BK160.out 2; have hfz6_3 := kf BK160.out 3; have hfz6_4 := kf BK160.out 4; have hfz6_5 := kf BK160.out 5; have hfz6_6 := kf BK160.out 6; have hfz6_7 := kf BK160.out 7; have hfz6_8 := kf BK160.out 8) | ((with_reducible refine gate_callee (f := 115) rfl ?_); refine goesL_ (some 8) rfl rfl Try.func115 (by kernel_rfl) rfl #[.agg #[.int .i64 a0_2, .string a0_3, .string a0_4, .int .i64 a0_5, .int .i64 a0_6, .string a0_7], .int .i64 a1] rfl (by (try simp only [List.map_toArray, List.map_cons, List.map_nil]); first | done | rfl | (simp only [List.length_drop, List.length_take]; rfl)) ?_; (with_reducible refine (laws_szAsk.calls a0_2 a0_3 a0_4 a0_5 a0_6 a0_7 a1 t161 _ A3.out).mono ?_); rintro e w7 ⟨rfl, hb⟩; refine ⟨_, rfl, ?_⟩; have n0_ := Am (kb (g := gb160) (o := o1b0 a0_0 a0_1 a0_2 a0_3 a0_4 a0_5 a0_6 a0_7 a0_8) (by (with_reducible repeat (first | refine kn ?_ _ | refine ke ?_ | refine ka ?_ _)); exact BK160.out) hb); have n1_ := Am (bt (by repeat (first | (with_reducible first | exact HB.out | apply ba | apply bn | apply be | refine bs ?_ GE160.out) | exact HB.out)) hb); clear BK160; clear HB; have BK160 := n0_; have HB := n1_; clear n0_ n1_; (try clear hb)))
  go_ret
  exact ⟨by first | rfl | (simp [errW_none, errW_some] <;> rfl) | (simp [*, errW_none, errW_some] <;> rfl), by repeat (first | (with_reducible first | exact HB.out | apply ba | apply bn | apply be | refine bs ?_ GE160.out) | exact HB.out)⟩
 ·rw [if_neg c4] at H
  have c4b0 : decide (t161 < 0) = false := decide_eq_false c4
  clear c4
  obtain rfl := Option.some.inj H
  go_enter Try.func73, Try.ntmps73
  go_wp2_with (first | ((with_reducible refine gate_dst (N := 2) rfl ?_); refine box_event ?hg (N := 2) ?hd (cs := #[.int .i64 a0_0, .int .i64 a0_1, .int .i64 a0_2, .string a0_3, .string a0_4, .int .i64 a0_5, .int .i64 a0_6, .string a0_7, .int .i64 a0_8]) (t := 104) ?hr ?_; (case hd => rfl); (case hg => rfl); (case hr => first | (go_simp; done) | (go_simp; rfl)); intro gb160 hg w8 hbox hb; have BK160 := Am (hbox); have GW160 := Am ((by rw [hg]; exact (bz (by repeat (first | (with_reducible first | exact HB.out | apply ba | apply bn | apply be) | exact HB.out))) : w.heap.size ≤ gb160)); have GE160 := Am ((by rw [hg]; exact (bz (by repeat (first | (with_reducible first | exact HB.out | apply ba | apply bn | apply be) | exact HB.out))) : w.heap.size ≤ gb160)); replace HB := Am (bt (by repeat (first | (with_reducible first | exact HB.out | apply ba | apply bn | apply be) | exact HB.out)) hb); clear hb hbox hg; have hcz9_0 : w8.cell? ⟨gb160, 0, none⟩ = some (.int .i64 a0_0) := (kc BK160.out 0).trans rfl; have hcz9_1 : w8.cell? ⟨gb160, 1, none⟩ = some (.int .i64 a0_1) := (kc BK160.out 1).trans rfl; have hcz9_2 : w8.cell? ⟨gb160, 2, none⟩ = some (.int .i64 a0_2) := (kc BK160.out 2).trans rfl; have hcz9_3 : w8.cell? ⟨gb160, 3, none⟩ = some (.string a0_3) := (kc BK160.out 3).trans rfl; have hcz9_4 : w8.cell? ⟨gb160, 4, none⟩ = some (.string a0_4) := (kc BK160.out 4).trans rfl; have hcz9_5 : w8.cell? ⟨gb160, 5, none⟩ = some (.int .i64 a0_5) := (kc BK160.out 5).trans rfl; have hcz9_6 : w8.cell? ⟨gb160, 6, none⟩ = some (.int .i64 a0_6) := (kc BK160.out 6).trans rfl; have hcz9_7 : w8.cell? ⟨gb160, 7, none⟩ = some (.string a0_7) := (kc BK160.out 7).trans rfl; have hcz9_8 : w8.cell? ⟨gb160, 8, none⟩ = some (.int .i64 a0_8) := (kc BK160.out 8).trans rfl; have hfz9_0 := kf BK160.out 0; have hfz9_1 := kf BK160.out 1; have hfz9_2 := kf BK160.out 2; have hfz9_3 := kf BK160.out 3; have hfz9_4 := kf BK160.out 4; have hfz9_5 := kf BK160.out 5; have hfz9_6 := kf BK160.out 6; have hfz9_7 := kf BK160.out 7; have hfz9_8 := kf BK160.out 8) | ((with_reducible refine gate_callee (f := 115) rfl ?_); refine goesL_ (some 8) rfl rfl Try.func115 (by kernel_rfl) rfl #[.agg #[.int .i64 a0_2, .string a0_3, .string a0_4, .int .i64 a0_5, .int .i64 a0_6, .string a0_7], .int .i64 a1] rfl (by (try simp only [List.map_toArray, List.map_cons, List.map_nil]); first | done | rfl | (simp only [List.length_drop, List.length_take]; rfl)) ?_; (with_reducible refine (laws_szAsk.calls a0_2 a0_3 a0_4 a0_5 a0_6 a0_7 a1 t161 _ A3.out).mono ?_); rintro e w10 ⟨rfl, hb⟩; refine ⟨_, rfl, ?_⟩; have n0_ := Am (kb (g := gb160) (o := o1b0 a0_0 a0_1 a0_2 a0_3 a0_4 a0_5 a0_6 a0_7 a0_8) (by (with_reducible repeat (first | refine kn ?_ _ | refine ke ?_ | refine ka ?_ _)); exact BK160.out) hb); have n1_ := Am (bt (by repeat (first | (with_reducible first | exact HB.out | apply ba | apply bn | apply be | refine bs ?_ GE160.out) | exact HB.out)) hb); clear BK160; clear HB; have BK160 := n0_; have HB := n1_; clear n0_ n1_; (try clear hb)))
  go_ret
  exact ⟨by first | rfl | (simp [errW_none, errW_some] <;> rfl) | (simp [*, errW_none, errW_some] <;> rfl), by repeat (first | (with_reducible first | exact HB.out | apply ba | apply bn | apply be | refine bs ?_ GE160.out) | exact HB.out)⟩

/-! ### laws_szActS: function 22 -/
def laws_szActS.l0 : Nat → List (S104) → Int → Int → Option (Int)
 | 0, _, _, _ => none
 | k + 1, x0, x1, x5 => if x5 < (x0.length : Int) then (if 0 ≤ x5 then ((laws_szAct.f ((rd_T104 x0 x5).f0) ((rd_T104 x0 x5).f1) ((rd_T104 x0 x5).f2.f0) ((rd_T104 x0 x5).f2.f1) ((rd_T104 x0 x5).f2.f2) ((rd_T104 x0 x5).f2.f3) ((rd_T104 x0 x5).f2.f4) ((rd_T104 x0 x5).f2.f5) ((rd_T104 x0 x5).f3) x1).bind fun t163 => (if t163 < 0 then (some (-1)) else (laws_szActS.l0 k x0 t163 (wrap64 (x5 + 1))))) else (none)) else (some x1)
def laws_szActS.f (k : Nat) (l0 : List (S104)) (a1 : Int) : Option (Int) := if (wrap64 (a1 - (l0.length : Int))) < 0 then (some (-1)) else (laws_szActS.l0 k l0 (wrap64 (a1 - (l0.length : Int))) 0)
theorem laws_szActS.mono_l : ∀ k, (∀ y0 y1 y2, LeO (laws_szActS.l0 k y0 y1 y2) (laws_szActS.l0 (k + 1) y0 y1 y2))
 | 0 => fun _ _ _ r h => by simp [laws_szActS.l0] at h
 | k + 1 => by
  have ih0 := laws_szActS.mono_l k
  ·intro y0 y1 y2
   unfold laws_szActS.l0
   repeat' first
   | (with_reducible exact ih0 _ _ _)
   | (with_reducible exact LeO.refl _)
   | (with_reducible exact LeO.none _)
   | (with_reducible refine LeO.ite ?_ ?_)
   | (with_reducible refine LeO.bind ?_ (fun _ => ?_))
   | exact ih0 _ _ _
   | exact LeO.none _
   | refine LeO.ite ?_ ?_
   | refine LeO.bind ?_ (fun _ => ?_)
theorem laws_szActS.mono : ∀ a0 a1 k, LeO (laws_szActS.f k a0 a1) (laws_szActS.f (k + 1) a0 a1) := by
 intro a0 a1 k
 have ih0 := laws_szActS.mono_l k
 unfold laws_szActS.f
 repeat' first
   | (with_reducible exact ih0 _ _ _)
   | (with_reducible exact LeO.refl _)
   | (with_reducible exact LeO.none _)
   | (with_reducible refine LeO.ite ?_ ?_)
   | (with_reducible refine LeO.bind ?_ (fun _ => ?_))
   | exact ih0 _ _ _
   | exact LeO.none _
   | refine LeO.ite ?_ ?_
   | refine LeO.bind ?_ (fun _ => ?_)
set_option maxHeartbeats 8000000 in
set_option maxRecDepth 100000 in
theorem laws_szActS.calls (k : Nat) (A0 : Option Addr) (c0 : Nat) (l0 : List (S104)) (a1 : Int) (r : Int) (w : World) (hr0 : Kd.C k104 w A0 l0.length l0) (hc0 : l0.length ≤ c0) (h : laws_szActS.f k l0 a1 = some r) :
  Calls Try.prog 22 #[.slice A0 l0.length c0, .int .i64 a1] w fun e w' => e = .returned (.int .i64 r) ∧ Below w.heap.size w w' := by
 have hu104 := Try.underlying104
 have HR0 := Am hr0
 have HC0 := Am hc0
 clear hr0 hc0
 have HB := Am (Below.refl w.heap.size w)
 have H : (if (wrap64 (a1 - (l0.length : Int))) < 0 then (some (-1)) else (laws_szActS.l0 k l0 (wrap64 (a1 - (l0.length : Int))) 0)) = some r := h
 clear h
 by_cases c3 : (wrap64 (a1 - (l0.length : Int))) < 0
 ·rw [if_pos c3] at H
  have c3b0 : decide ((wrap64 (a1 - (l0.length : Int))) < 0) = true := decide_eq_true c3
  clear c3
  obtain rfl := Option.some.inj H
  go_enter Try.func22, Try.ntmps22
  go_wp2
  go_ret
  exact ⟨by first | rfl | (simp [errW_none, errW_some] <;> rfl) | (simp [*, errW_none, errW_some] <;> rfl), by repeat (first | (with_reducible first | apply ba | apply bn | apply be) | exact HB.out)⟩
 ·rw [if_neg c3] at H
  have c3b0 : decide ((wrap64 (a1 - (l0.length : Int))) < 0) = false := decide_eq_false c3
  clear c3
  have H' := Am H
  clear H
  go_enter Try.func22, Try.ntmps22
  go_wp2
  go_loopg [1, 5] k (fun kq v1 v5 w' => ∃ (x1_1 : Int) (x5_1 : Int), v1 = .int .i64 x1_1 ∧ v5 = .int .i64 x5_1 ∧ Aside0 (laws_szActS.l0 kq l0 x1_1 x5_1 = some r) ∧ Aside0 (kq ≤ k) ∧ Aside0 (Below w.heap.size w w'))
  case atStart => exact ⟨(wrap64 (a1 - (l0.length : Int))), (0), (by first | rfl | (simp; done) | (simp [*]; done)), (by first | rfl | (simp; done) | (simp [*]; done)), H', ⟨Nat.le_refl _⟩, ⟨by repeat (first | (with_reducible first | apply ba | apply bn | apply be) | exact HB.out)⟩⟩
  case round =>
   clear H'
   try clear c2
   try clear p2
   try clear c3
   try clear c3b0
   obtain ⟨x1_1, x5_1, rfl, rfl, HA, HK1, HB⟩ := hrel
   cases gk with
   | zero => exact absurd HA.out (by simp [laws_szActS.l0])
   | succ k1 =>
    have H := HA.out
    clear HA
    simp only [laws_szActS.l0] at H
    by_cases c4 : x5_1 < (l0.length : Int)
    ·rw [if_pos c4] at H
     have c4b0 : decide (x5_1 < (l0.length : Int)) = true := decide_eq_true c4
     clear c4
     by_cases c5 : 0 ≤ x5_1
     ·rw [if_pos c5] at H
      have c5b0 : decide (0 ≤ x5_1) = true := decide_eq_true c5
      clear c5
      replace H := Option.bind_eq_some_iff.mp H
      obtain ⟨t163, A60, H⟩ := H
      replace H : (if t163 < 0 then (some (-1)) else (laws_szActS.l0 k1 l0 t163 (wrap64 (x5_1 + 1)))) = some r := H
      have A6 := Am A60
      clear A60
      by_cases c7 : t163 < 0
      ·rw [if_pos c7] at H
       have c7b0 : decide (t163 < 0) = true := decide_eq_true c7
       clear c7
       obtain rfl := Option.some.inj H
       have p162 : 0 ≤ (x5_1 : Int) := of_decide_eq_true (by assumption)
       have q162 : x5_1 < (l0.length : Int) := of_decide_eq_true (by assumption)
       obtain ⟨ad162, e162, hx162_0, hx162_1, hx162_2, hx162_3, hx162_4, hx162_5, hx162_6, hx162_7, hx162_8⟩ := at_T104 HR0.out x5_1 p162 q162
       cases e162
       replace hx162_0 := cl1 HB hx162_0
       replace hx162_1 := cl1 HB hx162_1
       replace hx162_2 := cl1 HB hx162_2
       replace hx162_3 := cl1 HB hx162_3
       replace hx162_4 := cl1 HB hx162_4
       replace hx162_5 := cl1 HB hx162_5
       replace hx162_6 := cl1 HB hx162_6
       replace hx162_7 := cl1 HB hx162_7
       replace hx162_8 := cl1 HB hx162_8
       replace p162 := eq_true p162
       replace q162 := eq_true q162
       go_wp2_with (first | ((with_reducible refine gate_callee (f := 73) rfl ?_); refine goesL_ (some 23) rfl rfl Try.func73 (by kernel_rfl) rfl #[.agg #[.int .i64 ((rd_T104 l0 x5_1).f0), .int .i64 ((rd_T104 l0 x5_1).f1), .int .i64 ((rd_T104 l0 x5_1).f2.f0), .string ((rd_T104 l0 x5_1).f2.f1), .string ((rd_T104 l0 x5_1).f2.f2), .int .i64 ((rd_T104 l0 x5_1).f2.f3), .int .i64 ((rd_T104 l0 x5_1).f2.f4), .string ((rd_T104 l0 x5_1).f2.f5), .int .i64 ((rd_T104 l0 x5_1).f3)], .int .i64 x1_1] rfl (by (try simp only [List.map_toArray, List.map_cons, List.map_nil]); first | done | rfl | (simp only [List.length_drop, List.length_take]; rfl)) ?_; (with_reducible refine (laws_szAct.calls ((rd_T104 l0 x5_1).f0) ((rd_T104 l0 x5_1).f1) ((rd_T104 l0 x5_1).f2.f0) ((rd_T104 l0 x5_1).f2.f1) ((rd_T104 l0 x5_1).f2.f2) ((rd_T104 l0 x5_1).f2.f3) ((rd_T104 l0 x5_1).f2.f4) ((rd_T104 l0 x5_1).f2.f5) ((rd_T104 l0 x5_1).f3) x1_1 t163 _ A6.out).mono ?_); rintro e w8 ⟨rfl, hb⟩; refine ⟨_, rfl, ?_⟩; replace HB := Am (bt (by repeat (first | (with_reducible first | exact HB.out | apply ba | apply bn | apply be) | exact HB.out)) hb); (try clear hb)))
       go_ret
       exact ⟨by first | rfl | (simp [errW_none, errW_some] <;> rfl) | (simp [*, errW_none, errW_some] <;> rfl), by repeat (first | (with_reducible first | apply ba | apply bn | apply be) | exact HB.out)⟩
      ·rw [if_neg c7] at H
       have c7b0 : decide (t163 < 0) = false := decide_eq_false c7
       clear c7
       have H' := Am H
       clear H
       have p162 : 0 ≤ (x5_1 : Int) := of_decide_eq_true (by assumption)
       have q162 : x5_1 < (l0.length : Int) := of_decide_eq_true (by assumption)
       obtain ⟨ad162, e162, hx162_0, hx162_1, hx162_2, hx162_3, hx162_4, hx162_5, hx162_6, hx162_7, hx162_8⟩ := at_T104 HR0.out x5_1 p162 q162
       cases e162
       replace hx162_0 := cl1 HB hx162_0
       replace hx162_1 := cl1 HB hx162_1
       replace hx162_2 := cl1 HB hx162_2
       replace hx162_3 := cl1 HB hx162_3
       replace hx162_4 := cl1 HB hx162_4
       replace hx162_5 := cl1 HB hx162_5
       replace hx162_6 := cl1 HB hx162_6
       replace hx162_7 := cl1 HB hx162_7
       replace hx162_8 := cl1 HB hx162_8
       replace p162 := eq_true p162
       replace q162 := eq_true q162
       go_wp2_with (first | ((with_reducible refine gate_callee (f := 73) rfl ?_); refine goesL_ (some 23) rfl rfl Try.func73 (by kernel_rfl) rfl #[.agg #[.int .i64 ((rd_T104 l0 x5_1).f0), .int .i64 ((rd_T104 l0 x5_1).f1), .int .i64 ((rd_T104 l0 x5_1).f2.f0), .string ((rd_T104 l0 x5_1).f2.f1), .string ((rd_T104 l0 x5_1).f2.f2), .int .i64 ((rd_T104 l0 x5_1).f2.f3), .int .i64 ((rd_T104 l0 x5_1).f2.f4), .string ((rd_T104 l0 x5_1).f2.f5), .int .i64 ((rd_T104 l0 x5_1).f3)], .int .i64 x1_1] rfl (by (try simp only [List.map_toArray, List.map_cons, List.map_nil]); first | done | rfl | (simp only [List.length_drop, List.length_take]; rfl)) ?_; (with_reducible refine (laws_szAct.calls ((rd_T104 l0 x5_1).f0) ((rd_T104 l0 x5_1).f1) ((rd_T104 l0 x5_1).f2.f0) ((rd_T104 l0 x5_1).f2.f1) ((rd_T104 l0 x5_1).f2.f2) ((rd_T104 l0 x5_1).f2.f3) ((rd_T104 l0 x5_1).f2.f4) ((rd_T104 l0 x5_1).f2.f5) ((rd_T104 l0 x5_1).f3) x1_1 t163 _ A6.out).mono ?_); rintro e w9 ⟨rfl, hb⟩; refine ⟨_, rfl, ?_⟩; replace HB := Am (bt (by repeat (first | (with_reducible first | exact HB.out | apply ba | apply bn | apply be) | exact HB.out)) hb); (try clear hb)))
       go_roundg k1
       case measure => have := HK1.out; omega
       case rel => exact ⟨(t163), (wrap64 (x5_1 + 1)), (by first | rfl | (simp; done) | (simp [*]; done)), (by first | rfl | (simp; done) | (simp [*]; done)), H', ⟨by have := HK1.out; omega⟩, ⟨by repeat (first | (with_reducible first | apply ba | apply bn | apply be) | exact HB.out)⟩⟩
     ·rw [if_neg c5] at H
      exact absurd H (by simp)
    ·rw [if_neg c4] at H
     have c4b0 : decide (x5_1 < (l0.length : Int)) = false := decide_eq_false c4
     clear c4
     obtain rfl := Option.some.inj H
     go_wp2
     go_ret
     exact ⟨by first | rfl | (simp [errW_none, errW_some] <;> rfl) | (simp [*, errW_none, errW_some] <;> rfl), by repeat (first | (with_reducible first | apply ba | apply bn | apply be) | exact HB.out)⟩

/-! ### laws_toAsk: function 116 -/
def laws_toAsk.f (a0_0 : Int) (a0_1 : ByteArray) (a0_2 : ByteArray) (a0_3 : Int) (a0_4 : Int) (a0_5 : ByteArray) : Option (Int × ByteArray × ByteArray × Int × Int × ByteArray) := some (a0_0, a0_1, a0_2, a0_3, a0_4, a0_5)
set_option maxHeartbeats 8000000 in
set_option maxRecDepth 100000 in
theorem laws_toAsk.calls (a0_0 : Int) (a0_1 : ByteArray) (a0_2 : ByteArray) (a0_3 : Int) (a0_4 : Int) (a0_5 : ByteArray) (r1 : Int) (r2 : ByteArray) (r3 : ByteArray) (r4 : Int) (r5 : Int) (r6 : ByteArray) (w : World) (h : laws_toAsk.f a0_0 a0_1 a0_2 a0_3 a0_4 a0_5 = some (r1, r2, r3, r4, r5, r6)) :
  Calls Try.prog 116 #[.agg #[.int .i64 a0_0, .string a0_1, .string a0_2, .int .i64 a0_3, .int .i64 a0_4, .string a0_5]] w fun e w' => e = .returned (.agg #[.int .i64 r1, .string r2, .string r3, .int .i64 r4, .int .i64 r5, .string r6]) ∧ Below w.heap.size w w' := by
 have hu102 := Try.underlying102
 have hu31 := Try.underlying31
 have HB := Am (Below.refl w.heap.size w)
 have H : (some (a0_0, a0_1, a0_2, a0_3, a0_4, a0_5)) = some (r1, r2, r3, r4, r5, r6) := h
 clear h
 simp only [Option.some.injEq, Prod.mk.injEq] at H
 obtain ⟨rfl, rfl, rfl, rfl, rfl, rfl⟩ := H
 go_enter Try.func116, Try.ntmps116
 go_wp2_with (first | ((with_reducible refine gate_dst (N := 1) rfl ?_); refine box_event ?hg (N := 1) ?hd (cs := #[.int .i64 a0_0, .string a0_1, .string a0_2, .int .i64 a0_3, .int .i64 a0_4, .string a0_5]) (t := 102) ?hr ?_; (case hd => rfl); (case hg => rfl); (case hr => first | (go_simp; done) | (go_simp; rfl)); intro gb164 hg w2 hbox hb; have BK164 := Am (hbox); have GW164 := Am ((by rw [hg]; exact (bz (by repeat (first | (with_reducible first | exact HB.out | apply ba | apply bn | apply be) | exact HB.out))) : w.heap.size ≤ gb164)); have GE164 := Am ((by rw [hg]; exact (bz (by repeat (first | (with_reducible first | exact HB.out | apply ba | apply bn | apply be) | exact HB.out))) : w.heap.size ≤ gb164)); replace HB := Am (bt (by repeat (first | (with_reducible first | exact HB.out | apply ba | apply bn | apply be) | exact HB.out)) hb); clear hb hbox hg) | ((with_reducible refine gate_dst (N := 2) rfl ?_); refine box_event ?hg (N := 2) ?hd (cs := #[.int .i64 0, .string (⟨#[]⟩ : ByteArray), .string (⟨#[]⟩ : ByteArray), .int .i64 0, .int .i64 0, .string (⟨#[]⟩ : ByteArray)]) (t := 31) ?hr ?_; (case hd => rfl); (case hg => rfl); (case hr => first | (go_simp; done) | (go_simp; rfl)); intro gb165 hg w3 hbox hb; have n0_ := Am (kb (g := gb164) (o := o1b1 a0_0 a0_1 a0_2 a0_3 a0_4 a0_5) (by (with_reducible repeat (first | refine kn ?_ _ | refine ke ?_ | refine ka ?_ _)); exact BK164.out) hb); have n1_ := Am (bt (by repeat (first | (with_reducible first | exact HB.out | apply ba | apply bn | apply be | refine bs ?_ GE164.out) | exact HB.out)) hb); have n2_ := Am (hbox); have n3_ := Am ((by rw [hg]; exact (bz (by repeat (first | (with_reducible first | exact HB.out | apply ba | apply bn | apply be | refine bs ?_ GE164.out) | exact HB.out))) : w.heap.size ≤ gb165)); have n4_ := Am ((by rw [hg]; exact (bz (by repeat (first | (with_reducible first | exact HB.out | apply ba | apply bn | apply be | refine bs ?_ GE164.out) | exact HB.out))) : w.heap.size ≤ gb165)); have n5_ := Am ((by rw [hg]; exact Nat.ne_of_lt (kl (g := gb164) (o := o1b1 a0_0 a0_1 a0_2 a0_3 a0_4 a0_5) (by (with_reducible repeat (first | refine kn ?_ _ | refine ke ?_ | refine ka ?_ _)); exact BK164.out)) : gb164 ≠ gb165)); have n6_ := Am ((by rw [hg]; exact Nat.ne_of_gt (kl (g := gb164) (o := o1b1 a0_0 a0_1 a0_2 a0_3 a0_4 a0_5) (by (with_reducible repeat (first | refine kn ?_ _ | refine ke ?_ | refine ka ?_ _)); exact BK164.out)) : gb165 ≠ gb164)); clear BK164; clear HB; have BK164 := n0_; have HB := n1_; have BK165 := n2_; have GW165 := n3_; have GE165 := n4_; have NB164_165 := n5_; have NB165_164 := n6_; clear n0_ n1_ n2_ n3_ n4_ n5_ n6_; clear hb hbox hg) | ((with_reducible refine gate_dst (N := 3) rfl ?_); refine box_event ?hg (N := 3) ?hd (cs := #[.int .i64 0, .string (⟨#[]⟩ : ByteArray), .string (⟨#[]⟩ : ByteArray), .int .i64 0, .int .i64 0, .string (⟨#[]⟩ : ByteArray)]) (t := 31) ?hr ?_; (case hd => rfl); (case hg => rfl); (case hr => first | (go_simp; done) | (go_simp; rfl)); intro gb166 hg w4 hbox hb; have n0_ := Am (kb (g := gb164) (o := o1b1 a0_0 a0_1 a0_2 a0_3 a0_4 a0_5) (by (with_reducible repeat (first | refine kn ?_ _ | refine ke ?_ | refine ka ?_ _)); exact BK164.out) hb); have n1_ := Am (kb (g := gb165) (o := .cells #[.int .i64 0, .string (⟨#[]⟩ : ByteArray), .string (⟨#[]⟩ : ByteArray), .int .i64 0, .int .i64 0, .string (⟨#[]⟩ : ByteArray)] 31 (0, 0)) (by (with_reducible repeat (first | refine kn ?_ _ | refine ke ?_ | refine ka ?_ _)); exact BK165.out) hb); have n2_ := Am (bt (by repeat (first | (with_reducible first | exact HB.out | apply ba | apply bn | apply be | refine bs ?_ GE164.out | refine bs ?_ GE165.out) | exact HB.out)) hb); have n3_ := Am (hbox); have n4_ := Am ((by rw [hg]; exact (bz (by repeat (first | (with_reducible first | exact HB.out | apply ba | apply bn | apply be | refine bs ?_ GE164.out | refine bs ?_ GE165.out) | exact HB.out))) : w.heap.size ≤ gb166)); have n5_ := Am ((by rw [hg]; exact (bz (by repeat (first | (with_reducible first | exact HB.out | apply ba | apply bn | apply be | refine bs ?_ GE164.out | refine bs ?_ GE165.out) | exact HB.out))) : w.heap.size ≤ gb166)); have n6_ := Am ((by rw [hg]; exact Nat.ne_of_lt (kl (g := gb164) (o := o1b1 a0_0 a0_1 a0_2 a0_3 a0_4 a0_5) (by (with_reducible repeat (first | refine kn ?_ _ | refine ke ?_ | refine ka ?_ _)); exact BK164.out)) : gb164 ≠ gb166)); have n7_ := Am ((by rw [hg]; exact Nat.ne_of_gt (kl (g := gb164) (o := o1b1 a0_0 a0_1 a0_2 a0_3 a0_4 a0_5) (by (with_reducible repeat (first | refine kn ?_ _ | refine ke ?_ | refine ka ?_ _)); exact BK164.out)) : gb166 ≠ gb164)); have n8_ := Am ((by rw [hg]; exact Nat.ne_of_lt (kl (g := gb165) (o := .cells #[.int .i64 0, .string (⟨#[]⟩ : ByteArray), .string (⟨#[]⟩ : ByteArray), .int .i64 0, .int .i64 0, .string (⟨#[]⟩ : ByteArray)] 31 (0, 0)) (by (with_reducible repeat (first | refine kn ?_ _ | refine ke ?_ | refine ka ?_ _)); exact BK165.out)) : gb165 ≠ gb166)); have n9_ := Am ((by rw [hg]; exact Nat.ne_of_gt (kl (g := gb165) (o := .cells #[.int .i64 0, .string (⟨#[]⟩ : ByteArray), .string (⟨#[]⟩ : ByteArray), .int .i64 0, .int .i64 0, .string (⟨#[]⟩ : ByteArray)] 31 (0, 0)) (by (with_reducible repeat (first | refine kn ?_ _ | refine ke ?_ | refine ka ?_ _)); exact BK165.out)) : gb166 ≠ gb165)); clear BK164; clear BK165; clear HB; have BK164 := n0_; have BK165 := n1_; have HB := n2_; have BK166 := n3_; have GW166 := n4_; have GE166 := n5_; have NB164_166 := n6_; have NB166_164 := n7_; have NB165_166 := n8_; have NB166_165 := n9_; clear n0_ n1_ n2_ n3_ n4_ n5_ n6_ n7_ n8_ n9_; clear hb hbox hg; have hnb5 := NB164_165.out; have hnc5 := NB165_164.out; have hnb6 := NB164_166.out; have hnc6 := NB166_164.out; have hcz7_0 : w4.cell? ⟨gb164, 0, none⟩ = some (.int .i64 a0_0) := (kc BK164.out 0).trans rfl; have hcz7_1 : w4.cell? ⟨gb164, 1, none⟩ = some (.string a0_1) := (kc BK164.out 1).trans rfl; have hcz7_2 : w4.cell? ⟨gb164, 2, none⟩ = some (.string a0_2) := (kc BK164.out 2).trans rfl; have hcz7_3 : w4.cell? ⟨gb164, 3, none⟩ = some (.int .i64 a0_3) := (kc BK164.out 3).trans rfl; have hcz7_4 : w4.cell? ⟨gb164, 4, none⟩ = some (.int .i64 a0_4) := (kc BK164.out 4).trans rfl; have hcz7_5 : w4.cell? ⟨gb164, 5, none⟩ = some (.string a0_5) := (kc BK164.out 5).trans rfl; have hfz7_0 := kf BK164.out 0; have hfz7_1 := kf BK164.out 1; have hfz7_2 := kf BK164.out 2; have hfz7_3 := kf BK164.out 3; have hfz7_4 := kf BK164.out 4; have hfz7_5 := kf BK164.out 5; have hnb8 := NB166_165.out; have hnc8 := NB165_166.out; have hcz9_0 : w4.cell? ⟨gb166, 0, none⟩ = some (.int .i64 0) := (kc BK166.out 0).trans rfl; have hcz9_1 : w4.cell? ⟨gb166, 1, none⟩ = some (.string (⟨#[]⟩ : ByteArray)) := (kc BK166.out 1).trans rfl; have hcz9_2 : w4.cell? ⟨gb166, 2, none⟩ = some (.string (⟨#[]⟩ : ByteArray)) := (kc BK166.out 2).trans rfl; have hcz9_3 : w4.cell? ⟨gb166, 3, none⟩ = some (.int .i64 0) := (kc BK166.out 3).trans rfl; have hcz9_4 : w4.cell? ⟨gb166, 4, none⟩ = some (.int .i64 0) := (kc BK166.out 4).trans rfl; have hcz9_5 : w4.cell? ⟨gb166, 5, none⟩ = some (.string (⟨#[]⟩ : ByteArray)) := (kc BK166.out 5).trans rfl; have hfz9_0 := kf BK166.out 0; have hfz9_1 := kf BK166.out 1; have hfz9_2 := kf BK166.out 2; have hfz9_3 := kf BK166.out 3; have hfz9_4 := kf BK166.out 4; have hfz9_5 := kf BK166.out 5; have hcz10_0 : w4.cell? ⟨gb165, 0, none⟩ = some (.int .i64 0) := (kc BK165.out 0).trans rfl; have hcz10_1 : w4.cell? ⟨gb165, 1, none⟩ = some (.string (⟨#[]⟩ : ByteArray)) := (kc BK165.out 1).trans rfl; have hcz10_2 : w4.cell? ⟨gb165, 2, none⟩ = some (.string (⟨#[]⟩ : ByteArray)) := (kc BK165.out 2).trans rfl; have hcz10_3 : w4.cell? ⟨gb165, 3, none⟩ = some (.int .i64 0) := (kc BK165.out 3).trans rfl; have hcz10_4 : w4.cell? ⟨gb165, 4, none⟩ = some (.int .i64 0) := (kc BK165.out 4).trans rfl; have hcz10_5 : w4.cell? ⟨gb165, 5, none⟩ = some (.string (⟨#[]⟩ : ByteArray)) := (kc BK165.out 5).trans rfl; have hfz10_0 := kf BK165.out 0; have hfz10_1 := kf BK165.out 1; have hfz10_2 := kf BK165.out 2; have hfz10_3 := kf BK165.out 3; have hfz10_4 := kf BK165.out 4; have hfz10_5 := kf BK165.out 5))
 refine bodyPost_ret (results_cell_row rfl _ _ gb165 31 #[.int .i64 a0_0, .string a0_1, .string a0_2, .int .i64 a0_3, .int .i64 a0_4, .string a0_5] (0, 0) _ rfl (by (with_reducible repeat (first | refine kn ?_ _ | refine ke ?_ | refine ka ?_ _)); refine kp (cs := #[.int .i64 a0_0, .string a0_1, .string a0_2, .int .i64 a0_3, .int .i64 a0_4, .string (⟨#[]⟩ : ByteArray)]) ?_ 5 _ rfl; (with_reducible repeat (first | refine kn ?_ _ | refine ke ?_ | refine ka ?_ _)); refine kp (cs := #[.int .i64 a0_0, .string a0_1, .string a0_2, .int .i64 a0_3, .int .i64 0, .string (⟨#[]⟩ : ByteArray)]) ?_ 4 _ rfl; (with_reducible repeat (first | refine kn ?_ _ | refine ke ?_ | refine ka ?_ _)); refine kp (cs := #[.int .i64 a0_0, .string a0_1, .string a0_2, .int .i64 0, .int .i64 0, .string (⟨#[]⟩ : ByteArray)]) ?_ 3 _ rfl; (with_reducible repeat (first | refine kn ?_ _ | refine ke ?_ | refine ka ?_ _)); refine kp (cs := #[.int .i64 a0_0, .string a0_1, .string (⟨#[]⟩ : ByteArray), .int .i64 0, .int .i64 0, .string (⟨#[]⟩ : ByteArray)]) ?_ 2 _ rfl; (with_reducible repeat (first | refine kn ?_ _ | refine ke ?_ | refine ka ?_ _)); refine kp (cs := #[.int .i64 a0_0, .string (⟨#[]⟩ : ByteArray), .string (⟨#[]⟩ : ByteArray), .int .i64 0, .int .i64 0, .string (⟨#[]⟩ : ByteArray)]) ?_ 1 _ rfl; (with_reducible repeat (first | refine kn ?_ _ | refine ke ?_ | refine ka ?_ _)); refine kp (cs := #[.int .i64 0, .string (⟨#[]⟩ : ByteArray), .string (⟨#[]⟩ : ByteArray), .int .i64 0, .int .i64 0, .string (⟨#[]⟩ : ByteArray)]) ?_ 0 _ rfl; (with_reducible repeat (first | refine kn ?_ _ | refine ke ?_ | refine ka ?_ _)); refine blk_far ?_ NB165_166.out _; (with_reducible repeat (first | refine kn ?_ _ | refine ke ?_ | refine ka ?_ _)); refine blk_far ?_ NB165_166.out _; (with_reducible repeat (first | refine kn ?_ _ | refine ke ?_ | refine ka ?_ _)); refine blk_far ?_ NB165_166.out _; (with_reducible repeat (first | refine kn ?_ _ | refine ke ?_ | refine ka ?_ _)); refine blk_far ?_ NB165_166.out _; (with_reducible repeat (first | refine kn ?_ _ | refine ke ?_ | refine ka ?_ _)); refine blk_far ?_ NB165_166.out _; (with_reducible repeat (first | refine kn ?_ _ | refine ke ?_ | refine ka ?_ _)); refine blk_far ?_ NB165_166.out _; (with_reducible repeat (first | refine kn ?_ _ | refine ke ?_ | refine ka ?_ _)); exact BK165.out) Try.underlying31 rfl (by kernel_rfl)) rfl ?_
 exact ⟨by first | rfl | (simp [errW_none, errW_some] <;> rfl) | (simp [*, errW_none, errW_some] <;> rfl), by repeat (first | (with_reducible first | exact HB.out | apply ba | apply bn | apply be | refine bs ?_ GE164.out | refine bs ?_ GE165.out | refine bs ?_ GE166.out) | exact HB.out)⟩

/-! ### laws_toAct: function 74 -/
def laws_toAct.f (a0_0 : Int) (a0_1 : Int) (a0_2 : Int) (a0_3 : ByteArray) (a0_4 : ByteArray) (a0_5 : Int) (a0_6 : Int) (a0_7 : ByteArray) (a0_8 : Int) : Option (Int × Int × Int × ByteArray × ByteArray × Int × Int × ByteArray × Int) := (laws_toAsk.f a0_2 a0_3 a0_4 a0_5 a0_6 a0_7).bind fun bt170 => (some (a0_0, a0_1, bt170.1, bt170.2.1, bt170.2.2.1, bt170.2.2.2.1, bt170.2.2.2.2.1, bt170.2.2.2.2.2, a0_8))
set_option maxHeartbeats 8000000 in
set_option maxRecDepth 100000 in
theorem laws_toAct.calls (a0_0 : Int) (a0_1 : Int) (a0_2 : Int) (a0_3 : ByteArray) (a0_4 : ByteArray) (a0_5 : Int) (a0_6 : Int) (a0_7 : ByteArray) (a0_8 : Int) (r1 : Int) (r2 : Int) (r3 : Int) (r4 : ByteArray) (r5 : ByteArray) (r6 : Int) (r7 : Int) (r8 : ByteArray) (r9 : Int) (w : World) (h : laws_toAct.f a0_0 a0_1 a0_2 a0_3 a0_4 a0_5 a0_6 a0_7 a0_8 = some (r1, r2, r3, r4, r5, r6, r7, r8, r9)) :
  Calls Try.prog 74 #[.agg #[.int .i64 a0_0, .int .i64 a0_1, .int .i64 a0_2, .string a0_3, .string a0_4, .int .i64 a0_5, .int .i64 a0_6, .string a0_7, .int .i64 a0_8]] w fun e w' => e = .returned (.agg #[.int .i64 r1, .int .i64 r2, .int .i64 r3, .string r4, .string r5, .int .i64 r6, .int .i64 r7, .string r8, .int .i64 r9]) ∧ Below w.heap.size w w' := by
 have hu104 := Try.underlying104
 have hu33 := Try.underlying33
 have hu102 := Try.underlying102
 have hu31 := Try.underlying31
 have HB := Am (Below.refl w.heap.size w)
 have H : ((laws_toAsk.f a0_2 a0_3 a0_4 a0_5 a0_6 a0_7).bind fun bt170 => (some (a0_0, a0_1, bt170.1, bt170.2.1, bt170.2.2.1, bt170.2.2.2.1, bt170.2.2.2.2.1, bt170.2.2.2.2.2, a0_8))) = some (r1, r2, r3, r4, r5, r6, r7, r8, r9) := h
 clear h
 replace H := Option.bind_eq_some_iff.mp H
 obtain ⟨⟨t170, t171, t172, t173, t174, t175⟩, A20, H⟩ := H
 replace H : (some (a0_0, a0_1, t170, t171, t172, t173, t174, t175, a0_8)) = some (r1, r2, r3, r4, r5, r6, r7, r8, r9) := H
 have A2 := Am A20
 clear A20
 simp only [Option.some.injEq, Prod.mk.injEq] at H
 obtain ⟨rfl, rfl, rfl, rfl, rfl, rfl, rfl, rfl, rfl⟩ := H
 go_enter Try.func74, Try.ntmps74
 go_wp2_with (first | ((with_reducible refine gate_dst (N := 1) rfl ?_); refine box_event ?hg (N := 1) ?hd (cs := #[.int .i64 a0_0, .int .i64 a0_1, .int .i64 a0_2, .string a0_3, .string a0_4, .int .i64 a0_5, .int .i64 a0_6, .string a0_7, .int .i64 a0_8]) (t := 104) ?hr ?_; (case hd => rfl); (case hg => rfl); (case hr => first | (go_simp; done) | (go_simp; rfl)); intro gb167 hg w3 hbox hb; have BK167 := Am (hbox); have GW167 := Am ((by rw [hg]; exact (bz (by repeat (first | (with_reducible first | exact HB.out | apply ba | apply bn | apply be) | exact HB.out))) : w.heap.size ≤ gb167)); have GE167 := Am ((by rw [hg]; exact (bz (by repeat (first | (with_reducible first | exact HB.out | apply ba | apply bn | apply be) | exact HB.out))) : w.heap.size ≤ gb167)); replace HB := Am (bt (by repeat (first | (with_reducible first | exact HB.out | apply ba | apply bn | apply be) | exact HB.out)) hb); clear hb hbox hg) | ((with_reducible refine gate_dst (N := 2) rfl ?_); refine box_event ?hg (N := 2) ?hd (cs := #[.int .i64 0, .int .i64 0, .int .i64 0, .string (⟨#[]⟩ : ByteArray), .string (⟨#[]⟩ : ByteArray), .int .i64 0, .int .i64 0, .string (⟨#[]⟩ : ByteArray), .int .i64 0]) (t := 33) ?hr ?_; (case hd => rfl); (case hg => rfl); (case hr => first | (go_simp; done) | (go_simp; rfl)); intro gb168 hg w4 hbox hb; have n0_ := Am (kb (g := gb167) (o := o1b0 a0_0 a0_1 a0_2 a0_3 a0_4 a0_5 a0_6 a0_7 a0_8) (by (with_reducible repeat (first | refine kn ?_ _ | refine ke ?_ | refine ka ?_ _)); exact BK167.out) hb); have n1_ := Am (bt (by repeat (first | (with_reducible first | exact HB.out | apply ba | apply bn | apply be | refine bs ?_ GE167.out) | exact HB.out)) hb); have n2_ := Am (hbox); have n3_ := Am ((by rw [hg]; exact (bz (by repeat (first | (with_reducible first | exact HB.out | apply ba | apply bn | apply be | refine bs ?_ GE167.out) | exact HB.out))) : w.heap.size ≤ gb168)); have n4_ := Am ((by rw [hg]; exact (bz (by repeat (first | (with_reducible first | exact HB.out | apply ba | apply bn | apply be | refine bs ?_ GE167.out) | exact HB.out))) : w.heap.size ≤ gb168)); have n5_ := Am ((by rw [hg]; exact Nat.ne_of_lt (kl (g := gb167) (o := o1b0 a0_0 a0_1 a0_2 a0_3 a0_4 a0_5 a0_6 a0_7 a0_8) (by (with_reducible repeat (first | refine kn ?_ _ | refine ke ?_ | refine ka ?_ _)); exact BK167.out)) : gb167 ≠ gb168)); have n6_ := Am ((by rw [hg]; exact Nat.ne_of_gt (kl (g := gb167) (o := o1b0 a0_0 a0_1 a0_2 a0_3 a0_4 a0_5 a0_6 a0_7 a0_8) (by (with_reducible repeat (first | refine kn ?_ _ | refine ke ?_ | refine ka ?_ _)); exact BK167.out)) : gb168 ≠ gb167)); clear BK167; clear HB; have BK167 := n0_; have HB := n1_; have BK168 := n2_; have GW168 := n3_; have GE168 := n4_; have NB167_168 := n5_; have NB168_167 := n6_; clear n0_ n1_ n2_ n3_ n4_ n5_ n6_; clear hb hbox hg) | ((with_reducible refine gate_dst (N := 3) rfl ?_); refine box_event ?hg (N := 3) ?hd (cs := #[.int .i64 0, .int .i64 0, .int .i64 0, .string (⟨#[]⟩ : ByteArray), .string (⟨#[]⟩ : ByteArray), .int .i64 0, .int .i64 0, .string (⟨#[]⟩ : ByteArray), .int .i64 0]) (t := 33) ?hr ?_; (case hd => rfl); (case hg => rfl); (case hr => first | (go_simp; done) | (go_simp; rfl)); intro gb169 hg w5 hbox hb; have n0_ := Am (kb (g := gb167) (o := o1b0 a0_0 a0_1 a0_2 a0_3 a0_4 a0_5 a0_6 a0_7 a0_8) (by (with_reducible repeat (first | refine kn ?_ _ | refine ke ?_ | refine ka ?_ _)); exact BK167.out) hb); have n1_ := Am (kb (g := gb168) (o := .cells #[.int .i64 0, .int .i64 0, .int .i64 0, .string (⟨#[]⟩ : ByteArray), .string (⟨#[]⟩ : ByteArray), .int .i64 0, .int .i64 0, .string (⟨#[]⟩ : ByteArray), .int .i64 0] 33 (0, 0)) (by (with_reducible repeat (first | refine kn ?_ _ | refine ke ?_ | refine ka ?_ _)); exact BK168.out) hb); have n2_ := Am (bt (by repeat (first | (with_reducible first | exact HB.out | apply ba | apply bn | apply be | refine bs ?_ GE167.out | refine bs ?_ GE168.out) | exact HB.out)) hb); have n3_ := Am (hbox); have n4_ := Am ((by rw [hg]; exact (bz (by repeat (first | (with_reducible first | exact HB.out | apply ba | apply bn | apply be | refine bs ?_ GE167.out | refine bs ?_ GE168.out) | exact HB.out))) : w.heap.size ≤ gb169)); have n5_ := Am ((by rw [hg]; exact (bz (by repeat (first | (with_reducible first | exact HB.out | apply ba | apply bn | apply be | refine bs ?_ GE167.out | refine bs ?_ GE168.out) | exact HB.out))) : w.heap.size ≤ gb169)); have n6_ := Am ((by rw [hg]; exact Nat.ne_of_lt (kl (g := gb167) (o := o1b0 a0_0 a0_1 a0_2 a0_3 a0_4 a0_5 a0_6 a0_7 a0_8) (by (with_reducible repeat (first | refine kn ?_ _ | refine ke ?_ | refine ka ?_ _)); exact BK167.out)) : gb167 ≠ gb169)); have n7_ := Am ((by rw [hg]; exact Nat.ne_of_gt (kl (g := gb167) (o := o1b0 a0_0 a0_1 a0_2 a0_3 a0_4 a0_5 a0_6 a0_7 a0_8) (by (with_reducible repeat (first | refine kn ?_ _ | refine ke ?_ | refine ka ?_ _)); exact BK167.out)) : gb169 ≠ gb167)); have n8_ := Am ((by rw [hg]; exact Nat.ne_of_lt (kl (g := gb168) (o := .cells #[.int .i64 0, .int .i64 0, .int .i64 0, .string (⟨#[]⟩ : ByteArray), .string (⟨#[]⟩ : ByteArray), .int .i64 0, .int .i64 0, .string (⟨#[]⟩ : ByteArray), .int .i64 0] 33 (0, 0)) (by (with_reducible repeat (first | refine kn ?_ _ | refine ke ?_ | refine ka ?_ _)); exact BK168.out)) : gb168 ≠ gb169)); have n9_ := Am ((by rw [hg]; exact Nat.ne_of_gt (kl (g := gb168) (o := .cells #[.int .i64 0, .int .i64 0, .int .i64 0, .string (⟨#[]⟩ : ByteArray), .string (⟨#[]⟩ : ByteArray), .int .i64 0, .int .i64 0, .string (⟨#[]⟩ : ByteArray), .int .i64 0] 33 (0, 0)) (by (with_reducible repeat (first | refine kn ?_ _ | refine ke ?_ | refine ka ?_ _)); exact BK168.out)) : gb169 ≠ gb168)); clear BK167; clear BK168; clear HB; have BK167 := n0_; have BK168 := n1_; have HB := n2_; have BK169 := n3_; have GW169 := n4_; have GE169 := n5_; have NB167_169 := n6_; have NB169_167 := n7_; have NB168_169 := n8_; have NB169_168 := n9_; clear n0_ n1_ n2_ n3_ n4_ n5_ n6_ n7_ n8_ n9_; clear hb hbox hg; have hnb6 := NB167_168.out; have hnc6 := NB168_167.out; have hnb7 := NB167_169.out; have hnc7 := NB169_167.out; have hcz8_0 : w5.cell? ⟨gb167, 0, none⟩ = some (.int .i64 a0_0) := (kc BK167.out 0).trans rfl; have hcz8_1 : w5.cell? ⟨gb167, 1, none⟩ = some (.int .i64 a0_1) := (kc BK167.out 1).trans rfl; have hcz8_2 : w5.cell? ⟨gb167, 2, none⟩ = some (.int .i64 a0_2) := (kc BK167.out 2).trans rfl; have hcz8_3 : w5.cell? ⟨gb167, 3, none⟩ = some (.string a0_3) := (kc BK167.out 3).trans rfl; have hcz8_4 : w5.cell? ⟨gb167, 4, none⟩ = some (.string a0_4) := (kc BK167.out 4).trans rfl; have hcz8_5 : w5.cell? ⟨gb167, 5, none⟩ = some (.int .i64 a0_5) := (kc BK167.out 5).trans rfl; have hcz8_6 : w5.cell? ⟨gb167, 6, none⟩ = some (.int .i64 a0_6) := (kc BK167.out 6).trans rfl; have hcz8_7 : w5.cell? ⟨gb167, 7, none⟩ = some (.string a0_7) := (kc BK167.out 7).trans rfl; have hcz8_8 : w5.cell? ⟨gb167, 8, none⟩ = some (.int .i64 a0_8) := (kc BK167.out 8).trans rfl; have hfz8_0 := kf BK167.out 0; have hfz8_1 := kf BK167.out 1; have hfz8_2 := kf BK167.out 2; have hfz8_3 := kf BK167.out 3; have hfz8_4 := kf BK167.out 4; have hfz8_5 := kf BK167.out 5; have hfz8_6 := kf BK167.out 6; have hfz8_7 := kf BK167.out 7; have hfz8_8 := kf BK167.out 8; have hnb9 := NB169_168.out; have hnc9 := NB168_169.out; have hcz10_0 : w5.cell? ⟨gb169, 0, none⟩ = some (.int .i64 0) := (kc BK169.out 0).trans rfl; have hcz10_1 : w5.cell? ⟨gb169, 1, none⟩ = some (.int .i64 0) := (kc BK169.out 1).trans rfl; have hcz10_2 : w5.cell? ⟨gb169, 2, none⟩ = some (.int .i64 0) := (kc BK169.out 2).trans rfl; have hcz10_3 : w5.cell? ⟨gb169, 3, none⟩ = some (.string (⟨#[]⟩ : ByteArray)) := (kc BK169.out 3).trans rfl; have hcz10_4 : w5.cell? ⟨gb169, 4, none⟩ = some (.string (⟨#[]⟩ : ByteArray)) := (kc BK169.out 4).trans rfl; have hcz10_5 : w5.cell? ⟨gb169, 5, none⟩ = some (.int .i64 0) := (kc BK169.out 5).trans rfl; have hcz10_6 : w5.cell? ⟨gb169, 6, none⟩ = some (.int .i64 0) := (kc BK169.out 6).trans rfl; have hcz10_7 : w5.cell? ⟨gb169, 7, none⟩ = some (.string (⟨#[]⟩ : ByteArray)) := (kc BK169.out 7).trans rfl; have hcz10_8 : w5.cell? ⟨gb169, 8, none⟩ = some (.int .i64 0) := (kc BK169.out 8).trans rfl; have hfz10_0 := kf BK169.out 0; have hfz10_1 := kf BK169.out 1; have hfz10_2 := kf BK169.out 2; have hfz10_3 := kf BK169.out 3; have hfz10_4 := kf BK169.out 4; have hfz10_5 := kf BK169.out 5; have hfz10_6 := kf BK169.out 6; have hfz10_7 := kf BK169.out 7; have hfz10_8 := kf BK169.out 8) | ((with_reducible refine gate_callee (f := 116) rfl ?_); refine goesL_ (some 12) rfl rfl Try.func116 (by kernel_rfl) rfl #[.agg #[.int .i64 a0_2, .string a0_3, .string a0_4, .int .i64 a0_5, .int .i64 a0_6, .string a0_7]] rfl (by (try simp only [List.map_toArray, List.map_cons, List.map_nil]); first | done | rfl | (simp only [List.length_drop, List.length_take]; rfl)) ?_; (with_reducible refine (laws_toAsk.calls a0_2 a0_3 a0_4 a0_5 a0_6 a0_7 t170 t171 t172 t173 t174 t175 _ A2.out).mono ?_); rintro e w11 ⟨rfl, hb⟩; refine ⟨_, rfl, ?_⟩; have n0_ := Am (kb (g := gb167) (o := o1b0 a0_0 a0_1 a0_2 a0_3 a0_4 a0_5 a0_6 a0_7 a0_8) (by (with_reducible repeat (first | refine kn ?_ _ | refine ke ?_ | refine ka ?_ _)); refine blk_far ?_ NB167_169.out _; (with_reducible repeat (first | refine kn ?_ _ | refine ke ?_ | refine ka ?_ _)); refine blk_far ?_ NB167_169.out _; (with_reducible repeat (first | refine kn ?_ _ | refine ke ?_ | refine ka ?_ _)); exact BK167.out) hb); have n1_ := Am (kb (g := gb168) (o := .cells #[.int .i64 0, .int .i64 0, .int .i64 0, .string (⟨#[]⟩ : ByteArray), .string (⟨#[]⟩ : ByteArray), .int .i64 0, .int .i64 0, .string (⟨#[]⟩ : ByteArray), .int .i64 0] 33 (0, 0)) (by (with_reducible repeat (first | refine kn ?_ _ | refine ke ?_ | refine ka ?_ _)); refine blk_far ?_ NB168_169.out _; (with_reducible repeat (first | refine kn ?_ _ | refine ke ?_ | refine ka ?_ _)); refine blk_far ?_ NB168_169.out _; (with_reducible repeat (first | refine kn ?_ _ | refine ke ?_ | refine ka ?_ _)); exact BK168.out) hb); have n2_ := Am (kb (g := gb169) (o := .cells #[.int .i64 a0_0, .int .i64 a0_1, .int .i64 0, .string (⟨#[]⟩ : ByteArray), .string (⟨#[]⟩ : ByteArray), .int .i64 0, .int .i64 0, .string (⟨#[]⟩ : ByteArray), .int .i64 0] 33 (0, 0)) (by (with_reducible repeat (first | refine kn ?_ _ | refine ke ?_ | refine ka ?_ _)); refine kp (cs := #[.int .i64 a0_0, .int .i64 0, .int .i64 0, .string (⟨#[]⟩ : ByteArray), .string (⟨#[]⟩ : ByteArray), .int .i64 0, .int .i64 0, .string (⟨#[]⟩ : ByteArray), .int .i64 0]) ?_ 1 _ rfl; (with_reducible repeat (first | refine kn ?_ _ | refine ke ?_ | refine ka ?_ _)); refine kp (cs := #[.int .i64 0, .int .i64 0, .int .i64 0, .string (⟨#[]⟩ : ByteArray), .string (⟨#[]⟩ : ByteArray), .int .i64 0, .int .i64 0, .string (⟨#[]⟩ : ByteArray), .int .i64 0]) ?_ 0 _ rfl; (with_reducible repeat (first | refine kn ?_ _ | refine ke ?_ | refine ka ?_ _)); exact BK169.out) hb); have n3_ := Am (bt (by repeat (first | (with_reducible first | exact HB.out | apply ba | apply bn | apply be | refine bs ?_ GE167.out | refine bs ?_ GE168.out | refine bs ?_ GE169.out) | exact HB.out)) hb); clear BK167; clear BK168; clear BK169; clear HB; have BK167 := n0_; have BK168 := n1_; have BK169 := n2_; have HB := n3_; clear n0_ n1_ n2_ n3_; (try clear hb); have hcz12_0 : w11.cell? ⟨gb169, 0, none⟩ = some (.int .i64 a0_0) := (kc BK169.out 0).trans rfl; have hcz12_1 : w11.cell? ⟨gb169, 1, none⟩ = some (.int .i64 a0_1) := (kc BK169.out 1).trans rfl; have hcz12_2 : w11.cell? ⟨gb169, 2, none⟩ = some (.int .i64 0) := (kc BK169.out 2).trans rfl; have hcz12_3 : w11.cell? ⟨gb169, 3, none⟩ = some (.string (⟨#[]⟩ : ByteArray)) := (kc BK169.out 3).trans rfl; have hcz12_4 : w11.cell? ⟨gb169, 4, none⟩ = some (.string (⟨#[]⟩ : ByteArray)) := (kc BK169.out 4).trans rfl; have hcz12_5 : w11.cell? ⟨gb169, 5, none⟩ = some (.int .i64 0) := (kc BK169.out 5).trans rfl; have hcz12_6 : w11.cell? ⟨gb169, 6, none⟩ = some (.int .i64 0) := (kc BK169.out 6).trans rfl; have hcz12_7 : w11.cell? ⟨gb169, 7, none⟩ = some (.string (⟨#[]⟩ : ByteArray)) := (kc BK169.out 7).trans rfl; have hcz12_8 : w11.cell? ⟨gb169, 8, none⟩ = some (.int .i64 0) := (kc BK169.out 8).trans rfl; have hfz12_0 := kf BK169.out 0; have hfz12_1 := kf BK169.out 1; have hfz12_2 := kf BK169.out 2; have hfz12_3 := kf BK169.out 3; have hfz12_4 := kf BK169.out 4; have hfz12_5 := kf BK169.out 5; have hfz12_6 := kf BK169.out 6; have hfz12_7 := kf BK169.out 7; have hfz12_8 := kf BK169.out 8; have hcz13_0 : w11.cell? ⟨gb167, 0, none⟩ = some (.int .i64 a0_0) := (kc BK167.out 0).trans rfl; have hcz13_1 : w11.cell? ⟨gb167, 1, none⟩ = some (.int .i64 a0_1) := (kc BK167.out 1).trans rfl; have hcz13_2 : w11.cell? ⟨gb167, 2, none⟩ = some (.int .i64 a0_2) := (kc BK167.out 2).trans rfl; have hcz13_3 : w11.cell? ⟨gb167, 3, none⟩ = some (.string a0_3) := (kc BK167.out 3).trans rfl; have hcz13_4 : w11.cell? ⟨gb167, 4, none⟩ = some (.string a0_4) := (kc BK167.out 4).trans rfl; have hcz13_5 : w11.cell? ⟨gb167, 5, none⟩ = some (.int .i64 a0_5) := (kc BK167.out 5).trans rfl; have hcz13_6 : w11.cell? ⟨gb167, 6, none⟩ = some (.int .i64 a0_6) := (kc BK167.out 6).trans rfl; have hcz13_7 : w11.cell? ⟨gb167, 7, none⟩ = some (.string a0_7) := (kc BK167.out 7).trans rfl; have hcz13_8 : w11.cell? ⟨gb167, 8, none⟩ = some (.int .i64 a0_8) := (kc BK167.out 8).trans rfl; have hfz13_0 := kf BK167.out 0; have hfz13_1 := kf BK167.out 1; have hfz13_2 := kf BK167.out 2; have hfz13_3 := kf BK167.out 3; have hfz13_4 := kf BK167.out 4; have hfz13_5 := kf BK167.out 5; have hfz13_6 := kf BK167.out 6; have hfz13_7 := kf BK167.out 7; have hfz13_8 := kf BK167.out 8; have hcz14_0 : w11.cell? ⟨gb168, 0, none⟩ = some (.int .i64 0) := (kc BK168.out 0).trans rfl; have hcz14_1 : w11.cell? ⟨gb168, 1, none⟩ = some (.int .i64 0) := (kc BK168.out 1).trans rfl; have hcz14_2 : w11.cell? ⟨gb168, 2, none⟩ = some (.int .i64 0) := (kc BK168.out 2).trans rfl; have hcz14_3 : w11.cell? ⟨gb168, 3, none⟩ = some (.string (⟨#[]⟩ : ByteArray)) := (kc BK168.out 3).trans rfl; have hcz14_4 : w11.cell? ⟨gb168, 4, none⟩ = some (.string (⟨#[]⟩ : ByteArray)) := (kc BK168.out 4).trans rfl; have hcz14_5 : w11.cell? ⟨gb168, 5, none⟩ = some (.int .i64 0) := (kc BK168.out 5).trans rfl; have hcz14_6 : w11.cell? ⟨gb168, 6, none⟩ = some (.int .i64 0) := (kc BK168.out 6).trans rfl; have hcz14_7 : w11.cell? ⟨gb168, 7, none⟩ = some (.string (⟨#[]⟩ : ByteArray)) := (kc BK168.out 7).trans rfl; have hcz14_8 : w11.cell? ⟨gb168, 8, none⟩ = some (.int .i64 0) := (kc BK168.out 8).trans rfl; have hfz14_0 := kf BK168.out 0; have hfz14_1 := kf BK168.out 1; have hfz14_2 := kf BK168.out 2; have hfz14_3 := kf BK168.out 3; have hfz14_4 := kf BK168.out 4; have hfz14_5 := kf BK168.out 5; have hfz14_6 := kf BK168.out 6; have hfz14_7 := kf BK168.out 7; have hfz14_8 := kf BK168.out 8))
 refine bodyPost_ret (results_cell_row rfl _ _ gb168 33 #[.int .i64 a0_0, .int .i64 a0_1, .int .i64 t170, .string t171, .string t172, .int .i64 t173, .int .i64 t174, .string t175, .int .i64 a0_8] (0, 0) _ rfl (by (with_reducible repeat (first | refine kn ?_ _ | refine ke ?_ | refine ka ?_ _)); refine kp (cs := #[.int .i64 a0_0, .int .i64 a0_1, .int .i64 t170, .string t171, .string t172, .int .i64 t173, .int .i64 t174, .string t175, .int .i64 0]) ?_ 8 _ rfl; (with_reducible repeat (first | refine kn ?_ _ | refine ke ?_ | refine ka ?_ _)); refine kp (cs := #[.int .i64 a0_0, .int .i64 a0_1, .int .i64 t170, .string t171, .string t172, .int .i64 t173, .int .i64 t174, .string (⟨#[]⟩ : ByteArray), .int .i64 0]) ?_ 7 _ rfl; (with_reducible repeat (first | refine kn ?_ _ | refine ke ?_ | refine ka ?_ _)); refine kp (cs := #[.int .i64 a0_0, .int .i64 a0_1, .int .i64 t170, .string t171, .string t172, .int .i64 t173, .int .i64 0, .string (⟨#[]⟩ : ByteArray), .int .i64 0]) ?_ 6 _ rfl; (with_reducible repeat (first | refine kn ?_ _ | refine ke ?_ | refine ka ?_ _)); refine kp (cs := #[.int .i64 a0_0, .int .i64 a0_1, .int .i64 t170, .string t171, .string t172, .int .i64 0, .int .i64 0, .string (⟨#[]⟩ : ByteArray), .int .i64 0]) ?_ 5 _ rfl; (with_reducible repeat (first | refine kn ?_ _ | refine ke ?_ | refine ka ?_ _)); refine kp (cs := #[.int .i64 a0_0, .int .i64 a0_1, .int .i64 t170, .string t171, .string (⟨#[]⟩ : ByteArray), .int .i64 0, .int .i64 0, .string (⟨#[]⟩ : ByteArray), .int .i64 0]) ?_ 4 _ rfl; (with_reducible repeat (first | refine kn ?_ _ | refine ke ?_ | refine ka ?_ _)); refine kp (cs := #[.int .i64 a0_0, .int .i64 a0_1, .int .i64 t170, .string (⟨#[]⟩ : ByteArray), .string (⟨#[]⟩ : ByteArray), .int .i64 0, .int .i64 0, .string (⟨#[]⟩ : ByteArray), .int .i64 0]) ?_ 3 _ rfl; (with_reducible repeat (first | refine kn ?_ _ | refine ke ?_ | refine ka ?_ _)); refine kp (cs := #[.int .i64 a0_0, .int .i64 a0_1, .int .i64 0, .string (⟨#[]⟩ : ByteArray), .string (⟨#[]⟩ : ByteArray), .int .i64 0, .int .i64 0, .string (⟨#[]⟩ : ByteArray), .int .i64 0]) ?_ 2 _ rfl; (with_reducible repeat (first | refine kn ?_ _ | refine ke ?_ | refine ka ?_ _)); refine kp (cs := #[.int .i64 a0_0, .int .i64 0, .int .i64 0, .string (⟨#[]⟩ : ByteArray), .string (⟨#[]⟩ : ByteArray), .int .i64 0, .int .i64 0, .string (⟨#[]⟩ : ByteArray), .int .i64 0]) ?_ 1 _ rfl; (with_reducible repeat (first | refine kn ?_ _ | refine ke ?_ | refine ka ?_ _)); refine kp (cs := #[.int .i64 0, .int .i64 0, .int .i64 0, .string (⟨#[]⟩ : ByteArray), .string (⟨#[]⟩ : ByteArray), .int .i64 0, .int .i64 0, .string (⟨#[]⟩ : ByteArray), .int .i64 0]) ?_ 0 _ rfl; (with_reducible repeat (first | refine kn ?_ _ | refine ke ?_ | refine ka ?_ _)); refine blk_far ?_ NB168_169.out _; (with_reducible repeat (first | refine kn ?_ _ | refine ke ?_ | refine ka ?_ _)); refine blk_far ?_ NB168_169.out _; (with_reducible repeat (first | refine kn ?_ _ | refine ke ?_ | refine ka ?_ _)); refine blk_far ?_ NB168_169.out _; (with_reducible repeat (first | refine kn ?_ _ | refine ke ?_ | refine ka ?_ _)); refine blk_far ?_ NB168_169.out _; (with_reducible repeat (first | refine kn ?_ _ | refine ke ?_ | refine ka ?_ _)); refine blk_far ?_ NB168_169.out _; (with_reducible repeat (first | refine kn ?_ _ | refine ke ?_ | refine ka ?_ _)); refine blk_far ?_ NB168_169.out _; (with_reducible repeat (first | refine kn ?_ _ | refine ke ?_ | refine ka ?_ _)); refine blk_far ?_ NB168_169.out _; (with_reducible repeat (first | refine kn ?_ _ | refine ke ?_ | refine ka ?_ _)); exact BK168.out) Try.underlying33 rfl (by kernel_rfl)) rfl ?_
 exact ⟨by first | rfl | (simp [errW_none, errW_some] <;> rfl) | (simp [*, errW_none, errW_some] <;> rfl), by repeat (first | (with_reducible first | exact HB.out | apply ba | apply bn | apply be | refine bs ?_ GE167.out | refine bs ?_ GE168.out | refine bs ?_ GE169.out) | exact HB.out)⟩

end Go.Proofs.Ytklghegofjigoaa.QFnExactWoven
