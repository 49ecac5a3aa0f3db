/- Go functions as Lean functions, and their contracts. Own text: written by wip/gen/pr.py (a turned copy of the print). -/
import Derived.Test.YtceaelnaogenjaaQFnShapesx0
import Derived.Test.YtceaelnaogenjaaQFnShapesx2
import Derived.Test.YtceaelnaogenjaaQFnShapesx3
import Derived.Test.YtceaelnaogenjaaQFnShapesx7
namespace Go.Proofs.Ytceaelnaogenjaa.QFnShapes
open Go.RowKit Go.Proofs.YtceaelnaogenjaaW.PrintWords Go.Proofs.YtceaelnaogenjaaW.PrintLast Go.Proofs.YtceaelnaogenjaaW.PrintMore
attribute [local go_sem] max2_int min2_int max_two min_two max_three min_three max_four min_four   -- for this text's walks alone
open Go.Proofs.YtceaelnaogenjaaW.PrintWords renaming below_alloc → ba, pw_below_drewN → bn, below_drew1 → be, below_set → bs, blk_drewN → kn, blk_drew → ke, blk_alloc → ka, blk_below → kb, blk_frozen → kf, blk_cell → kc, below_step → bq, below_size → bz, blk_lt → kl, blk_put → kp
open Go.Proofs.YtceaelnaogenjaaW.PrintWords.Aside0 renaming mk → Am
set_option linter.unusedVariables false
set_option linter.unusedSimpArgs false

attribute [local go_sem high] eqA65
/-! ### spec_SameActs: function 19 -/
theorem cl8 {w w2 : World} {a : Addr} {v : Value} (h : Aside0 (Below w.heap.size w w2)) (e : w.cell? a = some v) : w2.cell? a = some v := (h.out.cell (World.block_lt_of_cell? w _ e)).trans e
mutual
def spec_SameActs.l0 : Nat → List (S65) → List (S65) → Int → Int → Option (Bool)
 | 0, _, _, _, _ => none
 | k + 1, x0, x1, x2, x7 => if x7 < (x0.length : Int) then (if 0 ≤ x7 then (if x7 < (x1.length : Int) then (if ((rd_T65 x0 x7).f0) = 1 then (if ((rd_T65 x0 x7).f1) = x2 then ((spec_SameShape.f ((rd_T65 x0 x7).f2.f0) ((rd_T65 x0 x7).f2.f1) ((rd_T65 x0 x7).f2.f2) ((rd_T65 x0 x7).f2.f3) ((rd_T65 x0 x7).f2.f4) ((rd_T65 x0 x7).f2.f5) ((rd_T65 x1 x7).f2.f0) ((rd_T65 x1 x7).f2.f1) ((rd_T65 x1 x7).f2.f2) ((rd_T65 x1 x7).f2.f3) ((rd_T65 x1 x7).f2.f4) ((rd_T65 x1 x7).f2.f5)).bind fun t442 => (spec_SameActs.j1 k x0 x1 x2 x7 t442 ((rd_T65 x0 x7).f0) ((rd_T65 x0 x7).f1) ((rd_T65 x0 x7).f2.f0) ((rd_T65 x0 x7).f2.f1) ((rd_T65 x0 x7).f2.f2) ((rd_T65 x0 x7).f2.f3) ((rd_T65 x0 x7).f2.f4) ((rd_T65 x0 x7).f2.f5) ((rd_T65 x0 x7).f3) ((rd_T65 x1 x7).f0) ((rd_T65 x1 x7).f1) ((rd_T65 x1 x7).f2.f0) ((rd_T65 x1 x7).f2.f1) ((rd_T65 x1 x7).f2.f2) ((rd_T65 x1 x7).f2.f3) ((rd_T65 x1 x7).f2.f4) ((rd_T65 x1 x7).f2.f5) ((rd_T65 x1 x7).f3))) else (spec_SameActs.j1 k x0 x1 x2 x7 false ((rd_T65 x0 x7).f0) ((rd_T65 x0 x7).f1) ((rd_T65 x0 x7).f2.f0) ((rd_T65 x0 x7).f2.f1) ((rd_T65 x0 x7).f2.f2) ((rd_T65 x0 x7).f2.f3) ((rd_T65 x0 x7).f2.f4) ((rd_T65 x0 x7).f2.f5) ((rd_T65 x0 x7).f3) ((rd_T65 x1 x7).f0) ((rd_T65 x1 x7).f1) ((rd_T65 x1 x7).f2.f0) ((rd_T65 x1 x7).f2.f1) ((rd_T65 x1 x7).f2.f2) ((rd_T65 x1 x7).f2.f3) ((rd_T65 x1 x7).f2.f4) ((rd_T65 x1 x7).f2.f5) ((rd_T65 x1 x7).f3))) else (spec_SameActs.j1 k x0 x1 x2 x7 false ((rd_T65 x0 x7).f0) ((rd_T65 x0 x7).f1) ((rd_T65 x0 x7).f2.f0) ((rd_T65 x0 x7).f2.f1) ((rd_T65 x0 x7).f2.f2) ((rd_T65 x0 x7).f2.f3) ((rd_T65 x0 x7).f2.f4) ((rd_T65 x0 x7).f2.f5) ((rd_T65 x0 x7).f3) ((rd_T65 x1 x7).f0) ((rd_T65 x1 x7).f1) ((rd_T65 x1 x7).f2.f0) ((rd_T65 x1 x7).f2.f1) ((rd_T65 x1 x7).f2.f2) ((rd_T65 x1 x7).f2.f3) ((rd_T65 x1 x7).f2.f4) ((rd_T65 x1 x7).f2.f5) ((rd_T65 x1 x7).f3))) else (none)) else (none)) else (some true)
def spec_SameActs.j1 : Nat → List (S65) → List (S65) → Int → Int → Bool → Int → Int → Int → ByteArray → ByteArray → Int → Int → ByteArray → Int → Int → Int → Int → ByteArray → ByteArray → Int → Int → ByteArray → Int → Option (Bool)
 | 0, _, _, _, _, _, _, _, _, _, _, _, _, _, _, _, _, _, _, _, _, _, _, _ => none
 | k + 1, x0, x1, x2, x7, x44, x440000, x440001, x440002, x440003, x440004, x440005, x440006, x440007, x440008, x442000, x442001, x442002, x442003, x442004, x442005, x442006, x442007, x442008 => if x44 = true then (if (!(x440000 == x442000) || (!(x440001 == x442001) || (!(x440008 == x442008)))) = true then (some false) else (spec_SameActs.l0 k x0 x1 x2 (wrap64 (x7 + 1)))) else (if (!(x440000 == x442000) || (!(x440001 == x442001) || ((!(x440002 == x442002) || (!(x440003.toList == x442003.toList) || (!(x440004.toList == x442004.toList) || (!(x440005 == x442005) || (!(x440006 == x442006) || (!(x440007.toList == x442007.toList))))))) || (!(x440008 == x442008))))) = true then (some false) else (spec_SameActs.l0 k x0 x1 x2 (wrap64 (x7 + 1))))
end
def spec_SameActs.f (k : Nat) (l0 : List (S65)) (l1 : List (S65)) (a2 : Int) : Option (Bool) := if (l0.length : Int) = (l1.length : Int) then (spec_SameActs.l0 k l0 l1 a2 0) else (some false)
theorem spec_SameActs.mono_l : ∀ k, (∀ y0 y1 y2 y3, LeO (spec_SameActs.l0 k y0 y1 y2 y3) (spec_SameActs.l0 (k + 1) y0 y1 y2 y3)) ∧ (∀ y0 y1 y2 y3 y4 y5 y6 y7 y8 y9 y10 y11 y12 y13 y14 y15 y16 y17 y18 y19 y20 y21 y22, LeO (spec_SameActs.j1 k y0 y1 y2 y3 y4 y5 y6 y7 y8 y9 y10 y11 y12 y13 y14 y15 y16 y17 y18 y19 y20 y21 y22) (spec_SameActs.j1 (k + 1) y0 y1 y2 y3 y4 y5 y6 y7 y8 y9 y10 y11 y12 y13 y14 y15 y16 y17 y18 y19 y20 y21 y22))
 | 0 => ⟨fun _ _ _ _ r h => by simp [spec_SameActs.l0] at h, fun _ _ _ _ _ _ _ _ _ _ _ _ _ _ _ _ _ _ _ _ _ _ _ r h => by simp [spec_SameActs.j1] at h⟩
 | k + 1 => by
  obtain ⟨ih0, ih1⟩ := spec_SameActs.mono_l k
  refine ⟨?_, ?_⟩
  ·intro y0 y1 y2 y3
   unfold spec_SameActs.l0
   repeat' first
   | (with_reducible exact ih0 _ _ _ _)
   | (with_reducible exact ih1 _ _ _ _ _ _ _ _ _ _ _ _ _ _ _ _ _ _ _ _ _ _ _)
   | (with_reducible exact LeO.refl _)
   | (with_reducible exact LeO.none _)
   | (with_reducible refine LeO.ite ?_ ?_)
   | (with_reducible refine LeO.bind ?_ (fun _ => ?_))
   | exact ih0 _ _ _ _
   | exact ih1 _ _ _ _ _ _ _ _ _ _ _ _ _ _ _ _ _ _ _ _ _ _ _
   | exact LeO.none _
   | refine LeO.ite ?_ ?_
   | refine LeO.bind ?_ (fun _ => ?_)
  ·intro y0 y1 y2 y3 y4 y5 y6 y7 y8 y9 y10 y11 y12 y13 y14 y15 y16 y17 y18 y19 y20 y21 y22
   unfold spec_SameActs.j1
   repeat' first
   | (with_reducible exact ih0 _ _ _ _)
   | (with_reducible exact ih1 _ _ _ _ _ _ _ _ _ _ _ _ _ _ _ _ _ _ _ _ _ _ _)
   | (with_reducible exact LeO.refl _)
   | (with_reducible exact LeO.none _)
   | (with_reducible refine LeO.ite ?_ ?_)
   | (with_reducible refine LeO.bind ?_ (fun _ => ?_))
   | exact ih0 _ _ _ _
   | exact ih1 _ _ _ _ _ _ _ _ _ _ _ _ _ _ _ _ _ _ _ _ _ _ _
   | exact LeO.none _
   | refine LeO.ite ?_ ?_
   | refine LeO.bind ?_ (fun _ => ?_)
theorem spec_SameActs.mono : ∀ a0 a1 a2 k, LeO (spec_SameActs.f k a0 a1 a2) (spec_SameActs.f (k + 1) a0 a1 a2) := by
 intro a0 a1 a2 k
 obtain ⟨ih0, ih1⟩ := spec_SameActs.mono_l k
 unfold spec_SameActs.f
 repeat' first
   | (with_reducible exact ih0 _ _ _ _)
   | (with_reducible exact ih1 _ _ _ _ _ _ _ _ _ _ _ _ _ _ _ _ _ _ _ _ _ _ _)
   | (with_reducible exact LeO.refl _)
   | (with_reducible exact LeO.none _)
   | (with_reducible refine LeO.ite ?_ ?_)
   | (with_reducible refine LeO.bind ?_ (fun _ => ?_))
   | exact ih0 _ _ _ _
   | exact ih1 _ _ _ _ _ _ _ _ _ _ _ _ _ _ _ _ _ _ _ _ _ _ _
   | exact LeO.none _
   | refine LeO.ite ?_ ?_
   | refine LeO.bind ?_ (fun _ => ?_)
set_option maxHeartbeats 8000000 in
set_option maxRecDepth 100000 in
theorem spec_SameActs.calls (k : Nat) (A0 : Option Addr) (c0 : Nat) (l0 : List (S65)) (A1 : Option Addr) (c1 : Nat) (l1 : List (S65)) (a2 : Int) (r : Bool) (w : World) (hr0 : Kd.C k65 w A0 l0.length l0) (hc0 : l0.length ≤ c0) (hr1 : Kd.C k65 w A1 l1.length l1) (hc1 : l1.length ≤ c1) (h : spec_SameActs.f k l0 l1 a2 = some r) :
  Calls Try.prog 19 #[.slice A0 l0.length c0, .slice A1 l1.length c1, .int .i64 a2] w fun e w' => e = .returned (.bool r) ∧ Below w.heap.size w w' := by
 have hu65 := Try.underlying65
 have hu32 := Try.underlying32
 have HR0 := Am hr0
 have HC0 := Am hc0
 clear hr0 hc0
 have HR1 := Am hr1
 have HC1 := Am hc1
 clear hr1 hc1
 have HB := Am (Below.refl w.heap.size w)
 have H : (if (l0.length : Int) = (l1.length : Int) then (spec_SameActs.l0 k l0 l1 a2 0) else (some false)) = some r := h
 clear h
 by_cases c4 : (l0.length : Int) = (l1.length : Int)
 ·rw [if_pos c4] at H
  have c4b0 : ((l0.length : Int) == (l1.length : Int)) = true := beq_iff_eq.mpr c4
  have c4b1 : ((l0.length : Int) != (l1.length : Int)) = false := bne_eq_false_iff_eq.mpr c4
  have c4b2 : (l0.length == l1.length) = true := by first | simpa using c4 | (simp at c4 ⊢; omega)
  clear c4
  have H' := Am H
  clear H
  go_enter Try.func19, Try.ntmps19
  go_wp2
  go_loopg [7] k (fun kq v7 w' => ∃ (x7_1 : Int), v7 = .int .i64 x7_1 ∧ Aside0 (spec_SameActs.l0 kq l0 l1 a2 x7_1 = some r) ∧ Aside0 (kq ≤ k) ∧ Aside0 (Below w.heap.size w w'))
  case atStart => exact ⟨(0), (by first | rfl | (simp; done) | (simp [*]; done)), H', ⟨Nat.le_refl _⟩, ⟨zB⟩⟩
  case round =>
   clear H'
   try clear c1; try clear p2; try clear c4; try clear c4b0; try clear c4b1; try clear c4b2
   obtain ⟨x7_1, rfl, HA, HK1, HB⟩ := hrel
   cases gk with
   | zero => exact absurd HA.out (by simp [spec_SameActs.l0])
   | succ k1 =>
    have H := HA.out
    clear HA
    simp only [spec_SameActs.l0] at H
    by_cases c5 : x7_1 < (l0.length : Int)
    ·rw [if_pos c5] at H
     have c5b0 : decide (x7_1 < (l0.length : Int)) = true := decide_eq_true c5
     clear c5
     by_cases c6 : 0 ≤ x7_1
     ·rw [if_pos c6] at H
      have c6b0 : decide (0 ≤ x7_1) = true := decide_eq_true c6
      clear c6
      by_cases c7 : x7_1 < (l1.length : Int)
      ·rw [if_pos c7] at H
       have c7b0 : decide (x7_1 < (l1.length : Int)) = true := decide_eq_true c7
       clear c7
       have HC8 := Am H
       clear H
       have p438 : 0 ≤ (x7_1 : Int) := of_decide_eq_true (by first | (with_reducible assumption) | assumption)
       have q438 : x7_1 < (l0.length : Int) := of_decide_eq_true (by first | (with_reducible assumption) | assumption)
       obtain ⟨ad438, e438, hx438_0, hx438_1, hx438_2, hx438_3, hx438_4, hx438_5, hx438_6, hx438_7, hx438_8⟩ := at_T65 HR0.out x7_1 p438 q438
       cases e438
       replace hx438_0 := cl8 HB hx438_0
       replace hx438_1 := cl8 HB hx438_1
       replace hx438_2 := cl8 HB hx438_2
       replace hx438_3 := cl8 HB hx438_3
       replace hx438_4 := cl8 HB hx438_4
       replace hx438_5 := cl8 HB hx438_5
       replace hx438_6 := cl8 HB hx438_6
       replace hx438_7 := cl8 HB hx438_7
       replace hx438_8 := cl8 HB hx438_8
       replace p438 := eq_true p438
       replace q438 := eq_true q438
       go_upto_region 8 with (first | ((with_reducible refine gate_dst (N := 8) rfl ?_); refine box_event ?hg (N := 8) ?hd (cs := #[.int .i64 0, .int .i64 0, .int .i64 0, .string (⟨#[]⟩ : ByteArray), .string (⟨#[]⟩ : ByteArray), .int .i64 0, .int .i64 0, .string (⟨#[]⟩ : ByteArray), .int .i64 0]) (t := 65) ?hr ?_; (case hd => rfl); (case hg => rfl); (case hr => first | (go_simp; done) | (go_simp; rfl)); intro gb439 hg w9 hbox hb; have BK439 := Am (hbox); have GW439 := Am ((by rw [hg]; exact (bz zB) : w.heap.size ≤ gb439)); have GE439 := Am ((by rw [hg]; exact (bz zB) : w.heap.size ≤ gb439)); replace HB := Am (bq zB hb); clear hb hbox hg; obtain ⟨hcz10_0, hcz10_1, hcz10_2, hcz10_3, hcz10_4, hcz10_5, hcz10_6, hcz10_7, hcz10_8⟩ := kc9 (w := w9) BK439.out; have hfz10_0 := kf BK439.out; have p440 : 0 ≤ (x7_1 : Int) := of_decide_eq_true (by first | (with_reducible assumption) | assumption); have q440 : x7_1 < (l1.length : Int) := of_decide_eq_true (by first | (with_reducible assumption) | assumption); obtain ⟨ad440, e440, hx440_0, hx440_1, hx440_2, hx440_3, hx440_4, hx440_5, hx440_6, hx440_7, hx440_8⟩ := at_T65 HR1.out x7_1 p440 q440; cases e440; have hn440_0 : ad440.block ≠ gb439 := Nat.ne_of_lt (Nat.lt_of_lt_of_le (by have := World.block_lt_of_cell? _ _ hx440_0; first | rwa [add_block] at this | exact this) GW439.out); have hn440_1 : ad440.block ≠ gb439 := Nat.ne_of_lt (Nat.lt_of_lt_of_le (by have := World.block_lt_of_cell? _ _ hx440_0; first | rwa [add_block] at this | exact this) GW439.out); have hn440_2 : ad440.block ≠ gb439 := Nat.ne_of_lt (Nat.lt_of_lt_of_le (by have := World.block_lt_of_cell? _ _ hx440_0; first | rwa [add_block] at this | exact this) GW439.out); have hn440_3 : ad440.block ≠ gb439 := Nat.ne_of_lt (Nat.lt_of_lt_of_le (by have := World.block_lt_of_cell? _ _ hx440_0; first | rwa [add_block] at this | exact this) GW439.out); have hn440_4 : ad440.block ≠ gb439 := Nat.ne_of_lt (Nat.lt_of_lt_of_le (by have := World.block_lt_of_cell? _ _ hx440_0; first | rwa [add_block] at this | exact this) GW439.out); have hn440_5 : ad440.block ≠ gb439 := Nat.ne_of_lt (Nat.lt_of_lt_of_le (by have := World.block_lt_of_cell? _ _ hx440_0; first | rwa [add_block] at this | exact this) GW439.out); have hn440_6 : ad440.block ≠ gb439 := Nat.ne_of_lt (Nat.lt_of_lt_of_le (by have := World.block_lt_of_cell? _ _ hx440_0; first | rwa [add_block] at this | exact this) GW439.out); have hn440_7 : ad440.block ≠ gb439 := Nat.ne_of_lt (Nat.lt_of_lt_of_le (by have := World.block_lt_of_cell? _ _ hx440_0; first | rwa [add_block] at this | exact this) GW439.out); have hn440_8 : ad440.block ≠ gb439 := Nat.ne_of_lt (Nat.lt_of_lt_of_le (by have := World.block_lt_of_cell? _ _ hx440_0; first | rwa [add_block] at this | exact this) GW439.out); replace hx440_0 := cl8 HB hx440_0; replace hx440_1 := cl8 HB hx440_1; replace hx440_2 := cl8 HB hx440_2; replace hx440_3 := cl8 HB hx440_3; replace hx440_4 := cl8 HB hx440_4; replace hx440_5 := cl8 HB hx440_5; replace hx440_6 := cl8 HB hx440_6; replace hx440_7 := cl8 HB hx440_7; replace hx440_8 := cl8 HB hx440_8; replace hx440_0 := (cell_far (p := ⟨gb439, 0, none⟩) (by first | (rw [add_block]; exact hn440_0) | (show (Addr.add _ _).block ≠ _; rw [add_block]; exact hn440_0) | exact hn440_0) (.int .i64 ((rd_T65 l0 x7_1).f0))).trans hx440_0; replace hx440_1 := (cell_far (p := ⟨gb439, 0, none⟩) (by first | (rw [add_block]; exact hn440_0) | (show (Addr.add _ _).block ≠ _; rw [add_block]; exact hn440_0) | exact hn440_0) (.int .i64 ((rd_T65 l0 x7_1).f0))).trans hx440_1; replace hx440_2 := (cell_far (p := ⟨gb439, 0, none⟩) (by first | (rw [add_block]; exact hn440_0) | (show (Addr.add _ _).block ≠ _; rw [add_block]; exact hn440_0) | exact hn440_0) (.int .i64 ((rd_T65 l0 x7_1).f0))).trans hx440_2; replace hx440_3 := (cell_far (p := ⟨gb439, 0, none⟩) (by first | (rw [add_block]; exact hn440_0) | (show (Addr.add _ _).block ≠ _; rw [add_block]; exact hn440_0) | exact hn440_0) (.int .i64 ((rd_T65 l0 x7_1).f0))).trans hx440_3; replace hx440_4 := (cell_far (p := ⟨gb439, 0, none⟩) (by first | (rw [add_block]; exact hn440_0) | (show (Addr.add _ _).block ≠ _; rw [add_block]; exact hn440_0) | exact hn440_0) (.int .i64 ((rd_T65 l0 x7_1).f0))).trans hx440_4; replace hx440_5 := (cell_far (p := ⟨gb439, 0, none⟩) (by first | (rw [add_block]; exact hn440_0) | (show (Addr.add _ _).block ≠ _; rw [add_block]; exact hn440_0) | exact hn440_0) (.int .i64 ((rd_T65 l0 x7_1).f0))).trans hx440_5; replace hx440_6 := (cell_far (p := ⟨gb439, 0, none⟩) (by first | (rw [add_block]; exact hn440_0) | (show (Addr.add _ _).block ≠ _; rw [add_block]; exact hn440_0) | exact hn440_0) (.int .i64 ((rd_T65 l0 x7_1).f0))).trans hx440_6; replace hx440_7 := (cell_far (p := ⟨gb439, 0, none⟩) (by first | (rw [add_block]; exact hn440_0) | (show (Addr.add _ _).block ≠ _; rw [add_block]; exact hn440_0) | exact hn440_0) (.int .i64 ((rd_T65 l0 x7_1).f0))).trans hx440_7; replace hx440_8 := (cell_far (p := ⟨gb439, 0, none⟩) (by first | (rw [add_block]; exact hn440_0) | (show (Addr.add _ _).block ≠ _; rw [add_block]; exact hn440_0) | exact hn440_0) (.int .i64 ((rd_T65 l0 x7_1).f0))).trans hx440_8; replace hx440_0 := (cell_far (p := ⟨gb439, 1, none⟩) (by first | (rw [add_block]; exact hn440_1) | (show (Addr.add _ _).block ≠ _; rw [add_block]; exact hn440_1) | exact hn440_1) (.int .i64 ((rd_T65 l0 x7_1).f1))).trans hx440_0; replace hx440_1 := (cell_far (p := ⟨gb439, 1, none⟩) (by first | (rw [add_block]; exact hn440_1) | (show (Addr.add _ _).block ≠ _; rw [add_block]; exact hn440_1) | exact hn440_1) (.int .i64 ((rd_T65 l0 x7_1).f1))).trans hx440_1; replace hx440_2 := (cell_far (p := ⟨gb439, 1, none⟩) (by first | (rw [add_block]; exact hn440_1) | (show (Addr.add _ _).block ≠ _; rw [add_block]; exact hn440_1) | exact hn440_1) (.int .i64 ((rd_T65 l0 x7_1).f1))).trans hx440_2; replace hx440_3 := (cell_far (p := ⟨gb439, 1, none⟩) (by first | (rw [add_block]; exact hn440_1) | (show (Addr.add _ _).block ≠ _; rw [add_block]; exact hn440_1) | exact hn440_1) (.int .i64 ((rd_T65 l0 x7_1).f1))).trans hx440_3; replace hx440_4 := (cell_far (p := ⟨gb439, 1, none⟩) (by first | (rw [add_block]; exact hn440_1) | (show (Addr.add _ _).block ≠ _; rw [add_block]; exact hn440_1) | exact hn440_1) (.int .i64 ((rd_T65 l0 x7_1).f1))).trans hx440_4; replace hx440_5 := (cell_far (p := ⟨gb439, 1, none⟩) (by first | (rw [add_block]; exact hn440_1) | (show (Addr.add _ _).block ≠ _; rw [add_block]; exact hn440_1) | exact hn440_1) (.int .i64 ((rd_T65 l0 x7_1).f1))).trans hx440_5; replace hx440_6 := (cell_far (p := ⟨gb439, 1, none⟩) (by first | (rw [add_block]; exact hn440_1) | (show (Addr.add _ _).block ≠ _; rw [add_block]; exact hn440_1) | exact hn440_1) (.int .i64 ((rd_T65 l0 x7_1).f1))).trans hx440_6; replace hx440_7 := (cell_far (p := ⟨gb439, 1, none⟩) (by first | (rw [add_block]; exact hn440_1) | (show (Addr.add _ _).block ≠ _; rw [add_block]; exact hn440_1) | exact hn440_1) (.int .i64 ((rd_T65 l0 x7_1).f1))).trans hx440_7; replace hx440_8 := (cell_far (p := ⟨gb439, 1, none⟩) (by first | (rw [add_block]; exact hn440_1) | (show (Addr.add _ _).block ≠ _; rw [add_block]; exact hn440_1) | exact hn440_1) (.int .i64 ((rd_T65 l0 x7_1).f1))).trans hx440_8; replace hx440_0 := (cell_far (p := ⟨gb439, 2, none⟩) (by first | (rw [add_block]; exact hn440_2) | (show (Addr.add _ _).block ≠ _; rw [add_block]; exact hn440_2) | exact hn440_2) (.int .i64 ((rd_T65 l0 x7_1).f2.f0))).trans hx440_0; replace hx440_1 := (cell_far (p := ⟨gb439, 2, none⟩) (by first | (rw [add_block]; exact hn440_2) | (show (Addr.add _ _).block ≠ _; rw [add_block]; exact hn440_2) | exact hn440_2) (.int .i64 ((rd_T65 l0 x7_1).f2.f0))).trans hx440_1; replace hx440_2 := (cell_far (p := ⟨gb439, 2, none⟩) (by first | (rw [add_block]; exact hn440_2) | (show (Addr.add _ _).block ≠ _; rw [add_block]; exact hn440_2) | exact hn440_2) (.int .i64 ((rd_T65 l0 x7_1).f2.f0))).trans hx440_2; replace hx440_3 := (cell_far (p := ⟨gb439, 2, none⟩) (by first | (rw [add_block]; exact hn440_2) | (show (Addr.add _ _).block ≠ _; rw [add_block]; exact hn440_2) | exact hn440_2) (.int .i64 ((rd_T65 l0 x7_1).f2.f0))).trans hx440_3; replace hx440_4 := (cell_far (p := ⟨gb439, 2, none⟩) (by first | (rw [add_block]; exact hn440_2) | (show (Addr.add _ _).block ≠ _; rw [add_block]; exact hn440_2) | exact hn440_2) (.int .i64 ((rd_T65 l0 x7_1).f2.f0))).trans hx440_4; replace hx440_5 := (cell_far (p := ⟨gb439, 2, none⟩) (by first | (rw [add_block]; exact hn440_2) | (show (Addr.add _ _).block ≠ _; rw [add_block]; exact hn440_2) | exact hn440_2) (.int .i64 ((rd_T65 l0 x7_1).f2.f0))).trans hx440_5; replace hx440_6 := (cell_far (p := ⟨gb439, 2, none⟩) (by first | (rw [add_block]; exact hn440_2) | (show (Addr.add _ _).block ≠ _; rw [add_block]; exact hn440_2) | exact hn440_2) (.int .i64 ((rd_T65 l0 x7_1).f2.f0))).trans hx440_6; replace hx440_7 := (cell_far (p := ⟨gb439, 2, none⟩) (by first | (rw [add_block]; exact hn440_2) | (show (Addr.add _ _).block ≠ _; rw [add_block]; exact hn440_2) | exact hn440_2) (.int .i64 ((rd_T65 l0 x7_1).f2.f0))).trans hx440_7; replace hx440_8 := (cell_far (p := ⟨gb439, 2, none⟩) (by first | (rw [add_block]; exact hn440_2) | (show (Addr.add _ _).block ≠ _; rw [add_block]; exact hn440_2) | exact hn440_2) (.int .i64 ((rd_T65 l0 x7_1).f2.f0))).trans hx440_8; replace hx440_0 := (cell_far (p := ⟨gb439, 3, none⟩) (by first | (rw [add_block]; exact hn440_3) | (show (Addr.add _ _).block ≠ _; rw [add_block]; exact hn440_3) | exact hn440_3) (.string ((rd_T65 l0 x7_1).f2.f1))).trans hx440_0; replace hx440_1 := (cell_far (p := ⟨gb439, 3, none⟩) (by first | (rw [add_block]; exact hn440_3) | (show (Addr.add _ _).block ≠ _; rw [add_block]; exact hn440_3) | exact hn440_3) (.string ((rd_T65 l0 x7_1).f2.f1))).trans hx440_1; replace hx440_2 := (cell_far (p := ⟨gb439, 3, none⟩) (by first | (rw [add_block]; exact hn440_3) | (show (Addr.add _ _).block ≠ _; rw [add_block]; exact hn440_3) | exact hn440_3) (.string ((rd_T65 l0 x7_1).f2.f1))).trans hx440_2; replace hx440_3 := (cell_far (p := ⟨gb439, 3, none⟩) (by first | (rw [add_block]; exact hn440_3) | (show (Addr.add _ _).block ≠ _; rw [add_block]; exact hn440_3) | exact hn440_3) (.string ((rd_T65 l0 x7_1).f2.f1))).trans hx440_3; replace hx440_4 := (cell_far (p := ⟨gb439, 3, none⟩) (by first | (rw [add_block]; exact hn440_3) | (show (Addr.add _ _).block ≠ _; rw [add_block]; exact hn440_3) | exact hn440_3) (.string ((rd_T65 l0 x7_1).f2.f1))).trans hx440_4; replace hx440_5 := (cell_far (p := ⟨gb439, 3, none⟩) (by first | (rw [add_block]; exact hn440_3) | (show (Addr.add _ _).block ≠ _; rw [add_block]; exact hn440_3) | exact hn440_3) (.string ((rd_T65 l0 x7_1).f2.f1))).trans hx440_5; replace hx440_6 := (cell_far (p := ⟨gb439, 3, none⟩) (by first | (rw [add_block]; exact hn440_3) | (show (Addr.add _ _).block ≠ _; rw [add_block]; exact hn440_3) | exact hn440_3) (.string ((rd_T65 l0 x7_1).f2.f1))).trans hx440_6; replace hx440_7 := (cell_far (p := ⟨gb439, 3, none⟩) (by first | (rw [add_block]; exact hn440_3) | (show (Addr.add _ _).block ≠ _; rw [add_block]; exact hn440_3) | exact hn440_3) (.string ((rd_T65 l0 x7_1).f2.f1))).trans hx440_7; replace hx440_8 := (cell_far (p := ⟨gb439, 3, none⟩) (by first | (rw [add_block]; exact hn440_3) | (show (Addr.add _ _).block ≠ _; rw [add_block]; exact hn440_3) | exact hn440_3) (.string ((rd_T65 l0 x7_1).f2.f1))).trans hx440_8; replace hx440_0 := (cell_far (p := ⟨gb439, 4, none⟩) (by first | (rw [add_block]; exact hn440_4) | (show (Addr.add _ _).block ≠ _; rw [add_block]; exact hn440_4) | exact hn440_4) (.string ((rd_T65 l0 x7_1).f2.f2))).trans hx440_0; replace hx440_1 := (cell_far (p := ⟨gb439, 4, none⟩) (by first | (rw [add_block]; exact hn440_4) | (show (Addr.add _ _).block ≠ _; rw [add_block]; exact hn440_4) | exact hn440_4) (.string ((rd_T65 l0 x7_1).f2.f2))).trans hx440_1; replace hx440_2 := (cell_far (p := ⟨gb439, 4, none⟩) (by first | (rw [add_block]; exact hn440_4) | (show (Addr.add _ _).block ≠ _; rw [add_block]; exact hn440_4) | exact hn440_4) (.string ((rd_T65 l0 x7_1).f2.f2))).trans hx440_2; replace hx440_3 := (cell_far (p := ⟨gb439, 4, none⟩) (by first | (rw [add_block]; exact hn440_4) | (show (Addr.add _ _).block ≠ _; rw [add_block]; exact hn440_4) | exact hn440_4) (.string ((rd_T65 l0 x7_1).f2.f2))).trans hx440_3; replace hx440_4 := (cell_far (p := ⟨gb439, 4, none⟩) (by first | (rw [add_block]; exact hn440_4) | (show (Addr.add _ _).block ≠ _; rw [add_block]; exact hn440_4) | exact hn440_4) (.string ((rd_T65 l0 x7_1).f2.f2))).trans hx440_4; replace hx440_5 := (cell_far (p := ⟨gb439, 4, none⟩) (by first | (rw [add_block]; exact hn440_4) | (show (Addr.add _ _).block ≠ _; rw [add_block]; exact hn440_4) | exact hn440_4) (.string ((rd_T65 l0 x7_1).f2.f2))).trans hx440_5; replace hx440_6 := (cell_far (p := ⟨gb439, 4, none⟩) (by first | (rw [add_block]; exact hn440_4) | (show (Addr.add _ _).block ≠ _; rw [add_block]; exact hn440_4) | exact hn440_4) (.string ((rd_T65 l0 x7_1).f2.f2))).trans hx440_6; replace hx440_7 := (cell_far (p := ⟨gb439, 4, none⟩) (by first | (rw [add_block]; exact hn440_4) | (show (Addr.add _ _).block ≠ _; rw [add_block]; exact hn440_4) | exact hn440_4) (.string ((rd_T65 l0 x7_1).f2.f2))).trans hx440_7; replace hx440_8 := (cell_far (p := ⟨gb439, 4, none⟩) (by first | (rw [add_block]; exact hn440_4) | (show (Addr.add _ _).block ≠ _; rw [add_block]; exact hn440_4) | exact hn440_4) (.string ((rd_T65 l0 x7_1).f2.f2))).trans hx440_8; replace hx440_0 := (cell_far (p := ⟨gb439, 5, none⟩) (by first | (rw [add_block]; exact hn440_5) | (show (Addr.add _ _).block ≠ _; rw [add_block]; exact hn440_5) | exact hn440_5) (.int .i64 ((rd_T65 l0 x7_1).f2.f3))).trans hx440_0; replace hx440_1 := (cell_far (p := ⟨gb439, 5, none⟩) (by first | (rw [add_block]; exact hn440_5) | (show (Addr.add _ _).block ≠ _; rw [add_block]; exact hn440_5) | exact hn440_5) (.int .i64 ((rd_T65 l0 x7_1).f2.f3))).trans hx440_1; replace hx440_2 := (cell_far (p := ⟨gb439, 5, none⟩) (by first | (rw [add_block]; exact hn440_5) | (show (Addr.add _ _).block ≠ _; rw [add_block]; exact hn440_5) | exact hn440_5) (.int .i64 ((rd_T65 l0 x7_1).f2.f3))).trans hx440_2; replace hx440_3 := (cell_far (p := ⟨gb439, 5, none⟩) (by first | (rw [add_block]; exact hn440_5) | (show (Addr.add _ _).block ≠ _; rw [add_block]; exact hn440_5) | exact hn440_5) (.int .i64 ((rd_T65 l0 x7_1).f2.f3))).trans hx440_3; replace hx440_4 := (cell_far (p := ⟨gb439, 5, none⟩) (by first | (rw [add_block]; exact hn440_5) | (show (Addr.add _ _).block ≠ _; rw [add_block]; exact hn440_5) | exact hn440_5) (.int .i64 ((rd_T65 l0 x7_1).f2.f3))).trans hx440_4; replace hx440_5 := (cell_far (p := ⟨gb439, 5, none⟩) (by first | (rw [add_block]; exact hn440_5) | (show (Addr.add _ _).block ≠ _; rw [add_block]; exact hn440_5) | exact hn440_5) (.int .i64 ((rd_T65 l0 x7_1).f2.f3))).trans hx440_5; replace hx440_6 := (cell_far (p := ⟨gb439, 5, none⟩) (by first | (rw [add_block]; exact hn440_5) | (show (Addr.add _ _).block ≠ _; rw [add_block]; exact hn440_5) | exact hn440_5) (.int .i64 ((rd_T65 l0 x7_1).f2.f3))).trans hx440_6; replace hx440_7 := (cell_far (p := ⟨gb439, 5, none⟩) (by first | (rw [add_block]; exact hn440_5) | (show (Addr.add _ _).block ≠ _; rw [add_block]; exact hn440_5) | exact hn440_5) (.int .i64 ((rd_T65 l0 x7_1).f2.f3))).trans hx440_7; replace hx440_8 := (cell_far (p := ⟨gb439, 5, none⟩) (by first | (rw [add_block]; exact hn440_5) | (show (Addr.add _ _).block ≠ _; rw [add_block]; exact hn440_5) | exact hn440_5) (.int .i64 ((rd_T65 l0 x7_1).f2.f3))).trans hx440_8; replace hx440_0 := (cell_far (p := ⟨gb439, 6, none⟩) (by first | (rw [add_block]; exact hn440_6) | (show (Addr.add _ _).block ≠ _; rw [add_block]; exact hn440_6) | exact hn440_6) (.int .i64 ((rd_T65 l0 x7_1).f2.f4))).trans hx440_0; replace hx440_1 := (cell_far (p := ⟨gb439, 6, none⟩) (by first | (rw [add_block]; exact hn440_6) | (show (Addr.add _ _).block ≠ _; rw [add_block]; exact hn440_6) | exact hn440_6) (.int .i64 ((rd_T65 l0 x7_1).f2.f4))).trans hx440_1; replace hx440_2 := (cell_far (p := ⟨gb439, 6, none⟩) (by first | (rw [add_block]; exact hn440_6) | (show (Addr.add _ _).block ≠ _; rw [add_block]; exact hn440_6) | exact hn440_6) (.int .i64 ((rd_T65 l0 x7_1).f2.f4))).trans hx440_2; replace hx440_3 := (cell_far (p := ⟨gb439, 6, none⟩) (by first | (rw [add_block]; exact hn440_6) | (show (Addr.add _ _).block ≠ _; rw [add_block]; exact hn440_6) | exact hn440_6) (.int .i64 ((rd_T65 l0 x7_1).f2.f4))).trans hx440_3; replace hx440_4 := (cell_far (p := ⟨gb439, 6, none⟩) (by first | (rw [add_block]; exact hn440_6) | (show (Addr.add _ _).block ≠ _; rw [add_block]; exact hn440_6) | exact hn440_6) (.int .i64 ((rd_T65 l0 x7_1).f2.f4))).trans hx440_4; replace hx440_5 := (cell_far (p := ⟨gb439, 6, none⟩) (by first | (rw [add_block]; exact hn440_6) | (show (Addr.add _ _).block ≠ _; rw [add_block]; exact hn440_6) | exact hn440_6) (.int .i64 ((rd_T65 l0 x7_1).f2.f4))).trans hx440_5; replace hx440_6 := (cell_far (p := ⟨gb439, 6, none⟩) (by first | (rw [add_block]; exact hn440_6) | (show (Addr.add _ _).block ≠ _; rw [add_block]; exact hn440_6) | exact hn440_6) (.int .i64 ((rd_T65 l0 x7_1).f2.f4))).trans hx440_6; replace hx440_7 := (cell_far (p := ⟨gb439, 6, none⟩) (by first | (rw [add_block]; exact hn440_6) | (show (Addr.add _ _).block ≠ _; rw [add_block]; exact hn440_6) | exact hn440_6) (.int .i64 ((rd_T65 l0 x7_1).f2.f4))).trans hx440_7; replace hx440_8 := (cell_far (p := ⟨gb439, 6, none⟩) (by first | (rw [add_block]; exact hn440_6) | (show (Addr.add _ _).block ≠ _; rw [add_block]; exact hn440_6) | exact hn440_6) (.int .i64 ((rd_T65 l0 x7_1).f2.f4))).trans hx440_8; replace hx440_0 := (cell_far (p := ⟨gb439, 7, none⟩) (by first | (rw [add_block]; exact hn440_7) | (show (Addr.add _ _).block ≠ _; rw [add_block]; exact hn440_7) | exact hn440_7) (.string ((rd_T65 l0 x7_1).f2.f5))).trans hx440_0; replace hx440_1 := (cell_far (p := ⟨gb439, 7, none⟩) (by first | (rw [add_block]; exact hn440_7) | (show (Addr.add _ _).block ≠ _; rw [add_block]; exact hn440_7) | exact hn440_7) (.string ((rd_T65 l0 x7_1).f2.f5))).trans hx440_1; replace hx440_2 := (cell_far (p := ⟨gb439, 7, none⟩) (by first | (rw [add_block]; exact hn440_7) | (show (Addr.add _ _).block ≠ _; rw [add_block]; exact hn440_7) | exact hn440_7) (.string ((rd_T65 l0 x7_1).f2.f5))).trans hx440_2; replace hx440_3 := (cell_far (p := ⟨gb439, 7, none⟩) (by first | (rw [add_block]; exact hn440_7) | (show (Addr.add _ _).block ≠ _; rw [add_block]; exact hn440_7) | exact hn440_7) (.string ((rd_T65 l0 x7_1).f2.f5))).trans hx440_3; replace hx440_4 := (cell_far (p := ⟨gb439, 7, none⟩) (by first | (rw [add_block]; exact hn440_7) | (show (Addr.add _ _).block ≠ _; rw [add_block]; exact hn440_7) | exact hn440_7) (.string ((rd_T65 l0 x7_1).f2.f5))).trans hx440_4; replace hx440_5 := (cell_far (p := ⟨gb439, 7, none⟩) (by first | (rw [add_block]; exact hn440_7) | (show (Addr.add _ _).block ≠ _; rw [add_block]; exact hn440_7) | exact hn440_7) (.string ((rd_T65 l0 x7_1).f2.f5))).trans hx440_5; replace hx440_6 := (cell_far (p := ⟨gb439, 7, none⟩) (by first | (rw [add_block]; exact hn440_7) | (show (Addr.add _ _).block ≠ _; rw [add_block]; exact hn440_7) | exact hn440_7) (.string ((rd_T65 l0 x7_1).f2.f5))).trans hx440_6; replace hx440_7 := (cell_far (p := ⟨gb439, 7, none⟩) (by first | (rw [add_block]; exact hn440_7) | (show (Addr.add _ _).block ≠ _; rw [add_block]; exact hn440_7) | exact hn440_7) (.string ((rd_T65 l0 x7_1).f2.f5))).trans hx440_7; replace hx440_8 := (cell_far (p := ⟨gb439, 7, none⟩) (by first | (rw [add_block]; exact hn440_7) | (show (Addr.add _ _).block ≠ _; rw [add_block]; exact hn440_7) | exact hn440_7) (.string ((rd_T65 l0 x7_1).f2.f5))).trans hx440_8; replace hx440_0 := (cell_far (p := ⟨gb439, 8, none⟩) (by first | (rw [add_block]; exact hn440_8) | (show (Addr.add _ _).block ≠ _; rw [add_block]; exact hn440_8) | exact hn440_8) (.int .i64 ((rd_T65 l0 x7_1).f3))).trans hx440_0; replace hx440_1 := (cell_far (p := ⟨gb439, 8, none⟩) (by first | (rw [add_block]; exact hn440_8) | (show (Addr.add _ _).block ≠ _; rw [add_block]; exact hn440_8) | exact hn440_8) (.int .i64 ((rd_T65 l0 x7_1).f3))).trans hx440_1; replace hx440_2 := (cell_far (p := ⟨gb439, 8, none⟩) (by first | (rw [add_block]; exact hn440_8) | (show (Addr.add _ _).block ≠ _; rw [add_block]; exact hn440_8) | exact hn440_8) (.int .i64 ((rd_T65 l0 x7_1).f3))).trans hx440_2; replace hx440_3 := (cell_far (p := ⟨gb439, 8, none⟩) (by first | (rw [add_block]; exact hn440_8) | (show (Addr.add _ _).block ≠ _; rw [add_block]; exact hn440_8) | exact hn440_8) (.int .i64 ((rd_T65 l0 x7_1).f3))).trans hx440_3; replace hx440_4 := (cell_far (p := ⟨gb439, 8, none⟩) (by first | (rw [add_block]; exact hn440_8) | (show (Addr.add _ _).block ≠ _; rw [add_block]; exact hn440_8) | exact hn440_8) (.int .i64 ((rd_T65 l0 x7_1).f3))).trans hx440_4; replace hx440_5 := (cell_far (p := ⟨gb439, 8, none⟩) (by first | (rw [add_block]; exact hn440_8) | (show (Addr.add _ _).block ≠ _; rw [add_block]; exact hn440_8) | exact hn440_8) (.int .i64 ((rd_T65 l0 x7_1).f3))).trans hx440_5; replace hx440_6 := (cell_far (p := ⟨gb439, 8, none⟩) (by first | (rw [add_block]; exact hn440_8) | (show (Addr.add _ _).block ≠ _; rw [add_block]; exact hn440_8) | exact hn440_8) (.int .i64 ((rd_T65 l0 x7_1).f3))).trans hx440_6; replace hx440_7 := (cell_far (p := ⟨gb439, 8, none⟩) (by first | (rw [add_block]; exact hn440_8) | (show (Addr.add _ _).block ≠ _; rw [add_block]; exact hn440_8) | exact hn440_8) (.int .i64 ((rd_T65 l0 x7_1).f3))).trans hx440_7; replace hx440_8 := (cell_far (p := ⟨gb439, 8, none⟩) (by first | (rw [add_block]; exact hn440_8) | (show (Addr.add _ _).block ≠ _; rw [add_block]; exact hn440_8) | exact hn440_8) (.int .i64 ((rd_T65 l0 x7_1).f3))).trans hx440_8; clear hn440_0; clear hn440_1; clear hn440_2; clear hn440_3; clear hn440_4; clear hn440_5; clear hn440_6; clear hn440_7; clear hn440_8; replace p440 := eq_true p440; replace q440 := eq_true q440) | ((with_reducible refine gate_dst (N := 9) rfl ?_); refine box_event ?hg (N := 9) ?hd (cs := #[.int .i64 0, .int .i64 0, .int .i64 0, .string (⟨#[]⟩ : ByteArray), .string (⟨#[]⟩ : ByteArray), .int .i64 0, .int .i64 0, .string (⟨#[]⟩ : ByteArray), .int .i64 0]) (t := 65) ?hr ?_; (case hd => rfl); (case hg => rfl); (case hr => first | (go_simp; done) | (go_simp; rfl)); intro gb441 hg w11 hbox hb; have n0_ := Am (kb (g := gb439) (o := .cells #[.int .i64 ((rd_T65 l0 x7_1).f0), .int .i64 ((rd_T65 l0 x7_1).f1), .int .i64 ((rd_T65 l0 x7_1).f2.f0), .string ((rd_T65 l0 x7_1).f2.f1), .string ((rd_T65 l0 x7_1).f2.f2), .int .i64 ((rd_T65 l0 x7_1).f2.f3), .int .i64 ((rd_T65 l0 x7_1).f2.f4), .string ((rd_T65 l0 x7_1).f2.f5), .int .i64 ((rd_T65 l0 x7_1).f3)] 65 (0, 0)) (by (with_reducible repeat (first | refine kn ?_ _ | refine ke ?_ | refine ka ?_ _)); refine kp (cs := #[.int .i64 ((rd_T65 l0 x7_1).f0), .int .i64 ((rd_T65 l0 x7_1).f1), .int .i64 ((rd_T65 l0 x7_1).f2.f0), .string ((rd_T65 l0 x7_1).f2.f1), .string ((rd_T65 l0 x7_1).f2.f2), .int .i64 ((rd_T65 l0 x7_1).f2.f3), .int .i64 ((rd_T65 l0 x7_1).f2.f4), .string ((rd_T65 l0 x7_1).f2.f5), .int .i64 0]) ?_ 8 _ rfl; (with_reducible repeat (first | refine kn ?_ _ | refine ke ?_ | refine ka ?_ _)); refine kp (cs := #[.int .i64 ((rd_T65 l0 x7_1).f0), .int .i64 ((rd_T65 l0 x7_1).f1), .int .i64 ((rd_T65 l0 x7_1).f2.f0), .string ((rd_T65 l0 x7_1).f2.f1), .string ((rd_T65 l0 x7_1).f2.f2), .int .i64 ((rd_T65 l0 x7_1).f2.f3), .int .i64 ((rd_T65 l0 x7_1).f2.f4), .string (⟨#[]⟩ : ByteArray), .int .i64 0]) ?_ 7 _ rfl; (with_reducible repeat (first | refine kn ?_ _ | refine ke ?_ | refine ka ?_ _)); refine kp (cs := #[.int .i64 ((rd_T65 l0 x7_1).f0), .int .i64 ((rd_T65 l0 x7_1).f1), .int .i64 ((rd_T65 l0 x7_1).f2.f0), .string ((rd_T65 l0 x7_1).f2.f1), .string ((rd_T65 l0 x7_1).f2.f2), .int .i64 ((rd_T65 l0 x7_1).f2.f3), .int .i64 0, .string (⟨#[]⟩ : ByteArray), .int .i64 0]) ?_ 6 _ rfl; (with_reducible repeat (first | refine kn ?_ _ | refine ke ?_ | refine ka ?_ _)); refine kp (cs := #[.int .i64 ((rd_T65 l0 x7_1).f0), .int .i64 ((rd_T65 l0 x7_1).f1), .int .i64 ((rd_T65 l0 x7_1).f2.f0), .string ((rd_T65 l0 x7_1).f2.f1), .string ((rd_T65 l0 x7_1).f2.f2), .int .i64 0, .int .i64 0, .string (⟨#[]⟩ : ByteArray), .int .i64 0]) ?_ 5 _ rfl; (with_reducible repeat (first | refine kn ?_ _ | refine ke ?_ | refine ka ?_ _)); refine kp (cs := #[.int .i64 ((rd_T65 l0 x7_1).f0), .int .i64 ((rd_T65 l0 x7_1).f1), .int .i64 ((rd_T65 l0 x7_1).f2.f0), .string ((rd_T65 l0 x7_1).f2.f1), .string (⟨#[]⟩ : ByteArray), .int .i64 0, .int .i64 0, .string (⟨#[]⟩ : ByteArray), .int .i64 0]) ?_ 4 _ rfl; (with_reducible repeat (first | refine kn ?_ _ | refine ke ?_ | refine ka ?_ _)); refine kp (cs := #[.int .i64 ((rd_T65 l0 x7_1).f0), .int .i64 ((rd_T65 l0 x7_1).f1), .int .i64 ((rd_T65 l0 x7_1).f2.f0), .string (⟨#[]⟩ : ByteArray), .string (⟨#[]⟩ : ByteArray), .int .i64 0, .int .i64 0, .string (⟨#[]⟩ : ByteArray), .int .i64 0]) ?_ 3 _ rfl; (with_reducible repeat (first | refine kn ?_ _ | refine ke ?_ | refine ka ?_ _)); refine kp (cs := #[.int .i64 ((rd_T65 l0 x7_1).f0), .int .i64 ((rd_T65 l0 x7_1).f1), .int .i64 0, .string (⟨#[]⟩ : ByteArray), .string (⟨#[]⟩ : ByteArray), .int .i64 0, .int .i64 0, .string (⟨#[]⟩ : ByteArray), .int .i64 0]) ?_ 2 _ rfl; (with_reducible repeat (first | refine kn ?_ _ | refine ke ?_ | refine ka ?_ _)); refine kp (cs := #[.int .i64 ((rd_T65 l0 x7_1).f0), .int .i64 0, .int .i64 0, .string (⟨#[]⟩ : ByteArray), .string (⟨#[]⟩ : ByteArray), .int .i64 0, .int .i64 0, .string (⟨#[]⟩ : ByteArray), .int .i64 0]) ?_ 1 _ rfl; (with_reducible repeat (first | refine kn ?_ _ | refine ke ?_ | refine ka ?_ _)); refine kp (cs := #[.int .i64 0, .int .i64 0, .int .i64 0, .string (⟨#[]⟩ : ByteArray), .string (⟨#[]⟩ : ByteArray), .int .i64 0, .int .i64 0, .string (⟨#[]⟩ : ByteArray), .int .i64 0]) ?_ 0 _ rfl; (with_reducible repeat (first | refine kn ?_ _ | refine ke ?_ | refine ka ?_ _)); exact BK439.out) hb); have n1_ := Am (bq zG hb); have n2_ := Am (hbox); have n3_ := Am ((by rw [hg]; exact (bz zG) : w.heap.size ≤ gb441)); have n4_ := Am ((by rw [hg]; exact (bz zG) : w.heap.size ≤ gb441)); have n5_ := Am ((by rw [hg]; exact Nat.ne_of_lt (kl (g := gb439) (o := .cells #[.int .i64 ((rd_T65 l0 x7_1).f0), .int .i64 ((rd_T65 l0 x7_1).f1), .int .i64 ((rd_T65 l0 x7_1).f2.f0), .string ((rd_T65 l0 x7_1).f2.f1), .string ((rd_T65 l0 x7_1).f2.f2), .int .i64 ((rd_T65 l0 x7_1).f2.f3), .int .i64 ((rd_T65 l0 x7_1).f2.f4), .string ((rd_T65 l0 x7_1).f2.f5), .int .i64 ((rd_T65 l0 x7_1).f3)] 65 (0, 0)) (by (with_reducible repeat (first | refine kn ?_ _ | refine ke ?_ | refine ka ?_ _)); refine kp (cs := #[.int .i64 ((rd_T65 l0 x7_1).f0), .int .i64 ((rd_T65 l0 x7_1).f1), .int .i64 ((rd_T65 l0 x7_1).f2.f0), .string ((rd_T65 l0 x7_1).f2.f1), .string ((rd_T65 l0 x7_1).f2.f2), .int .i64 ((rd_T65 l0 x7_1).f2.f3), .int .i64 ((rd_T65 l0 x7_1).f2.f4), .string ((rd_T65 l0 x7_1).f2.f5), .int .i64 0]) ?_ 8 _ rfl; (with_reducible repeat (first | refine kn ?_ _ | refine ke ?_ | refine ka ?_ _)); refine kp (cs := #[.int .i64 ((rd_T65 l0 x7_1).f0), .int .i64 ((rd_T65 l0 x7_1).f1), .int .i64 ((rd_T65 l0 x7_1).f2.f0), .string ((rd_T65 l0 x7_1).f2.f1), .string ((rd_T65 l0 x7_1).f2.f2), .int .i64 ((rd_T65 l0 x7_1).f2.f3), .int .i64 ((rd_T65 l0 x7_1).f2.f4), .string (⟨#[]⟩ : ByteArray), .int .i64 0]) ?_ 7 _ rfl; (with_reducible repeat (first | refine kn ?_ _ | refine ke ?_ | refine ka ?_ _)); refine kp (cs := #[.int .i64 ((rd_T65 l0 x7_1).f0), .int .i64 ((rd_T65 l0 x7_1).f1), .int .i64 ((rd_T65 l0 x7_1).f2.f0), .string ((rd_T65 l0 x7_1).f2.f1), .string ((rd_T65 l0 x7_1).f2.f2), .int .i64 ((rd_T65 l0 x7_1).f2.f3), .int .i64 0, .string (⟨#[]⟩ : ByteArray), .int .i64 0]) ?_ 6 _ rfl; (with_reducible repeat (first | refine kn ?_ _ | refine ke ?_ | refine ka ?_ _)); refine kp (cs := #[.int .i64 ((rd_T65 l0 x7_1).f0), .int .i64 ((rd_T65 l0 x7_1).f1), .int .i64 ((rd_T65 l0 x7_1).f2.f0), .string ((rd_T65 l0 x7_1).f2.f1), .string ((rd_T65 l0 x7_1).f2.f2), .int .i64 0, .int .i64 0, .string (⟨#[]⟩ : ByteArray), .int .i64 0]) ?_ 5 _ rfl; (with_reducible repeat (first | refine kn ?_ _ | refine ke ?_ | refine ka ?_ _)); refine kp (cs := #[.int .i64 ((rd_T65 l0 x7_1).f0), .int .i64 ((rd_T65 l0 x7_1).f1), .int .i64 ((rd_T65 l0 x7_1).f2.f0), .string ((rd_T65 l0 x7_1).f2.f1), .string (⟨#[]⟩ : ByteArray), .int .i64 0, .int .i64 0, .string (⟨#[]⟩ : ByteArray), .int .i64 0]) ?_ 4 _ rfl; (with_reducible repeat (first | refine kn ?_ _ | refine ke ?_ | refine ka ?_ _)); refine kp (cs := #[.int .i64 ((rd_T65 l0 x7_1).f0), .int .i64 ((rd_T65 l0 x7_1).f1), .int .i64 ((rd_T65 l0 x7_1).f2.f0), .string (⟨#[]⟩ : ByteArray), .string (⟨#[]⟩ : ByteArray), .int .i64 0, .int .i64 0, .string (⟨#[]⟩ : ByteArray), .int .i64 0]) ?_ 3 _ rfl; (with_reducible repeat (first | refine kn ?_ _ | refine ke ?_ | refine ka ?_ _)); refine kp (cs := #[.int .i64 ((rd_T65 l0 x7_1).f0), .int .i64 ((rd_T65 l0 x7_1).f1), .int .i64 0, .string (⟨#[]⟩ : ByteArray), .string (⟨#[]⟩ : ByteArray), .int .i64 0, .int .i64 0, .string (⟨#[]⟩ : ByteArray), .int .i64 0]) ?_ 2 _ rfl; (with_reducible repeat (first | refine kn ?_ _ | refine ke ?_ | refine ka ?_ _)); refine kp (cs := #[.int .i64 ((rd_T65 l0 x7_1).f0), .int .i64 0, .int .i64 0, .string (⟨#[]⟩ : ByteArray), .string (⟨#[]⟩ : ByteArray), .int .i64 0, .int .i64 0, .string (⟨#[]⟩ : ByteArray), .int .i64 0]) ?_ 1 _ rfl; (with_reducible repeat (first | refine kn ?_ _ | refine ke ?_ | refine ka ?_ _)); refine kp (cs := #[.int .i64 0, .int .i64 0, .int .i64 0, .string (⟨#[]⟩ : ByteArray), .string (⟨#[]⟩ : ByteArray), .int .i64 0, .int .i64 0, .string (⟨#[]⟩ : ByteArray), .int .i64 0]) ?_ 0 _ rfl; (with_reducible repeat (first | refine kn ?_ _ | refine ke ?_ | refine ka ?_ _)); exact BK439.out)) : gb439 ≠ gb441)); have n6_ := Am ((by rw [hg]; exact Nat.ne_of_gt (kl (g := gb439) (o := .cells #[.int .i64 ((rd_T65 l0 x7_1).f0), .int .i64 ((rd_T65 l0 x7_1).f1), .int .i64 ((rd_T65 l0 x7_1).f2.f0), .string ((rd_T65 l0 x7_1).f2.f1), .string ((rd_T65 l0 x7_1).f2.f2), .int .i64 ((rd_T65 l0 x7_1).f2.f3), .int .i64 ((rd_T65 l0 x7_1).f2.f4), .string ((rd_T65 l0 x7_1).f2.f5), .int .i64 ((rd_T65 l0 x7_1).f3)] 65 (0, 0)) (by (with_reducible repeat (first | refine kn ?_ _ | refine ke ?_ | refine ka ?_ _)); refine kp (cs := #[.int .i64 ((rd_T65 l0 x7_1).f0), .int .i64 ((rd_T65 l0 x7_1).f1), .int .i64 ((rd_T65 l0 x7_1).f2.f0), .string ((rd_T65 l0 x7_1).f2.f1), .string ((rd_T65 l0 x7_1).f2.f2), .int .i64 ((rd_T65 l0 x7_1).f2.f3), .int .i64 ((rd_T65 l0 x7_1).f2.f4), .string ((rd_T65 l0 x7_1).f2.f5), .int .i64 0]) ?_ 8 _ rfl; (with_reducible repeat (first | refine kn ?_ _ | refine ke ?_ | refine ka ?_ _)); refine kp (cs := #[.int .i64 ((rd_T65 l0 x7_1).f0), .int .i64 ((rd_T65 l0 x7_1).f1), .int .i64 ((rd_T65 l0 x7_1).f2.f0), .string ((rd_T65 l0 x7_1).f2.f1), .string ((rd_T65 l0 x7_1).f2.f2), .int .i64 ((rd_T65 l0 x7_1).f2.f3), .int .i64 ((rd_T65 l0 x7_1).f2.f4), .string (⟨#[]⟩ : ByteArray), .int .i64 0]) ?_ 7 _ rfl; (with_reducible repeat (first | refine kn ?_ _ | refine ke ?_ | refine ka ?_ _)); refine kp (cs := #[.int .i64 ((rd_T65 l0 x7_1).f0), .int .i64 ((rd_T65 l0 x7_1).f1), .int .i64 ((rd_T65 l0 x7_1).f2.f0), .string ((rd_T65 l0 x7_1).f2.f1), .string ((rd_T65 l0 x7_1).f2.f2), .int .i64 ((rd_T65 l0 x7_1).f2.f3), .int .i64 0, .string (⟨#[]⟩ : ByteArray), .int .i64 0]) ?_ 6 _ rfl; (with_reducible repeat (first | refine kn ?_ _ | refine ke ?_ | refine ka ?_ _)); refine kp (cs := #[.int .i64 ((rd_T65 l0 x7_1).f0), .int .i64 ((rd_T65 l0 x7_1).f1), .int .i64 ((rd_T65 l0 x7_1).f2.f0), .string ((rd_T65 l0 x7_1).f2.f1), .string ((rd_T65 l0 x7_1).f2.f2), .int .i64 0, .int .i64 0, .string (⟨#[]⟩ : ByteArray), .int .i64 0]) ?_ 5 _ rfl; (with_reducible repeat (first | refine kn ?_ _ | refine ke ?_ | refine ka ?_ _)); refine kp (cs := #[.int .i64 ((rd_T65 l0 x7_1).f0), .int .i64 ((rd_T65 l0 x7_1).f1), .int .i64 ((rd_T65 l0 x7_1).f2.f0), .string ((rd_T65 l0 x7_1).f2.f1), .string (⟨#[]⟩ : ByteArray), .int .i64 0, .int .i64 0, .string (⟨#[]⟩ : ByteArray), .int .i64 0]) ?_ 4 _ rfl; (with_reducible repeat (first | refine kn ?_ _ | refine ke ?_ | refine ka ?_ _)); refine kp (cs := #[.int .i64 ((rd_T65 l0 x7_1).f0), .int .i64 ((rd_T65 l0 x7_1).f1), .int .i64 ((rd_T65 l0 x7_1).f2.f0), .string (⟨#[]⟩ : ByteArray), .string (⟨#[]⟩ : ByteArray), .int .i64 0, .int .i64 0, .string (⟨#[]⟩ : ByteArray), .int .i64 0]) ?_ 3 _ rfl; (with_reducible repeat (first | refine kn ?_ _ | refine ke ?_ | refine ka ?_ _)); refine kp (cs := #[.int .i64 ((rd_T65 l0 x7_1).f0), .int .i64 ((rd_T65 l0 x7_1).f1), .int .i64 0, .string (⟨#[]⟩ : ByteArray), .string (⟨#[]⟩ : ByteArray), .int .i64 0, .int .i64 0, .string (⟨#[]⟩ : ByteArray), .int .i64 0]) ?_ 2 _ rfl; (with_reducible repeat (first | refine kn ?_ _ | refine ke ?_ | refine ka ?_ _)); refine kp (cs := #[.int .i64 ((rd_T65 l0 x7_1).f0), .int .i64 0, .int .i64 0, .string (⟨#[]⟩ : ByteArray), .string (⟨#[]⟩ : ByteArray), .int .i64 0, .int .i64 0, .string (⟨#[]⟩ : ByteArray), .int .i64 0]) ?_ 1 _ rfl; (with_reducible repeat (first | refine kn ?_ _ | refine ke ?_ | refine ka ?_ _)); refine kp (cs := #[.int .i64 0, .int .i64 0, .int .i64 0, .string (⟨#[]⟩ : ByteArray), .string (⟨#[]⟩ : ByteArray), .int .i64 0, .int .i64 0, .string (⟨#[]⟩ : ByteArray), .int .i64 0]) ?_ 0 _ rfl; (with_reducible repeat (first | refine kn ?_ _ | refine ke ?_ | refine ka ?_ _)); exact BK439.out)) : gb441 ≠ gb439)); clear BK439; clear HB; have BK439 := n0_; have HB := n1_; have BK441 := n2_; have GW441 := n3_; have GE441 := n4_; have NB439_441 := n5_; have NB441_439 := n6_; clear n0_ n1_ n2_ n3_ n4_ n5_ n6_; clear hb hbox hg; have hnb12 := NB441_439.out; have hnc12 := NB439_441.out; obtain ⟨hcz13_0, hcz13_1, hcz13_2, hcz13_3, hcz13_4, hcz13_5, hcz13_6, hcz13_7, hcz13_8⟩ := kc9 (w := w11) BK441.out; have hfz13_0 := kf BK441.out))
       (try simp only [Act.put, List.setIfInBounds_toArray, List.set_cons_zero, List.set_cons_succ])
       go_cut [44] (fun v44 wc => ∃ (kq : Nat) (x44_7 : Bool), v44 = .bool x44_7 ∧ Aside0 (spec_SameActs.j1 kq l0 l1 a2 x7_1 x44_7 ((rd_T65 l0 x7_1).f0) ((rd_T65 l0 x7_1).f1) ((rd_T65 l0 x7_1).f2.f0) ((rd_T65 l0 x7_1).f2.f1) ((rd_T65 l0 x7_1).f2.f2) ((rd_T65 l0 x7_1).f2.f3) ((rd_T65 l0 x7_1).f2.f4) ((rd_T65 l0 x7_1).f2.f5) ((rd_T65 l0 x7_1).f3) ((rd_T65 l1 x7_1).f0) ((rd_T65 l1 x7_1).f1) ((rd_T65 l1 x7_1).f2.f0) ((rd_T65 l1 x7_1).f2.f1) ((rd_T65 l1 x7_1).f2.f2) ((rd_T65 l1 x7_1).f2.f3) ((rd_T65 l1 x7_1).f2.f4) ((rd_T65 l1 x7_1).f2.f5) ((rd_T65 l1 x7_1).f3) = some r) ∧ Aside0 (kq ≤ k1) ∧ Aside0 (wc.heap[gb439]? = some (.cells #[.int .i64 ((rd_T65 l0 x7_1).f0), .int .i64 ((rd_T65 l0 x7_1).f1), .int .i64 ((rd_T65 l0 x7_1).f2.f0), .string ((rd_T65 l0 x7_1).f2.f1), .string ((rd_T65 l0 x7_1).f2.f2), .int .i64 ((rd_T65 l0 x7_1).f2.f3), .int .i64 ((rd_T65 l0 x7_1).f2.f4), .string ((rd_T65 l0 x7_1).f2.f5), .int .i64 ((rd_T65 l0 x7_1).f3)] 65 (0, 0))) ∧ Aside0 (wc.heap[gb441]? = some (.cells #[.int .i64 ((rd_T65 l1 x7_1).f0), .int .i64 ((rd_T65 l1 x7_1).f1), .int .i64 ((rd_T65 l1 x7_1).f2.f0), .string ((rd_T65 l1 x7_1).f2.f1), .string ((rd_T65 l1 x7_1).f2.f2), .int .i64 ((rd_T65 l1 x7_1).f2.f3), .int .i64 ((rd_T65 l1 x7_1).f2.f4), .string ((rd_T65 l1 x7_1).f2.f5), .int .i64 ((rd_T65 l1 x7_1).f3)] 65 (0, 0))) ∧ Aside0 (Below w.heap.size w wc))
       case first =>
        have H := HC8.out
        clear HC8
        by_cases c14 : ((rd_T65 l0 x7_1).f0) = 1
        ·rw [if_pos c14] at H
         have c14b0 : (((rd_T65 l0 x7_1).f0) == 1) = true := beq_iff_eq.mpr c14
         have c14b1 : (((rd_T65 l0 x7_1).f0) != 1) = false := bne_eq_false_iff_eq.mpr c14
         clear c14
         (first | rw [c14b0] | (simp only [i64_w, i32_w]; rw [c14b0]) | skip)
         by_cases c15 : ((rd_T65 l0 x7_1).f1) = a2
         ·rw [if_pos c15] at H
          have c15b0 : (((rd_T65 l0 x7_1).f1) == a2) = true := beq_iff_eq.mpr c15
          have c15b1 : (((rd_T65 l0 x7_1).f1) != a2) = false := bne_eq_false_iff_eq.mpr c15
          clear c15
          replace H := Option.bind_eq_some_iff.mp H
          obtain ⟨t442, A160, H⟩ := H
          replace H : (spec_SameActs.j1 k1 l0 l1 a2 x7_1 t442 ((rd_T65 l0 x7_1).f0) ((rd_T65 l0 x7_1).f1) ((rd_T65 l0 x7_1).f2.f0) ((rd_T65 l0 x7_1).f2.f1) ((rd_T65 l0 x7_1).f2.f2) ((rd_T65 l0 x7_1).f2.f3) ((rd_T65 l0 x7_1).f2.f4) ((rd_T65 l0 x7_1).f2.f5) ((rd_T65 l0 x7_1).f3) ((rd_T65 l1 x7_1).f0) ((rd_T65 l1 x7_1).f1) ((rd_T65 l1 x7_1).f2.f0) ((rd_T65 l1 x7_1).f2.f1) ((rd_T65 l1 x7_1).f2.f2) ((rd_T65 l1 x7_1).f2.f3) ((rd_T65 l1 x7_1).f2.f4) ((rd_T65 l1 x7_1).f2.f5) ((rd_T65 l1 x7_1).f3)) = some r := H
          have A16 := Am A160
          clear A160
          have H' := Am H
          clear H
          have hnb17 := NB439_441.out
          have hnc17 := NB441_439.out
          obtain ⟨hcz18_0, hcz18_1, hcz18_2, hcz18_3, hcz18_4, hcz18_5, hcz18_6, hcz18_7, hcz18_8⟩ := kc9 (w := w11) BK439.out
          have hfz18_0 := kf BK439.out
          obtain ⟨hcz19_0, hcz19_1, hcz19_2, hcz19_3, hcz19_4, hcz19_5, hcz19_6, hcz19_7, hcz19_8⟩ := kc9 (w := w11) BK441.out
          have hfz19_0 := kf BK441.out
          go_wp2_with (first | (go_at_call 17; (with_reducible refine (spec_SameShape.calls ((rd_T65 l0 x7_1).f2.f0) ((rd_T65 l0 x7_1).f2.f1) ((rd_T65 l0 x7_1).f2.f2) ((rd_T65 l0 x7_1).f2.f3) ((rd_T65 l0 x7_1).f2.f4) ((rd_T65 l0 x7_1).f2.f5) ((rd_T65 l1 x7_1).f2.f0) ((rd_T65 l1 x7_1).f2.f1) ((rd_T65 l1 x7_1).f2.f2) ((rd_T65 l1 x7_1).f2.f3) ((rd_T65 l1 x7_1).f2.f4) ((rd_T65 l1 x7_1).f2.f5) t442 _ A16.out).mono ?_); rintro e w20 ⟨rfl, hb⟩; have n0_ := Am (kb (g := gb439) (o := .cells #[.int .i64 ((rd_T65 l0 x7_1).f0), .int .i64 ((rd_T65 l0 x7_1).f1), .int .i64 ((rd_T65 l0 x7_1).f2.f0), .string ((rd_T65 l0 x7_1).f2.f1), .string ((rd_T65 l0 x7_1).f2.f2), .int .i64 ((rd_T65 l0 x7_1).f2.f3), .int .i64 ((rd_T65 l0 x7_1).f2.f4), .string ((rd_T65 l0 x7_1).f2.f5), .int .i64 ((rd_T65 l0 x7_1).f3)] 65 (0, 0)) (by (with_reducible repeat (first | refine kn ?_ _ | refine ke ?_ | refine ka ?_ _)); refine blk_far ?_ NB439_441.out _; (with_reducible repeat (first | refine kn ?_ _ | refine ke ?_ | refine ka ?_ _)); refine blk_far ?_ NB439_441.out _; (with_reducible repeat (first | refine kn ?_ _ | refine ke ?_ | refine ka ?_ _)); refine blk_far ?_ NB439_441.out _; (with_reducible repeat (first | refine kn ?_ _ | refine ke ?_ | refine ka ?_ _)); refine blk_far ?_ NB439_441.out _; (with_reducible repeat (first | refine kn ?_ _ | refine ke ?_ | refine ka ?_ _)); refine blk_far ?_ NB439_441.out _; (with_reducible repeat (first | refine kn ?_ _ | refine ke ?_ | refine ka ?_ _)); refine blk_far ?_ NB439_441.out _; (with_reducible repeat (first | refine kn ?_ _ | refine ke ?_ | refine ka ?_ _)); refine blk_far ?_ NB439_441.out _; (with_reducible repeat (first | refine kn ?_ _ | refine ke ?_ | refine ka ?_ _)); refine blk_far ?_ NB439_441.out _; (with_reducible repeat (first | refine kn ?_ _ | refine ke ?_ | refine ka ?_ _)); refine blk_far ?_ NB439_441.out _; (with_reducible repeat (first | refine kn ?_ _ | refine ke ?_ | refine ka ?_ _)); exact BK439.out) hb); have n1_ := Am (kb (g := gb441) (o := .cells #[.int .i64 ((rd_T65 l1 x7_1).f0), .int .i64 ((rd_T65 l1 x7_1).f1), .int .i64 ((rd_T65 l1 x7_1).f2.f0), .string ((rd_T65 l1 x7_1).f2.f1), .string ((rd_T65 l1 x7_1).f2.f2), .int .i64 ((rd_T65 l1 x7_1).f2.f3), .int .i64 ((rd_T65 l1 x7_1).f2.f4), .string ((rd_T65 l1 x7_1).f2.f5), .int .i64 ((rd_T65 l1 x7_1).f3)] 65 (0, 0)) (by (with_reducible repeat (first | refine kn ?_ _ | refine ke ?_ | refine ka ?_ _)); refine kp (cs := #[.int .i64 ((rd_T65 l1 x7_1).f0), .int .i64 ((rd_T65 l1 x7_1).f1), .int .i64 ((rd_T65 l1 x7_1).f2.f0), .string ((rd_T65 l1 x7_1).f2.f1), .string ((rd_T65 l1 x7_1).f2.f2), .int .i64 ((rd_T65 l1 x7_1).f2.f3), .int .i64 ((rd_T65 l1 x7_1).f2.f4), .string ((rd_T65 l1 x7_1).f2.f5), .int .i64 0]) ?_ 8 _ rfl; (with_reducible repeat (first | refine kn ?_ _ | refine ke ?_ | refine ka ?_ _)); refine kp (cs := #[.int .i64 ((rd_T65 l1 x7_1).f0), .int .i64 ((rd_T65 l1 x7_1).f1), .int .i64 ((rd_T65 l1 x7_1).f2.f0), .string ((rd_T65 l1 x7_1).f2.f1), .string ((rd_T65 l1 x7_1).f2.f2), .int .i64 ((rd_T65 l1 x7_1).f2.f3), .int .i64 ((rd_T65 l1 x7_1).f2.f4), .string (⟨#[]⟩ : ByteArray), .int .i64 0]) ?_ 7 _ rfl; (with_reducible repeat (first | refine kn ?_ _ | refine ke ?_ | refine ka ?_ _)); refine kp (cs := #[.int .i64 ((rd_T65 l1 x7_1).f0), .int .i64 ((rd_T65 l1 x7_1).f1), .int .i64 ((rd_T65 l1 x7_1).f2.f0), .string ((rd_T65 l1 x7_1).f2.f1), .string ((rd_T65 l1 x7_1).f2.f2), .int .i64 ((rd_T65 l1 x7_1).f2.f3), .int .i64 0, .string (⟨#[]⟩ : ByteArray), .int .i64 0]) ?_ 6 _ rfl; (with_reducible repeat (first | refine kn ?_ _ | refine ke ?_ | refine ka ?_ _)); refine kp (cs := #[.int .i64 ((rd_T65 l1 x7_1).f0), .int .i64 ((rd_T65 l1 x7_1).f1), .int .i64 ((rd_T65 l1 x7_1).f2.f0), .string ((rd_T65 l1 x7_1).f2.f1), .string ((rd_T65 l1 x7_1).f2.f2), .int .i64 0, .int .i64 0, .string (⟨#[]⟩ : ByteArray), .int .i64 0]) ?_ 5 _ rfl; (with_reducible repeat (first | refine kn ?_ _ | refine ke ?_ | refine ka ?_ _)); refine kp (cs := #[.int .i64 ((rd_T65 l1 x7_1).f0), .int .i64 ((rd_T65 l1 x7_1).f1), .int .i64 ((rd_T65 l1 x7_1).f2.f0), .string ((rd_T65 l1 x7_1).f2.f1), .string (⟨#[]⟩ : ByteArray), .int .i64 0, .int .i64 0, .string (⟨#[]⟩ : ByteArray), .int .i64 0]) ?_ 4 _ rfl; (with_reducible repeat (first | refine kn ?_ _ | refine ke ?_ | refine ka ?_ _)); refine kp (cs := #[.int .i64 ((rd_T65 l1 x7_1).f0), .int .i64 ((rd_T65 l1 x7_1).f1), .int .i64 ((rd_T65 l1 x7_1).f2.f0), .string (⟨#[]⟩ : ByteArray), .string (⟨#[]⟩ : ByteArray), .int .i64 0, .int .i64 0, .string (⟨#[]⟩ : ByteArray), .int .i64 0]) ?_ 3 _ rfl; (with_reducible repeat (first | refine kn ?_ _ | refine ke ?_ | refine ka ?_ _)); refine kp (cs := #[.int .i64 ((rd_T65 l1 x7_1).f0), .int .i64 ((rd_T65 l1 x7_1).f1), .int .i64 0, .string (⟨#[]⟩ : ByteArray), .string (⟨#[]⟩ : ByteArray), .int .i64 0, .int .i64 0, .string (⟨#[]⟩ : ByteArray), .int .i64 0]) ?_ 2 _ rfl; (with_reducible repeat (first | refine kn ?_ _ | refine ke ?_ | refine ka ?_ _)); refine kp (cs := #[.int .i64 ((rd_T65 l1 x7_1).f0), .int .i64 0, .int .i64 0, .string (⟨#[]⟩ : ByteArray), .string (⟨#[]⟩ : ByteArray), .int .i64 0, .int .i64 0, .string (⟨#[]⟩ : ByteArray), .int .i64 0]) ?_ 1 _ rfl; (with_reducible repeat (first | refine kn ?_ _ | refine ke ?_ | refine ka ?_ _)); refine kp (cs := #[.int .i64 0, .int .i64 0, .int .i64 0, .string (⟨#[]⟩ : ByteArray), .string (⟨#[]⟩ : ByteArray), .int .i64 0, .int .i64 0, .string (⟨#[]⟩ : ByteArray), .int .i64 0]) ?_ 0 _ rfl; (with_reducible repeat (first | refine kn ?_ _ | refine ke ?_ | refine ka ?_ _)); exact BK441.out) hb); have n2_ := Am (bq zG hb); clear BK439; clear BK441; clear HB; have BK439 := n0_; have BK441 := n1_; have HB := n2_; clear n0_ n1_ n2_; (try clear hb)))
          go_meet
          case rel => exact ⟨_, (t442), (by first | rfl | (simp; done) | (simp [*]; done)), H', ⟨by have := HK1.out; first | omega | exact Nat.le_refl _⟩, ⟨by (with_reducible repeat (first | refine kn ?_ _ | refine ke ?_ | refine ka ?_ _)); exact BK439.out⟩, ⟨by (with_reducible repeat (first | refine kn ?_ _ | refine ke ?_ | refine ka ?_ _)); exact BK441.out⟩, ⟨zG⟩⟩
         ·rw [if_neg c15] at H
          have c15b0 : (((rd_T65 l0 x7_1).f1) == a2) = false := beq_eq_false_iff_ne.mpr c15
          have c15b1 : (((rd_T65 l0 x7_1).f1) != a2) = true := bne_iff_ne.mpr c15
          have H' := Am H
          clear H
          have hnb21 := NB439_441.out
          have hnc21 := NB441_439.out
          obtain ⟨hcz22_0, hcz22_1, hcz22_2, hcz22_3, hcz22_4, hcz22_5, hcz22_6, hcz22_7, hcz22_8⟩ := kc9 (w := w11) BK439.out
          have hfz22_0 := kf BK439.out
          go_wp2
          go_meet
          case rel => exact ⟨_, (false), (by first | rfl | (simp; done) | (simp [*]; done)), H', ⟨by have := HK1.out; first | omega | exact Nat.le_refl _⟩, ⟨by (with_reducible repeat (first | refine kn ?_ _ | refine ke ?_ | refine ka ?_ _)); refine blk_far ?_ NB439_441.out _; (with_reducible repeat (first | refine kn ?_ _ | refine ke ?_ | refine ka ?_ _)); refine blk_far ?_ NB439_441.out _; (with_reducible repeat (first | refine kn ?_ _ | refine ke ?_ | refine ka ?_ _)); refine blk_far ?_ NB439_441.out _; (with_reducible repeat (first | refine kn ?_ _ | refine ke ?_ | refine ka ?_ _)); refine blk_far ?_ NB439_441.out _; (with_reducible repeat (first | refine kn ?_ _ | refine ke ?_ | refine ka ?_ _)); refine blk_far ?_ NB439_441.out _; (with_reducible repeat (first | refine kn ?_ _ | refine ke ?_ | refine ka ?_ _)); refine blk_far ?_ NB439_441.out _; (with_reducible repeat (first | refine kn ?_ _ | refine ke ?_ | refine ka ?_ _)); refine blk_far ?_ NB439_441.out _; (with_reducible repeat (first | refine kn ?_ _ | refine ke ?_ | refine ka ?_ _)); refine blk_far ?_ NB439_441.out _; (with_reducible repeat (first | refine kn ?_ _ | refine ke ?_ | refine ka ?_ _)); refine blk_far ?_ NB439_441.out _; (with_reducible repeat (first | refine kn ?_ _ | refine ke ?_ | refine ka ?_ _)); exact BK439.out⟩, ⟨by (with_reducible repeat (first | refine kn ?_ _ | refine ke ?_ | refine ka ?_ _)); refine kp (cs := #[.int .i64 ((rd_T65 l1 x7_1).f0), .int .i64 ((rd_T65 l1 x7_1).f1), .int .i64 ((rd_T65 l1 x7_1).f2.f0), .string ((rd_T65 l1 x7_1).f2.f1), .string ((rd_T65 l1 x7_1).f2.f2), .int .i64 ((rd_T65 l1 x7_1).f2.f3), .int .i64 ((rd_T65 l1 x7_1).f2.f4), .string ((rd_T65 l1 x7_1).f2.f5), .int .i64 0]) ?_ 8 _ rfl; (with_reducible repeat (first | refine kn ?_ _ | refine ke ?_ | refine ka ?_ _)); refine kp (cs := #[.int .i64 ((rd_T65 l1 x7_1).f0), .int .i64 ((rd_T65 l1 x7_1).f1), .int .i64 ((rd_T65 l1 x7_1).f2.f0), .string ((rd_T65 l1 x7_1).f2.f1), .string ((rd_T65 l1 x7_1).f2.f2), .int .i64 ((rd_T65 l1 x7_1).f2.f3), .int .i64 ((rd_T65 l1 x7_1).f2.f4), .string (⟨#[]⟩ : ByteArray), .int .i64 0]) ?_ 7 _ rfl; (with_reducible repeat (first | refine kn ?_ _ | refine ke ?_ | refine ka ?_ _)); refine kp (cs := #[.int .i64 ((rd_T65 l1 x7_1).f0), .int .i64 ((rd_T65 l1 x7_1).f1), .int .i64 ((rd_T65 l1 x7_1).f2.f0), .string ((rd_T65 l1 x7_1).f2.f1), .string ((rd_T65 l1 x7_1).f2.f2), .int .i64 ((rd_T65 l1 x7_1).f2.f3), .int .i64 0, .string (⟨#[]⟩ : ByteArray), .int .i64 0]) ?_ 6 _ rfl; (with_reducible repeat (first | refine kn ?_ _ | refine ke ?_ | refine ka ?_ _)); refine kp (cs := #[.int .i64 ((rd_T65 l1 x7_1).f0), .int .i64 ((rd_T65 l1 x7_1).f1), .int .i64 ((rd_T65 l1 x7_1).f2.f0), .string ((rd_T65 l1 x7_1).f2.f1), .string ((rd_T65 l1 x7_1).f2.f2), .int .i64 0, .int .i64 0, .string (⟨#[]⟩ : ByteArray), .int .i64 0]) ?_ 5 _ rfl; (with_reducible repeat (first | refine kn ?_ _ | refine ke ?_ | refine ka ?_ _)); refine kp (cs := #[.int .i64 ((rd_T65 l1 x7_1).f0), .int .i64 ((rd_T65 l1 x7_1).f1), .int .i64 ((rd_T65 l1 x7_1).f2.f0), .string ((rd_T65 l1 x7_1).f2.f1), .string (⟨#[]⟩ : ByteArray), .int .i64 0, .int .i64 0, .string (⟨#[]⟩ : ByteArray), .int .i64 0]) ?_ 4 _ rfl; (with_reducible repeat (first | refine kn ?_ _ | refine ke ?_ | refine ka ?_ _)); refine kp (cs := #[.int .i64 ((rd_T65 l1 x7_1).f0), .int .i64 ((rd_T65 l1 x7_1).f1), .int .i64 ((rd_T65 l1 x7_1).f2.f0), .string (⟨#[]⟩ : ByteArray), .string (⟨#[]⟩ : ByteArray), .int .i64 0, .int .i64 0, .string (⟨#[]⟩ : ByteArray), .int .i64 0]) ?_ 3 _ rfl; (with_reducible repeat (first | refine kn ?_ _ | refine ke ?_ | refine ka ?_ _)); refine kp (cs := #[.int .i64 ((rd_T65 l1 x7_1).f0), .int .i64 ((rd_T65 l1 x7_1).f1), .int .i64 0, .string (⟨#[]⟩ : ByteArray), .string (⟨#[]⟩ : ByteArray), .int .i64 0, .int .i64 0, .string (⟨#[]⟩ : ByteArray), .int .i64 0]) ?_ 2 _ rfl; (with_reducible repeat (first | refine kn ?_ _ | refine ke ?_ | refine ka ?_ _)); refine kp (cs := #[.int .i64 ((rd_T65 l1 x7_1).f0), .int .i64 0, .int .i64 0, .string (⟨#[]⟩ : ByteArray), .string (⟨#[]⟩ : ByteArray), .int .i64 0, .int .i64 0, .string (⟨#[]⟩ : ByteArray), .int .i64 0]) ?_ 1 _ rfl; (with_reducible repeat (first | refine kn ?_ _ | refine ke ?_ | refine ka ?_ _)); refine kp (cs := #[.int .i64 0, .int .i64 0, .int .i64 0, .string (⟨#[]⟩ : ByteArray), .string (⟨#[]⟩ : ByteArray), .int .i64 0, .int .i64 0, .string (⟨#[]⟩ : ByteArray), .int .i64 0]) ?_ 0 _ rfl; (with_reducible repeat (first | refine kn ?_ _ | refine ke ?_ | refine ka ?_ _)); exact BK441.out⟩, ⟨zG⟩⟩
        ·rw [if_neg c14] at H
         have c14b0 : (((rd_T65 l0 x7_1).f0) == 1) = false := beq_eq_false_iff_ne.mpr c14
         have c14b1 : (((rd_T65 l0 x7_1).f0) != 1) = true := bne_iff_ne.mpr c14
         (first | rw [c14b0] | (simp only [i64_w, i32_w]; rw [c14b0]) | skip)
         have H' := Am H
         clear H
         have hnb23 := NB439_441.out
         have hnc23 := NB441_439.out
         obtain ⟨hcz24_0, hcz24_1, hcz24_2, hcz24_3, hcz24_4, hcz24_5, hcz24_6, hcz24_7, hcz24_8⟩ := kc9 (w := w11) BK439.out
         have hfz24_0 := kf BK439.out
         go_wp2
         go_meet
         case rel => exact ⟨_, (false), (by first | rfl | (simp; done) | (simp [*]; done)), H', ⟨by have := HK1.out; first | omega | exact Nat.le_refl _⟩, ⟨by (with_reducible repeat (first | refine kn ?_ _ | refine ke ?_ | refine ka ?_ _)); refine blk_far ?_ NB439_441.out _; (with_reducible repeat (first | refine kn ?_ _ | refine ke ?_ | refine ka ?_ _)); refine blk_far ?_ NB439_441.out _; (with_reducible repeat (first | refine kn ?_ _ | refine ke ?_ | refine ka ?_ _)); refine blk_far ?_ NB439_441.out _; (with_reducible repeat (first | refine kn ?_ _ | refine ke ?_ | refine ka ?_ _)); refine blk_far ?_ NB439_441.out _; (with_reducible repeat (first | refine kn ?_ _ | refine ke ?_ | refine ka ?_ _)); refine blk_far ?_ NB439_441.out _; (with_reducible repeat (first | refine kn ?_ _ | refine ke ?_ | refine ka ?_ _)); refine blk_far ?_ NB439_441.out _; (with_reducible repeat (first | refine kn ?_ _ | refine ke ?_ | refine ka ?_ _)); refine blk_far ?_ NB439_441.out _; (with_reducible repeat (first | refine kn ?_ _ | refine ke ?_ | refine ka ?_ _)); refine blk_far ?_ NB439_441.out _; (with_reducible repeat (first | refine kn ?_ _ | refine ke ?_ | refine ka ?_ _)); refine blk_far ?_ NB439_441.out _; (with_reducible repeat (first | refine kn ?_ _ | refine ke ?_ | refine ka ?_ _)); exact BK439.out⟩, ⟨by (with_reducible repeat (first | refine kn ?_ _ | refine ke ?_ | refine ka ?_ _)); refine kp (cs := #[.int .i64 ((rd_T65 l1 x7_1).f0), .int .i64 ((rd_T65 l1 x7_1).f1), .int .i64 ((rd_T65 l1 x7_1).f2.f0), .string ((rd_T65 l1 x7_1).f2.f1), .string ((rd_T65 l1 x7_1).f2.f2), .int .i64 ((rd_T65 l1 x7_1).f2.f3), .int .i64 ((rd_T65 l1 x7_1).f2.f4), .string ((rd_T65 l1 x7_1).f2.f5), .int .i64 0]) ?_ 8 _ rfl; (with_reducible repeat (first | refine kn ?_ _ | refine ke ?_ | refine ka ?_ _)); refine kp (cs := #[.int .i64 ((rd_T65 l1 x7_1).f0), .int .i64 ((rd_T65 l1 x7_1).f1), .int .i64 ((rd_T65 l1 x7_1).f2.f0), .string ((rd_T65 l1 x7_1).f2.f1), .string ((rd_T65 l1 x7_1).f2.f2), .int .i64 ((rd_T65 l1 x7_1).f2.f3), .int .i64 ((rd_T65 l1 x7_1).f2.f4), .string (⟨#[]⟩ : ByteArray), .int .i64 0]) ?_ 7 _ rfl; (with_reducible repeat (first | refine kn ?_ _ | refine ke ?_ | refine ka ?_ _)); refine kp (cs := #[.int .i64 ((rd_T65 l1 x7_1).f0), .int .i64 ((rd_T65 l1 x7_1).f1), .int .i64 ((rd_T65 l1 x7_1).f2.f0), .string ((rd_T65 l1 x7_1).f2.f1), .string ((rd_T65 l1 x7_1).f2.f2), .int .i64 ((rd_T65 l1 x7_1).f2.f3), .int .i64 0, .string (⟨#[]⟩ : ByteArray), .int .i64 0]) ?_ 6 _ rfl; (with_reducible repeat (first | refine kn ?_ _ | refine ke ?_ | refine ka ?_ _)); refine kp (cs := #[.int .i64 ((rd_T65 l1 x7_1).f0), .int .i64 ((rd_T65 l1 x7_1).f1), .int .i64 ((rd_T65 l1 x7_1).f2.f0), .string ((rd_T65 l1 x7_1).f2.f1), .string ((rd_T65 l1 x7_1).f2.f2), .int .i64 0, .int .i64 0, .string (⟨#[]⟩ : ByteArray), .int .i64 0]) ?_ 5 _ rfl; (with_reducible repeat (first | refine kn ?_ _ | refine ke ?_ | refine ka ?_ _)); refine kp (cs := #[.int .i64 ((rd_T65 l1 x7_1).f0), .int .i64 ((rd_T65 l1 x7_1).f1), .int .i64 ((rd_T65 l1 x7_1).f2.f0), .string ((rd_T65 l1 x7_1).f2.f1), .string (⟨#[]⟩ : ByteArray), .int .i64 0, .int .i64 0, .string (⟨#[]⟩ : ByteArray), .int .i64 0]) ?_ 4 _ rfl; (with_reducible repeat (first | refine kn ?_ _ | refine ke ?_ | refine ka ?_ _)); refine kp (cs := #[.int .i64 ((rd_T65 l1 x7_1).f0), .int .i64 ((rd_T65 l1 x7_1).f1), .int .i64 ((rd_T65 l1 x7_1).f2.f0), .string (⟨#[]⟩ : ByteArray), .string (⟨#[]⟩ : ByteArray), .int .i64 0, .int .i64 0, .string (⟨#[]⟩ : ByteArray), .int .i64 0]) ?_ 3 _ rfl; (with_reducible repeat (first | refine kn ?_ _ | refine ke ?_ | refine ka ?_ _)); refine kp (cs := #[.int .i64 ((rd_T65 l1 x7_1).f0), .int .i64 ((rd_T65 l1 x7_1).f1), .int .i64 0, .string (⟨#[]⟩ : ByteArray), .string (⟨#[]⟩ : ByteArray), .int .i64 0, .int .i64 0, .string (⟨#[]⟩ : ByteArray), .int .i64 0]) ?_ 2 _ rfl; (with_reducible repeat (first | refine kn ?_ _ | refine ke ?_ | refine ka ?_ _)); refine kp (cs := #[.int .i64 ((rd_T65 l1 x7_1).f0), .int .i64 0, .int .i64 0, .string (⟨#[]⟩ : ByteArray), .string (⟨#[]⟩ : ByteArray), .int .i64 0, .int .i64 0, .string (⟨#[]⟩ : ByteArray), .int .i64 0]) ?_ 1 _ rfl; (with_reducible repeat (first | refine kn ?_ _ | refine ke ?_ | refine ka ?_ _)); refine kp (cs := #[.int .i64 0, .int .i64 0, .int .i64 0, .string (⟨#[]⟩ : ByteArray), .string (⟨#[]⟩ : ByteArray), .int .i64 0, .int .i64 0, .string (⟨#[]⟩ : ByteArray), .int .i64 0]) ?_ 0 _ rfl; (with_reducible repeat (first | refine kn ?_ _ | refine ke ?_ | refine ka ?_ _)); exact BK441.out⟩, ⟨zG⟩⟩
       case rest =>
        clear HC8
        try clear c1; try clear c2; try clear p2; try clear c4; try clear c4b0; try clear c4b1; try clear c4b2; try clear p4; try clear q4; try clear hx4; try clear c5; try clear c5b0; try clear c6; try clear c6b0; try clear c7; try clear c7b0; try clear c12; try clear c14; try clear c14b0; try clear c14b1; try clear c15; try clear c15b0; try clear c15b1; try clear c17; try clear c19; try clear c21; try clear c23; try clear hcz10_0; try clear hcz10_1; try clear hcz10_2; try clear hcz10_3; try clear hcz10_4; try clear hcz10_5; try clear hcz10_6; try clear hcz10_7; try clear hcz10_8; try clear hcz13_0; try clear hcz13_1; try clear hcz13_2; try clear hcz13_3; try clear hcz13_4; try clear hcz13_5; try clear hcz13_6; try clear hcz13_7; try clear hcz13_8; try clear hcz18_0; try clear hcz18_1; try clear hcz18_2; try clear hcz18_3; try clear hcz18_4; try clear hcz18_5; try clear hcz18_6; try clear hcz18_7; try clear hcz18_8; try clear hcz19_0; try clear hcz19_1; try clear hcz19_2; try clear hcz19_3; try clear hcz19_4; try clear hcz19_5; try clear hcz19_6; try clear hcz19_7; try clear hcz19_8; try clear hcz22_0; try clear hcz22_1; try clear hcz22_2; try clear hcz22_3; try clear hcz22_4; try clear hcz22_5; try clear hcz22_6; try clear hcz22_7; try clear hcz22_8; try clear hcz24_0; try clear hcz24_1; try clear hcz24_2; try clear hcz24_3; try clear hcz24_4; try clear hcz24_5; try clear hcz24_6; try clear hcz24_7; try clear hcz24_8; try clear hfz10_0; try clear hfz10_1; try clear hfz10_2; try clear hfz10_3; try clear hfz10_4; try clear hfz10_5; try clear hfz10_6; try clear hfz10_7; try clear hfz10_8; try clear hfz13_0; try clear hfz13_1; try clear hfz13_2; try clear hfz13_3; try clear hfz13_4; try clear hfz13_5; try clear hfz13_6; try clear hfz13_7; try clear hfz13_8; try clear hfz18_0; try clear hfz18_1; try clear hfz18_2; try clear hfz18_3; try clear hfz18_4; try clear hfz18_5; try clear hfz18_6; try clear hfz18_7; try clear hfz18_8; try clear hfz19_0; try clear hfz19_1; try clear hfz19_2; try clear hfz19_3; try clear hfz19_4; try clear hfz19_5; try clear hfz19_6; try clear hfz19_7; try clear hfz19_8; try clear hfz22_0; try clear hfz22_1; try clear hfz22_2; try clear hfz22_3; try clear hfz22_4; try clear hfz22_5; try clear hfz22_6; try clear hfz22_7; try clear hfz22_8; try clear hfz24_0; try clear hfz24_1; try clear hfz24_2; try clear hfz24_3; try clear hfz24_4; try clear hfz24_5; try clear hfz24_6; try clear hfz24_7; try clear hfz24_8; try clear hx438_0; try clear hx438_1; try clear hx438_2; try clear hx438_3; try clear hx438_4; try clear hx438_5; try clear hx438_6; try clear hx438_7; try clear hx438_8; try clear hx440_0; try clear hx440_1; try clear hx440_2; try clear hx440_3; try clear hx440_4; try clear hx440_5; try clear hx440_6; try clear hx440_7; try clear hx440_8; try clear p2; try clear p438; try clear p440; try clear q438; try clear q440
        obtain ⟨kq, x44_7, rfl, HA, HJ7, BK439, BK441, HB⟩ := hcut
        cases kq with
        | zero => exact absurd HA.out (by simp [spec_SameActs.j1])
        | succ kj7 =>
         have H := HA.out
         clear HA
         simp only [spec_SameActs.j1] at H
         by_cases c25 : x44_7 = true
         ·subst c25
          have H1 : (if (!(((rd_T65 l0 x7_1).f0) == ((rd_T65 l1 x7_1).f0)) || (!(((rd_T65 l0 x7_1).f1) == ((rd_T65 l1 x7_1).f1)) || (!(((rd_T65 l0 x7_1).f3) == ((rd_T65 l1 x7_1).f3))))) = true then (some false) else (spec_SameActs.l0 kj7 l0 l1 a2 (wrap64 (x7_1 + 1)))) = some r := by rw [if_pos rfl] at H; exact H
          clear H
          have H := H1
          clear H1
          by_cases c26 : (!(((rd_T65 l0 x7_1).f0) == ((rd_T65 l1 x7_1).f0)) || (!(((rd_T65 l0 x7_1).f1) == ((rd_T65 l1 x7_1).f1)) || (!(((rd_T65 l0 x7_1).f3) == ((rd_T65 l1 x7_1).f3))))) = true
          ·rw [if_pos c26] at H
           have c26b0 : (!(((rd_T65 l0 x7_1).f0) == ((rd_T65 l1 x7_1).f0)) || (!(((rd_T65 l0 x7_1).f1) == ((rd_T65 l1 x7_1).f1)) || (!(((rd_T65 l0 x7_1).f3) == ((rd_T65 l1 x7_1).f3))))) = true := c26
           clear c26
           obtain rfl := Option.some.inj H
           have hnb27 := NB439_441.out
           have hnc27 := NB441_439.out
           obtain ⟨hcz28_0, hcz28_1, hcz28_2, hcz28_3, hcz28_4, hcz28_5, hcz28_6, hcz28_7, hcz28_8⟩ := kc9 (w := wc) BK439.out
           have hfz28_0 := kf BK439.out
           obtain ⟨hcz29_0, hcz29_1, hcz29_2, hcz29_3, hcz29_4, hcz29_5, hcz29_6, hcz29_7, hcz29_8⟩ := kc9 (w := wc) BK441.out
           have hfz29_0 := kf BK441.out
           go_wp2
           go_ret
           exact ⟨zR, zG⟩
          ·rw [if_neg c26] at H
           have c26b0 : (!(((rd_T65 l0 x7_1).f0) == ((rd_T65 l1 x7_1).f0)) || (!(((rd_T65 l0 x7_1).f1) == ((rd_T65 l1 x7_1).f1)) || (!(((rd_T65 l0 x7_1).f3) == ((rd_T65 l1 x7_1).f3))))) = false := by simpa using c26
           clear c26
           have H' := Am H
           clear H
           have hnb30 := NB439_441.out
           have hnc30 := NB441_439.out
           obtain ⟨hcz31_0, hcz31_1, hcz31_2, hcz31_3, hcz31_4, hcz31_5, hcz31_6, hcz31_7, hcz31_8⟩ := kc9 (w := wc) BK439.out
           have hfz31_0 := kf BK439.out
           obtain ⟨hcz32_0, hcz32_1, hcz32_2, hcz32_3, hcz32_4, hcz32_5, hcz32_6, hcz32_7, hcz32_8⟩ := kc9 (w := wc) BK441.out
           have hfz32_0 := kf BK441.out
           go_wp2
           go_roundg kj7
           case measure => have := HK1.out; have := HJ7.out; omega
           case rel => exact ⟨(wrap64 (x7_1 + 1)), (by first | rfl | (simp; done) | (simp [*]; done)), H', ⟨by have := HK1.out; have := HJ7.out; omega⟩, ⟨zG⟩⟩
         ·replace c25 := Bool.eq_false_iff.mpr c25
          subst c25
          have H1 : (if (!(((rd_T65 l0 x7_1).f0) == ((rd_T65 l1 x7_1).f0)) || (!(((rd_T65 l0 x7_1).f1) == ((rd_T65 l1 x7_1).f1)) || ((!(((rd_T65 l0 x7_1).f2.f0) == ((rd_T65 l1 x7_1).f2.f0)) || (!(((rd_T65 l0 x7_1).f2.f1).toList == ((rd_T65 l1 x7_1).f2.f1).toList) || (!(((rd_T65 l0 x7_1).f2.f2).toList == ((rd_T65 l1 x7_1).f2.f2).toList) || (!(((rd_T65 l0 x7_1).f2.f3) == ((rd_T65 l1 x7_1).f2.f3)) || (!(((rd_T65 l0 x7_1).f2.f4) == ((rd_T65 l1 x7_1).f2.f4)) || (!(((rd_T65 l0 x7_1).f2.f5).toList == ((rd_T65 l1 x7_1).f2.f5).toList))))))) || (!(((rd_T65 l0 x7_1).f3) == ((rd_T65 l1 x7_1).f3)))))) = true then (some false) else (spec_SameActs.l0 kj7 l0 l1 a2 (wrap64 (x7_1 + 1)))) = some r := by rw [if_neg (show ¬ (false = true) by decide)] at H; exact H
          clear H
          have H := H1
          clear H1
          by_cases c33 : (!(((rd_T65 l0 x7_1).f0) == ((rd_T65 l1 x7_1).f0)) || (!(((rd_T65 l0 x7_1).f1) == ((rd_T65 l1 x7_1).f1)) || ((!(((rd_T65 l0 x7_1).f2.f0) == ((rd_T65 l1 x7_1).f2.f0)) || (!(((rd_T65 l0 x7_1).f2.f1).toList == ((rd_T65 l1 x7_1).f2.f1).toList) || (!(((rd_T65 l0 x7_1).f2.f2).toList == ((rd_T65 l1 x7_1).f2.f2).toList) || (!(((rd_T65 l0 x7_1).f2.f3) == ((rd_T65 l1 x7_1).f2.f3)) || (!(((rd_T65 l0 x7_1).f2.f4) == ((rd_T65 l1 x7_1).f2.f4)) || (!(((rd_T65 l0 x7_1).f2.f5).toList == ((rd_T65 l1 x7_1).f2.f5).toList))))))) || (!(((rd_T65 l0 x7_1).f3) == ((rd_T65 l1 x7_1).f3)))))) = true
          ·rw [if_pos c33] at H
           have c33b0 : (!(((rd_T65 l0 x7_1).f0) == ((rd_T65 l1 x7_1).f0)) || (!(((rd_T65 l0 x7_1).f1) == ((rd_T65 l1 x7_1).f1)) || ((!(((rd_T65 l0 x7_1).f2.f0) == ((rd_T65 l1 x7_1).f2.f0)) || (!(((rd_T65 l0 x7_1).f2.f1).toList == ((rd_T65 l1 x7_1).f2.f1).toList) || (!(((rd_T65 l0 x7_1).f2.f2).toList == ((rd_T65 l1 x7_1).f2.f2).toList) || (!(((rd_T65 l0 x7_1).f2.f3) == ((rd_T65 l1 x7_1).f2.f3)) || (!(((rd_T65 l0 x7_1).f2.f4) == ((rd_T65 l1 x7_1).f2.f4)) || (!(((rd_T65 l0 x7_1).f2.f5).toList == ((rd_T65 l1 x7_1).f2.f5).toList))))))) || (!(((rd_T65 l0 x7_1).f3) == ((rd_T65 l1 x7_1).f3)))))) = true := c33
           clear c33
           obtain rfl := Option.some.inj H
           have hnb34 := NB439_441.out
           have hnc34 := NB441_439.out
           obtain ⟨hcz35_0, hcz35_1, hcz35_2, hcz35_3, hcz35_4, hcz35_5, hcz35_6, hcz35_7, hcz35_8⟩ := kc9 (w := wc) BK439.out
           have hfz35_0 := kf BK439.out
           obtain ⟨hcz36_0, hcz36_1, hcz36_2, hcz36_3, hcz36_4, hcz36_5, hcz36_6, hcz36_7, hcz36_8⟩ := kc9 (w := wc) BK441.out
           have hfz36_0 := kf BK441.out
           go_wp2
           go_ret
           exact ⟨zR, zG⟩
          ·rw [if_neg c33] at H
           have c33b0 : (!(((rd_T65 l0 x7_1).f0) == ((rd_T65 l1 x7_1).f0)) || (!(((rd_T65 l0 x7_1).f1) == ((rd_T65 l1 x7_1).f1)) || ((!(((rd_T65 l0 x7_1).f2.f0) == ((rd_T65 l1 x7_1).f2.f0)) || (!(((rd_T65 l0 x7_1).f2.f1).toList == ((rd_T65 l1 x7_1).f2.f1).toList) || (!(((rd_T65 l0 x7_1).f2.f2).toList == ((rd_T65 l1 x7_1).f2.f2).toList) || (!(((rd_T65 l0 x7_1).f2.f3) == ((rd_T65 l1 x7_1).f2.f3)) || (!(((rd_T65 l0 x7_1).f2.f4) == ((rd_T65 l1 x7_1).f2.f4)) || (!(((rd_T65 l0 x7_1).f2.f5).toList == ((rd_T65 l1 x7_1).f2.f5).toList))))))) || (!(((rd_T65 l0 x7_1).f3) == ((rd_T65 l1 x7_1).f3)))))) = false := by simpa using c33
           clear c33
           have H' := Am H
           clear H
           have hnb37 := NB439_441.out
           have hnc37 := NB441_439.out
           obtain ⟨hcz38_0, hcz38_1, hcz38_2, hcz38_3, hcz38_4, hcz38_5, hcz38_6, hcz38_7, hcz38_8⟩ := kc9 (w := wc) BK439.out
           have hfz38_0 := kf BK439.out
           obtain ⟨hcz39_0, hcz39_1, hcz39_2, hcz39_3, hcz39_4, hcz39_5, hcz39_6, hcz39_7, hcz39_8⟩ := kc9 (w := wc) BK441.out
           have hfz39_0 := kf BK441.out
           go_wp2
           go_roundg kj7
           case measure => have := HK1.out; have := HJ7.out; omega
           case rel => exact ⟨(wrap64 (x7_1 + 1)), (by first | rfl | (simp; done) | (simp [*]; done)), H', ⟨by have := HK1.out; have := HJ7.out; omega⟩, ⟨zG⟩⟩
      ·rw [if_neg c7] at H
       exact absurd H (by simp)
     ·rw [if_neg c6] at H
      exact absurd H (by simp)
    ·rw [if_neg c5] at H
     have c5b0 : decide (x7_1 < (l0.length : Int)) = false := decide_eq_false c5
     clear c5
     obtain rfl := Option.some.inj H
     go_wp2
     go_ret
     exact ⟨zR, zB⟩
 ·rw [if_neg c4] at H
  have c4b0 : ((l0.length : Int) == (l1.length : Int)) = false := beq_eq_false_iff_ne.mpr c4
  have c4b1 : ((l0.length : Int) != (l1.length : Int)) = true := bne_iff_ne.mpr c4
  have c4b2 : (l0.length == l1.length) = false := by first | simpa using c4 | (simp at c4 ⊢; omega)
  obtain rfl := Option.some.inj H
  go_enter Try.func19, Try.ntmps19
  go_wp2
  go_ret
  exact ⟨zR, zB⟩

/-! ### spec_l26All: function 39 -/
def spec_l26All.l0 : Nat → ByteArray → Int → Int → Option (Bool)
 | 0, _, _, _ => none
 | k + 1, x0, x1, x5 => if x5 < (x0.size : Int) then (if 0 ≤ x5 then (if (bt x0 x5) = x1 then (spec_l26All.l0 k x0 x1 (wrap64 (x5 + 1))) else (some false)) else (none)) else (some true)
def spec_l26All.f (k : Nat) (a0 : ByteArray) (a1 : Int) : Option (Bool) := spec_l26All.l0 k a0 a1 0
theorem spec_l26All.mono_l : ∀ k, (∀ y0 y1 y2, LeO (spec_l26All.l0 k y0 y1 y2) (spec_l26All.l0 (k + 1) y0 y1 y2))
 | 0 => fun _ _ _ r h => by simp [spec_l26All.l0] at h
 | k + 1 => by
  have ih0 := spec_l26All.mono_l k
  ·intro y0 y1 y2
   unfold spec_l26All.l0
   repeat' first
   | (with_reducible exact ih0 _ _ _)
   | (with_reducible exact LeO.refl _)
   | (with_reducible exact LeO.none _)
   | (with_reducible refine LeO.ite ?_ ?_)
   | (with_reducible refine LeO.bind ?_ (fun _ => ?_))
   | exact ih0 _ _ _
   | exact LeO.none _
   | refine LeO.ite ?_ ?_
   | refine LeO.bind ?_ (fun _ => ?_)
theorem spec_l26All.mono : ∀ a0 a1 k, LeO (spec_l26All.f k a0 a1) (spec_l26All.f (k + 1) a0 a1) := by
 intro a0 a1 k
 have ih0 := spec_l26All.mono_l k
 unfold spec_l26All.f
 repeat' first
   | (with_reducible exact ih0 _ _ _)
   | (with_reducible exact LeO.refl _)
   | (with_reducible exact LeO.none _)
   | (with_reducible refine LeO.ite ?_ ?_)
   | (with_reducible refine LeO.bind ?_ (fun _ => ?_))
   | exact ih0 _ _ _
   | exact LeO.none _
   | refine LeO.ite ?_ ?_
   | refine LeO.bind ?_ (fun _ => ?_)
set_option maxHeartbeats 8000000 in
set_option maxRecDepth 100000 in
theorem spec_l26All.calls (k : Nat) (a0 : ByteArray) (a1 : Int) (r : Bool) (w : World) (h : spec_l26All.f k a0 a1 = some r) :
  Calls Try.prog 39 #[.string a0, .int .u8 a1] w fun e w' => e = .returned (.bool r) ∧ Drawn0 w w' := by
 have H : (spec_l26All.l0 k a0 a1 0) = some r := h
 clear h
 have H' := Am H
 clear H
 go_enter Try.func39, Try.ntmps39
 go_wp2
 go_loopg [5] k (fun kq v5 w' => ∃ (x5_1 : Int), v5 = .int .i64 x5_1 ∧ Aside0 (spec_l26All.l0 kq a0 a1 x5_1 = some r) ∧ Aside0 (kq ≤ k) ∧ Drawn0 w w')
 case atStart => exact ⟨(0), (by first | rfl | (simp; done) | (simp [*]; done)), H', ⟨Nat.le_refl _⟩, by repeat (first | exact Drawn0.refl _ | apply Drawn0.step)⟩
 case round =>
  clear H'
  try clear p2
  obtain ⟨x5_1, rfl, HA, HK1, ⟨m1, rfl⟩⟩ := hrel
  cases gk with
  | zero => exact absurd HA.out (by simp [spec_l26All.l0])
  | succ k1 =>
   have H := HA.out
   clear HA
   simp only [spec_l26All.l0] at H
   by_cases c3 : x5_1 < (a0.size : Int)
   ·rw [if_pos c3] at H
    have c3b0 : decide (x5_1 < (a0.size : Int)) = true := decide_eq_true c3
    clear c3
    by_cases c4 : 0 ≤ x5_1
    ·rw [if_pos c4] at H
     have c4b0 : decide (0 ≤ x5_1) = true := decide_eq_true c4
     clear c4
     by_cases c6 : (bt a0 x5_1) = a1
     ·rw [if_pos c6] at H
      have c6b0 : ((bt a0 x5_1) == a1) = true := beq_iff_eq.mpr c6
      have c6b1 : ((bt a0 x5_1) != a1) = false := bne_eq_false_iff_eq.mpr c6
      clear c6
      have H' := Am H
      clear H
      have p5 : 0 ≤ (x5_1 : Int) := of_decide_eq_true (by first | (with_reducible assumption) | assumption)
      have q5 : x5_1 < (a0.size : Int) := of_decide_eq_true (by first | (with_reducible assumption) | assumption)
      have hx5 := bt_at a0 x5_1
      replace p5 := eq_true p5
      replace q5 := eq_true q5
      go_wp2
      go_roundg k1
      case measure => have := HK1.out; omega
      case rel => exact ⟨(wrap64 (x5_1 + 1)), (by first | rfl | (simp; done) | (simp [*]; done)), H', ⟨by have := HK1.out; omega⟩, by repeat (first | exact Drawn0.refl _ | apply Drawn0.step)⟩
     ·rw [if_neg c6] at H
      have c6b0 : ((bt a0 x5_1) == a1) = false := beq_eq_false_iff_ne.mpr c6
      have c6b1 : ((bt a0 x5_1) != a1) = true := bne_iff_ne.mpr c6
      obtain rfl := Option.some.inj H
      have p5 : 0 ≤ (x5_1 : Int) := of_decide_eq_true (by first | (with_reducible assumption) | assumption)
      have q5 : x5_1 < (a0.size : Int) := of_decide_eq_true (by first | (with_reducible assumption) | assumption)
      have hx5 := bt_at a0 x5_1
      replace p5 := eq_true p5
      replace q5 := eq_true q5
      go_wp2
      go_ret
      exact ⟨by first | rfl | (simp; done) | (simp [*]; done), by repeat (first | exact Drawn0.refl _ | apply Drawn0.step)⟩
    ·rw [if_neg c4] at H
     exact absurd H (by simp)
   ·rw [if_neg c3] at H
    have c3b0 : decide (x5_1 < (a0.size : Int)) = false := decide_eq_false c3
    clear c3
    obtain rfl := Option.some.inj H
    go_wp2
    go_ret
    exact ⟨by first | rfl | (simp; done) | (simp [*]; done), by repeat (first | exact Drawn0.refl _ | apply Drawn0.step)⟩

/-! ### spec_MaskRec: function 20 -/
def spec_MaskRec.f (k : Nat) (a0 : ByteArray) : Option (ByteArray) := if (a0.size : Int) = 8 then ((spec_l26All.f k a0 0).bind fun t443 => (if t443 = true then (some a0) else (if 0 ≤ 4 then (if 4 ≤ (a0.size : Int) then ((spec_l01Long.f k 4 255).bind fun t444 => (if (a0.extract 0 4).size + t444.size ≤ 9223372036854775807 then (some ((a0.extract 0 4) ++ t444)) else (none))) else (none)) else (none)))) else (some a0)
theorem spec_MaskRec.mono : ∀ a0 k, LeO (spec_MaskRec.f k a0) (spec_MaskRec.f (k + 1) a0) := by
 intro a0 k
 unfold spec_MaskRec.f
 repeat' first
   | (with_reducible exact spec_l01Long.mono _ _ _)
   | (with_reducible exact spec_l26All.mono _ _ _)
   | (with_reducible exact LeO.refl _)
   | (with_reducible exact LeO.none _)
   | (with_reducible refine LeO.ite ?_ ?_)
   | (with_reducible refine LeO.bind ?_ (fun _ => ?_))
   | exact spec_l01Long.mono _ _ _
   | exact spec_l26All.mono _ _ _
   | exact LeO.none _
   | refine LeO.ite ?_ ?_
   | refine LeO.bind ?_ (fun _ => ?_)
set_option maxHeartbeats 8000000 in
set_option maxRecDepth 100000 in
theorem spec_MaskRec.calls (k : Nat) (a0 : ByteArray) (r : ByteArray) (w : World) (h : spec_MaskRec.f k a0 = some r) :
  Calls Try.prog 20 #[.string a0] w fun e w' => e = .returned (.string r) ∧ Below w.heap.size w w' := by
 have HB := Am (Below.refl w.heap.size w)
 have H : (if (a0.size : Int) = 8 then ((spec_l26All.f k a0 0).bind fun t443 => (if t443 = true then (some a0) else (if 0 ≤ 4 then (if 4 ≤ (a0.size : Int) then ((spec_l01Long.f k 4 255).bind fun t444 => (if (a0.extract 0 4).size + t444.size ≤ 9223372036854775807 then (some ((a0.extract 0 4) ++ t444)) else (none))) else (none)) else (none)))) else (some a0)) = some r := h
 clear h
 by_cases c2 : (a0.size : Int) = 8
 ·rw [if_pos c2] at H
  have c2b0 : ((a0.size : Int) == 8) = true := beq_iff_eq.mpr c2
  have c2b1 : ((a0.size : Int) != 8) = false := bne_eq_false_iff_eq.mpr c2
  clear c2
  replace H := Option.bind_eq_some_iff.mp H
  obtain ⟨t443, A30, H⟩ := H
  replace H : (if t443 = true then (some a0) else (if 0 ≤ 4 then (if 4 ≤ (a0.size : Int) then ((spec_l01Long.f k 4 255).bind fun t444 => (if (a0.extract 0 4).size + t444.size ≤ 9223372036854775807 then (some ((a0.extract 0 4) ++ t444)) else (none))) else (none)) else (none))) = some r := H
  have A3 := Am A30
  clear A30
  by_cases c4 : t443 = true
  ·subst c4
   have H1 : (some a0) = some r := by rw [if_pos rfl] at H; exact H
   clear H
   have H := H1
   clear H1
   obtain rfl := Option.some.inj H
   go_enter Try.func20, Try.ntmps20
   go_wp2_with (first | (go_at_call 39; (with_reducible refine (spec_l26All.calls k a0 0 true _ A3.out).mono ?_); rintro e w' ⟨rfl, ⟨nd, rfl⟩⟩))
   go_ret
   exact ⟨zR, zB⟩
  ·replace c4 := Bool.eq_false_iff.mpr c4
   subst c4
   have H1 : (if 0 ≤ 4 then (if 4 ≤ (a0.size : Int) then ((spec_l01Long.f k 4 255).bind fun t444 => (if (a0.extract 0 4).size + t444.size ≤ 9223372036854775807 then (some ((a0.extract 0 4) ++ t444)) else (none))) else (none)) else (none)) = some r := by rw [if_neg (show ¬ (false = true) by decide)] at H; exact H
   clear H
   have H := H1
   clear H1
   by_cases c5 : 0 ≤ 4
   ·rw [if_pos c5] at H
    have c5b0 := eq_true c5
    have c5b1 : decide (0 ≤ 4) = true := decide_eq_true c5
    clear c5
    by_cases c6 : 4 ≤ (a0.size : Int)
    ·rw [if_pos c6] at H
     have c6b0 := eq_true c6
     have c6b1 : decide (4 ≤ (a0.size : Int)) = true := decide_eq_true c6
     clear c6
     replace H := Option.bind_eq_some_iff.mp H
     obtain ⟨t444, A70, H⟩ := H
     replace H : (if (a0.extract 0 4).size + t444.size ≤ 9223372036854775807 then (some ((a0.extract 0 4) ++ t444)) else (none)) = some r := H
     have A7 := Am A70
     clear A70
     by_cases c8 : (a0.extract 0 4).size + t444.size ≤ 9223372036854775807
     ·rw [if_pos c8] at H
      have c8b0 := eq_true c8
      have c8b1 : decide ((a0.extract 0 4).size + t444.size ≤ 9223372036854775807) = true := decide_eq_true c8
      try have c8b2 : (9223372036854775807 < (a0.extract 0 4).size + t444.size) = False := eq_false (Nat.not_lt.2 c8)
      try (have c8b3 := c8b2; simp only [ByteArray.size_extract, Nat.sub_zero] at c8b3)
      try clear c8
      obtain rfl := Option.some.inj H
      go_enter Try.func20, Try.ntmps20
      try go_wp2_with (first | (go_at_call 39; (with_reducible refine (spec_l26All.calls k a0 0 false _ A3.out).mono ?_); rintro e w' ⟨rfl, ⟨nd, rfl⟩⟩))
      have n0_ := Am (be (bn HB.out nd))
      clear HB
      have HB := n0_
      clear n0_
      refine start_ (n := 5) (S := fun w' => True) (ds := []) #[false, false, false, false, false] (by kernel_rfl) rfl rfl trivial (fun hHeld => ?_)
      generalize w.drew = w9 at HB hHeld ⊢
      refine yA 0 (some 11) rfl rfl ?_
      refine yA 1 (some 12) rfl rfl ?_
      refine yO 2 (some 13) rfl rfl (fun K hK => ?_)
      refine goes_ Try.func35 (by kernel_rfl) rfl #[.int .i64 4, .int .u8 255] (by rfl) rfl rfl (by (try simp only [List.map_toArray, List.map_cons, List.map_nil]); first | done | rfl | (simp only [List.length_drop, List.length_take]; rfl)) ?_
      with_reducible refine (spec_l01Long.calls k 4 255 t444 _ A7.out).mono ?_
      rintro e w10 ⟨rfl, hb⟩
      refine ⟨_, rfl, ?_⟩
      have n0_ := Am (bq zB hb)
      clear HB
      have HB := n0_
      clear n0_
      (try clear hb)
      (try clear hb2)
      (try clear hk)
      (try clear hi)
      refine hK.out _ _ trivial (fun hHeld => ?_)
      clear hK K
      refine zN (some 13) ?_
      refine yA 3 (some 14) rfl rfl ?_
      refine yA 4 (some 2) rfl rfl ?_
      refine done_ (by kernel_rfl) ?_
      try go_wp2
      go_ret
      exact ⟨zR, zB⟩
     ·rw [if_neg c8] at H
      exact absurd H (by simp)
    ·rw [if_neg c6] at H
     exact absurd H (by simp)
   ·rw [if_neg c5] at H
    exact absurd H (by simp)
 ·rw [if_neg c2] at H
  have c2b0 : ((a0.size : Int) == 8) = false := beq_eq_false_iff_ne.mpr c2
  have c2b1 : ((a0.size : Int) != 8) = true := bne_iff_ne.mpr c2
  obtain rfl := Option.some.inj H
  go_enter Try.func20, Try.ntmps20
  go_wp2
  go_ret
  exact ⟨zR, zB⟩

end Go.Proofs.Ytceaelnaogenjaa.QFnShapes
