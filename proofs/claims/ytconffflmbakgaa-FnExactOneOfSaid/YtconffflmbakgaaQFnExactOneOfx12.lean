/- Go functions as Lean functions, and their contracts. Own text: written by wip/gen/pr.py (a turned copy of the print). -/
import Derived.Test.YtconffflmbakgaaQFnExactOneOfx0
import Derived.Test.YtconffflmbakgaaQFnExactOneOfx9
import Derived.Test.YtconffflmbakgaaQFnExactOneOfx10
import Derived.Test.YtconffflmbakgaaQFnExactOneOfx11
namespace Go.Proofs.Ytconffflmbakgaa.QFnExactOneOf
open Go.RowKit Go.Proofs.YtconffflmbakgaaW.PrintWords Go.Proofs.YtconffflmbakgaaW.PrintLast Go.Proofs.YtconffflmbakgaaW.PrintMore
attribute [local go_sem] max2_int min2_int max_two min_two max_three min_three max_four min_four   -- for this text's walks alone
open Go.Proofs.YtconffflmbakgaaW.PrintWords renaming below_alloc → ba, pw_below_drewN → bn, below_drew1 → be, below_set → bs, blk_drewN → kn, blk_drew → ke, blk_alloc → ka, blk_below → kb, blk_frozen → kf, blk_cell → kc, below_step → bq, below_size → bz, blk_lt → kl
open Go.Proofs.YtconffflmbakgaaW.PrintWords.Kd renaming C_alloc → ca, C_drewN → cn, C_drew → ce, C_below → cb
open Go.Proofs.YtconffflmbakgaaW.PrintWords.Aside0 renaming mk → Am
set_option linter.unusedVariables false
set_option linter.unusedSimpArgs false

theorem cl12 {w w2 : World} {a : Addr} {v : Value} (h : Aside0 (Below w.heap.size w w2)) (e : w.cell? a = some v) : w2.cell? a = some v := (h.out.cell (World.block_lt_of_cell? w _ e)).trans e
def o12b0 (p0 : Int) (p1 : Int) (p2 : Int) (p3 : Int) (p4 : ByteArray) (p5 : Option Addr) (p6 p7 : Nat) (p8 : Option Addr) (p9 p10 : Nat) (p11 : Option Addr) (p12 p13 : Nat) : Obj := .cells #[.int .i64 p0, .int .i64 p1, .int .i64 p2, .int .i64 p3, .string p4, .slice p5 p6 p7, .slice p8 p9 p10, .slice p11 p12 p13] 46 (0, 0)
def o12b1 (p0 : Int) (p1 : Int) (p2 : Int) (p3 : Int) (p4 : ByteArray) (p5 : Option Addr) (p6 p7 : Nat) (p8 : Option Addr) (p9 p10 : Nat) (p11 : Option Addr) (p12 p13 : Nat) : Obj := .cells #[.int .i64 p0, .int .i64 p1, .int .i64 p2, .int .i64 p3, .string p4, .slice p5 p6 p7, .slice p8 p9 p10, .slice p11 p12 p13] 46 (0, 0)
/-! ### laws_eqJobS: function 70 -/
def laws_eqJobS.l0 : Nat → List (S105) → List (S105) → Int → Option (Bool)
 | 0, _, _, _ => none
 | k + 1, x0, x1, x5 => if x5 < (x0.length : Int) then (if 0 ≤ x5 then (if x5 < (x1.length : Int) then ((laws_eqJob.f k ((rd_T105 x0 x5).f0.f0) ((rd_T105 x0 x5).f0.f1) ((rd_T105 x0 x5).f0.f2) ((rd_T105 x0 x5).f0.f3) ((rd_T105 x0 x5).f0.f4) ((rd_T105 x0 x5).f0.f5) ((rd_T105 x0 x5).f1.f0) ((rd_T105 x0 x5).f1.f1) ((rd_T105 x0 x5).f1.f2) ((rd_T105 x0 x5).f1.f3) ((rd_T105 x0 x5).f1.f4) ((rd_T105 x0 x5).f2) ((rd_T105 x0 x5).f3) ((rd_T105 x0 x5).f4) ((rd_T105 x0 x5).f5) ((rd_T105 x0 x5).f6) ((rd_T105 x1 x5).f0.f0) ((rd_T105 x1 x5).f0.f1) ((rd_T105 x1 x5).f0.f2) ((rd_T105 x1 x5).f0.f3) ((rd_T105 x1 x5).f0.f4) ((rd_T105 x1 x5).f0.f5) ((rd_T105 x1 x5).f1.f0) ((rd_T105 x1 x5).f1.f1) ((rd_T105 x1 x5).f1.f2) ((rd_T105 x1 x5).f1.f3) ((rd_T105 x1 x5).f1.f4) ((rd_T105 x1 x5).f2) ((rd_T105 x1 x5).f3) ((rd_T105 x1 x5).f4) ((rd_T105 x1 x5).f5) ((rd_T105 x1 x5).f6)).bind fun t368 => (if t368 = true then (laws_eqJobS.l0 k x0 x1 (wrap64 (x5 + 1))) else (none))) else (none)) else (none)) else (some true)
def laws_eqJobS.f (k : Nat) (l0 : List (S105)) (l1 : List (S105)) : Option (Bool) := if (l0.length : Int) = (l1.length : Int) then (laws_eqJobS.l0 k l0 l1 0) else (none)
theorem laws_eqJobS.mono_l : ∀ k, (∀ y0 y1 y2, LeO (laws_eqJobS.l0 k y0 y1 y2) (laws_eqJobS.l0 (k + 1) y0 y1 y2))
 | 0 => fun _ _ _ r h => by simp [laws_eqJobS.l0] at h
 | k + 1 => by
  have ih0 := laws_eqJobS.mono_l k
  ·intro y0 y1 y2
   unfold laws_eqJobS.l0
   repeat' first
   | (with_reducible exact ih0 _ _ _)
   | (with_reducible exact laws_eqJob.mono _ _ _ _ _ _ _ _ _ _ _ _ _ _ _ _ _ _ _ _ _ _ _ _ _ _ _ _ _ _ _ _ _)
   | (with_reducible exact LeO.refl _)
   | (with_reducible exact LeO.none _)
   | (with_reducible refine LeO.ite ?_ ?_)
   | (with_reducible refine LeO.bind ?_ (fun _ => ?_))
   | exact ih0 _ _ _
   | exact laws_eqJob.mono _ _ _ _ _ _ _ _ _ _ _ _ _ _ _ _ _ _ _ _ _ _ _ _ _ _ _ _ _ _ _ _ _
   | exact LeO.none _
   | refine LeO.ite ?_ ?_
   | refine LeO.bind ?_ (fun _ => ?_)
theorem laws_eqJobS.mono : ∀ a0 a1 k, LeO (laws_eqJobS.f k a0 a1) (laws_eqJobS.f (k + 1) a0 a1) := by
 intro a0 a1 k
 have ih0 := laws_eqJobS.mono_l k
 unfold laws_eqJobS.f
 repeat' first
   | (with_reducible exact ih0 _ _ _)
   | (with_reducible exact laws_eqJob.mono _ _ _ _ _ _ _ _ _ _ _ _ _ _ _ _ _ _ _ _ _ _ _ _ _ _ _ _ _ _ _ _ _)
   | (with_reducible exact LeO.refl _)
   | (with_reducible exact LeO.none _)
   | (with_reducible refine LeO.ite ?_ ?_)
   | (with_reducible refine LeO.bind ?_ (fun _ => ?_))
   | exact ih0 _ _ _
   | exact laws_eqJob.mono _ _ _ _ _ _ _ _ _ _ _ _ _ _ _ _ _ _ _ _ _ _ _ _ _ _ _ _ _ _ _ _ _
   | exact LeO.none _
   | refine LeO.ite ?_ ?_
   | refine LeO.bind ?_ (fun _ => ?_)
def laws_eqJobS.T6 : Bool × List (List Nat × List Nat) := (true, [([], []), ([], []), ([0, 1], [0, 1]), ([2], [2]), ([], []), ([], []), ([4, 5], [4, 5]), ([6], [6]), ([3, 7], [3, 7]), ([8], [8])])
def laws_eqJobS.B6 : List Nat := [0, 0, 3, 7, 0, 0, 48, 112, 255, 511]
theorem laws_eqJobS.tab6 : rtab .any (opsOf Try.f70 6) = laws_eqJobS.T6 := by kernel_rfl
theorem laws_eqJobS.bits6 : waitsOk laws_eqJobS.T6.2 laws_eqJobS.B6 = true := by kernel_rfl
set_option maxHeartbeats 8000000 in
set_option maxRecDepth 100000 in
theorem laws_eqJobS.calls (k : Nat) (A0 : Option Addr) (c0 : Nat) (l0 : List (S105)) (A1 : Option Addr) (c1 : Nat) (l1 : List (S105)) (r : Bool) (w : World) (hr0 : Kd.C k105 w A0 l0.length l0) (hc0 : l0.length ≤ c0) (hr1 : Kd.C k105 w A1 l1.length l1) (hc1 : l1.length ≤ c1) (h : laws_eqJobS.f k l0 l1 = some r) :
  Calls Try.prog 70 #[.slice A0 l0.length c0, .slice A1 l1.length c1] w fun e w' => e = .returned (.bool r) ∧ Below w.heap.size w w' := by
 have hu105 := Try.underlying105
 have HR0 := Am hr0
 have HC0 := Am hc0
 clear hr0 hc0
 have HR1 := Am hr1
 have HC1 := Am hc1
 clear hr1 hc1
 have HB := Am (Below.refl w.heap.size w)
 have H : (if (l0.length : Int) = (l1.length : Int) then (laws_eqJobS.l0 k l0 l1 0) else (none)) = some r := h
 clear h
 by_cases c3 : (l0.length : Int) = (l1.length : Int)
 ·rw [if_pos c3] at H
  have c3b0 : ((l0.length : Int) == (l1.length : Int)) = true := beq_iff_eq.mpr c3
  have c3b1 : ((l0.length : Int) != (l1.length : Int)) = false := bne_eq_false_iff_eq.mpr c3
  have c3b2 : (l0.length == l1.length) = true := by first | simpa using c3 | (simp at c3 ⊢; omega)
  clear c3
  have H' := Am H
  clear H
  go_enter Try.func70, Try.ntmps70
  go_wp2
  go_loopg [5] k (fun kq v5 w' => ∃ (x5_1 : Int), v5 = .int .i64 x5_1 ∧ Aside0 (laws_eqJobS.l0 kq l0 l1 x5_1 = some r) ∧ Aside0 (kq ≤ k) ∧ Aside0 (Below w.heap.size w w'))
  case atStart => exact ⟨(0), (by first | rfl | (simp; done) | (simp [*]; done)), H', ⟨Nat.le_refl _⟩, ⟨zB⟩⟩
  case round =>
   clear H'
   try clear c1; try clear p2; try clear c3; try clear c3b0; try clear c3b1; try clear c3b2
   obtain ⟨x5_1, rfl, HA, HK1, HB⟩ := hrel
   cases gk with
   | zero => exact absurd HA.out (by simp [laws_eqJobS.l0])
   | succ k1 =>
    have H := HA.out
    clear HA
    simp only [laws_eqJobS.l0] at H
    by_cases c4 : x5_1 < (l0.length : Int)
    ·rw [if_pos c4] at H
     have c4b0 : decide (x5_1 < (l0.length : Int)) = true := decide_eq_true c4
     clear c4
     by_cases c5 : 0 ≤ x5_1
     ·rw [if_pos c5] at H
      have c5b0 : decide (0 ≤ x5_1) = true := decide_eq_true c5
      clear c5
      by_cases c6 : x5_1 < (l1.length : Int)
      ·rw [if_pos c6] at H
       have c6b0 : decide (x5_1 < (l1.length : Int)) = true := decide_eq_true c6
       clear c6
       replace H := Option.bind_eq_some_iff.mp H
       obtain ⟨t368, A70, H⟩ := H
       replace H : (if t368 = true then (laws_eqJobS.l0 k1 l0 l1 (wrap64 (x5_1 + 1))) else (none)) = some r := H
       have A7 := Am A70
       clear A70
       by_cases c8 : t368 = true
       ·subst c8
        have H1 : (laws_eqJobS.l0 k1 l0 l1 (wrap64 (x5_1 + 1))) = some r := by rw [if_pos rfl] at H; exact H
        clear H
        have H := H1
        clear H1
        have H' := Am H
        clear H
        try go_wp2
        have n0_ := Am (be HB.out)
        clear HB
        have HB := n0_
        clear n0_
        have p366 : 0 ≤ (x5_1 : Int) := of_decide_eq_true (by first | (with_reducible assumption) | assumption)
        have q366 : x5_1 < (l0.length : Int) := of_decide_eq_true (by first | (with_reducible assumption) | assumption)
        obtain ⟨ad366, A366_10, c366_10, A366_11, c366_11, A366_12, c366_12, e366, hx366_0, hx366_1, hx366_2, hx366_3, hx366_4, hx366_5, hx366_6, hx366_7, hx366_8, hx366_9, hx366_10, hx366_11, hx366_12, hx366_13, hx366_14, hx366_15, hl366_10, hi366_10, hl366_11, hi366_11, hl366_12, hi366_12⟩ := at_T105 HR0.out x5_1 p366 q366
        have hw366_15 := hx366_15
        have hw366_14 := hx366_14
        have hw366_13 := hx366_13
        have hw366_12 := hx366_12
        have hw366_11 := hx366_11
        have hw366_10 := hx366_10
        have hw366_9 := hx366_9
        have hw366_8 := hx366_8
        have hw366_7 := hx366_7
        have hw366_6 := hx366_6
        have hw366_5 := hx366_5
        have hw366_4 := hx366_4
        have hw366_3 := hx366_3
        have hw366_2 := hx366_2
        have hw366_1 := hx366_1
        have hw366_0 := hx366_0
        cases e366
        replace hx366_0 := cl12 HB hx366_0
        replace hx366_1 := cl12 HB hx366_1
        replace hx366_2 := cl12 HB hx366_2
        replace hx366_3 := cl12 HB hx366_3
        replace hx366_4 := cl12 HB hx366_4
        replace hx366_5 := cl12 HB hx366_5
        replace hx366_6 := cl12 HB hx366_6
        replace hx366_7 := cl12 HB hx366_7
        replace hx366_8 := cl12 HB hx366_8
        replace hx366_9 := cl12 HB hx366_9
        replace hx366_10 := cl12 HB hx366_10
        replace hx366_11 := cl12 HB hx366_11
        replace hx366_12 := cl12 HB hx366_12
        replace hx366_13 := cl12 HB hx366_13
        replace hx366_14 := cl12 HB hx366_14
        replace hx366_15 := cl12 HB hx366_15
        have HR366_10 := Am hi366_10
        have HC366_10 := Am hl366_10
        clear hi366_10 hl366_10
        have HR366_11 := Am hi366_11
        have HC366_11 := Am hl366_11
        clear hi366_11 hl366_11
        have HR366_12 := Am hi366_12
        have HC366_12 := Am hl366_12
        clear hi366_12 hl366_12
        replace p366 := eq_true p366
        replace q366 := eq_true q366
        have p367 : 0 ≤ (x5_1 : Int) := of_decide_eq_true (by first | (with_reducible assumption) | assumption)
        have q367 : x5_1 < (l1.length : Int) := of_decide_eq_true (by first | (with_reducible assumption) | assumption)
        obtain ⟨ad367, A367_10, c367_10, A367_11, c367_11, A367_12, c367_12, e367, hx367_0, hx367_1, hx367_2, hx367_3, hx367_4, hx367_5, hx367_6, hx367_7, hx367_8, hx367_9, hx367_10, hx367_11, hx367_12, hx367_13, hx367_14, hx367_15, hl367_10, hi367_10, hl367_11, hi367_11, hl367_12, hi367_12⟩ := at_T105 HR1.out x5_1 p367 q367
        have hw367_15 := hx367_15
        have hw367_14 := hx367_14
        have hw367_13 := hx367_13
        have hw367_12 := hx367_12
        have hw367_11 := hx367_11
        have hw367_10 := hx367_10
        have hw367_9 := hx367_9
        have hw367_8 := hx367_8
        have hw367_7 := hx367_7
        have hw367_6 := hx367_6
        have hw367_5 := hx367_5
        have hw367_4 := hx367_4
        have hw367_3 := hx367_3
        have hw367_2 := hx367_2
        have hw367_1 := hx367_1
        have hw367_0 := hx367_0
        cases e367
        replace hx367_0 := cl12 HB hx367_0
        replace hx367_1 := cl12 HB hx367_1
        replace hx367_2 := cl12 HB hx367_2
        replace hx367_3 := cl12 HB hx367_3
        replace hx367_4 := cl12 HB hx367_4
        replace hx367_5 := cl12 HB hx367_5
        replace hx367_6 := cl12 HB hx367_6
        replace hx367_7 := cl12 HB hx367_7
        replace hx367_8 := cl12 HB hx367_8
        replace hx367_9 := cl12 HB hx367_9
        replace hx367_10 := cl12 HB hx367_10
        replace hx367_11 := cl12 HB hx367_11
        replace hx367_12 := cl12 HB hx367_12
        replace hx367_13 := cl12 HB hx367_13
        replace hx367_14 := cl12 HB hx367_14
        replace hx367_15 := cl12 HB hx367_15
        have HR367_10 := Am hi367_10
        have HC367_10 := Am hl367_10
        clear hi367_10 hl367_10
        have HR367_11 := Am hi367_11
        have HC367_11 := Am hl367_11
        clear hi367_11 hl367_11
        have HR367_12 := Am hi367_12
        have HC367_12 := Am hl367_12
        clear hi367_12 hl367_12
        replace p367 := eq_true p367
        replace q367 := eq_true q367
        refine start_ (n := 10) (S := fun w' => w'.cell? (ad366.add ((x5_1).toNat * 16)) = some (.int .i64 ((rd_T105 l0 x5_1).f0.f0)) ∧ w'.cell? ⟨(ad366.add ((x5_1).toNat * 16)).block, (ad366.add ((x5_1).toNat * 16)).off + 1, none⟩ = some (.string ((rd_T105 l0 x5_1).f0.f1)) ∧ w'.cell? ⟨(ad366.add ((x5_1).toNat * 16)).block, (ad366.add ((x5_1).toNat * 16)).off + 2, none⟩ = some (.string ((rd_T105 l0 x5_1).f0.f2)) ∧ w'.cell? ⟨(ad366.add ((x5_1).toNat * 16)).block, (ad366.add ((x5_1).toNat * 16)).off + 3, none⟩ = some (.int .i64 ((rd_T105 l0 x5_1).f0.f3)) ∧ w'.cell? ⟨(ad366.add ((x5_1).toNat * 16)).block, (ad366.add ((x5_1).toNat * 16)).off + 4, none⟩ = some (.int .i64 ((rd_T105 l0 x5_1).f0.f4)) ∧ w'.cell? ⟨(ad366.add ((x5_1).toNat * 16)).block, (ad366.add ((x5_1).toNat * 16)).off + 5, none⟩ = some (.string ((rd_T105 l0 x5_1).f0.f5)) ∧ w'.cell? ⟨(ad366.add ((x5_1).toNat * 16)).block, (ad366.add ((x5_1).toNat * 16)).off + 6, none⟩ = some (.int .i64 ((rd_T105 l0 x5_1).f1.f0)) ∧ w'.cell? ⟨(ad366.add ((x5_1).toNat * 16)).block, (ad366.add ((x5_1).toNat * 16)).off + 7, none⟩ = some (.string ((rd_T105 l0 x5_1).f1.f1)) ∧ w'.cell? ⟨(ad366.add ((x5_1).toNat * 16)).block, (ad366.add ((x5_1).toNat * 16)).off + 8, none⟩ = some (.int .i64 ((rd_T105 l0 x5_1).f1.f2)) ∧ w'.cell? ⟨(ad366.add ((x5_1).toNat * 16)).block, (ad366.add ((x5_1).toNat * 16)).off + 9, none⟩ = some (.bool ((rd_T105 l0 x5_1).f1.f3)) ∧ w'.cell? ⟨(ad366.add ((x5_1).toNat * 16)).block, (ad366.add ((x5_1).toNat * 16)).off + 10, none⟩ = some (.slice A366_10 ((rd_T105 l0 x5_1).f1.f4).length c366_10) ∧ w'.cell? ⟨(ad366.add ((x5_1).toNat * 16)).block, (ad366.add ((x5_1).toNat * 16)).off + 11, none⟩ = some (.slice A366_11 ((rd_T105 l0 x5_1).f2).length c366_11) ∧ w'.cell? ⟨(ad366.add ((x5_1).toNat * 16)).block, (ad366.add ((x5_1).toNat * 16)).off + 12, none⟩ = some (.slice A366_12 ((rd_T105 l0 x5_1).f3).length c366_12) ∧ w'.cell? ⟨(ad366.add ((x5_1).toNat * 16)).block, (ad366.add ((x5_1).toNat * 16)).off + 13, none⟩ = some (.int .i64 ((rd_T105 l0 x5_1).f4)) ∧ w'.cell? ⟨(ad366.add ((x5_1).toNat * 16)).block, (ad366.add ((x5_1).toNat * 16)).off + 14, none⟩ = some (.bool ((rd_T105 l0 x5_1).f5)) ∧ w'.cell? ⟨(ad366.add ((x5_1).toNat * 16)).block, (ad366.add ((x5_1).toNat * 16)).off + 15, none⟩ = some (.bool ((rd_T105 l0 x5_1).f6)) ∧ w'.cell? (ad367.add ((x5_1).toNat * 16)) = some (.int .i64 ((rd_T105 l1 x5_1).f0.f0)) ∧ w'.cell? ⟨(ad367.add ((x5_1).toNat * 16)).block, (ad367.add ((x5_1).toNat * 16)).off + 1, none⟩ = some (.string ((rd_T105 l1 x5_1).f0.f1)) ∧ w'.cell? ⟨(ad367.add ((x5_1).toNat * 16)).block, (ad367.add ((x5_1).toNat * 16)).off + 2, none⟩ = some (.string ((rd_T105 l1 x5_1).f0.f2)) ∧ w'.cell? ⟨(ad367.add ((x5_1).toNat * 16)).block, (ad367.add ((x5_1).toNat * 16)).off + 3, none⟩ = some (.int .i64 ((rd_T105 l1 x5_1).f0.f3)) ∧ w'.cell? ⟨(ad367.add ((x5_1).toNat * 16)).block, (ad367.add ((x5_1).toNat * 16)).off + 4, none⟩ = some (.int .i64 ((rd_T105 l1 x5_1).f0.f4)) ∧ w'.cell? ⟨(ad367.add ((x5_1).toNat * 16)).block, (ad367.add ((x5_1).toNat * 16)).off + 5, none⟩ = some (.string ((rd_T105 l1 x5_1).f0.f5)) ∧ w'.cell? ⟨(ad367.add ((x5_1).toNat * 16)).block, (ad367.add ((x5_1).toNat * 16)).off + 6, none⟩ = some (.int .i64 ((rd_T105 l1 x5_1).f1.f0)) ∧ w'.cell? ⟨(ad367.add ((x5_1).toNat * 16)).block, (ad367.add ((x5_1).toNat * 16)).off + 7, none⟩ = some (.string ((rd_T105 l1 x5_1).f1.f1)) ∧ w'.cell? ⟨(ad367.add ((x5_1).toNat * 16)).block, (ad367.add ((x5_1).toNat * 16)).off + 8, none⟩ = some (.int .i64 ((rd_T105 l1 x5_1).f1.f2)) ∧ w'.cell? ⟨(ad367.add ((x5_1).toNat * 16)).block, (ad367.add ((x5_1).toNat * 16)).off + 9, none⟩ = some (.bool ((rd_T105 l1 x5_1).f1.f3)) ∧ w'.cell? ⟨(ad367.add ((x5_1).toNat * 16)).block, (ad367.add ((x5_1).toNat * 16)).off + 10, none⟩ = some (.slice A367_10 ((rd_T105 l1 x5_1).f1.f4).length c367_10) ∧ w'.cell? ⟨(ad367.add ((x5_1).toNat * 16)).block, (ad367.add ((x5_1).toNat * 16)).off + 11, none⟩ = some (.slice A367_11 ((rd_T105 l1 x5_1).f2).length c367_11) ∧ w'.cell? ⟨(ad367.add ((x5_1).toNat * 16)).block, (ad367.add ((x5_1).toNat * 16)).off + 12, none⟩ = some (.slice A367_12 ((rd_T105 l1 x5_1).f3).length c367_12) ∧ w'.cell? ⟨(ad367.add ((x5_1).toNat * 16)).block, (ad367.add ((x5_1).toNat * 16)).off + 13, none⟩ = some (.int .i64 ((rd_T105 l1 x5_1).f4)) ∧ w'.cell? ⟨(ad367.add ((x5_1).toNat * 16)).block, (ad367.add ((x5_1).toNat * 16)).off + 14, none⟩ = some (.bool ((rd_T105 l1 x5_1).f5)) ∧ w'.cell? ⟨(ad367.add ((x5_1).toNat * 16)).block, (ad367.add ((x5_1).toNat * 16)).off + 15, none⟩ = some (.bool ((rd_T105 l1 x5_1).f6))) (ds := []) #[false, false, false, false, false, false, false, false, false, false] (by kernel_rfl) rfl rfl ⟨(cl12 HB hw366_0), (cl12 HB hw366_1), (cl12 HB hw366_2), (cl12 HB hw366_3), (cl12 HB hw366_4), (cl12 HB hw366_5), (cl12 HB hw366_6), (cl12 HB hw366_7), (cl12 HB hw366_8), (cl12 HB hw366_9), (cl12 HB hw366_10), (cl12 HB hw366_11), (cl12 HB hw366_12), (cl12 HB hw366_13), (cl12 HB hw366_14), (cl12 HB hw366_15), (cl12 HB hw367_0), (cl12 HB hw367_1), (cl12 HB hw367_2), (cl12 HB hw367_3), (cl12 HB hw367_4), (cl12 HB hw367_5), (cl12 HB hw367_6), (cl12 HB hw367_7), (cl12 HB hw367_8), (cl12 HB hw367_9), (cl12 HB hw367_10), (cl12 HB hw367_11), (cl12 HB hw367_12), (cl12 HB hw367_13), (cl12 HB hw367_14), (cl12 HB hw367_15)⟩ (fun hHeld => ?_); refine with_tabW laws_eqJobS.tab6 laws_eqJobS.bits6 (fun HT_ HW_ => ?_)
        generalize wr.drew = w9 at HB HR366_10 HR366_11 HR366_12 HR367_10 HR367_11 HR367_12 hx366_0 hx366_1 hx366_10 hx366_11 hx366_12 hx366_13 hx366_14 hx366_15 hx366_2 hx366_3 hx366_4 hx366_5 hx366_6 hx366_7 hx366_8 hx366_9 hx367_0 hx367_1 hx367_10 hx367_11 hx367_12 hx367_13 hx367_14 hx367_15 hx367_2 hx367_3 hx367_4 hx367_5 hx367_6 hx367_7 hx367_8 hx367_9 hHeld ⊢
        refine zA 0 (some 17) HT_.out rfl rfl ?_
        refine zA 1 (some 18) HT_.out rfl rfl ?_
        refine zA 2 (some 19) HT_.out rfl rfl ?_
        refine zA 4 (some 21) HT_.out rfl rfl ?_
        refine zA 5 (some 22) HT_.out rfl rfl ?_
        refine zA 6 (some 23) HT_.out rfl rfl ?_
        refine zT 3 (some 20) HT_.out HW_.out rfl rfl hHeld ?_
        refine zT 7 (some 24) HT_.out HW_.out rfl rfl hHeld ?_
        refine zO 8 (some 25) HT_.out rfl rfl (fun K hK => ?_)
        refine goes_ Try.func119 (by kernel_rfl) rfl #[.agg #[.int .i64 ((rd_T105 l0 x5_1).f0.f0), .string ((rd_T105 l0 x5_1).f0.f1), .string ((rd_T105 l0 x5_1).f0.f2), .int .i64 ((rd_T105 l0 x5_1).f0.f3), .int .i64 ((rd_T105 l0 x5_1).f0.f4), .string ((rd_T105 l0 x5_1).f0.f5), .int .i64 ((rd_T105 l0 x5_1).f1.f0), .string ((rd_T105 l0 x5_1).f1.f1), .int .i64 ((rd_T105 l0 x5_1).f1.f2), .bool ((rd_T105 l0 x5_1).f1.f3), .slice A366_10 ((rd_T105 l0 x5_1).f1.f4).length c366_10, .slice A366_11 ((rd_T105 l0 x5_1).f2).length c366_11, .slice A366_12 ((rd_T105 l0 x5_1).f3).length c366_12, .int .i64 ((rd_T105 l0 x5_1).f4), .bool ((rd_T105 l0 x5_1).f5), .bool ((rd_T105 l0 x5_1).f6)], .agg #[.int .i64 ((rd_T105 l1 x5_1).f0.f0), .string ((rd_T105 l1 x5_1).f0.f1), .string ((rd_T105 l1 x5_1).f0.f2), .int .i64 ((rd_T105 l1 x5_1).f0.f3), .int .i64 ((rd_T105 l1 x5_1).f0.f4), .string ((rd_T105 l1 x5_1).f0.f5), .int .i64 ((rd_T105 l1 x5_1).f1.f0), .string ((rd_T105 l1 x5_1).f1.f1), .int .i64 ((rd_T105 l1 x5_1).f1.f2), .bool ((rd_T105 l1 x5_1).f1.f3), .slice A367_10 ((rd_T105 l1 x5_1).f1.f4).length c367_10, .slice A367_11 ((rd_T105 l1 x5_1).f2).length c367_11, .slice A367_12 ((rd_T105 l1 x5_1).f3).length c367_12, .int .i64 ((rd_T105 l1 x5_1).f4), .bool ((rd_T105 l1 x5_1).f5), .bool ((rd_T105 l1 x5_1).f6)]] (by rfl) rfl rfl (by (try simp only [List.map_toArray, List.map_cons, List.map_nil]); first | done | rfl | (simp only [List.length_drop, List.length_take]; rfl)) ?_
        with_reducible refine (laws_eqJob.calls k1 ((rd_T105 l0 x5_1).f0.f0) ((rd_T105 l0 x5_1).f0.f1) ((rd_T105 l0 x5_1).f0.f2) ((rd_T105 l0 x5_1).f0.f3) ((rd_T105 l0 x5_1).f0.f4) ((rd_T105 l0 x5_1).f0.f5) ((rd_T105 l0 x5_1).f1.f0) ((rd_T105 l0 x5_1).f1.f1) ((rd_T105 l0 x5_1).f1.f2) ((rd_T105 l0 x5_1).f1.f3) _ _ ((rd_T105 l0 x5_1).f1.f4) _ _ ((rd_T105 l0 x5_1).f2) _ _ ((rd_T105 l0 x5_1).f3) ((rd_T105 l0 x5_1).f4) ((rd_T105 l0 x5_1).f5) ((rd_T105 l0 x5_1).f6) ((rd_T105 l1 x5_1).f0.f0) ((rd_T105 l1 x5_1).f0.f1) ((rd_T105 l1 x5_1).f0.f2) ((rd_T105 l1 x5_1).f0.f3) ((rd_T105 l1 x5_1).f0.f4) ((rd_T105 l1 x5_1).f0.f5) ((rd_T105 l1 x5_1).f1.f0) ((rd_T105 l1 x5_1).f1.f1) ((rd_T105 l1 x5_1).f1.f2) ((rd_T105 l1 x5_1).f1.f3) _ _ ((rd_T105 l1 x5_1).f1.f4) _ _ ((rd_T105 l1 x5_1).f2) _ _ ((rd_T105 l1 x5_1).f3) ((rd_T105 l1 x5_1).f4) ((rd_T105 l1 x5_1).f5) ((rd_T105 l1 x5_1).f6) true _ ?side1 ?side2 ?side3 ?side4 ?side5 ?side6 ?side7 ?side8 ?side9 ?side10 ?side11 ?side12 A7.out).mono ?_
        (case side1 => repeat (first | exact (cb HR366_10.out HB.out) | (with_reducible first | refine ca ?_ _ | refine cn ?_ _ | refine ce ?_)))
        (case side2 => exact HC366_10.out)
        (case side3 => repeat (first | exact (cb HR366_11.out HB.out) | (with_reducible first | refine ca ?_ _ | refine cn ?_ _ | refine ce ?_)))
        (case side4 => exact HC366_11.out)
        (case side5 => repeat (first | exact (cb HR366_12.out HB.out) | (with_reducible first | refine ca ?_ _ | refine cn ?_ _ | refine ce ?_)))
        (case side6 => exact HC366_12.out)
        (case side7 => repeat (first | exact (cb HR367_10.out HB.out) | (with_reducible first | refine ca ?_ _ | refine cn ?_ _ | refine ce ?_)))
        (case side8 => exact HC367_10.out)
        (case side9 => repeat (first | exact (cb HR367_11.out HB.out) | (with_reducible first | refine ca ?_ _ | refine cn ?_ _ | refine ce ?_)))
        (case side10 => exact HC367_11.out)
        (case side11 => repeat (first | exact (cb HR367_12.out HB.out) | (with_reducible first | refine ca ?_ _ | refine cn ?_ _ | refine ce ?_)))
        (case side12 => exact HC367_12.out)
        rintro e w10 ⟨rfl, hb⟩
        refine ⟨_, rfl, ?_⟩
        have n0_ := Am (bq zB hb)
        clear HB
        have HB := n0_
        clear n0_
        (try clear hb)
        (try clear hb2)
        (try clear hk)
        (try clear hi)
        refine hK.out _ _ ⟨(cl12 HB hw366_0 :), (cl12 HB hw366_1 :), (cl12 HB hw366_2 :), (cl12 HB hw366_3 :), (cl12 HB hw366_4 :), (cl12 HB hw366_5 :), (cl12 HB hw366_6 :), (cl12 HB hw366_7 :), (cl12 HB hw366_8 :), (cl12 HB hw366_9 :), (cl12 HB hw366_10 :), (cl12 HB hw366_11 :), (cl12 HB hw366_12 :), (cl12 HB hw366_13 :), (cl12 HB hw366_14 :), (cl12 HB hw366_15 :), (cl12 HB hw367_0 :), (cl12 HB hw367_1 :), (cl12 HB hw367_2 :), (cl12 HB hw367_3 :), (cl12 HB hw367_4 :), (cl12 HB hw367_5 :), (cl12 HB hw367_6 :), (cl12 HB hw367_7 :), (cl12 HB hw367_8 :), (cl12 HB hw367_9 :), (cl12 HB hw367_10 :), (cl12 HB hw367_11 :), (cl12 HB hw367_12 :), (cl12 HB hw367_13 :), (cl12 HB hw367_14 :), (cl12 HB hw367_15 :)⟩ (fun hHeld => ?_)
        clear hK K
        refine zN (some 25) ?_
        refine zA 9 (some 26) HT_.out rfl rfl ?_
        refine done_ (done_of HT_.out (by kernel_rfl)) ?_
        try go_wp2
        go_roundg k1
        case measure => have := HK1.out; omega
        case rel => exact ⟨(wrap64 (x5_1 + 1)), (by first | rfl | (simp; done) | (simp [*]; done)), H', ⟨by have := HK1.out; omega⟩, ⟨zB⟩⟩
       ·replace c8 := Bool.eq_false_iff.mpr c8
        subst c8
        have H1 : (none) = some r := by rw [if_neg (show ¬ (false = true) by decide)] at H; exact H
        exact absurd H1 (by simp)
      ·rw [if_neg c6] at H
       exact absurd H (by simp)
     ·rw [if_neg c5] at H
      exact absurd H (by simp)
    ·rw [if_neg c4] at H
     have c4b0 : decide (x5_1 < (l0.length : Int)) = false := decide_eq_false c4
     clear c4
     obtain rfl := Option.some.inj H
     go_wp2
     go_ret
     exact ⟨zR, zB⟩
 ·rw [if_neg c3] at H
  exact absurd H (by simp)/-! ### laws_eqSystem: function 20 -/
def laws_eqSystem.f (k : Nat) (a0_0 : Int) (a0_1 : Int) (a0_2 : Int) (a0_3 : Int) (a0_4 : ByteArray) (l0_5 : List (S155)) (l0_6 : List (S105)) (l0_7 : List (S166)) (a1_0 : Int) (a1_1 : Int) (a1_2 : Int) (a1_3 : Int) (a1_4 : ByteArray) (l1_5 : List (S155)) (l1_6 : List (S105)) (l1_7 : List (S166)) : Option (Bool) := (laws_eqGeo.f a0_0 a0_1 a0_2 a0_3 a1_0 a1_1 a1_2 a1_3).bind fun t371 => (if t371 = true then ((laws_eqMemory.f k a0_4 l0_5 a1_4 l1_5).bind fun t372 => (if t372 = true then ((laws_eqJobS.f k l0_6 l1_6).bind fun t373 => (if t373 = true then ((laws_eqSealingS.f k l0_7 l1_7).bind fun t374 => (if t374 = true then (some true) else (none))) else (none))) else (none))) else (none))
theorem laws_eqSystem.mono : ∀ a0 a1 a2 a3 a4 a5 a6 a7 a8 a9 a10 a11 a12 a13 a14 a15 k, LeO (laws_eqSystem.f k a0 a1 a2 a3 a4 a5 a6 a7 a8 a9 a10 a11 a12 a13 a14 a15) (laws_eqSystem.f (k + 1) a0 a1 a2 a3 a4 a5 a6 a7 a8 a9 a10 a11 a12 a13 a14 a15) := by
 intro a0 a1 a2 a3 a4 a5 a6 a7 a8 a9 a10 a11 a12 a13 a14 a15 k
 unfold laws_eqSystem.f
 repeat' first
   | (with_reducible exact laws_eqJobS.mono _ _ _)
   | (with_reducible exact laws_eqMemory.mono _ _ _ _ _)
   | (with_reducible exact laws_eqSealingS.mono _ _ _)
   | (with_reducible exact LeO.refl _)
   | (with_reducible exact LeO.none _)
   | (with_reducible refine LeO.ite ?_ ?_)
   | (with_reducible refine LeO.bind ?_ (fun _ => ?_))
   | exact laws_eqJobS.mono _ _ _
   | exact laws_eqMemory.mono _ _ _ _ _
   | exact laws_eqSealingS.mono _ _ _
   | exact LeO.none _
   | refine LeO.ite ?_ ?_
   | refine LeO.bind ?_ (fun _ => ?_)
set_option maxHeartbeats 8000000 in
set_option maxRecDepth 100000 in
theorem laws_eqSystem.calls (k : Nat) (a0_0 : Int) (a0_1 : Int) (a0_2 : Int) (a0_3 : Int) (a0_4 : ByteArray) (A0_5 : Option Addr) (c0_5 : Nat) (l0_5 : List (S155)) (A0_6 : Option Addr) (c0_6 : Nat) (l0_6 : List (S105)) (A0_7 : Option Addr) (c0_7 : Nat) (l0_7 : List (S166)) (a1_0 : Int) (a1_1 : Int) (a1_2 : Int) (a1_3 : Int) (a1_4 : ByteArray) (A1_5 : Option Addr) (c1_5 : Nat) (l1_5 : List (S155)) (A1_6 : Option Addr) (c1_6 : Nat) (l1_6 : List (S105)) (A1_7 : Option Addr) (c1_7 : Nat) (l1_7 : List (S166)) (r : Bool) (w : World) (hr0_5 : Kd.C k155 w A0_5 l0_5.length l0_5) (hc0_5 : l0_5.length ≤ c0_5) (hr0_6 : Kd.C k105 w A0_6 l0_6.length l0_6) (hc0_6 : l0_6.length ≤ c0_6) (hr0_7 : Kd.C k166 w A0_7 l0_7.length l0_7) (hc0_7 : l0_7.length ≤ c0_7) (hr1_5 : Kd.C k155 w A1_5 l1_5.length l1_5) (hc1_5 : l1_5.length ≤ c1_5) (hr1_6 : Kd.C k105 w A1_6 l1_6.length l1_6) (hc1_6 : l1_6.length ≤ c1_6) (hr1_7 : Kd.C k166 w A1_7 l1_7.length l1_7) (hc1_7 : l1_7.length ≤ c1_7) (h : laws_eqSystem.f k a0_0 a0_1 a0_2 a0_3 a0_4 l0_5 l0_6 l0_7 a1_0 a1_1 a1_2 a1_3 a1_4 l1_5 l1_6 l1_7 = some r) :
  Calls Try.prog 20 #[.agg #[.int .i64 a0_0, .int .i64 a0_1, .int .i64 a0_2, .int .i64 a0_3, .string a0_4, .slice A0_5 l0_5.length c0_5, .slice A0_6 l0_6.length c0_6, .slice A0_7 l0_7.length c0_7], .agg #[.int .i64 a1_0, .int .i64 a1_1, .int .i64 a1_2, .int .i64 a1_3, .string a1_4, .slice A1_5 l1_5.length c1_5, .slice A1_6 l1_6.length c1_6, .slice A1_7 l1_7.length c1_7]] w fun e w' => e = .returned (.bool r) ∧ Below w.heap.size w w' := by
 have hu46 := Try.underlying46
 have hu29 := Try.underlying29
 have hu33 := Try.underlying33
 have HR0_5 := Am hr0_5
 have HC0_5 := Am hc0_5
 clear hr0_5 hc0_5
 have HR0_6 := Am hr0_6
 have HC0_6 := Am hc0_6
 clear hr0_6 hc0_6
 have HR0_7 := Am hr0_7
 have HC0_7 := Am hc0_7
 clear hr0_7 hc0_7
 have HR1_5 := Am hr1_5
 have HC1_5 := Am hc1_5
 clear hr1_5 hc1_5
 have HR1_6 := Am hr1_6
 have HC1_6 := Am hc1_6
 clear hr1_6 hc1_6
 have HR1_7 := Am hr1_7
 have HC1_7 := Am hc1_7
 clear hr1_7 hc1_7
 have HB := Am (Below.refl w.heap.size w)
 have H : ((laws_eqGeo.f a0_0 a0_1 a0_2 a0_3 a1_0 a1_1 a1_2 a1_3).bind fun t371 => (if t371 = true then ((laws_eqMemory.f k a0_4 l0_5 a1_4 l1_5).bind fun t372 => (if t372 = true then ((laws_eqJobS.f k l0_6 l1_6).bind fun t373 => (if t373 = true then ((laws_eqSealingS.f k l0_7 l1_7).bind fun t374 => (if t374 = true then (some true) else (none))) else (none))) else (none))) else (none))) = some r := h
 clear h
 replace H := Option.bind_eq_some_iff.mp H
 obtain ⟨t371, A30, H⟩ := H
 replace H : (if t371 = true then ((laws_eqMemory.f k a0_4 l0_5 a1_4 l1_5).bind fun t372 => (if t372 = true then ((laws_eqJobS.f k l0_6 l1_6).bind fun t373 => (if t373 = true then ((laws_eqSealingS.f k l0_7 l1_7).bind fun t374 => (if t374 = true then (some true) else (none))) else (none))) else (none))) else (none)) = some r := H
 have A3 := Am A30
 clear A30
 by_cases c4 : t371 = true
 ·subst c4
  have H1 : ((laws_eqMemory.f k a0_4 l0_5 a1_4 l1_5).bind fun t372 => (if t372 = true then ((laws_eqJobS.f k l0_6 l1_6).bind fun t373 => (if t373 = true then ((laws_eqSealingS.f k l0_7 l1_7).bind fun t374 => (if t374 = true then (some true) else (none))) else (none))) else (none))) = some r := by rw [if_pos rfl] at H; exact H
  clear H
  have H := H1
  clear H1
  replace H := Option.bind_eq_some_iff.mp H
  obtain ⟨t372, A50, H⟩ := H
  replace H : (if t372 = true then ((laws_eqJobS.f k l0_6 l1_6).bind fun t373 => (if t373 = true then ((laws_eqSealingS.f k l0_7 l1_7).bind fun t374 => (if t374 = true then (some true) else (none))) else (none))) else (none)) = some r := H
  have A5 := Am A50
  clear A50
  by_cases c6 : t372 = true
  ·subst c6
   have H1 : ((laws_eqJobS.f k l0_6 l1_6).bind fun t373 => (if t373 = true then ((laws_eqSealingS.f k l0_7 l1_7).bind fun t374 => (if t374 = true then (some true) else (none))) else (none))) = some r := by rw [if_pos rfl] at H; exact H
   clear H
   have H := H1
   clear H1
   replace H := Option.bind_eq_some_iff.mp H
   obtain ⟨t373, A70, H⟩ := H
   replace H : (if t373 = true then ((laws_eqSealingS.f k l0_7 l1_7).bind fun t374 => (if t374 = true then (some true) else (none))) else (none)) = some r := H
   have A7 := Am A70
   clear A70
   by_cases c8 : t373 = true
   ·subst c8
    have H1 : ((laws_eqSealingS.f k l0_7 l1_7).bind fun t374 => (if t374 = true then (some true) else (none))) = some r := by rw [if_pos rfl] at H; exact H
    clear H
    have H := H1
    clear H1
    replace H := Option.bind_eq_some_iff.mp H
    obtain ⟨t374, A90, H⟩ := H
    replace H : (if t374 = true then (some true) else (none)) = some r := H
    have A9 := Am A90
    clear A90
    by_cases c10 : t374 = true
    ·subst c10
     have H1 : (some true) = some r := by rw [if_pos rfl] at H; exact H
     clear H
     have H := H1
     clear H1
     obtain rfl := Option.some.inj H
     go_enter Try.func20, Try.ntmps20
     go_wp2_with (first | ((with_reducible refine gate_dst (N := 2) rfl ?_); refine box_event ?hg (N := 2) ?hd (cs := #[.int .i64 a0_0, .int .i64 a0_1, .int .i64 a0_2, .int .i64 a0_3, .string a0_4, .slice A0_5 l0_5.length c0_5, .slice A0_6 l0_6.length c0_6, .slice A0_7 l0_7.length c0_7]) (t := 46) ?hr ?_; (case hd => rfl); (case hg => rfl); (case hr => first | (go_simp; done) | (go_simp; rfl)); intro gb369 hg w11 hbox hb; have BK369 := Am (hbox); have GW369 := Am ((by rw [hg]; exact (bz zB) : w.heap.size ≤ gb369)); have GE369 := Am ((by rw [hg]; exact (bz zB) : w.heap.size ≤ gb369)); replace HB := Am (bq zB hb); clear hb hbox hg) | ((with_reducible refine gate_dst (N := 3) rfl ?_); refine box_event ?hg (N := 3) ?hd (cs := #[.int .i64 a1_0, .int .i64 a1_1, .int .i64 a1_2, .int .i64 a1_3, .string a1_4, .slice A1_5 l1_5.length c1_5, .slice A1_6 l1_6.length c1_6, .slice A1_7 l1_7.length c1_7]) (t := 46) ?hr ?_; (case hd => rfl); (case hg => rfl); (case hr => first | (go_simp; done) | (go_simp; rfl)); intro gb370 hg w12 hbox hb; have n0_ := Am (zK BK369 hb); have n1_ := Am (bq zG hb); have n2_ := Am (hbox); have n3_ := Am ((by rw [hg]; exact (bz zG) : w.heap.size ≤ gb370)); have n4_ := Am ((by rw [hg]; exact (bz zG) : w.heap.size ≤ gb370)); have n5_ := Am ((by rw [hg]; exact Nat.ne_of_lt (zL BK369) : gb369 ≠ gb370)); have n6_ := Am ((by rw [hg]; exact Nat.ne_of_gt (zL BK369) : gb370 ≠ gb369)); clear BK369; clear HB; have BK369 := n0_; have HB := n1_; have BK370 := n2_; have GW370 := n3_; have GE370 := n4_; have NB369_370 := n5_; have NB370_369 := n6_; clear n0_ n1_ n2_ n3_ n4_ n5_ n6_; clear hb hbox hg; have hnb13 := NB369_370.out; have hnc13 := NB370_369.out; obtain ⟨hcz14_0, hcz14_1, hcz14_2, hcz14_3, hcz14_4, hcz14_5, hcz14_6, hcz14_7⟩ := kc8 (w := w12) BK369.out; have hfz14_0 := kf BK369.out; obtain ⟨hcz15_0, hcz15_1, hcz15_2, hcz15_3, hcz15_4, hcz15_5, hcz15_6, hcz15_7⟩ := kc8 (w := w12) BK370.out; have hfz15_0 := kf BK370.out) | ((with_reducible refine gate_callee (f := 69) rfl ?_); refine zC (some 9) rfl rfl Try.func69 rfl #[.agg #[.int .i64 a0_0, .int .i64 a0_1, .int .i64 a0_2, .int .i64 a0_3], .agg #[.int .i64 a1_0, .int .i64 a1_1, .int .i64 a1_2, .int .i64 a1_3]] rfl ?_; (with_reducible refine (laws_eqGeo.calls a0_0 a0_1 a0_2 a0_3 a1_0 a1_1 a1_2 a1_3 true _ A3.out).mono ?_); rintro e w16 ⟨rfl, hb⟩; refine ⟨_, rfl, ?_⟩; have n0_ := Am (zK BK369 hb); have n1_ := Am (zK BK370 hb); have n2_ := Am (bq zG hb); clear BK369; clear BK370; clear HB; have BK369 := n0_; have BK370 := n1_; have HB := n2_; clear n0_ n1_ n2_; (try clear hb); obtain ⟨hcz17_0, hcz17_1, hcz17_2, hcz17_3, hcz17_4, hcz17_5, hcz17_6, hcz17_7⟩ := kc8 (w := w16) BK369.out; have hfz17_0 := kf BK369.out; obtain ⟨hcz18_0, hcz18_1, hcz18_2, hcz18_3, hcz18_4, hcz18_5, hcz18_6, hcz18_7⟩ := kc8 (w := w16) BK370.out; have hfz18_0 := kf BK370.out) | ((with_reducible refine gate_callee (f := 15) rfl ?_); refine zC (some 15) rfl rfl Try.func15 rfl #[.agg #[.string a0_4, .slice A0_5 l0_5.length c0_5], .agg #[.string a1_4, .slice A1_5 l1_5.length c1_5]] rfl ?_; (with_reducible refine (laws_eqMemory.calls k a0_4 _ _ l0_5 a1_4 _ _ l1_5 true _ ?side1 ?side2 ?side3 ?side4 A5.out).mono ?_); (case side1 => repeat (first | exact (cb HR0_5.out HB.out) | (with_reducible first | refine ca ?_ _ | refine cn ?_ _ | refine ce ?_))); (case side2 => exact HC0_5.out); (case side3 => repeat (first | exact (cb HR1_5.out HB.out) | (with_reducible first | refine ca ?_ _ | refine cn ?_ _ | refine ce ?_))); (case side4 => exact HC1_5.out); rintro e w19 ⟨rfl, hb⟩; refine ⟨_, rfl, ?_⟩; have n0_ := Am (zK BK369 hb); have n1_ := Am (zK BK370 hb); have n2_ := Am (bq zG hb); clear BK369; clear BK370; clear HB; have BK369 := n0_; have BK370 := n1_; have HB := n2_; clear n0_ n1_ n2_; (try clear hb); obtain ⟨hcz20_0, hcz20_1, hcz20_2, hcz20_3, hcz20_4, hcz20_5, hcz20_6, hcz20_7⟩ := kc8 (w := w19) BK369.out; have hfz20_0 := kf BK369.out; obtain ⟨hcz21_0, hcz21_1, hcz21_2, hcz21_3, hcz21_4, hcz21_5, hcz21_6, hcz21_7⟩ := kc8 (w := w19) BK370.out; have hfz21_0 := kf BK370.out) | ((with_reducible refine gate_callee (f := 70) rfl ?_); refine zC (some 21) rfl rfl Try.func70 rfl #[.slice A0_6 l0_6.length c0_6, .slice A1_6 l1_6.length c1_6] rfl ?_; (with_reducible refine (laws_eqJobS.calls k _ _ l0_6 _ _ l1_6 true _ ?side1 ?side2 ?side3 ?side4 A7.out).mono ?_); (case side1 => repeat (first | exact (cb HR0_6.out HB.out) | (with_reducible first | refine ca ?_ _ | refine cn ?_ _ | refine ce ?_))); (case side2 => exact HC0_6.out); (case side3 => repeat (first | exact (cb HR1_6.out HB.out) | (with_reducible first | refine ca ?_ _ | refine cn ?_ _ | refine ce ?_))); (case side4 => exact HC1_6.out); rintro e w22 ⟨rfl, hb⟩; refine ⟨_, rfl, ?_⟩; have n0_ := Am (zK BK369 hb); have n1_ := Am (zK BK370 hb); have n2_ := Am (bq zG hb); clear BK369; clear BK370; clear HB; have BK369 := n0_; have BK370 := n1_; have HB := n2_; clear n0_ n1_ n2_; (try clear hb); obtain ⟨hcz23_0, hcz23_1, hcz23_2, hcz23_3, hcz23_4, hcz23_5, hcz23_6, hcz23_7⟩ := kc8 (w := w22) BK369.out; have hfz23_0 := kf BK369.out; obtain ⟨hcz24_0, hcz24_1, hcz24_2, hcz24_3, hcz24_4, hcz24_5, hcz24_6, hcz24_7⟩ := kc8 (w := w22) BK370.out; have hfz24_0 := kf BK370.out) | ((with_reducible refine gate_callee (f := 71) rfl ?_); refine zC (some 27) rfl rfl Try.func71 rfl #[.slice A0_7 l0_7.length c0_7, .slice A1_7 l1_7.length c1_7] rfl ?_; (with_reducible refine (laws_eqSealingS.calls k _ _ l0_7 _ _ l1_7 true _ ?side1 ?side2 ?side3 ?side4 A9.out).mono ?_); (case side1 => repeat (first | exact (cb HR0_7.out HB.out) | (with_reducible first | refine ca ?_ _ | refine cn ?_ _ | refine ce ?_))); (case side2 => exact HC0_7.out); (case side3 => repeat (first | exact (cb HR1_7.out HB.out) | (with_reducible first | refine ca ?_ _ | refine cn ?_ _ | refine ce ?_))); (case side4 => exact HC1_7.out); rintro e w25 ⟨rfl, hb⟩; refine ⟨_, rfl, ?_⟩; have n0_ := Am (zK BK369 hb); have n1_ := Am (zK BK370 hb); have n2_ := Am (bq zG hb); clear BK369; clear BK370; clear HB; have BK369 := n0_; have BK370 := n1_; have HB := n2_; clear n0_ n1_ n2_; (try clear hb)))
     go_ret
     exact ⟨zR, zG⟩
    ·replace c10 := Bool.eq_false_iff.mpr c10
     subst c10
     have H1 : (none) = some r := by rw [if_neg (show ¬ (false = true) by decide)] at H; exact H
     exact absurd H1 (by simp)
   ·replace c8 := Bool.eq_false_iff.mpr c8
    subst c8
    have H1 : (none) = some r := by rw [if_neg (show ¬ (false = true) by decide)] at H; exact H
    exact absurd H1 (by simp)
  ·replace c6 := Bool.eq_false_iff.mpr c6
   subst c6
   have H1 : (none) = some r := by rw [if_neg (show ¬ (false = true) by decide)] at H; exact H
   exact absurd H1 (by simp)
 ·replace c4 := Bool.eq_false_iff.mpr c4
  subst c4
  have H1 : (none) = some r := by rw [if_neg (show ¬ (false = true) by decide)] at H; exact H
  exact absurd H1 (by simp)/-! ### laws_eqItem: function 159 -/
def laws_eqItem.f (a0_0 : ByteArray) (a0_1 : Bool) (a0_2 : ByteArray) (a1_0 : ByteArray) (a1_1 : Bool) (a1_2 : ByteArray) : Option (Bool) := if a0_0.toList = a1_0.toList then (if (a0_1 != a1_1) = true then (none) else (if a0_2.toList = a1_2.toList then (some true) else (none))) else (none)
set_option maxHeartbeats 8000000 in
set_option maxRecDepth 100000 in
theorem laws_eqItem.calls (a0_0 : ByteArray) (a0_1 : Bool) (a0_2 : ByteArray) (a1_0 : ByteArray) (a1_1 : Bool) (a1_2 : ByteArray) (r : Bool) (w : World) (h : laws_eqItem.f a0_0 a0_1 a0_2 a1_0 a1_1 a1_2 = some r) :
  Calls Try.prog 159 #[.agg #[.string a0_0, .bool a0_1, .string a0_2], .agg #[.string a1_0, .bool a1_1, .string a1_2]] w fun e w' => e = .returned (.bool r) ∧ Below w.heap.size w w' := by
 have hu176 := Try.underlying176
 have HB := Am (Below.refl w.heap.size w)
 have H : (if a0_0.toList = a1_0.toList then (if (a0_1 != a1_1) = true then (none) else (if a0_2.toList = a1_2.toList then (some true) else (none))) else (none)) = some r := h
 clear h
 by_cases c3 : a0_0.toList = a1_0.toList
 ·rw [if_pos c3] at H
  have c3b0 : (a0_0.toList == a1_0.toList) = true := beq_iff_eq.mpr c3
  have c3b1 : (a0_0.toList != a1_0.toList) = false := bne_eq_false_iff_eq.mpr c3
  clear c3
  by_cases c4 : (a0_1 != a1_1) = true
  ·rw [if_pos c4] at H
   exact absurd H (by simp)
  ·rw [if_neg c4] at H
   have c4b0 : (a0_1 != a1_1) = false := by simpa using c4
   (try (have c4b1 : decide (a0_1 = a1_1) = true := by simpa using c4))
   (try (have c4b2 : (a0_1 == a1_1) = true := by simpa using c4))
   clear c4
   by_cases c10 : a0_2.toList = a1_2.toList
   ·rw [if_pos c10] at H
    have c10b0 : (a0_2.toList == a1_2.toList) = true := beq_iff_eq.mpr c10
    have c10b1 : (a0_2.toList != a1_2.toList) = false := bne_eq_false_iff_eq.mpr c10
    clear c10
    obtain rfl := Option.some.inj H
    go_enter Try.func159, Try.ntmps159
    go_wp2_with (first | ((with_reducible refine gate_dst (N := 2) rfl ?_); refine box_event ?hg (N := 2) ?hd (cs := #[.string a0_0, .bool a0_1, .string a0_2]) (t := 176) ?hr ?_; (case hd => rfl); (case hg => rfl); (case hr => first | (go_simp; done) | (go_simp; rfl)); intro gb375 hg w11 hbox hb; have BK375 := Am (hbox); have GW375 := Am ((by rw [hg]; exact (bz zB) : w.heap.size ≤ gb375)); have GE375 := Am ((by rw [hg]; exact (bz zB) : w.heap.size ≤ gb375)); replace HB := Am (bq zB hb); clear hb hbox hg) | ((with_reducible refine gate_dst (N := 3) rfl ?_); refine box_event ?hg (N := 3) ?hd (cs := #[.string a1_0, .bool a1_1, .string a1_2]) (t := 176) ?hr ?_; (case hd => rfl); (case hg => rfl); (case hr => first | (go_simp; done) | (go_simp; rfl)); intro gb376 hg w12 hbox hb; have n0_ := Am (zK BK375 hb); have n1_ := Am (bq zG hb); have n2_ := Am (hbox); have n3_ := Am ((by rw [hg]; exact (bz zG) : w.heap.size ≤ gb376)); have n4_ := Am ((by rw [hg]; exact (bz zG) : w.heap.size ≤ gb376)); have n5_ := Am ((by rw [hg]; exact Nat.ne_of_lt (zL BK375) : gb375 ≠ gb376)); have n6_ := Am ((by rw [hg]; exact Nat.ne_of_gt (zL BK375) : gb376 ≠ gb375)); clear BK375; clear HB; have BK375 := n0_; have HB := n1_; have BK376 := n2_; have GW376 := n3_; have GE376 := n4_; have NB375_376 := n5_; have NB376_375 := n6_; clear n0_ n1_ n2_ n3_ n4_ n5_ n6_; clear hb hbox hg; have hnb13 := NB375_376.out; have hnc13 := NB376_375.out; obtain ⟨hcz14_0, hcz14_1, hcz14_2⟩ := kc3 (w := w12) BK375.out; have hfz14_0 := kf BK375.out; obtain ⟨hcz15_0, hcz15_1, hcz15_2⟩ := kc3 (w := w12) BK376.out; have hfz15_0 := kf BK376.out))
    go_ret
    exact ⟨zR, zG⟩
   ·rw [if_neg c10] at H
    exact absurd H (by simp)
 ·rw [if_neg c3] at H
  exact absurd H (by simp)
end Go.Proofs.Ytconffflmbakgaa.QFnExactOneOf
