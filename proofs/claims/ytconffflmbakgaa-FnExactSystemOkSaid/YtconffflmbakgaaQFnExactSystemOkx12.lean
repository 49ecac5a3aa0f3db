/- Go functions as Lean functions, and their contracts. Own text: written by wip/gen/pr.py (a turned copy of the print). -/
import Derived.Test.YtconffflmbakgaaQFnExactSystemOkx0
import Derived.Test.YtconffflmbakgaaQFnExactSystemOkx9
import Derived.Test.YtconffflmbakgaaQFnExactSystemOkx10
import Derived.Test.YtconffflmbakgaaQFnExactSystemOkx11
namespace Go.Proofs.Ytconffflmbakgaa.QFnExactSystemOk
open Go.RowKit Go.Proofs.YtconffflmbakgaaW.PrintWords Go.Proofs.YtconffflmbakgaaW.PrintLast Go.Proofs.YtconffflmbakgaaW.PrintMore
attribute [local go_sem] max2_int min2_int max_two min_two max_three min_three max_four min_four   -- for this text's walks alone
open Go.Proofs.YtconffflmbakgaaW.PrintWords renaming below_alloc → ba, pw_below_drewN → bn, below_drew1 → be, below_set → bs, blk_drewN → kn, blk_drew → ke, blk_alloc → ka, blk_below → kb, blk_frozen → kf, blk_cell → kc, below_step → bq, below_size → bz, blk_lt → kl
open Go.Proofs.YtconffflmbakgaaW.PrintWords.Kd renaming C_alloc → ca, C_drewN → cn, C_drew → ce, C_below → cb
open Go.Proofs.YtconffflmbakgaaW.PrintWords.Aside0 renaming mk → Am
set_option linter.unusedVariables false
set_option linter.unusedSimpArgs false

theorem cl12 {w w2 : World} {a : Addr} {v : Value} (h : Aside0 (Below w.heap.size w w2)) (e : w.cell? a = some v) : w2.cell? a = some v := (h.out.cell (World.block_lt_of_cell? w _ e)).trans e
def o12b0 (p0 : Int) (p1 : Int) (p2 : Int) (p3 : Int) (p4 : ByteArray) (p5 : Option Addr) (p6 p7 : Nat) (p8 : Option Addr) (p9 p10 : Nat) (p11 : Option Addr) (p12 p13 : Nat) : Obj := .cells #[.int .i64 p0, .int .i64 p1, .int .i64 p2, .int .i64 p3, .string p4, .slice p5 p6 p7, .slice p8 p9 p10, .slice p11 p12 p13] 46 (0, 0)
def o12b1 (p0 : Int) (p1 : Int) (p2 : Int) (p3 : Int) (p4 : ByteArray) (p5 : Option Addr) (p6 p7 : Nat) (p8 : Option Addr) (p9 p10 : Nat) (p11 : Option Addr) (p12 p13 : Nat) : Obj := .cells #[.int .i64 p0, .int .i64 p1, .int .i64 p2, .int .i64 p3, .string p4, .slice p5 p6 p7, .slice p8 p9 p10, .slice p11 p12 p13] 46 (0, 0)
/-! ### laws_eqJobS: function 70 -/
def laws_eqJobS.l0 : Nat → List (S105) → List (S105) → Int → Option (Bool)
 | 0, _, _, _ => none
 | k + 1, x0, x1, x5 => if x5 < (x0.length : Int) then (if 0 ≤ x5 then (if x5 < (x1.length : Int) then ((laws_eqJob.f k ((rd_T105 x0 x5).f0.f0) ((rd_T105 x0 x5).f0.f1) ((rd_T105 x0 x5).f0.f2) ((rd_T105 x0 x5).f0.f3) ((rd_T105 x0 x5).f0.f4) ((rd_T105 x0 x5).f0.f5) ((rd_T105 x0 x5).f1.f0) ((rd_T105 x0 x5).f1.f1) ((rd_T105 x0 x5).f1.f2) ((rd_T105 x0 x5).f1.f3) ((rd_T105 x0 x5).f1.f4) ((rd_T105 x0 x5).f2) ((rd_T105 x0 x5).f3) ((rd_T105 x0 x5).f4) ((rd_T105 x0 x5).f5) ((rd_T105 x0 x5).f6) ((rd_T105 x1 x5).f0.f0) ((rd_T105 x1 x5).f0.f1) ((rd_T105 x1 x5).f0.f2) ((rd_T105 x1 x5).f0.f3) ((rd_T105 x1 x5).f0.f4) ((rd_T105 x1 x5).f0.f5) ((rd_T105 x1 x5).f1.f0) ((rd_T105 x1 x5).f1.f1) ((rd_T105 x1 x5).f1.f2) ((rd_T105 x1 x5).f1.f3) ((rd_T105 x1 x5).f1.f4) ((rd_T105 x1 x5).f2) ((rd_T105 x1 x5).f3) ((rd_T105 x1 x5).f4) ((rd_T105 x1 x5).f5) ((rd_T105 x1 x5).f6)).bind fun t340 => (if t340 = true then (laws_eqJobS.l0 k x0 x1 (wrap64 (x5 + 1))) else (some false))) else (none)) else (none)) else (some true)
def laws_eqJobS.f (k : Nat) (l0 : List (S105)) (l1 : List (S105)) : Option (Bool) := if (l0.length : Int) = (l1.length : Int) then (laws_eqJobS.l0 k l0 l1 0) else (some false)
theorem laws_eqJobS.mono_l : ∀ k, (∀ y0 y1 y2, LeO (laws_eqJobS.l0 k y0 y1 y2) (laws_eqJobS.l0 (k + 1) y0 y1 y2))
 | 0 => fun _ _ _ r h => by simp [laws_eqJobS.l0] at h
 | k + 1 => by
  have ih0 := laws_eqJobS.mono_l k
  ·intro y0 y1 y2
   unfold laws_eqJobS.l0
   repeat' first
   | (with_reducible exact ih0 _ _ _)
   | (with_reducible exact laws_eqJob.mono _ _ _ _ _ _ _ _ _ _ _ _ _ _ _ _ _ _ _ _ _ _ _ _ _ _ _ _ _ _ _ _ _)
   | (with_reducible exact LeO.refl _)
   | (with_reducible exact LeO.none _)
   | (with_reducible refine LeO.ite ?_ ?_)
   | (with_reducible refine LeO.bind ?_ (fun _ => ?_))
   | exact ih0 _ _ _
   | exact laws_eqJob.mono _ _ _ _ _ _ _ _ _ _ _ _ _ _ _ _ _ _ _ _ _ _ _ _ _ _ _ _ _ _ _ _ _
   | exact LeO.none _
   | refine LeO.ite ?_ ?_
   | refine LeO.bind ?_ (fun _ => ?_)
theorem laws_eqJobS.mono : ∀ a0 a1 k, LeO (laws_eqJobS.f k a0 a1) (laws_eqJobS.f (k + 1) a0 a1) := by
 intro a0 a1 k
 have ih0 := laws_eqJobS.mono_l k
 unfold laws_eqJobS.f
 repeat' first
   | (with_reducible exact ih0 _ _ _)
   | (with_reducible exact laws_eqJob.mono _ _ _ _ _ _ _ _ _ _ _ _ _ _ _ _ _ _ _ _ _ _ _ _ _ _ _ _ _ _ _ _ _)
   | (with_reducible exact LeO.refl _)
   | (with_reducible exact LeO.none _)
   | (with_reducible refine LeO.ite ?_ ?_)
   | (with_reducible refine LeO.bind ?_ (fun _ => ?_))
   | exact ih0 _ _ _
   | exact laws_eqJob.mono _ _ _ _ _ _ _ _ _ _ _ _ _ _ _ _ _ _ _ _ _ _ _ _ _ _ _ _ _ _ _ _ _
   | exact LeO.none _
   | refine LeO.ite ?_ ?_
   | refine LeO.bind ?_ (fun _ => ?_)
def laws_eqJobS.T6 : Bool × List (List Nat × List Nat) := (true, [([], []), ([], []), ([0, 1], [0, 1]), ([2], [2]), ([], []), ([], []), ([4, 5], [4, 5]), ([6], [6]), ([3, 7], [3, 7]), ([8], [8])])
def laws_eqJobS.B6 : List Nat := [0, 0, 3, 7, 0, 0, 48, 112, 255, 511]
theorem laws_eqJobS.tab6 : rtab .any (opsOf Try.f70 6) = laws_eqJobS.T6 := by kernel_rfl
theorem laws_eqJobS.bits6 : waitsOk laws_eqJobS.T6.2 laws_eqJobS.B6 = true := by kernel_rfl
set_option maxHeartbeats 8000000 in
set_option maxRecDepth 100000 in
theorem laws_eqJobS.calls (k : Nat) (A0 : Option Addr) (c0 : Nat) (l0 : List (S105)) (A1 : Option Addr) (c1 : Nat) (l1 : List (S105)) (r : Bool) (w : World) (hr0 : Kd.C k105 w A0 l0.length l0) (hc0 : l0.length ≤ c0) (hr1 : Kd.C k105 w A1 l1.length l1) (hc1 : l1.length ≤ c1) (h : laws_eqJobS.f k l0 l1 = some r) :
  Calls Try.prog 70 #[.slice A0 l0.length c0, .slice A1 l1.length c1] w fun e w' => e = .returned (.bool r) ∧ Below w.heap.size w w' := by
 have hu105 := Try.underlying105
 have HR0 := Am hr0
 have HC0 := Am hc0
 clear hr0 hc0
 have HR1 := Am hr1
 have HC1 := Am hc1
 clear hr1 hc1
 have HB := Am (Below.refl w.heap.size w)
 have H : (if (l0.length : Int) = (l1.length : Int) then (laws_eqJobS.l0 k l0 l1 0) else (some false)) = some r := h
 clear h
 by_cases c3 : (l0.length : Int) = (l1.length : Int)
 ·rw [if_pos c3] at H
  have c3b0 : ((l0.length : Int) == (l1.length : Int)) = true := beq_iff_eq.mpr c3
  have c3b1 : ((l0.length : Int) != (l1.length : Int)) = false := bne_eq_false_iff_eq.mpr c3
  have c3b2 : (l0.length == l1.length) = true := by first | simpa using c3 | (simp at c3 ⊢; omega)
  clear c3
  have H' := Am H
  clear H
  go_enter Try.func70, Try.ntmps70
  go_wp2
  go_loopg [5] k (fun kq v5 w' => ∃ (x5_1 : Int), v5 = .int .i64 x5_1 ∧ Aside0 (laws_eqJobS.l0 kq l0 l1 x5_1 = some r) ∧ Aside0 (kq ≤ k) ∧ Aside0 (Below w.heap.size w w'))
  case atStart => exact ⟨(0), (by first | rfl | (simp; done) | (simp [*]; done)), H', ⟨Nat.le_refl _⟩, ⟨zB⟩⟩
  case round =>
   clear H'
   try clear c1; try clear p2; try clear c3; try clear c3b0; try clear c3b1; try clear c3b2
   obtain ⟨x5_1, rfl, HA, HK1, HB⟩ := hrel
   cases gk with
   | zero => exact absurd HA.out (by simp [laws_eqJobS.l0])
   | succ k1 =>
    have H := HA.out
    clear HA
    simp only [laws_eqJobS.l0] at H
    by_cases c4 : x5_1 < (l0.length : Int)
    ·rw [if_pos c4] at H
     have c4b0 : decide (x5_1 < (l0.length : Int)) = true := decide_eq_true c4
     clear c4
     by_cases c5 : 0 ≤ x5_1
     ·rw [if_pos c5] at H
      have c5b0 : decide (0 ≤ x5_1) = true := decide_eq_true c5
      clear c5
      by_cases c6 : x5_1 < (l1.length : Int)
      ·rw [if_pos c6] at H
       have c6b0 : decide (x5_1 < (l1.length : Int)) = true := decide_eq_true c6
       clear c6
       replace H := Option.bind_eq_some_iff.mp H
       obtain ⟨t340, A70, H⟩ := H
       replace H : (if t340 = true then (laws_eqJobS.l0 k1 l0 l1 (wrap64 (x5_1 + 1))) else (some false)) = some r := H
       have A7 := Am A70
       clear A70
       by_cases c8 : t340 = true
       ·subst c8
        have H1 : (laws_eqJobS.l0 k1 l0 l1 (wrap64 (x5_1 + 1))) = some r := by rw [if_pos rfl] at H; exact H
        clear H
        have H := H1
        clear H1
        have H' := Am H
        clear H
        try go_wp2
        have n0_ := Am (be HB.out)
        clear HB
        have HB := n0_
        clear n0_
        have p338 : 0 ≤ (x5_1 : Int) := of_decide_eq_true (by first | (with_reducible assumption) | assumption)
        have q338 : x5_1 < (l0.length : Int) := of_decide_eq_true (by first | (with_reducible assumption) | assumption)
        obtain ⟨ad338, A338_10, c338_10, A338_11, c338_11, A338_12, c338_12, e338, hx338_0, hx338_1, hx338_2, hx338_3, hx338_4, hx338_5, hx338_6, hx338_7, hx338_8, hx338_9, hx338_10, hx338_11, hx338_12, hx338_13, hx338_14, hx338_15, hl338_10, hi338_10, hl338_11, hi338_11, hl338_12, hi338_12⟩ := at_T105 HR0.out x5_1 p338 q338
        have hw338_15 := hx338_15
        have hw338_14 := hx338_14
        have hw338_13 := hx338_13
        have hw338_12 := hx338_12
        have hw338_11 := hx338_11
        have hw338_10 := hx338_10
        have hw338_9 := hx338_9
        have hw338_8 := hx338_8
        have hw338_7 := hx338_7
        have hw338_6 := hx338_6
        have hw338_5 := hx338_5
        have hw338_4 := hx338_4
        have hw338_3 := hx338_3
        have hw338_2 := hx338_2
        have hw338_1 := hx338_1
        have hw338_0 := hx338_0
        cases e338
        replace hx338_0 := cl12 HB hx338_0
        replace hx338_1 := cl12 HB hx338_1
        replace hx338_2 := cl12 HB hx338_2
        replace hx338_3 := cl12 HB hx338_3
        replace hx338_4 := cl12 HB hx338_4
        replace hx338_5 := cl12 HB hx338_5
        replace hx338_6 := cl12 HB hx338_6
        replace hx338_7 := cl12 HB hx338_7
        replace hx338_8 := cl12 HB hx338_8
        replace hx338_9 := cl12 HB hx338_9
        replace hx338_10 := cl12 HB hx338_10
        replace hx338_11 := cl12 HB hx338_11
        replace hx338_12 := cl12 HB hx338_12
        replace hx338_13 := cl12 HB hx338_13
        replace hx338_14 := cl12 HB hx338_14
        replace hx338_15 := cl12 HB hx338_15
        have HR338_10 := Am hi338_10
        have HC338_10 := Am hl338_10
        clear hi338_10 hl338_10
        have HR338_11 := Am hi338_11
        have HC338_11 := Am hl338_11
        clear hi338_11 hl338_11
        have HR338_12 := Am hi338_12
        have HC338_12 := Am hl338_12
        clear hi338_12 hl338_12
        replace p338 := eq_true p338
        replace q338 := eq_true q338
        have p339 : 0 ≤ (x5_1 : Int) := of_decide_eq_true (by first | (with_reducible assumption) | assumption)
        have q339 : x5_1 < (l1.length : Int) := of_decide_eq_true (by first | (with_reducible assumption) | assumption)
        obtain ⟨ad339, A339_10, c339_10, A339_11, c339_11, A339_12, c339_12, e339, hx339_0, hx339_1, hx339_2, hx339_3, hx339_4, hx339_5, hx339_6, hx339_7, hx339_8, hx339_9, hx339_10, hx339_11, hx339_12, hx339_13, hx339_14, hx339_15, hl339_10, hi339_10, hl339_11, hi339_11, hl339_12, hi339_12⟩ := at_T105 HR1.out x5_1 p339 q339
        have hw339_15 := hx339_15
        have hw339_14 := hx339_14
        have hw339_13 := hx339_13
        have hw339_12 := hx339_12
        have hw339_11 := hx339_11
        have hw339_10 := hx339_10
        have hw339_9 := hx339_9
        have hw339_8 := hx339_8
        have hw339_7 := hx339_7
        have hw339_6 := hx339_6
        have hw339_5 := hx339_5
        have hw339_4 := hx339_4
        have hw339_3 := hx339_3
        have hw339_2 := hx339_2
        have hw339_1 := hx339_1
        have hw339_0 := hx339_0
        cases e339
        replace hx339_0 := cl12 HB hx339_0
        replace hx339_1 := cl12 HB hx339_1
        replace hx339_2 := cl12 HB hx339_2
        replace hx339_3 := cl12 HB hx339_3
        replace hx339_4 := cl12 HB hx339_4
        replace hx339_5 := cl12 HB hx339_5
        replace hx339_6 := cl12 HB hx339_6
        replace hx339_7 := cl12 HB hx339_7
        replace hx339_8 := cl12 HB hx339_8
        replace hx339_9 := cl12 HB hx339_9
        replace hx339_10 := cl12 HB hx339_10
        replace hx339_11 := cl12 HB hx339_11
        replace hx339_12 := cl12 HB hx339_12
        replace hx339_13 := cl12 HB hx339_13
        replace hx339_14 := cl12 HB hx339_14
        replace hx339_15 := cl12 HB hx339_15
        have HR339_10 := Am hi339_10
        have HC339_10 := Am hl339_10
        clear hi339_10 hl339_10
        have HR339_11 := Am hi339_11
        have HC339_11 := Am hl339_11
        clear hi339_11 hl339_11
        have HR339_12 := Am hi339_12
        have HC339_12 := Am hl339_12
        clear hi339_12 hl339_12
        replace p339 := eq_true p339
        replace q339 := eq_true q339
        refine start_ (n := 10) (S := fun w' => w'.cell? (ad338.add ((x5_1).toNat * 16)) = some (.int .i64 ((rd_T105 l0 x5_1).f0.f0)) ∧ w'.cell? ⟨(ad338.add ((x5_1).toNat * 16)).block, (ad338.add ((x5_1).toNat * 16)).off + 1, none⟩ = some (.string ((rd_T105 l0 x5_1).f0.f1)) ∧ w'.cell? ⟨(ad338.add ((x5_1).toNat * 16)).block, (ad338.add ((x5_1).toNat * 16)).off + 2, none⟩ = some (.string ((rd_T105 l0 x5_1).f0.f2)) ∧ w'.cell? ⟨(ad338.add ((x5_1).toNat * 16)).block, (ad338.add ((x5_1).toNat * 16)).off + 3, none⟩ = some (.int .i64 ((rd_T105 l0 x5_1).f0.f3)) ∧ w'.cell? ⟨(ad338.add ((x5_1).toNat * 16)).block, (ad338.add ((x5_1).toNat * 16)).off + 4, none⟩ = some (.int .i64 ((rd_T105 l0 x5_1).f0.f4)) ∧ w'.cell? ⟨(ad338.add ((x5_1).toNat * 16)).block, (ad338.add ((x5_1).toNat * 16)).off + 5, none⟩ = some (.string ((rd_T105 l0 x5_1).f0.f5)) ∧ w'.cell? ⟨(ad338.add ((x5_1).toNat * 16)).block, (ad338.add ((x5_1).toNat * 16)).off + 6, none⟩ = some (.int .i64 ((rd_T105 l0 x5_1).f1.f0)) ∧ w'.cell? ⟨(ad338.add ((x5_1).toNat * 16)).block, (ad338.add ((x5_1).toNat * 16)).off + 7, none⟩ = some (.string ((rd_T105 l0 x5_1).f1.f1)) ∧ w'.cell? ⟨(ad338.add ((x5_1).toNat * 16)).block, (ad338.add ((x5_1).toNat * 16)).off + 8, none⟩ = some (.int .i64 ((rd_T105 l0 x5_1).f1.f2)) ∧ w'.cell? ⟨(ad338.add ((x5_1).toNat * 16)).block, (ad338.add ((x5_1).toNat * 16)).off + 9, none⟩ = some (.bool ((rd_T105 l0 x5_1).f1.f3)) ∧ w'.cell? ⟨(ad338.add ((x5_1).toNat * 16)).block, (ad338.add ((x5_1).toNat * 16)).off + 10, none⟩ = some (.slice A338_10 ((rd_T105 l0 x5_1).f1.f4).length c338_10) ∧ w'.cell? ⟨(ad338.add ((x5_1).toNat * 16)).block, (ad338.add ((x5_1).toNat * 16)).off + 11, none⟩ = some (.slice A338_11 ((rd_T105 l0 x5_1).f2).length c338_11) ∧ w'.cell? ⟨(ad338.add ((x5_1).toNat * 16)).block, (ad338.add ((x5_1).toNat * 16)).off + 12, none⟩ = some (.slice A338_12 ((rd_T105 l0 x5_1).f3).length c338_12) ∧ w'.cell? ⟨(ad338.add ((x5_1).toNat * 16)).block, (ad338.add ((x5_1).toNat * 16)).off + 13, none⟩ = some (.int .i64 ((rd_T105 l0 x5_1).f4)) ∧ w'.cell? ⟨(ad338.add ((x5_1).toNat * 16)).block, (ad338.add ((x5_1).toNat * 16)).off + 14, none⟩ = some (.bool ((rd_T105 l0 x5_1).f5)) ∧ w'.cell? ⟨(ad338.add ((x5_1).toNat * 16)).block, (ad338.add ((x5_1).toNat * 16)).off + 15, none⟩ = some (.bool ((rd_T105 l0 x5_1).f6)) ∧ w'.cell? (ad339.add ((x5_1).toNat * 16)) = some (.int .i64 ((rd_T105 l1 x5_1).f0.f0)) ∧ w'.cell? ⟨(ad339.add ((x5_1).toNat * 16)).block, (ad339.add ((x5_1).toNat * 16)).off + 1, none⟩ = some (.string ((rd_T105 l1 x5_1).f0.f1)) ∧ w'.cell? ⟨(ad339.add ((x5_1).toNat * 16)).block, (ad339.add ((x5_1).toNat * 16)).off + 2, none⟩ = some (.string ((rd_T105 l1 x5_1).f0.f2)) ∧ w'.cell? ⟨(ad339.add ((x5_1).toNat * 16)).block, (ad339.add ((x5_1).toNat * 16)).off + 3, none⟩ = some (.int .i64 ((rd_T105 l1 x5_1).f0.f3)) ∧ w'.cell? ⟨(ad339.add ((x5_1).toNat * 16)).block, (ad339.add ((x5_1).toNat * 16)).off + 4, none⟩ = some (.int .i64 ((rd_T105 l1 x5_1).f0.f4)) ∧ w'.cell? ⟨(ad339.add ((x5_1).toNat * 16)).block, (ad339.add ((x5_1).toNat * 16)).off + 5, none⟩ = some (.string ((rd_T105 l1 x5_1).f0.f5)) ∧ w'.cell? ⟨(ad339.add ((x5_1).toNat * 16)).block, (ad339.add ((x5_1).toNat * 16)).off + 6, none⟩ = some (.int .i64 ((rd_T105 l1 x5_1).f1.f0)) ∧ w'.cell? ⟨(ad339.add ((x5_1).toNat * 16)).block, (ad339.add ((x5_1).toNat * 16)).off + 7, none⟩ = some (.string ((rd_T105 l1 x5_1).f1.f1)) ∧ w'.cell? ⟨(ad339.add ((x5_1).toNat * 16)).block, (ad339.add ((x5_1).toNat * 16)).off + 8, none⟩ = some (.int .i64 ((rd_T105 l1 x5_1).f1.f2)) ∧ w'.cell? ⟨(ad339.add ((x5_1).toNat * 16)).block, (ad339.add ((x5_1).toNat * 16)).off + 9, none⟩ = some (.bool ((rd_T105 l1 x5_1).f1.f3)) ∧ w'.cell? ⟨(ad339.add ((x5_1).toNat * 16)).block, (ad339.add ((x5_1).toNat * 16)).off + 10, none⟩ = some (.slice A339_10 ((rd_T105 l1 x5_1).f1.f4).length c339_10) ∧ w'.cell? ⟨(ad339.add ((x5_1).toNat * 16)).block, (ad339.add ((x5_1).toNat * 16)).off + 11, none⟩ = some (.slice A339_11 ((rd_T105 l1 x5_1).f2).length c339_11) ∧ w'.cell? ⟨(ad339.add ((x5_1).toNat * 16)).block, (ad339.add ((x5_1).toNat * 16)).off + 12, none⟩ = some (.slice A339_12 ((rd_T105 l1 x5_1).f3).length c339_12) ∧ w'.cell? ⟨(ad339.add ((x5_1).toNat * 16)).block, (ad339.add ((x5_1).toNat * 16)).off + 13, none⟩ = some (.int .i64 ((rd_T105 l1 x5_1).f4)) ∧ w'.cell? ⟨(ad339.add ((x5_1).toNat * 16)).block, (ad339.add ((x5_1).toNat * 16)).off + 14, none⟩ = some (.bool ((rd_T105 l1 x5_1).f5)) ∧ w'.cell? ⟨(ad339.add ((x5_1).toNat * 16)).block, (ad339.add ((x5_1).toNat * 16)).off + 15, none⟩ = some (.bool ((rd_T105 l1 x5_1).f6))) (ds := []) #[false, false, false, false, false, false, false, false, false, false] (by kernel_rfl) rfl rfl ⟨(cl12 HB hw338_0), (cl12 HB hw338_1), (cl12 HB hw338_2), (cl12 HB hw338_3), (cl12 HB hw338_4), (cl12 HB hw338_5), (cl12 HB hw338_6), (cl12 HB hw338_7), (cl12 HB hw338_8), (cl12 HB hw338_9), (cl12 HB hw338_10), (cl12 HB hw338_11), (cl12 HB hw338_12), (cl12 HB hw338_13), (cl12 HB hw338_14), (cl12 HB hw338_15), (cl12 HB hw339_0), (cl12 HB hw339_1), (cl12 HB hw339_2), (cl12 HB hw339_3), (cl12 HB hw339_4), (cl12 HB hw339_5), (cl12 HB hw339_6), (cl12 HB hw339_7), (cl12 HB hw339_8), (cl12 HB hw339_9), (cl12 HB hw339_10), (cl12 HB hw339_11), (cl12 HB hw339_12), (cl12 HB hw339_13), (cl12 HB hw339_14), (cl12 HB hw339_15)⟩ (fun hHeld => ?_); refine with_tabW laws_eqJobS.tab6 laws_eqJobS.bits6 (fun HT_ HW_ => ?_)
        generalize wr.drew = w9 at HB HR338_10 HR338_11 HR338_12 HR339_10 HR339_11 HR339_12 hx338_0 hx338_1 hx338_10 hx338_11 hx338_12 hx338_13 hx338_14 hx338_15 hx338_2 hx338_3 hx338_4 hx338_5 hx338_6 hx338_7 hx338_8 hx338_9 hx339_0 hx339_1 hx339_10 hx339_11 hx339_12 hx339_13 hx339_14 hx339_15 hx339_2 hx339_3 hx339_4 hx339_5 hx339_6 hx339_7 hx339_8 hx339_9 hHeld ⊢
        refine zA 0 (some 17) HT_.out rfl rfl ?_
        refine zA 1 (some 18) HT_.out rfl rfl ?_
        refine zA 2 (some 19) HT_.out rfl rfl ?_
        refine zA 4 (some 21) HT_.out rfl rfl ?_
        refine zA 5 (some 22) HT_.out rfl rfl ?_
        refine zA 6 (some 23) HT_.out rfl rfl ?_
        refine zT 3 (some 20) HT_.out HW_.out rfl rfl hHeld ?_
        refine zT 7 (some 24) HT_.out HW_.out rfl rfl hHeld ?_
        refine zO 8 (some 25) HT_.out rfl rfl (fun K hK => ?_)
        refine goes_ Try.func119 (by kernel_rfl) rfl #[.agg #[.int .i64 ((rd_T105 l0 x5_1).f0.f0), .string ((rd_T105 l0 x5_1).f0.f1), .string ((rd_T105 l0 x5_1).f0.f2), .int .i64 ((rd_T105 l0 x5_1).f0.f3), .int .i64 ((rd_T105 l0 x5_1).f0.f4), .string ((rd_T105 l0 x5_1).f0.f5), .int .i64 ((rd_T105 l0 x5_1).f1.f0), .string ((rd_T105 l0 x5_1).f1.f1), .int .i64 ((rd_T105 l0 x5_1).f1.f2), .bool ((rd_T105 l0 x5_1).f1.f3), .slice A338_10 ((rd_T105 l0 x5_1).f1.f4).length c338_10, .slice A338_11 ((rd_T105 l0 x5_1).f2).length c338_11, .slice A338_12 ((rd_T105 l0 x5_1).f3).length c338_12, .int .i64 ((rd_T105 l0 x5_1).f4), .bool ((rd_T105 l0 x5_1).f5), .bool ((rd_T105 l0 x5_1).f6)], .agg #[.int .i64 ((rd_T105 l1 x5_1).f0.f0), .string ((rd_T105 l1 x5_1).f0.f1), .string ((rd_T105 l1 x5_1).f0.f2), .int .i64 ((rd_T105 l1 x5_1).f0.f3), .int .i64 ((rd_T105 l1 x5_1).f0.f4), .string ((rd_T105 l1 x5_1).f0.f5), .int .i64 ((rd_T105 l1 x5_1).f1.f0), .string ((rd_T105 l1 x5_1).f1.f1), .int .i64 ((rd_T105 l1 x5_1).f1.f2), .bool ((rd_T105 l1 x5_1).f1.f3), .slice A339_10 ((rd_T105 l1 x5_1).f1.f4).length c339_10, .slice A339_11 ((rd_T105 l1 x5_1).f2).length c339_11, .slice A339_12 ((rd_T105 l1 x5_1).f3).length c339_12, .int .i64 ((rd_T105 l1 x5_1).f4), .bool ((rd_T105 l1 x5_1).f5), .bool ((rd_T105 l1 x5_1).f6)]] (by rfl) rfl rfl (by (try simp only [List.map_toArray, List.map_cons, List.map_nil]); first | done | rfl | (simp only [List.length_drop, List.length_take]; rfl)) ?_
        with_reducible refine (laws_eqJob.calls k1 ((rd_T105 l0 x5_1).f0.f0) ((rd_T105 l0 x5_1).f0.f1) ((rd_T105 l0 x5_1).f0.f2) ((rd_T105 l0 x5_1).f0.f3) ((rd_T105 l0 x5_1).f0.f4) ((rd_T105 l0 x5_1).f0.f5) ((rd_T105 l0 x5_1).f1.f0) ((rd_T105 l0 x5_1).f1.f1) ((rd_T105 l0 x5_1).f1.f2) ((rd_T105 l0 x5_1).f1.f3) _ _ ((rd_T105 l0 x5_1).f1.f4) _ _ ((rd_T105 l0 x5_1).f2) _ _ ((rd_T105 l0 x5_1).f3) ((rd_T105 l0 x5_1).f4) ((rd_T105 l0 x5_1).f5) ((rd_T105 l0 x5_1).f6) ((rd_T105 l1 x5_1).f0.f0) ((rd_T105 l1 x5_1).f0.f1) ((rd_T105 l1 x5_1).f0.f2) ((rd_T105 l1 x5_1).f0.f3) ((rd_T105 l1 x5_1).f0.f4) ((rd_T105 l1 x5_1).f0.f5) ((rd_T105 l1 x5_1).f1.f0) ((rd_T105 l1 x5_1).f1.f1) ((rd_T105 l1 x5_1).f1.f2) ((rd_T105 l1 x5_1).f1.f3) _ _ ((rd_T105 l1 x5_1).f1.f4) _ _ ((rd_T105 l1 x5_1).f2) _ _ ((rd_T105 l1 x5_1).f3) ((rd_T105 l1 x5_1).f4) ((rd_T105 l1 x5_1).f5) ((rd_T105 l1 x5_1).f6) true _ ?side1 ?side2 ?side3 ?side4 ?side5 ?side6 ?side7 ?side8 ?side9 ?side10 ?side11 ?side12 A7.out).mono ?_
        (case side1 => repeat (first | exact (cb HR338_10.out HB.out) | (with_reducible first | refine ca ?_ _ | refine cn ?_ _ | refine ce ?_)))
        (case side2 => exact HC338_10.out)
        (case side3 => repeat (first | exact (cb HR338_11.out HB.out) | (with_reducible first | refine ca ?_ _ | refine cn ?_ _ | refine ce ?_)))
        (case side4 => exact HC338_11.out)
        (case side5 => repeat (first | exact (cb HR338_12.out HB.out) | (with_reducible first | refine ca ?_ _ | refine cn ?_ _ | refine ce ?_)))
        (case side6 => exact HC338_12.out)
        (case side7 => repeat (first | exact (cb HR339_10.out HB.out) | (with_reducible first | refine ca ?_ _ | refine cn ?_ _ | refine ce ?_)))
        (case side8 => exact HC339_10.out)
        (case side9 => repeat (first | exact (cb HR339_11.out HB.out) | (with_reducible first | refine ca ?_ _ | refine cn ?_ _ | refine ce ?_)))
        (case side10 => exact HC339_11.out)
        (case side11 => repeat (first | exact (cb HR339_12.out HB.out) | (with_reducible first | refine ca ?_ _ | refine cn ?_ _ | refine ce ?_)))
        (case side12 => exact HC339_12.out)
        rintro e w10 ⟨rfl, hb⟩
        refine ⟨_, rfl, ?_⟩
        have n0_ := Am (bq zB hb)
        clear HB
        have HB := n0_
        clear n0_
        (try clear hb)
        (try clear hb2)
        (try clear hk)
        (try clear hi)
        refine hK.out _ _ ⟨(cl12 HB hw338_0 :), (cl12 HB hw338_1 :), (cl12 HB hw338_2 :), (cl12 HB hw338_3 :), (cl12 HB hw338_4 :), (cl12 HB hw338_5 :), (cl12 HB hw338_6 :), (cl12 HB hw338_7 :), (cl12 HB hw338_8 :), (cl12 HB hw338_9 :), (cl12 HB hw338_10 :), (cl12 HB hw338_11 :), (cl12 HB hw338_12 :), (cl12 HB hw338_13 :), (cl12 HB hw338_14 :), (cl12 HB hw338_15 :), (cl12 HB hw339_0 :), (cl12 HB hw339_1 :), (cl12 HB hw339_2 :), (cl12 HB hw339_3 :), (cl12 HB hw339_4 :), (cl12 HB hw339_5 :), (cl12 HB hw339_6 :), (cl12 HB hw339_7 :), (cl12 HB hw339_8 :), (cl12 HB hw339_9 :), (cl12 HB hw339_10 :), (cl12 HB hw339_11 :), (cl12 HB hw339_12 :), (cl12 HB hw339_13 :), (cl12 HB hw339_14 :), (cl12 HB hw339_15 :)⟩ (fun hHeld => ?_)
        clear hK K
        refine zN (some 25) ?_
        refine zA 9 (some 26) HT_.out rfl rfl ?_
        refine done_ (done_of HT_.out (by kernel_rfl)) ?_
        try go_wp2
        go_roundg k1
        case measure => have := HK1.out; omega
        case rel => exact ⟨(wrap64 (x5_1 + 1)), (by first | rfl | (simp; done) | (simp [*]; done)), H', ⟨by have := HK1.out; omega⟩, ⟨zB⟩⟩
       ·replace c8 := Bool.eq_false_iff.mpr c8
        subst c8
        have H1 : (some false) = some r := by rw [if_neg (show ¬ (false = true) by decide)] at H; exact H
        clear H
        have H := H1
        clear H1
        obtain rfl := Option.some.inj H
        try go_wp2
        have n0_ := Am (be HB.out)
        clear HB
        have HB := n0_
        clear n0_
        have p338 : 0 ≤ (x5_1 : Int) := of_decide_eq_true (by first | (with_reducible assumption) | assumption)
        have q338 : x5_1 < (l0.length : Int) := of_decide_eq_true (by first | (with_reducible assumption) | assumption)
        obtain ⟨ad338, A338_10, c338_10, A338_11, c338_11, A338_12, c338_12, e338, hx338_0, hx338_1, hx338_2, hx338_3, hx338_4, hx338_5, hx338_6, hx338_7, hx338_8, hx338_9, hx338_10, hx338_11, hx338_12, hx338_13, hx338_14, hx338_15, hl338_10, hi338_10, hl338_11, hi338_11, hl338_12, hi338_12⟩ := at_T105 HR0.out x5_1 p338 q338
        have hw338_15 := hx338_15
        have hw338_14 := hx338_14
        have hw338_13 := hx338_13
        have hw338_12 := hx338_12
        have hw338_11 := hx338_11
        have hw338_10 := hx338_10
        have hw338_9 := hx338_9
        have hw338_8 := hx338_8
        have hw338_7 := hx338_7
        have hw338_6 := hx338_6
        have hw338_5 := hx338_5
        have hw338_4 := hx338_4
        have hw338_3 := hx338_3
        have hw338_2 := hx338_2
        have hw338_1 := hx338_1
        have hw338_0 := hx338_0
        cases e338
        replace hx338_0 := cl12 HB hx338_0
        replace hx338_1 := cl12 HB hx338_1
        replace hx338_2 := cl12 HB hx338_2
        replace hx338_3 := cl12 HB hx338_3
        replace hx338_4 := cl12 HB hx338_4
        replace hx338_5 := cl12 HB hx338_5
        replace hx338_6 := cl12 HB hx338_6
        replace hx338_7 := cl12 HB hx338_7
        replace hx338_8 := cl12 HB hx338_8
        replace hx338_9 := cl12 HB hx338_9
        replace hx338_10 := cl12 HB hx338_10
        replace hx338_11 := cl12 HB hx338_11
        replace hx338_12 := cl12 HB hx338_12
        replace hx338_13 := cl12 HB hx338_13
        replace hx338_14 := cl12 HB hx338_14
        replace hx338_15 := cl12 HB hx338_15
        have HR338_10 := Am hi338_10
        have HC338_10 := Am hl338_10
        clear hi338_10 hl338_10
        have HR338_11 := Am hi338_11
        have HC338_11 := Am hl338_11
        clear hi338_11 hl338_11
        have HR338_12 := Am hi338_12
        have HC338_12 := Am hl338_12
        clear hi338_12 hl338_12
        replace p338 := eq_true p338
        replace q338 := eq_true q338
        have p339 : 0 ≤ (x5_1 : Int) := of_decide_eq_true (by first | (with_reducible assumption) | assumption)
        have q339 : x5_1 < (l1.length : Int) := of_decide_eq_true (by first | (with_reducible assumption) | assumption)
        obtain ⟨ad339, A339_10, c339_10, A339_11, c339_11, A339_12, c339_12, e339, hx339_0, hx339_1, hx339_2, hx339_3, hx339_4, hx339_5, hx339_6, hx339_7, hx339_8, hx339_9, hx339_10, hx339_11, hx339_12, hx339_13, hx339_14, hx339_15, hl339_10, hi339_10, hl339_11, hi339_11, hl339_12, hi339_12⟩ := at_T105 HR1.out x5_1 p339 q339
        have hw339_15 := hx339_15
        have hw339_14 := hx339_14
        have hw339_13 := hx339_13
        have hw339_12 := hx339_12
        have hw339_11 := hx339_11
        have hw339_10 := hx339_10
        have hw339_9 := hx339_9
        have hw339_8 := hx339_8
        have hw339_7 := hx339_7
        have hw339_6 := hx339_6
        have hw339_5 := hx339_5
        have hw339_4 := hx339_4
        have hw339_3 := hx339_3
        have hw339_2 := hx339_2
        have hw339_1 := hx339_1
        have hw339_0 := hx339_0
        cases e339
        replace hx339_0 := cl12 HB hx339_0
        replace hx339_1 := cl12 HB hx339_1
        replace hx339_2 := cl12 HB hx339_2
        replace hx339_3 := cl12 HB hx339_3
        replace hx339_4 := cl12 HB hx339_4
        replace hx339_5 := cl12 HB hx339_5
        replace hx339_6 := cl12 HB hx339_6
        replace hx339_7 := cl12 HB hx339_7
        replace hx339_8 := cl12 HB hx339_8
        replace hx339_9 := cl12 HB hx339_9
        replace hx339_10 := cl12 HB hx339_10
        replace hx339_11 := cl12 HB hx339_11
        replace hx339_12 := cl12 HB hx339_12
        replace hx339_13 := cl12 HB hx339_13
        replace hx339_14 := cl12 HB hx339_14
        replace hx339_15 := cl12 HB hx339_15
        have HR339_10 := Am hi339_10
        have HC339_10 := Am hl339_10
        clear hi339_10 hl339_10
        have HR339_11 := Am hi339_11
        have HC339_11 := Am hl339_11
        clear hi339_11 hl339_11
        have HR339_12 := Am hi339_12
        have HC339_12 := Am hl339_12
        clear hi339_12 hl339_12
        replace p339 := eq_true p339
        replace q339 := eq_true q339
        refine start_ (n := 10) (S := fun w' => w'.cell? (ad338.add ((x5_1).toNat * 16)) = some (.int .i64 ((rd_T105 l0 x5_1).f0.f0)) ∧ w'.cell? ⟨(ad338.add ((x5_1).toNat * 16)).block, (ad338.add ((x5_1).toNat * 16)).off + 1, none⟩ = some (.string ((rd_T105 l0 x5_1).f0.f1)) ∧ w'.cell? ⟨(ad338.add ((x5_1).toNat * 16)).block, (ad338.add ((x5_1).toNat * 16)).off + 2, none⟩ = some (.string ((rd_T105 l0 x5_1).f0.f2)) ∧ w'.cell? ⟨(ad338.add ((x5_1).toNat * 16)).block, (ad338.add ((x5_1).toNat * 16)).off + 3, none⟩ = some (.int .i64 ((rd_T105 l0 x5_1).f0.f3)) ∧ w'.cell? ⟨(ad338.add ((x5_1).toNat * 16)).block, (ad338.add ((x5_1).toNat * 16)).off + 4, none⟩ = some (.int .i64 ((rd_T105 l0 x5_1).f0.f4)) ∧ w'.cell? ⟨(ad338.add ((x5_1).toNat * 16)).block, (ad338.add ((x5_1).toNat * 16)).off + 5, none⟩ = some (.string ((rd_T105 l0 x5_1).f0.f5)) ∧ w'.cell? ⟨(ad338.add ((x5_1).toNat * 16)).block, (ad338.add ((x5_1).toNat * 16)).off + 6, none⟩ = some (.int .i64 ((rd_T105 l0 x5_1).f1.f0)) ∧ w'.cell? ⟨(ad338.add ((x5_1).toNat * 16)).block, (ad338.add ((x5_1).toNat * 16)).off + 7, none⟩ = some (.string ((rd_T105 l0 x5_1).f1.f1)) ∧ w'.cell? ⟨(ad338.add ((x5_1).toNat * 16)).block, (ad338.add ((x5_1).toNat * 16)).off + 8, none⟩ = some (.int .i64 ((rd_T105 l0 x5_1).f1.f2)) ∧ w'.cell? ⟨(ad338.add ((x5_1).toNat * 16)).block, (ad338.add ((x5_1).toNat * 16)).off + 9, none⟩ = some (.bool ((rd_T105 l0 x5_1).f1.f3)) ∧ w'.cell? ⟨(ad338.add ((x5_1).toNat * 16)).block, (ad338.add ((x5_1).toNat * 16)).off + 10, none⟩ = some (.slice A338_10 ((rd_T105 l0 x5_1).f1.f4).length c338_10) ∧ w'.cell? ⟨(ad338.add ((x5_1).toNat * 16)).block, (ad338.add ((x5_1).toNat * 16)).off + 11, none⟩ = some (.slice A338_11 ((rd_T105 l0 x5_1).f2).length c338_11) ∧ w'.cell? ⟨(ad338.add ((x5_1).toNat * 16)).block, (ad338.add ((x5_1).toNat * 16)).off + 12, none⟩ = some (.slice A338_12 ((rd_T105 l0 x5_1).f3).length c338_12) ∧ w'.cell? ⟨(ad338.add ((x5_1).toNat * 16)).block, (ad338.add ((x5_1).toNat * 16)).off + 13, none⟩ = some (.int .i64 ((rd_T105 l0 x5_1).f4)) ∧ w'.cell? ⟨(ad338.add ((x5_1).toNat * 16)).block, (ad338.add ((x5_1).toNat * 16)).off + 14, none⟩ = some (.bool ((rd_T105 l0 x5_1).f5)) ∧ w'.cell? ⟨(ad338.add ((x5_1).toNat * 16)).block, (ad338.add ((x5_1).toNat * 16)).off + 15, none⟩ = some (.bool ((rd_T105 l0 x5_1).f6)) ∧ w'.cell? (ad339.add ((x5_1).toNat * 16)) = some (.int .i64 ((rd_T105 l1 x5_1).f0.f0)) ∧ w'.cell? ⟨(ad339.add ((x5_1).toNat * 16)).block, (ad339.add ((x5_1).toNat * 16)).off + 1, none⟩ = some (.string ((rd_T105 l1 x5_1).f0.f1)) ∧ w'.cell? ⟨(ad339.add ((x5_1).toNat * 16)).block, (ad339.add ((x5_1).toNat * 16)).off + 2, none⟩ = some (.string ((rd_T105 l1 x5_1).f0.f2)) ∧ w'.cell? ⟨(ad339.add ((x5_1).toNat * 16)).block, (ad339.add ((x5_1).toNat * 16)).off + 3, none⟩ = some (.int .i64 ((rd_T105 l1 x5_1).f0.f3)) ∧ w'.cell? ⟨(ad339.add ((x5_1).toNat * 16)).block, (ad339.add ((x5_1).toNat * 16)).off + 4, none⟩ = some (.int .i64 ((rd_T105 l1 x5_1).f0.f4)) ∧ w'.cell? ⟨(ad339.add ((x5_1).toNat * 16)).block, (ad339.add ((x5_1).toNat * 16)).off + 5, none⟩ = some (.string ((rd_T105 l1 x5_1).f0.f5)) ∧ w'.cell? ⟨(ad339.add ((x5_1).toNat * 16)).block, (ad339.add ((x5_1).toNat * 16)).off + 6, none⟩ = some (.int .i64 ((rd_T105 l1 x5_1).f1.f0)) ∧ w'.cell? ⟨(ad339.add ((x5_1).toNat * 16)).block, (ad339.add ((x5_1).toNat * 16)).off + 7, none⟩ = some (.string ((rd_T105 l1 x5_1).f1.f1)) ∧ w'.cell? ⟨(ad339.add ((x5_1).toNat * 16)).block, (ad339.add ((x5_1).toNat * 16)).off + 8, none⟩ = some (.int .i64 ((rd_T105 l1 x5_1).f1.f2)) ∧ w'.cell? ⟨(ad339.add ((x5_1).toNat * 16)).block, (ad339.add ((x5_1).toNat * 16)).off + 9, none⟩ = some (.bool ((rd_T105 l1 x5_1).f1.f3)) ∧ w'.cell? ⟨(ad339.add ((x5_1).toNat * 16)).block, (ad339.add ((x5_1).toNat * 16)).off + 10, none⟩ = some (.slice A339_10 ((rd_T105 l1 x5_1).f1.f4).length c339_10) ∧ w'.cell? ⟨(ad339.add ((x5_1).toNat * 16)).block, (ad339.add ((x5_1).toNat * 16)).off + 11, none⟩ = some (.slice A339_11 ((rd_T105 l1 x5_1).f2).length c339_11) ∧ w'.cell? ⟨(ad339.add ((x5_1).toNat * 16)).block, (ad339.add ((x5_1).toNat * 16)).off + 12, none⟩ = some (.slice A339_12 ((rd_T105 l1 x5_1).f3).length c339_12) ∧ w'.cell? ⟨(ad339.add ((x5_1).toNat * 16)).block, (ad339.add ((x5_1).toNat * 16)).off + 13, none⟩ = some (.int .i64 ((rd_T105 l1 x5_1).f4)) ∧ w'.cell? ⟨(ad339.add ((x5_1).toNat * 16)).block, (ad339.add ((x5_1).toNat * 16)).off + 14, none⟩ = some (.bool ((rd_T105 l1 x5_1).f5)) ∧ w'.cell? ⟨(ad339.add ((x5_1).toNat * 16)).block, (ad339.add ((x5_1).toNat * 16)).off + 15, none⟩ = some (.bool ((rd_T105 l1 x5_1).f6))) (ds := []) #[false, false, false, false, false, false, false, false, false, false] (by kernel_rfl) rfl rfl ⟨(cl12 HB hw338_0), (cl12 HB hw338_1), (cl12 HB hw338_2), (cl12 HB hw338_3), (cl12 HB hw338_4), (cl12 HB hw338_5), (cl12 HB hw338_6), (cl12 HB hw338_7), (cl12 HB hw338_8), (cl12 HB hw338_9), (cl12 HB hw338_10), (cl12 HB hw338_11), (cl12 HB hw338_12), (cl12 HB hw338_13), (cl12 HB hw338_14), (cl12 HB hw338_15), (cl12 HB hw339_0), (cl12 HB hw339_1), (cl12 HB hw339_2), (cl12 HB hw339_3), (cl12 HB hw339_4), (cl12 HB hw339_5), (cl12 HB hw339_6), (cl12 HB hw339_7), (cl12 HB hw339_8), (cl12 HB hw339_9), (cl12 HB hw339_10), (cl12 HB hw339_11), (cl12 HB hw339_12), (cl12 HB hw339_13), (cl12 HB hw339_14), (cl12 HB hw339_15)⟩ (fun hHeld => ?_); refine with_tabW laws_eqJobS.tab6 laws_eqJobS.bits6 (fun HT_ HW_ => ?_)
        generalize wr.drew = w11 at HB HR338_10 HR338_11 HR338_12 HR339_10 HR339_11 HR339_12 hx338_0 hx338_1 hx338_10 hx338_11 hx338_12 hx338_13 hx338_14 hx338_15 hx338_2 hx338_3 hx338_4 hx338_5 hx338_6 hx338_7 hx338_8 hx338_9 hx339_0 hx339_1 hx339_10 hx339_11 hx339_12 hx339_13 hx339_14 hx339_15 hx339_2 hx339_3 hx339_4 hx339_5 hx339_6 hx339_7 hx339_8 hx339_9 hHeld ⊢
        refine zA 0 (some 17) HT_.out rfl rfl ?_
        refine zA 1 (some 18) HT_.out rfl rfl ?_
        refine zA 2 (some 19) HT_.out rfl rfl ?_
        refine zA 4 (some 21) HT_.out rfl rfl ?_
        refine zA 5 (some 22) HT_.out rfl rfl ?_
        refine zA 6 (some 23) HT_.out rfl rfl ?_
        refine zT 3 (some 20) HT_.out HW_.out rfl rfl hHeld ?_
        refine zT 7 (some 24) HT_.out HW_.out rfl rfl hHeld ?_
        refine zO 8 (some 25) HT_.out rfl rfl (fun K hK => ?_)
        refine goes_ Try.func119 (by kernel_rfl) rfl #[.agg #[.int .i64 ((rd_T105 l0 x5_1).f0.f0), .string ((rd_T105 l0 x5_1).f0.f1), .string ((rd_T105 l0 x5_1).f0.f2), .int .i64 ((rd_T105 l0 x5_1).f0.f3), .int .i64 ((rd_T105 l0 x5_1).f0.f4), .string ((rd_T105 l0 x5_1).f0.f5), .int .i64 ((rd_T105 l0 x5_1).f1.f0), .string ((rd_T105 l0 x5_1).f1.f1), .int .i64 ((rd_T105 l0 x5_1).f1.f2), .bool ((rd_T105 l0 x5_1).f1.f3), .slice A338_10 ((rd_T105 l0 x5_1).f1.f4).length c338_10, .slice A338_11 ((rd_T105 l0 x5_1).f2).length c338_11, .slice A338_12 ((rd_T105 l0 x5_1).f3).length c338_12, .int .i64 ((rd_T105 l0 x5_1).f4), .bool ((rd_T105 l0 x5_1).f5), .bool ((rd_T105 l0 x5_1).f6)], .agg #[.int .i64 ((rd_T105 l1 x5_1).f0.f0), .string ((rd_T105 l1 x5_1).f0.f1), .string ((rd_T105 l1 x5_1).f0.f2), .int .i64 ((rd_T105 l1 x5_1).f0.f3), .int .i64 ((rd_T105 l1 x5_1).f0.f4), .string ((rd_T105 l1 x5_1).f0.f5), .int .i64 ((rd_T105 l1 x5_1).f1.f0), .string ((rd_T105 l1 x5_1).f1.f1), .int .i64 ((rd_T105 l1 x5_1).f1.f2), .bool ((rd_T105 l1 x5_1).f1.f3), .slice A339_10 ((rd_T105 l1 x5_1).f1.f4).length c339_10, .slice A339_11 ((rd_T105 l1 x5_1).f2).length c339_11, .slice A339_12 ((rd_T105 l1 x5_1).f3).length c339_12, .int .i64 ((rd_T105 l1 x5_1).f4), .bool ((rd_T105 l1 x5_1).f5), .bool ((rd_T105 l1 x5_1).f6)]] (by rfl) rfl rfl (by (try simp only [List.map_toArray, List.map_cons, List.map_nil]); first | done | rfl | (simp only [List.length_drop, List.length_take]; rfl)) ?_
        with_reducible refine (laws_eqJob.calls k1 ((rd_T105 l0 x5_1).f0.f0) ((rd_T105 l0 x5_1).f0.f1) ((rd_T105 l0 x5_1).f0.f2) ((rd_T105 l0 x5_1).f0.f3) ((rd_T105 l0 x5_1).f0.f4) ((rd_T105 l0 x5_1).f0.f5) ((rd_T105 l0 x5_1).f1.f0) ((rd_T105 l0 x5_1).f1.f1) ((rd_T105 l0 x5_1).f1.f2) ((rd_T105 l0 x5_1).f1.f3) _ _ ((rd_T105 l0 x5_1).f1.f4) _ _ ((rd_T105 l0 x5_1).f2) _ _ ((rd_T105 l0 x5_1).f3) ((rd_T105 l0 x5_1).f4) ((rd_T105 l0 x5_1).f5) ((rd_T105 l0 x5_1).f6) ((rd_T105 l1 x5_1).f0.f0) ((rd_T105 l1 x5_1).f0.f1) ((rd_T105 l1 x5_1).f0.f2) ((rd_T105 l1 x5_1).f0.f3) ((rd_T105 l1 x5_1).f0.f4) ((rd_T105 l1 x5_1).f0.f5) ((rd_T105 l1 x5_1).f1.f0) ((rd_T105 l1 x5_1).f1.f1) ((rd_T105 l1 x5_1).f1.f2) ((rd_T105 l1 x5_1).f1.f3) _ _ ((rd_T105 l1 x5_1).f1.f4) _ _ ((rd_T105 l1 x5_1).f2) _ _ ((rd_T105 l1 x5_1).f3) ((rd_T105 l1 x5_1).f4) ((rd_T105 l1 x5_1).f5) ((rd_T105 l1 x5_1).f6) false _ ?side1 ?side2 ?side3 ?side4 ?side5 ?side6 ?side7 ?side8 ?side9 ?side10 ?side11 ?side12 A7.out).mono ?_
        (case side1 => repeat (first | exact (cb HR338_10.out HB.out) | (with_reducible first | refine ca ?_ _ | refine cn ?_ _ | refine ce ?_)))
        (case side2 => exact HC338_10.out)
        (case side3 => repeat (first | exact (cb HR338_11.out HB.out) | (with_reducible first | refine ca ?_ _ | refine cn ?_ _ | refine ce ?_)))
        (case side4 => exact HC338_11.out)
        (case side5 => repeat (first | exact (cb HR338_12.out HB.out) | (with_reducible first | refine ca ?_ _ | refine cn ?_ _ | refine ce ?_)))
        (case side6 => exact HC338_12.out)
        (case side7 => repeat (first | exact (cb HR339_10.out HB.out) | (with_reducible first | refine ca ?_ _ | refine cn ?_ _ | refine ce ?_)))
        (case side8 => exact HC339_10.out)
        (case side9 => repeat (first | exact (cb HR339_11.out HB.out) | (with_reducible first | refine ca ?_ _ | refine cn ?_ _ | refine ce ?_)))
        (case side10 => exact HC339_11.out)
        (case side11 => repeat (first | exact (cb HR339_12.out HB.out) | (with_reducible first | refine ca ?_ _ | refine cn ?_ _ | refine ce ?_)))
        (case side12 => exact HC339_12.out)
        rintro e w12 ⟨rfl, hb⟩
        refine ⟨_, rfl, ?_⟩
        have n0_ := Am (bq zB hb)
        clear HB
        have HB := n0_
        clear n0_
        (try clear hb)
        (try clear hb2)
        (try clear hk)
        (try clear hi)
        refine hK.out _ _ ⟨(cl12 HB hw338_0 :), (cl12 HB hw338_1 :), (cl12 HB hw338_2 :), (cl12 HB hw338_3 :), (cl12 HB hw338_4 :), (cl12 HB hw338_5 :), (cl12 HB hw338_6 :), (cl12 HB hw338_7 :), (cl12 HB hw338_8 :), (cl12 HB hw338_9 :), (cl12 HB hw338_10 :), (cl12 HB hw338_11 :), (cl12 HB hw338_12 :), (cl12 HB hw338_13 :), (cl12 HB hw338_14 :), (cl12 HB hw338_15 :), (cl12 HB hw339_0 :), (cl12 HB hw339_1 :), (cl12 HB hw339_2 :), (cl12 HB hw339_3 :), (cl12 HB hw339_4 :), (cl12 HB hw339_5 :), (cl12 HB hw339_6 :), (cl12 HB hw339_7 :), (cl12 HB hw339_8 :), (cl12 HB hw339_9 :), (cl12 HB hw339_10 :), (cl12 HB hw339_11 :), (cl12 HB hw339_12 :), (cl12 HB hw339_13 :), (cl12 HB hw339_14 :), (cl12 HB hw339_15 :)⟩ (fun hHeld => ?_)
        clear hK K
        refine zN (some 25) ?_
        refine zA 9 (some 26) HT_.out rfl rfl ?_
        refine done_ (done_of HT_.out (by kernel_rfl)) ?_
        try go_wp2
        go_ret
        exact ⟨zR, zB⟩
      ·rw [if_neg c6] at H
       exact absurd H (by simp)
     ·rw [if_neg c5] at H
      exact absurd H (by simp)
    ·rw [if_neg c4] at H
     have c4b0 : decide (x5_1 < (l0.length : Int)) = false := decide_eq_false c4
     clear c4
     obtain rfl := Option.some.inj H
     go_wp2
     go_ret
     exact ⟨zR, zB⟩
 ·rw [if_neg c3] at H
  have c3b0 : ((l0.length : Int) == (l1.length : Int)) = false := beq_eq_false_iff_ne.mpr c3
  have c3b1 : ((l0.length : Int) != (l1.length : Int)) = true := bne_iff_ne.mpr c3
  have c3b2 : (l0.length == l1.length) = false := by first | simpa using c3 | (simp at c3 ⊢; omega)
  obtain rfl := Option.some.inj H
  go_enter Try.func70, Try.ntmps70
  go_wp2
  go_ret
  exact ⟨zR, zB⟩

/-! ### laws_eqSystem: function 20 -/
def laws_eqSystem.f (k : Nat) (a0_0 : Int) (a0_1 : Int) (a0_2 : Int) (a0_3 : Int) (a0_4 : ByteArray) (l0_5 : List (S155)) (l0_6 : List (S105)) (l0_7 : List (S166)) (a1_0 : Int) (a1_1 : Int) (a1_2 : Int) (a1_3 : Int) (a1_4 : ByteArray) (l1_5 : List (S155)) (l1_6 : List (S105)) (l1_7 : List (S166)) : Option (Bool) := (laws_eqGeo.f a0_0 a0_1 a0_2 a0_3 a1_0 a1_1 a1_2 a1_3).bind fun t343 => (if t343 = true then ((laws_eqMemory.f k a0_4 l0_5 a1_4 l1_5).bind fun t344 => (if t344 = true then ((laws_eqJobS.f k l0_6 l1_6).bind fun t345 => (if t345 = true then ((laws_eqSealingS.f k l0_7 l1_7).bind fun t346 => (if t346 = true then (some true) else (some false))) else (some false))) else (some false))) else (some false))
theorem laws_eqSystem.mono : ∀ a0 a1 a2 a3 a4 a5 a6 a7 a8 a9 a10 a11 a12 a13 a14 a15 k, LeO (laws_eqSystem.f k a0 a1 a2 a3 a4 a5 a6 a7 a8 a9 a10 a11 a12 a13 a14 a15) (laws_eqSystem.f (k + 1) a0 a1 a2 a3 a4 a5 a6 a7 a8 a9 a10 a11 a12 a13 a14 a15) := by
 intro a0 a1 a2 a3 a4 a5 a6 a7 a8 a9 a10 a11 a12 a13 a14 a15 k
 unfold laws_eqSystem.f
 repeat' first
   | (with_reducible exact laws_eqJobS.mono _ _ _)
   | (with_reducible exact laws_eqMemory.mono _ _ _ _ _)
   | (with_reducible exact laws_eqSealingS.mono _ _ _)
   | (with_reducible exact LeO.refl _)
   | (with_reducible exact LeO.none _)
   | (with_reducible refine LeO.ite ?_ ?_)
   | (with_reducible refine LeO.bind ?_ (fun _ => ?_))
   | exact laws_eqJobS.mono _ _ _
   | exact laws_eqMemory.mono _ _ _ _ _
   | exact laws_eqSealingS.mono _ _ _
   | exact LeO.none _
   | refine LeO.ite ?_ ?_
   | refine LeO.bind ?_ (fun _ => ?_)
set_option maxHeartbeats 8000000 in
set_option maxRecDepth 100000 in
theorem laws_eqSystem.calls (k : Nat) (a0_0 : Int) (a0_1 : Int) (a0_2 : Int) (a0_3 : Int) (a0_4 : ByteArray) (A0_5 : Option Addr) (c0_5 : Nat) (l0_5 : List (S155)) (A0_6 : Option Addr) (c0_6 : Nat) (l0_6 : List (S105)) (A0_7 : Option Addr) (c0_7 : Nat) (l0_7 : List (S166)) (a1_0 : Int) (a1_1 : Int) (a1_2 : Int) (a1_3 : Int) (a1_4 : ByteArray) (A1_5 : Option Addr) (c1_5 : Nat) (l1_5 : List (S155)) (A1_6 : Option Addr) (c1_6 : Nat) (l1_6 : List (S105)) (A1_7 : Option Addr) (c1_7 : Nat) (l1_7 : List (S166)) (r : Bool) (w : World) (hr0_5 : Kd.C k155 w A0_5 l0_5.length l0_5) (hc0_5 : l0_5.length ≤ c0_5) (hr0_6 : Kd.C k105 w A0_6 l0_6.length l0_6) (hc0_6 : l0_6.length ≤ c0_6) (hr0_7 : Kd.C k166 w A0_7 l0_7.length l0_7) (hc0_7 : l0_7.length ≤ c0_7) (hr1_5 : Kd.C k155 w A1_5 l1_5.length l1_5) (hc1_5 : l1_5.length ≤ c1_5) (hr1_6 : Kd.C k105 w A1_6 l1_6.length l1_6) (hc1_6 : l1_6.length ≤ c1_6) (hr1_7 : Kd.C k166 w A1_7 l1_7.length l1_7) (hc1_7 : l1_7.length ≤ c1_7) (h : laws_eqSystem.f k a0_0 a0_1 a0_2 a0_3 a0_4 l0_5 l0_6 l0_7 a1_0 a1_1 a1_2 a1_3 a1_4 l1_5 l1_6 l1_7 = some r) :
  Calls Try.prog 20 #[.agg #[.int .i64 a0_0, .int .i64 a0_1, .int .i64 a0_2, .int .i64 a0_3, .string a0_4, .slice A0_5 l0_5.length c0_5, .slice A0_6 l0_6.length c0_6, .slice A0_7 l0_7.length c0_7], .agg #[.int .i64 a1_0, .int .i64 a1_1, .int .i64 a1_2, .int .i64 a1_3, .string a1_4, .slice A1_5 l1_5.length c1_5, .slice A1_6 l1_6.length c1_6, .slice A1_7 l1_7.length c1_7]] w fun e w' => e = .returned (.bool r) ∧ Below w.heap.size w w' := by
 have hu46 := Try.underlying46
 have hu29 := Try.underlying29
 have hu33 := Try.underlying33
 have HR0_5 := Am hr0_5
 have HC0_5 := Am hc0_5
 clear hr0_5 hc0_5
 have HR0_6 := Am hr0_6
 have HC0_6 := Am hc0_6
 clear hr0_6 hc0_6
 have HR0_7 := Am hr0_7
 have HC0_7 := Am hc0_7
 clear hr0_7 hc0_7
 have HR1_5 := Am hr1_5
 have HC1_5 := Am hc1_5
 clear hr1_5 hc1_5
 have HR1_6 := Am hr1_6
 have HC1_6 := Am hc1_6
 clear hr1_6 hc1_6
 have HR1_7 := Am hr1_7
 have HC1_7 := Am hc1_7
 clear hr1_7 hc1_7
 have HB := Am (Below.refl w.heap.size w)
 have H : ((laws_eqGeo.f a0_0 a0_1 a0_2 a0_3 a1_0 a1_1 a1_2 a1_3).bind fun t343 => (if t343 = true then ((laws_eqMemory.f k a0_4 l0_5 a1_4 l1_5).bind fun t344 => (if t344 = true then ((laws_eqJobS.f k l0_6 l1_6).bind fun t345 => (if t345 = true then ((laws_eqSealingS.f k l0_7 l1_7).bind fun t346 => (if t346 = true then (some true) else (some false))) else (some false))) else (some false))) else (some false))) = some r := h
 clear h
 replace H := Option.bind_eq_some_iff.mp H
 obtain ⟨t343, A30, H⟩ := H
 replace H : (if t343 = true then ((laws_eqMemory.f k a0_4 l0_5 a1_4 l1_5).bind fun t344 => (if t344 = true then ((laws_eqJobS.f k l0_6 l1_6).bind fun t345 => (if t345 = true then ((laws_eqSealingS.f k l0_7 l1_7).bind fun t346 => (if t346 = true then (some true) else (some false))) else (some false))) else (some false))) else (some false)) = some r := H
 have A3 := Am A30
 clear A30
 by_cases c4 : t343 = true
 ·subst c4
  have H1 : ((laws_eqMemory.f k a0_4 l0_5 a1_4 l1_5).bind fun t344 => (if t344 = true then ((laws_eqJobS.f k l0_6 l1_6).bind fun t345 => (if t345 = true then ((laws_eqSealingS.f k l0_7 l1_7).bind fun t346 => (if t346 = true then (some true) else (some false))) else (some false))) else (some false))) = some r := by rw [if_pos rfl] at H; exact H
  clear H
  have H := H1
  clear H1
  replace H := Option.bind_eq_some_iff.mp H
  obtain ⟨t344, A50, H⟩ := H
  replace H : (if t344 = true then ((laws_eqJobS.f k l0_6 l1_6).bind fun t345 => (if t345 = true then ((laws_eqSealingS.f k l0_7 l1_7).bind fun t346 => (if t346 = true then (some true) else (some false))) else (some false))) else (some false)) = some r := H
  have A5 := Am A50
  clear A50
  by_cases c6 : t344 = true
  ·subst c6
   have H1 : ((laws_eqJobS.f k l0_6 l1_6).bind fun t345 => (if t345 = true then ((laws_eqSealingS.f k l0_7 l1_7).bind fun t346 => (if t346 = true then (some true) else (some false))) else (some false))) = some r := by rw [if_pos rfl] at H; exact H
   clear H
   have H := H1
   clear H1
   replace H := Option.bind_eq_some_iff.mp H
   obtain ⟨t345, A70, H⟩ := H
   replace H : (if t345 = true then ((laws_eqSealingS.f k l0_7 l1_7).bind fun t346 => (if t346 = true then (some true) else (some false))) else (some false)) = some r := H
   have A7 := Am A70
   clear A70
   by_cases c8 : t345 = true
   ·subst c8
    have H1 : ((laws_eqSealingS.f k l0_7 l1_7).bind fun t346 => (if t346 = true then (some true) else (some false))) = some r := by rw [if_pos rfl] at H; exact H
    clear H
    have H := H1
    clear H1
    replace H := Option.bind_eq_some_iff.mp H
    obtain ⟨t346, A90, H⟩ := H
    replace H : (if t346 = true then (some true) else (some false)) = some r := H
    have A9 := Am A90
    clear A90
    by_cases c10 : t346 = true
    ·subst c10
     have H1 : (some true) = some r := by rw [if_pos rfl] at H; exact H
     clear H
     have H := H1
     clear H1
     obtain rfl := Option.some.inj H
     go_enter Try.func20, Try.ntmps20
     go_wp2_with (first | ((with_reducible refine gate_dst (N := 2) rfl ?_); refine box_event ?hg (N := 2) ?hd (cs := #[.int .i64 a0_0, .int .i64 a0_1, .int .i64 a0_2, .int .i64 a0_3, .string a0_4, .slice A0_5 l0_5.length c0_5, .slice A0_6 l0_6.length c0_6, .slice A0_7 l0_7.length c0_7]) (t := 46) ?hr ?_; (case hd => rfl); (case hg => rfl); (case hr => first | (go_simp; done) | (go_simp; rfl)); intro gb341 hg w11 hbox hb; have BK341 := Am (hbox); have GW341 := Am ((by rw [hg]; exact (bz zB) : w.heap.size ≤ gb341)); have GE341 := Am ((by rw [hg]; exact (bz zB) : w.heap.size ≤ gb341)); replace HB := Am (bq zB hb); clear hb hbox hg) | ((with_reducible refine gate_dst (N := 3) rfl ?_); refine box_event ?hg (N := 3) ?hd (cs := #[.int .i64 a1_0, .int .i64 a1_1, .int .i64 a1_2, .int .i64 a1_3, .string a1_4, .slice A1_5 l1_5.length c1_5, .slice A1_6 l1_6.length c1_6, .slice A1_7 l1_7.length c1_7]) (t := 46) ?hr ?_; (case hd => rfl); (case hg => rfl); (case hr => first | (go_simp; done) | (go_simp; rfl)); intro gb342 hg w12 hbox hb; have n0_ := Am (zK BK341 hb); have n1_ := Am (bq zG hb); have n2_ := Am (hbox); have n3_ := Am ((by rw [hg]; exact (bz zG) : w.heap.size ≤ gb342)); have n4_ := Am ((by rw [hg]; exact (bz zG) : w.heap.size ≤ gb342)); have n5_ := Am ((by rw [hg]; exact Nat.ne_of_lt (zL BK341) : gb341 ≠ gb342)); have n6_ := Am ((by rw [hg]; exact Nat.ne_of_gt (zL BK341) : gb342 ≠ gb341)); clear BK341; clear HB; have BK341 := n0_; have HB := n1_; have BK342 := n2_; have GW342 := n3_; have GE342 := n4_; have NB341_342 := n5_; have NB342_341 := n6_; clear n0_ n1_ n2_ n3_ n4_ n5_ n6_; clear hb hbox hg; have hnb13 := NB341_342.out; have hnc13 := NB342_341.out; obtain ⟨hcz14_0, hcz14_1, hcz14_2, hcz14_3, hcz14_4, hcz14_5, hcz14_6, hcz14_7⟩ := kc8 (w := w12) BK341.out; have hfz14_0 := kf BK341.out; obtain ⟨hcz15_0, hcz15_1, hcz15_2, hcz15_3, hcz15_4, hcz15_5, hcz15_6, hcz15_7⟩ := kc8 (w := w12) BK342.out; have hfz15_0 := kf BK342.out) | ((with_reducible refine gate_callee (f := 69) rfl ?_); refine zC (some 9) rfl rfl Try.func69 rfl #[.agg #[.int .i64 a0_0, .int .i64 a0_1, .int .i64 a0_2, .int .i64 a0_3], .agg #[.int .i64 a1_0, .int .i64 a1_1, .int .i64 a1_2, .int .i64 a1_3]] rfl ?_; (with_reducible refine (laws_eqGeo.calls a0_0 a0_1 a0_2 a0_3 a1_0 a1_1 a1_2 a1_3 true _ A3.out).mono ?_); rintro e w16 ⟨rfl, hb⟩; refine ⟨_, rfl, ?_⟩; have n0_ := Am (zK BK341 hb); have n1_ := Am (zK BK342 hb); have n2_ := Am (bq zG hb); clear BK341; clear BK342; clear HB; have BK341 := n0_; have BK342 := n1_; have HB := n2_; clear n0_ n1_ n2_; (try clear hb); obtain ⟨hcz17_0, hcz17_1, hcz17_2, hcz17_3, hcz17_4, hcz17_5, hcz17_6, hcz17_7⟩ := kc8 (w := w16) BK341.out; have hfz17_0 := kf BK341.out; obtain ⟨hcz18_0, hcz18_1, hcz18_2, hcz18_3, hcz18_4, hcz18_5, hcz18_6, hcz18_7⟩ := kc8 (w := w16) BK342.out; have hfz18_0 := kf BK342.out) | ((with_reducible refine gate_callee (f := 15) rfl ?_); refine zC (some 15) rfl rfl Try.func15 rfl #[.agg #[.string a0_4, .slice A0_5 l0_5.length c0_5], .agg #[.string a1_4, .slice A1_5 l1_5.length c1_5]] rfl ?_; (with_reducible refine (laws_eqMemory.calls k a0_4 _ _ l0_5 a1_4 _ _ l1_5 true _ ?side1 ?side2 ?side3 ?side4 A5.out).mono ?_); (case side1 => repeat (first | exact (cb HR0_5.out HB.out) | (with_reducible first | refine ca ?_ _ | refine cn ?_ _ | refine ce ?_))); (case side2 => exact HC0_5.out); (case side3 => repeat (first | exact (cb HR1_5.out HB.out) | (with_reducible first | refine ca ?_ _ | refine cn ?_ _ | refine ce ?_))); (case side4 => exact HC1_5.out); rintro e w19 ⟨rfl, hb⟩; refine ⟨_, rfl, ?_⟩; have n0_ := Am (zK BK341 hb); have n1_ := Am (zK BK342 hb); have n2_ := Am (bq zG hb); clear BK341; clear BK342; clear HB; have BK341 := n0_; have BK342 := n1_; have HB := n2_; clear n0_ n1_ n2_; (try clear hb); obtain ⟨hcz20_0, hcz20_1, hcz20_2, hcz20_3, hcz20_4, hcz20_5, hcz20_6, hcz20_7⟩ := kc8 (w := w19) BK341.out; have hfz20_0 := kf BK341.out; obtain ⟨hcz21_0, hcz21_1, hcz21_2, hcz21_3, hcz21_4, hcz21_5, hcz21_6, hcz21_7⟩ := kc8 (w := w19) BK342.out; have hfz21_0 := kf BK342.out) | ((with_reducible refine gate_callee (f := 70) rfl ?_); refine zC (some 21) rfl rfl Try.func70 rfl #[.slice A0_6 l0_6.length c0_6, .slice A1_6 l1_6.length c1_6] rfl ?_; (with_reducible refine (laws_eqJobS.calls k _ _ l0_6 _ _ l1_6 true _ ?side1 ?side2 ?side3 ?side4 A7.out).mono ?_); (case side1 => repeat (first | exact (cb HR0_6.out HB.out) | (with_reducible first | refine ca ?_ _ | refine cn ?_ _ | refine ce ?_))); (case side2 => exact HC0_6.out); (case side3 => repeat (first | exact (cb HR1_6.out HB.out) | (with_reducible first | refine ca ?_ _ | refine cn ?_ _ | refine ce ?_))); (case side4 => exact HC1_6.out); rintro e w22 ⟨rfl, hb⟩; refine ⟨_, rfl, ?_⟩; have n0_ := Am (zK BK341 hb); have n1_ := Am (zK BK342 hb); have n2_ := Am (bq zG hb); clear BK341; clear BK342; clear HB; have BK341 := n0_; have BK342 := n1_; have HB := n2_; clear n0_ n1_ n2_; (try clear hb); obtain ⟨hcz23_0, hcz23_1, hcz23_2, hcz23_3, hcz23_4, hcz23_5, hcz23_6, hcz23_7⟩ := kc8 (w := w22) BK341.out; have hfz23_0 := kf BK341.out; obtain ⟨hcz24_0, hcz24_1, hcz24_2, hcz24_3, hcz24_4, hcz24_5, hcz24_6, hcz24_7⟩ := kc8 (w := w22) BK342.out; have hfz24_0 := kf BK342.out) | ((with_reducible refine gate_callee (f := 71) rfl ?_); refine zC (some 27) rfl rfl Try.func71 rfl #[.slice A0_7 l0_7.length c0_7, .slice A1_7 l1_7.length c1_7] rfl ?_; (with_reducible refine (laws_eqSealingS.calls k _ _ l0_7 _ _ l1_7 true _ ?side1 ?side2 ?side3 ?side4 A9.out).mono ?_); (case side1 => repeat (first | exact (cb HR0_7.out HB.out) | (with_reducible first | refine ca ?_ _ | refine cn ?_ _ | refine ce ?_))); (case side2 => exact HC0_7.out); (case side3 => repeat (first | exact (cb HR1_7.out HB.out) | (with_reducible first | refine ca ?_ _ | refine cn ?_ _ | refine ce ?_))); (case side4 => exact HC1_7.out); rintro e w25 ⟨rfl, hb⟩; refine ⟨_, rfl, ?_⟩; have n0_ := Am (zK BK341 hb); have n1_ := Am (zK BK342 hb); have n2_ := Am (bq zG hb); clear BK341; clear BK342; clear HB; have BK341 := n0_; have BK342 := n1_; have HB := n2_; clear n0_ n1_ n2_; (try clear hb)))
     go_ret
     exact ⟨zR, zG⟩
    ·replace c10 := Bool.eq_false_iff.mpr c10
     subst c10
     have H1 : (some false) = some r := by rw [if_neg (show ¬ (false = true) by decide)] at H; exact H
     clear H
     have H := H1
     clear H1
     obtain rfl := Option.some.inj H
     go_enter Try.func20, Try.ntmps20
     go_wp2_with (first | ((with_reducible refine gate_dst (N := 2) rfl ?_); refine box_event ?hg (N := 2) ?hd (cs := #[.int .i64 a0_0, .int .i64 a0_1, .int .i64 a0_2, .int .i64 a0_3, .string a0_4, .slice A0_5 l0_5.length c0_5, .slice A0_6 l0_6.length c0_6, .slice A0_7 l0_7.length c0_7]) (t := 46) ?hr ?_; (case hd => rfl); (case hg => rfl); (case hr => first | (go_simp; done) | (go_simp; rfl)); intro gb341 hg w26 hbox hb; have BK341 := Am (hbox); have GW341 := Am ((by rw [hg]; exact (bz zB) : w.heap.size ≤ gb341)); have GE341 := Am ((by rw [hg]; exact (bz zB) : w.heap.size ≤ gb341)); replace HB := Am (bq zB hb); clear hb hbox hg) | ((with_reducible refine gate_dst (N := 3) rfl ?_); refine box_event ?hg (N := 3) ?hd (cs := #[.int .i64 a1_0, .int .i64 a1_1, .int .i64 a1_2, .int .i64 a1_3, .string a1_4, .slice A1_5 l1_5.length c1_5, .slice A1_6 l1_6.length c1_6, .slice A1_7 l1_7.length c1_7]) (t := 46) ?hr ?_; (case hd => rfl); (case hg => rfl); (case hr => first | (go_simp; done) | (go_simp; rfl)); intro gb342 hg w27 hbox hb; have n0_ := Am (zK BK341 hb); have n1_ := Am (bq zG hb); have n2_ := Am (hbox); have n3_ := Am ((by rw [hg]; exact (bz zG) : w.heap.size ≤ gb342)); have n4_ := Am ((by rw [hg]; exact (bz zG) : w.heap.size ≤ gb342)); have n5_ := Am ((by rw [hg]; exact Nat.ne_of_lt (zL BK341) : gb341 ≠ gb342)); have n6_ := Am ((by rw [hg]; exact Nat.ne_of_gt (zL BK341) : gb342 ≠ gb341)); clear BK341; clear HB; have BK341 := n0_; have HB := n1_; have BK342 := n2_; have GW342 := n3_; have GE342 := n4_; have NB341_342 := n5_; have NB342_341 := n6_; clear n0_ n1_ n2_ n3_ n4_ n5_ n6_; clear hb hbox hg; have hnb28 := NB341_342.out; have hnc28 := NB342_341.out; obtain ⟨hcz29_0, hcz29_1, hcz29_2, hcz29_3, hcz29_4, hcz29_5, hcz29_6, hcz29_7⟩ := kc8 (w := w27) BK341.out; have hfz29_0 := kf BK341.out; obtain ⟨hcz30_0, hcz30_1, hcz30_2, hcz30_3, hcz30_4, hcz30_5, hcz30_6, hcz30_7⟩ := kc8 (w := w27) BK342.out; have hfz30_0 := kf BK342.out) | ((with_reducible refine gate_callee (f := 69) rfl ?_); refine zC (some 9) rfl rfl Try.func69 rfl #[.agg #[.int .i64 a0_0, .int .i64 a0_1, .int .i64 a0_2, .int .i64 a0_3], .agg #[.int .i64 a1_0, .int .i64 a1_1, .int .i64 a1_2, .int .i64 a1_3]] rfl ?_; (with_reducible refine (laws_eqGeo.calls a0_0 a0_1 a0_2 a0_3 a1_0 a1_1 a1_2 a1_3 true _ A3.out).mono ?_); rintro e w31 ⟨rfl, hb⟩; refine ⟨_, rfl, ?_⟩; have n0_ := Am (zK BK341 hb); have n1_ := Am (zK BK342 hb); have n2_ := Am (bq zG hb); clear BK341; clear BK342; clear HB; have BK341 := n0_; have BK342 := n1_; have HB := n2_; clear n0_ n1_ n2_; (try clear hb); obtain ⟨hcz32_0, hcz32_1, hcz32_2, hcz32_3, hcz32_4, hcz32_5, hcz32_6, hcz32_7⟩ := kc8 (w := w31) BK341.out; have hfz32_0 := kf BK341.out; obtain ⟨hcz33_0, hcz33_1, hcz33_2, hcz33_3, hcz33_4, hcz33_5, hcz33_6, hcz33_7⟩ := kc8 (w := w31) BK342.out; have hfz33_0 := kf BK342.out) | ((with_reducible refine gate_callee (f := 15) rfl ?_); refine zC (some 15) rfl rfl Try.func15 rfl #[.agg #[.string a0_4, .slice A0_5 l0_5.length c0_5], .agg #[.string a1_4, .slice A1_5 l1_5.length c1_5]] rfl ?_; (with_reducible refine (laws_eqMemory.calls k a0_4 _ _ l0_5 a1_4 _ _ l1_5 true _ ?side1 ?side2 ?side3 ?side4 A5.out).mono ?_); (case side1 => repeat (first | exact (cb HR0_5.out HB.out) | (with_reducible first | refine ca ?_ _ | refine cn ?_ _ | refine ce ?_))); (case side2 => exact HC0_5.out); (case side3 => repeat (first | exact (cb HR1_5.out HB.out) | (with_reducible first | refine ca ?_ _ | refine cn ?_ _ | refine ce ?_))); (case side4 => exact HC1_5.out); rintro e w34 ⟨rfl, hb⟩; refine ⟨_, rfl, ?_⟩; have n0_ := Am (zK BK341 hb); have n1_ := Am (zK BK342 hb); have n2_ := Am (bq zG hb); clear BK341; clear BK342; clear HB; have BK341 := n0_; have BK342 := n1_; have HB := n2_; clear n0_ n1_ n2_; (try clear hb); obtain ⟨hcz35_0, hcz35_1, hcz35_2, hcz35_3, hcz35_4, hcz35_5, hcz35_6, hcz35_7⟩ := kc8 (w := w34) BK341.out; have hfz35_0 := kf BK341.out; obtain ⟨hcz36_0, hcz36_1, hcz36_2, hcz36_3, hcz36_4, hcz36_5, hcz36_6, hcz36_7⟩ := kc8 (w := w34) BK342.out; have hfz36_0 := kf BK342.out) | ((with_reducible refine gate_callee (f := 70) rfl ?_); refine zC (some 21) rfl rfl Try.func70 rfl #[.slice A0_6 l0_6.length c0_6, .slice A1_6 l1_6.length c1_6] rfl ?_; (with_reducible refine (laws_eqJobS.calls k _ _ l0_6 _ _ l1_6 true _ ?side1 ?side2 ?side3 ?side4 A7.out).mono ?_); (case side1 => repeat (first | exact (cb HR0_6.out HB.out) | (with_reducible first | refine ca ?_ _ | refine cn ?_ _ | refine ce ?_))); (case side2 => exact HC0_6.out); (case side3 => repeat (first | exact (cb HR1_6.out HB.out) | (with_reducible first | refine ca ?_ _ | refine cn ?_ _ | refine ce ?_))); (case side4 => exact HC1_6.out); rintro e w37 ⟨rfl, hb⟩; refine ⟨_, rfl, ?_⟩; have n0_ := Am (zK BK341 hb); have n1_ := Am (zK BK342 hb); have n2_ := Am (bq zG hb); clear BK341; clear BK342; clear HB; have BK341 := n0_; have BK342 := n1_; have HB := n2_; clear n0_ n1_ n2_; (try clear hb); obtain ⟨hcz38_0, hcz38_1, hcz38_2, hcz38_3, hcz38_4, hcz38_5, hcz38_6, hcz38_7⟩ := kc8 (w := w37) BK341.out; have hfz38_0 := kf BK341.out; obtain ⟨hcz39_0, hcz39_1, hcz39_2, hcz39_3, hcz39_4, hcz39_5, hcz39_6, hcz39_7⟩ := kc8 (w := w37) BK342.out; have hfz39_0 := kf BK342.out) | ((with_reducible refine gate_callee (f := 71) rfl ?_); refine zC (some 27) rfl rfl Try.func71 rfl #[.slice A0_7 l0_7.length c0_7, .slice A1_7 l1_7.length c1_7] rfl ?_; (with_reducible refine (laws_eqSealingS.calls k _ _ l0_7 _ _ l1_7 false _ ?side1 ?side2 ?side3 ?side4 A9.out).mono ?_); (case side1 => repeat (first | exact (cb HR0_7.out HB.out) | (with_reducible first | refine ca ?_ _ | refine cn ?_ _ | refine ce ?_))); (case side2 => exact HC0_7.out); (case side3 => repeat (first | exact (cb HR1_7.out HB.out) | (with_reducible first | refine ca ?_ _ | refine cn ?_ _ | refine ce ?_))); (case side4 => exact HC1_7.out); rintro e w40 ⟨rfl, hb⟩; refine ⟨_, rfl, ?_⟩; have n0_ := Am (zK BK341 hb); have n1_ := Am (zK BK342 hb); have n2_ := Am (bq zG hb); clear BK341; clear BK342; clear HB; have BK341 := n0_; have BK342 := n1_; have HB := n2_; clear n0_ n1_ n2_; (try clear hb)))
     go_ret
     exact ⟨zR, zG⟩
   ·replace c8 := Bool.eq_false_iff.mpr c8
    subst c8
    have H1 : (some false) = some r := by rw [if_neg (show ¬ (false = true) by decide)] at H; exact H
    clear H
    have H := H1
    clear H1
    obtain rfl := Option.some.inj H
    go_enter Try.func20, Try.ntmps20
    go_wp2_with (first | ((with_reducible refine gate_dst (N := 2) rfl ?_); refine box_event ?hg (N := 2) ?hd (cs := #[.int .i64 a0_0, .int .i64 a0_1, .int .i64 a0_2, .int .i64 a0_3, .string a0_4, .slice A0_5 l0_5.length c0_5, .slice A0_6 l0_6.length c0_6, .slice A0_7 l0_7.length c0_7]) (t := 46) ?hr ?_; (case hd => rfl); (case hg => rfl); (case hr => first | (go_simp; done) | (go_simp; rfl)); intro gb341 hg w41 hbox hb; have BK341 := Am (hbox); have GW341 := Am ((by rw [hg]; exact (bz zB) : w.heap.size ≤ gb341)); have GE341 := Am ((by rw [hg]; exact (bz zB) : w.heap.size ≤ gb341)); replace HB := Am (bq zB hb); clear hb hbox hg) | ((with_reducible refine gate_dst (N := 3) rfl ?_); refine box_event ?hg (N := 3) ?hd (cs := #[.int .i64 a1_0, .int .i64 a1_1, .int .i64 a1_2, .int .i64 a1_3, .string a1_4, .slice A1_5 l1_5.length c1_5, .slice A1_6 l1_6.length c1_6, .slice A1_7 l1_7.length c1_7]) (t := 46) ?hr ?_; (case hd => rfl); (case hg => rfl); (case hr => first | (go_simp; done) | (go_simp; rfl)); intro gb342 hg w42 hbox hb; have n0_ := Am (zK BK341 hb); have n1_ := Am (bq zG hb); have n2_ := Am (hbox); have n3_ := Am ((by rw [hg]; exact (bz zG) : w.heap.size ≤ gb342)); have n4_ := Am ((by rw [hg]; exact (bz zG) : w.heap.size ≤ gb342)); have n5_ := Am ((by rw [hg]; exact Nat.ne_of_lt (zL BK341) : gb341 ≠ gb342)); have n6_ := Am ((by rw [hg]; exact Nat.ne_of_gt (zL BK341) : gb342 ≠ gb341)); clear BK341; clear HB; have BK341 := n0_; have HB := n1_; have BK342 := n2_; have GW342 := n3_; have GE342 := n4_; have NB341_342 := n5_; have NB342_341 := n6_; clear n0_ n1_ n2_ n3_ n4_ n5_ n6_; clear hb hbox hg; have hnb43 := NB341_342.out; have hnc43 := NB342_341.out; obtain ⟨hcz44_0, hcz44_1, hcz44_2, hcz44_3, hcz44_4, hcz44_5, hcz44_6, hcz44_7⟩ := kc8 (w := w42) BK341.out; have hfz44_0 := kf BK341.out; obtain ⟨hcz45_0, hcz45_1, hcz45_2, hcz45_3, hcz45_4, hcz45_5, hcz45_6, hcz45_7⟩ := kc8 (w := w42) BK342.out; have hfz45_0 := kf BK342.out) | ((with_reducible refine gate_callee (f := 69) rfl ?_); refine zC (some 9) rfl rfl Try.func69 rfl #[.agg #[.int .i64 a0_0, .int .i64 a0_1, .int .i64 a0_2, .int .i64 a0_3], .agg #[.int .i64 a1_0, .int .i64 a1_1, .int .i64 a1_2, .int .i64 a1_3]] rfl ?_; (with_reducible refine (laws_eqGeo.calls a0_0 a0_1 a0_2 a0_3 a1_0 a1_1 a1_2 a1_3 true _ A3.out).mono ?_); rintro e w46 ⟨rfl, hb⟩; refine ⟨_, rfl, ?_⟩; have n0_ := Am (zK BK341 hb); have n1_ := Am (zK BK342 hb); have n2_ := Am (bq zG hb); clear BK341; clear BK342; clear HB; have BK341 := n0_; have BK342 := n1_; have HB := n2_; clear n0_ n1_ n2_; (try clear hb); obtain ⟨hcz47_0, hcz47_1, hcz47_2, hcz47_3, hcz47_4, hcz47_5, hcz47_6, hcz47_7⟩ := kc8 (w := w46) BK341.out; have hfz47_0 := kf BK341.out; obtain ⟨hcz48_0, hcz48_1, hcz48_2, hcz48_3, hcz48_4, hcz48_5, hcz48_6, hcz48_7⟩ := kc8 (w := w46) BK342.out; have hfz48_0 := kf BK342.out) | ((with_reducible refine gate_callee (f := 15) rfl ?_); refine zC (some 15) rfl rfl Try.func15 rfl #[.agg #[.string a0_4, .slice A0_5 l0_5.length c0_5], .agg #[.string a1_4, .slice A1_5 l1_5.length c1_5]] rfl ?_; (with_reducible refine (laws_eqMemory.calls k a0_4 _ _ l0_5 a1_4 _ _ l1_5 true _ ?side1 ?side2 ?side3 ?side4 A5.out).mono ?_); (case side1 => repeat (first | exact (cb HR0_5.out HB.out) | (with_reducible first | refine ca ?_ _ | refine cn ?_ _ | refine ce ?_))); (case side2 => exact HC0_5.out); (case side3 => repeat (first | exact (cb HR1_5.out HB.out) | (with_reducible first | refine ca ?_ _ | refine cn ?_ _ | refine ce ?_))); (case side4 => exact HC1_5.out); rintro e w49 ⟨rfl, hb⟩; refine ⟨_, rfl, ?_⟩; have n0_ := Am (zK BK341 hb); have n1_ := Am (zK BK342 hb); have n2_ := Am (bq zG hb); clear BK341; clear BK342; clear HB; have BK341 := n0_; have BK342 := n1_; have HB := n2_; clear n0_ n1_ n2_; (try clear hb); obtain ⟨hcz50_0, hcz50_1, hcz50_2, hcz50_3, hcz50_4, hcz50_5, hcz50_6, hcz50_7⟩ := kc8 (w := w49) BK341.out; have hfz50_0 := kf BK341.out; obtain ⟨hcz51_0, hcz51_1, hcz51_2, hcz51_3, hcz51_4, hcz51_5, hcz51_6, hcz51_7⟩ := kc8 (w := w49) BK342.out; have hfz51_0 := kf BK342.out) | ((with_reducible refine gate_callee (f := 70) rfl ?_); refine zC (some 21) rfl rfl Try.func70 rfl #[.slice A0_6 l0_6.length c0_6, .slice A1_6 l1_6.length c1_6] rfl ?_; (with_reducible refine (laws_eqJobS.calls k _ _ l0_6 _ _ l1_6 false _ ?side1 ?side2 ?side3 ?side4 A7.out).mono ?_); (case side1 => repeat (first | exact (cb HR0_6.out HB.out) | (with_reducible first | refine ca ?_ _ | refine cn ?_ _ | refine ce ?_))); (case side2 => exact HC0_6.out); (case side3 => repeat (first | exact (cb HR1_6.out HB.out) | (with_reducible first | refine ca ?_ _ | refine cn ?_ _ | refine ce ?_))); (case side4 => exact HC1_6.out); rintro e w52 ⟨rfl, hb⟩; refine ⟨_, rfl, ?_⟩; have n0_ := Am (zK BK341 hb); have n1_ := Am (zK BK342 hb); have n2_ := Am (bq zG hb); clear BK341; clear BK342; clear HB; have BK341 := n0_; have BK342 := n1_; have HB := n2_; clear n0_ n1_ n2_; (try clear hb)))
    go_ret
    exact ⟨zR, zG⟩
  ·replace c6 := Bool.eq_false_iff.mpr c6
   subst c6
   have H1 : (some false) = some r := by rw [if_neg (show ¬ (false = true) by decide)] at H; exact H
   clear H
   have H := H1
   clear H1
   obtain rfl := Option.some.inj H
   go_enter Try.func20, Try.ntmps20
   go_wp2_with (first | ((with_reducible refine gate_dst (N := 2) rfl ?_); refine box_event ?hg (N := 2) ?hd (cs := #[.int .i64 a0_0, .int .i64 a0_1, .int .i64 a0_2, .int .i64 a0_3, .string a0_4, .slice A0_5 l0_5.length c0_5, .slice A0_6 l0_6.length c0_6, .slice A0_7 l0_7.length c0_7]) (t := 46) ?hr ?_; (case hd => rfl); (case hg => rfl); (case hr => first | (go_simp; done) | (go_simp; rfl)); intro gb341 hg w53 hbox hb; have BK341 := Am (hbox); have GW341 := Am ((by rw [hg]; exact (bz zB) : w.heap.size ≤ gb341)); have GE341 := Am ((by rw [hg]; exact (bz zB) : w.heap.size ≤ gb341)); replace HB := Am (bq zB hb); clear hb hbox hg) | ((with_reducible refine gate_dst (N := 3) rfl ?_); refine box_event ?hg (N := 3) ?hd (cs := #[.int .i64 a1_0, .int .i64 a1_1, .int .i64 a1_2, .int .i64 a1_3, .string a1_4, .slice A1_5 l1_5.length c1_5, .slice A1_6 l1_6.length c1_6, .slice A1_7 l1_7.length c1_7]) (t := 46) ?hr ?_; (case hd => rfl); (case hg => rfl); (case hr => first | (go_simp; done) | (go_simp; rfl)); intro gb342 hg w54 hbox hb; have n0_ := Am (zK BK341 hb); have n1_ := Am (bq zG hb); have n2_ := Am (hbox); have n3_ := Am ((by rw [hg]; exact (bz zG) : w.heap.size ≤ gb342)); have n4_ := Am ((by rw [hg]; exact (bz zG) : w.heap.size ≤ gb342)); have n5_ := Am ((by rw [hg]; exact Nat.ne_of_lt (zL BK341) : gb341 ≠ gb342)); have n6_ := Am ((by rw [hg]; exact Nat.ne_of_gt (zL BK341) : gb342 ≠ gb341)); clear BK341; clear HB; have BK341 := n0_; have HB := n1_; have BK342 := n2_; have GW342 := n3_; have GE342 := n4_; have NB341_342 := n5_; have NB342_341 := n6_; clear n0_ n1_ n2_ n3_ n4_ n5_ n6_; clear hb hbox hg; have hnb55 := NB341_342.out; have hnc55 := NB342_341.out; obtain ⟨hcz56_0, hcz56_1, hcz56_2, hcz56_3, hcz56_4, hcz56_5, hcz56_6, hcz56_7⟩ := kc8 (w := w54) BK341.out; have hfz56_0 := kf BK341.out; obtain ⟨hcz57_0, hcz57_1, hcz57_2, hcz57_3, hcz57_4, hcz57_5, hcz57_6, hcz57_7⟩ := kc8 (w := w54) BK342.out; have hfz57_0 := kf BK342.out) | ((with_reducible refine gate_callee (f := 69) rfl ?_); refine zC (some 9) rfl rfl Try.func69 rfl #[.agg #[.int .i64 a0_0, .int .i64 a0_1, .int .i64 a0_2, .int .i64 a0_3], .agg #[.int .i64 a1_0, .int .i64 a1_1, .int .i64 a1_2, .int .i64 a1_3]] rfl ?_; (with_reducible refine (laws_eqGeo.calls a0_0 a0_1 a0_2 a0_3 a1_0 a1_1 a1_2 a1_3 true _ A3.out).mono ?_); rintro e w58 ⟨rfl, hb⟩; refine ⟨_, rfl, ?_⟩; have n0_ := Am (zK BK341 hb); have n1_ := Am (zK BK342 hb); have n2_ := Am (bq zG hb); clear BK341; clear BK342; clear HB; have BK341 := n0_; have BK342 := n1_; have HB := n2_; clear n0_ n1_ n2_; (try clear hb); obtain ⟨hcz59_0, hcz59_1, hcz59_2, hcz59_3, hcz59_4, hcz59_5, hcz59_6, hcz59_7⟩ := kc8 (w := w58) BK341.out; have hfz59_0 := kf BK341.out; obtain ⟨hcz60_0, hcz60_1, hcz60_2, hcz60_3, hcz60_4, hcz60_5, hcz60_6, hcz60_7⟩ := kc8 (w := w58) BK342.out; have hfz60_0 := kf BK342.out) | ((with_reducible refine gate_callee (f := 15) rfl ?_); refine zC (some 15) rfl rfl Try.func15 rfl #[.agg #[.string a0_4, .slice A0_5 l0_5.length c0_5], .agg #[.string a1_4, .slice A1_5 l1_5.length c1_5]] rfl ?_; (with_reducible refine (laws_eqMemory.calls k a0_4 _ _ l0_5 a1_4 _ _ l1_5 false _ ?side1 ?side2 ?side3 ?side4 A5.out).mono ?_); (case side1 => repeat (first | exact (cb HR0_5.out HB.out) | (with_reducible first | refine ca ?_ _ | refine cn ?_ _ | refine ce ?_))); (case side2 => exact HC0_5.out); (case side3 => repeat (first | exact (cb HR1_5.out HB.out) | (with_reducible first | refine ca ?_ _ | refine cn ?_ _ | refine ce ?_))); (case side4 => exact HC1_5.out); rintro e w61 ⟨rfl, hb⟩; refine ⟨_, rfl, ?_⟩; have n0_ := Am (zK BK341 hb); have n1_ := Am (zK BK342 hb); have n2_ := Am (bq zG hb); clear BK341; clear BK342; clear HB; have BK341 := n0_; have BK342 := n1_; have HB := n2_; clear n0_ n1_ n2_; (try clear hb)))
   go_ret
   exact ⟨zR, zG⟩
 ·replace c4 := Bool.eq_false_iff.mpr c4
  subst c4
  have H1 : (some false) = some r := by rw [if_neg (show ¬ (false = true) by decide)] at H; exact H
  clear H
  have H := H1
  clear H1
  obtain rfl := Option.some.inj H
  go_enter Try.func20, Try.ntmps20
  go_wp2_with (first | ((with_reducible refine gate_dst (N := 2) rfl ?_); refine box_event ?hg (N := 2) ?hd (cs := #[.int .i64 a0_0, .int .i64 a0_1, .int .i64 a0_2, .int .i64 a0_3, .string a0_4, .slice A0_5 l0_5.length c0_5, .slice A0_6 l0_6.length c0_6, .slice A0_7 l0_7.length c0_7]) (t := 46) ?hr ?_; (case hd => rfl); (case hg => rfl); (case hr => first | (go_simp; done) | (go_simp; rfl)); intro gb341 hg w62 hbox hb; have BK341 := Am (hbox); have GW341 := Am ((by rw [hg]; exact (bz zB) : w.heap.size ≤ gb341)); have GE341 := Am ((by rw [hg]; exact (bz zB) : w.heap.size ≤ gb341)); replace HB := Am (bq zB hb); clear hb hbox hg) | ((with_reducible refine gate_dst (N := 3) rfl ?_); refine box_event ?hg (N := 3) ?hd (cs := #[.int .i64 a1_0, .int .i64 a1_1, .int .i64 a1_2, .int .i64 a1_3, .string a1_4, .slice A1_5 l1_5.length c1_5, .slice A1_6 l1_6.length c1_6, .slice A1_7 l1_7.length c1_7]) (t := 46) ?hr ?_; (case hd => rfl); (case hg => rfl); (case hr => first | (go_simp; done) | (go_simp; rfl)); intro gb342 hg w63 hbox hb; have n0_ := Am (zK BK341 hb); have n1_ := Am (bq zG hb); have n2_ := Am (hbox); have n3_ := Am ((by rw [hg]; exact (bz zG) : w.heap.size ≤ gb342)); have n4_ := Am ((by rw [hg]; exact (bz zG) : w.heap.size ≤ gb342)); have n5_ := Am ((by rw [hg]; exact Nat.ne_of_lt (zL BK341) : gb341 ≠ gb342)); have n6_ := Am ((by rw [hg]; exact Nat.ne_of_gt (zL BK341) : gb342 ≠ gb341)); clear BK341; clear HB; have BK341 := n0_; have HB := n1_; have BK342 := n2_; have GW342 := n3_; have GE342 := n4_; have NB341_342 := n5_; have NB342_341 := n6_; clear n0_ n1_ n2_ n3_ n4_ n5_ n6_; clear hb hbox hg; have hnb64 := NB341_342.out; have hnc64 := NB342_341.out; obtain ⟨hcz65_0, hcz65_1, hcz65_2, hcz65_3, hcz65_4, hcz65_5, hcz65_6, hcz65_7⟩ := kc8 (w := w63) BK341.out; have hfz65_0 := kf BK341.out; obtain ⟨hcz66_0, hcz66_1, hcz66_2, hcz66_3, hcz66_4, hcz66_5, hcz66_6, hcz66_7⟩ := kc8 (w := w63) BK342.out; have hfz66_0 := kf BK342.out) | ((with_reducible refine gate_callee (f := 69) rfl ?_); refine zC (some 9) rfl rfl Try.func69 rfl #[.agg #[.int .i64 a0_0, .int .i64 a0_1, .int .i64 a0_2, .int .i64 a0_3], .agg #[.int .i64 a1_0, .int .i64 a1_1, .int .i64 a1_2, .int .i64 a1_3]] rfl ?_; (with_reducible refine (laws_eqGeo.calls a0_0 a0_1 a0_2 a0_3 a1_0 a1_1 a1_2 a1_3 false _ A3.out).mono ?_); rintro e w67 ⟨rfl, hb⟩; refine ⟨_, rfl, ?_⟩; have n0_ := Am (zK BK341 hb); have n1_ := Am (zK BK342 hb); have n2_ := Am (bq zG hb); clear BK341; clear BK342; clear HB; have BK341 := n0_; have BK342 := n1_; have HB := n2_; clear n0_ n1_ n2_; (try clear hb)))
  go_ret
  exact ⟨zR, zG⟩

end Go.Proofs.Ytconffflmbakgaa.QFnExactSystemOk
