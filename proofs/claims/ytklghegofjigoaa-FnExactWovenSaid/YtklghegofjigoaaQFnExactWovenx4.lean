/- Go functions as Lean functions, and their contracts. Own text: written by wip/gen/pr.py (a turned copy of the print). -/
import Derived.Test.YtklghegofjigoaaQFnExactWovenx0
import Derived.Test.YtklghegofjigoaaQFnExactWovenx2
namespace Go.Proofs.Ytklghegofjigoaa.QFnExactWoven
open Go.RowKit Go.Proofs.YtklghegofjigoaaW.PrintWords Go.Proofs.YtklghegofjigoaaW.PrintLast Go.Proofs.YtklghegofjigoaaW.PrintMore
attribute [local go_sem] max2_int min2_int max_two min_two max_three min_three max_four min_four   -- for this text's walks alone
open Go.Proofs.YtklghegofjigoaaW.PrintWords renaming below_alloc → ba, pw_below_drewN → bn, below_drew1 → be, below_step → bt
open Go.Proofs.YtklghegofjigoaaW.PrintWords.Aside0 renaming mk → Am
set_option linter.unusedVariables false
set_option linter.unusedSimpArgs false

/-! ### laws_heldActS: function 27 -/
theorem cl4 {w w2 : World} {a : Addr} {v : Value} (h : Aside0 (Below w.heap.size w w2)) (e : w.cell? a = some v) : w2.cell? a = some v := (h.out.cell (World.block_lt_of_cell? w _ e)).trans e
def laws_heldActS.l0 : Nat → List (S33) → Int → Int → Option (Int)
 | 0, _, _, _ => none
 | k + 1, x0, x1, x5 => if x5 < (x0.length : Int) then (if 0 ≤ x5 then (if ((rd_T33 x0 x5).f0) = x1 then (if ((rd_T33 x0 x5).f1) = (wrap64 (x1 + 1)) then (if ((rd_T33 x0 x5).f2.f0) = (wrap64 ((wrap64 (x1 + 1)) + 1)) then ((laws_markText.f k (wrap64 ((wrap64 ((wrap64 (x1 + 1)) + 1)) + 1))).bind fun t217 => (if ((rd_T33 x0 x5).f2.f1).toList = t217.toList then ((laws_markText.f k (wrap64 ((wrap64 ((wrap64 ((wrap64 (x1 + 1)) + 1)) + 1)) + 1))).bind fun t219 => (if ((rd_T33 x0 x5).f2.f2).toList = t219.toList then (if ((rd_T33 x0 x5).f2.f3) = (wrap64 ((wrap64 ((wrap64 ((wrap64 ((wrap64 (x1 + 1)) + 1)) + 1)) + 1)) + 1)) then (if ((rd_T33 x0 x5).f2.f4) = (wrap64 ((wrap64 ((wrap64 ((wrap64 ((wrap64 ((wrap64 (x1 + 1)) + 1)) + 1)) + 1)) + 1)) + 1)) then ((laws_markText.f k (wrap64 ((wrap64 ((wrap64 ((wrap64 ((wrap64 ((wrap64 ((wrap64 (x1 + 1)) + 1)) + 1)) + 1)) + 1)) + 1)) + 1))).bind fun t223 => (if ((rd_T33 x0 x5).f2.f5).toList = t223.toList then (if ((rd_T33 x0 x5).f3) = (wrap64 ((wrap64 ((wrap64 ((wrap64 ((wrap64 ((wrap64 ((wrap64 ((wrap64 (x1 + 1)) + 1)) + 1)) + 1)) + 1)) + 1)) + 1)) + 1)) then (laws_heldActS.l0 k x0 (wrap64 ((wrap64 ((wrap64 ((wrap64 ((wrap64 ((wrap64 ((wrap64 ((wrap64 ((wrap64 (x1 + 1)) + 1)) + 1)) + 1)) + 1)) + 1)) + 1)) + 1)) + 1)) (wrap64 (x5 + 1))) else (some (-1))) else (some (-1)))) else (some (-1))) else (some (-1))) else (some (-1)))) else (some (-1)))) else (some (-1))) else (some (-1))) else (some (-1))) else (none)) else (some x1)
def laws_heldActS.f (k : Nat) (l0 : List (S33)) (a1 : Int) : Option (Int) := laws_heldActS.l0 k l0 a1 0
theorem laws_heldActS.mono_l : ∀ k, (∀ y0 y1 y2, LeO (laws_heldActS.l0 k y0 y1 y2) (laws_heldActS.l0 (k + 1) y0 y1 y2))
 | 0 => fun _ _ _ r h => by simp [laws_heldActS.l0] at h
 | k + 1 => by
  have ih0 := laws_heldActS.mono_l k
  ·intro y0 y1 y2
   unfold laws_heldActS.l0
   repeat' first
   | (with_reducible exact ih0 _ _ _)
   | (with_reducible exact laws_markText.mono _ _)
   | (with_reducible exact LeO.refl _)
   | (with_reducible exact LeO.none _)
   | (with_reducible refine LeO.ite ?_ ?_)
   | (with_reducible refine LeO.bind ?_ (fun _ => ?_))
   | exact ih0 _ _ _
   | exact laws_markText.mono _ _
   | exact LeO.none _
   | refine LeO.ite ?_ ?_
   | refine LeO.bind ?_ (fun _ => ?_)
theorem laws_heldActS.mono : ∀ a0 a1 k, LeO (laws_heldActS.f k a0 a1) (laws_heldActS.f (k + 1) a0 a1) := by
 intro a0 a1 k
 have ih0 := laws_heldActS.mono_l k
 unfold laws_heldActS.f
 repeat' first
   | (with_reducible exact ih0 _ _ _)
   | (with_reducible exact laws_markText.mono _ _)
   | (with_reducible exact LeO.refl _)
   | (with_reducible exact LeO.none _)
   | (with_reducible refine LeO.ite ?_ ?_)
   | (with_reducible refine LeO.bind ?_ (fun _ => ?_))
   | exact ih0 _ _ _
   | exact laws_markText.mono _ _
   | exact LeO.none _
   | refine LeO.ite ?_ ?_
   | refine LeO.bind ?_ (fun _ => ?_)
def laws_heldActS.T13 : Bool × List (List Nat × List Nat) := (true, [([], []), ([], []), ([0, 1], [0, 1]), ([2], [2]), ([3], [3]), ([4], [4]), ([], []), ([6], [6]), ([5, 7], [5, 7])])
def laws_heldActS.B13 : List Nat := [0, 0, 3, 7, 15, 31, 0, 64, 255]
theorem laws_heldActS.tab13 : rtab .any (opsOf Try.f27 13) = laws_heldActS.T13 := by kernel_rfl
theorem laws_heldActS.bits13 : waitsOk laws_heldActS.T13.2 laws_heldActS.B13 = true := by kernel_rfl
def laws_heldActS.T16 : Bool × List (List Nat × List Nat) := (true, [([], []), ([], []), ([0, 1], [0, 1]), ([2], [2]), ([3], [3]), ([4], [4]), ([], []), ([6], [6]), ([5, 7], [5, 7])])
def laws_heldActS.B16 : List Nat := [0, 0, 3, 7, 15, 31, 0, 64, 255]
theorem laws_heldActS.tab16 : rtab .any (opsOf Try.f27 16) = laws_heldActS.T16 := by kernel_rfl
theorem laws_heldActS.bits16 : waitsOk laws_heldActS.T16.2 laws_heldActS.B16 = true := by kernel_rfl
def laws_heldActS.T25 : Bool × List (List Nat × List Nat) := (true, [([], []), ([], []), ([0, 1], [0, 1]), ([2], [2]), ([3], [3]), ([4], [4]), ([], []), ([6], [6]), ([5, 7], [5, 7])])
def laws_heldActS.B25 : List Nat := [0, 0, 3, 7, 15, 31, 0, 64, 255]
theorem laws_heldActS.tab25 : rtab .any (opsOf Try.f27 25) = laws_heldActS.T25 := by kernel_rfl
theorem laws_heldActS.bits25 : waitsOk laws_heldActS.T25.2 laws_heldActS.B25 = true := by kernel_rfl
set_option maxHeartbeats 8000000 in
set_option maxRecDepth 100000 in
theorem laws_heldActS.calls (k : Nat) (A0 : Option Addr) (c0 : Nat) (l0 : List (S33)) (a1 : Int) (r : Int) (w : World) (hr0 : Kd.C k33 w A0 l0.length l0) (hc0 : l0.length ≤ c0) (h : laws_heldActS.f k l0 a1 = some r) :
  Calls Try.prog 27 #[.slice A0 l0.length c0, .int .i64 a1] w fun e w' => e = .returned (.int .i64 r) ∧ Below w.heap.size w w' := by
 have HR0 := Am hr0
 have HC0 := Am hc0
 clear hr0 hc0
 have HB := Am (Below.refl w.heap.size w)
 have H : (laws_heldActS.l0 k l0 a1 0) = some r := h
 clear h
 have H' := Am H
 clear H
 go_enter Try.func27, Try.ntmps27
 go_wp2
 go_loopg [1, 5] k (fun kq v1 v5 w' => ∃ (x1_1 : Int) (x5_1 : Int), v1 = .int .i64 x1_1 ∧ v5 = .int .i64 x5_1 ∧ Aside0 (laws_heldActS.l0 kq l0 x1_1 x5_1 = some r) ∧ Aside0 (kq ≤ k) ∧ Aside0 (Below w.heap.size w w'))
 case atStart => exact ⟨(a1), (0), (by first | rfl | (simp; done) | (simp [*]; done)), (by first | rfl | (simp; done) | (simp [*]; done)), H', ⟨Nat.le_refl _⟩, ⟨by repeat (first | (with_reducible first | apply ba | apply bn | apply be) | exact HB.out)⟩⟩
 case round =>
  clear H'
  try clear c2
  try clear p2
  obtain ⟨x1_1, x5_1, rfl, rfl, HA, HK1, HB⟩ := hrel
  cases gk with
  | zero => exact absurd HA.out (by simp [laws_heldActS.l0])
  | succ k1 =>
   have H := HA.out
   clear HA
   simp only [laws_heldActS.l0] at H
   by_cases c3 : x5_1 < (l0.length : Int)
   ·rw [if_pos c3] at H
    have c3b0 : decide (x5_1 < (l0.length : Int)) = true := decide_eq_true c3
    clear c3
    by_cases c4 : 0 ≤ x5_1
    ·rw [if_pos c4] at H
     have c4b0 : decide (0 ≤ x5_1) = true := decide_eq_true c4
     clear c4
     by_cases c5 : ((rd_T33 l0 x5_1).f0) = x1_1
     ·rw [if_pos c5] at H
      have c5b0 : (((rd_T33 l0 x5_1).f0) == x1_1) = true := beq_iff_eq.mpr c5
      have c5b1 : (((rd_T33 l0 x5_1).f0) != x1_1) = false := bne_eq_false_iff_eq.mpr c5
      clear c5
      by_cases c6 : ((rd_T33 l0 x5_1).f1) = (wrap64 (x1_1 + 1))
      ·rw [if_pos c6] at H
       have c6b0 : (((rd_T33 l0 x5_1).f1) == (wrap64 (x1_1 + 1))) = true := beq_iff_eq.mpr c6
       have c6b1 : (((rd_T33 l0 x5_1).f1) != (wrap64 (x1_1 + 1))) = false := bne_eq_false_iff_eq.mpr c6
       clear c6
       by_cases c7 : ((rd_T33 l0 x5_1).f2.f0) = (wrap64 ((wrap64 (x1_1 + 1)) + 1))
       ·rw [if_pos c7] at H
        have c7b0 : (((rd_T33 l0 x5_1).f2.f0) == (wrap64 ((wrap64 (x1_1 + 1)) + 1))) = true := beq_iff_eq.mpr c7
        have c7b1 : (((rd_T33 l0 x5_1).f2.f0) != (wrap64 ((wrap64 (x1_1 + 1)) + 1))) = false := bne_eq_false_iff_eq.mpr c7
        clear c7
        replace H := Option.bind_eq_some_iff.mp H
        obtain ⟨t217, A80, H⟩ := H
        replace H : (if ((rd_T33 l0 x5_1).f2.f1).toList = t217.toList then ((laws_markText.f k1 (wrap64 ((wrap64 ((wrap64 ((wrap64 (x1_1 + 1)) + 1)) + 1)) + 1))).bind fun t219 => (if ((rd_T33 l0 x5_1).f2.f2).toList = t219.toList then (if ((rd_T33 l0 x5_1).f2.f3) = (wrap64 ((wrap64 ((wrap64 ((wrap64 ((wrap64 (x1_1 + 1)) + 1)) + 1)) + 1)) + 1)) then (if ((rd_T33 l0 x5_1).f2.f4) = (wrap64 ((wrap64 ((wrap64 ((wrap64 ((wrap64 ((wrap64 (x1_1 + 1)) + 1)) + 1)) + 1)) + 1)) + 1)) then ((laws_markText.f k1 (wrap64 ((wrap64 ((wrap64 ((wrap64 ((wrap64 ((wrap64 ((wrap64 (x1_1 + 1)) + 1)) + 1)) + 1)) + 1)) + 1)) + 1))).bind fun t223 => (if ((rd_T33 l0 x5_1).f2.f5).toList = t223.toList then (if ((rd_T33 l0 x5_1).f3) = (wrap64 ((wrap64 ((wrap64 ((wrap64 ((wrap64 ((wrap64 ((wrap64 ((wrap64 (x1_1 + 1)) + 1)) + 1)) + 1)) + 1)) + 1)) + 1)) + 1)) then (laws_heldActS.l0 k1 l0 (wrap64 ((wrap64 ((wrap64 ((wrap64 ((wrap64 ((wrap64 ((wrap64 ((wrap64 ((wrap64 (x1_1 + 1)) + 1)) + 1)) + 1)) + 1)) + 1)) + 1)) + 1)) + 1)) (wrap64 (x5_1 + 1))) else (some (-1))) else (some (-1)))) else (some (-1))) else (some (-1))) else (some (-1)))) else (some (-1))) = some r := H
        have A8 := Am A80
        clear A80
        by_cases c9 : ((rd_T33 l0 x5_1).f2.f1).toList = t217.toList
        ·rw [if_pos c9] at H
         have c9b0 : (((rd_T33 l0 x5_1).f2.f1).toList == t217.toList) = true := beq_iff_eq.mpr c9
         have c9b1 : (((rd_T33 l0 x5_1).f2.f1).toList != t217.toList) = false := bne_eq_false_iff_eq.mpr c9
         clear c9
         replace H := Option.bind_eq_some_iff.mp H
         obtain ⟨t219, A100, H⟩ := H
         replace H : (if ((rd_T33 l0 x5_1).f2.f2).toList = t219.toList then (if ((rd_T33 l0 x5_1).f2.f3) = (wrap64 ((wrap64 ((wrap64 ((wrap64 ((wrap64 (x1_1 + 1)) + 1)) + 1)) + 1)) + 1)) then (if ((rd_T33 l0 x5_1).f2.f4) = (wrap64 ((wrap64 ((wrap64 ((wrap64 ((wrap64 ((wrap64 (x1_1 + 1)) + 1)) + 1)) + 1)) + 1)) + 1)) then ((laws_markText.f k1 (wrap64 ((wrap64 ((wrap64 ((wrap64 ((wrap64 ((wrap64 ((wrap64 (x1_1 + 1)) + 1)) + 1)) + 1)) + 1)) + 1)) + 1))).bind fun t223 => (if ((rd_T33 l0 x5_1).f2.f5).toList = t223.toList then (if ((rd_T33 l0 x5_1).f3) = (wrap64 ((wrap64 ((wrap64 ((wrap64 ((wrap64 ((wrap64 ((wrap64 ((wrap64 (x1_1 + 1)) + 1)) + 1)) + 1)) + 1)) + 1)) + 1)) + 1)) then (laws_heldActS.l0 k1 l0 (wrap64 ((wrap64 ((wrap64 ((wrap64 ((wrap64 ((wrap64 ((wrap64 ((wrap64 ((wrap64 (x1_1 + 1)) + 1)) + 1)) + 1)) + 1)) + 1)) + 1)) + 1)) + 1)) (wrap64 (x5_1 + 1))) else (some (-1))) else (some (-1)))) else (some (-1))) else (some (-1))) else (some (-1))) = some r := H
         have A10 := Am A100
         clear A100
         by_cases c11 : ((rd_T33 l0 x5_1).f2.f2).toList = t219.toList
         ·rw [if_pos c11] at H
          have c11b0 : (((rd_T33 l0 x5_1).f2.f2).toList == t219.toList) = true := beq_iff_eq.mpr c11
          have c11b1 : (((rd_T33 l0 x5_1).f2.f2).toList != t219.toList) = false := bne_eq_false_iff_eq.mpr c11
          clear c11
          by_cases c12 : ((rd_T33 l0 x5_1).f2.f3) = (wrap64 ((wrap64 ((wrap64 ((wrap64 ((wrap64 (x1_1 + 1)) + 1)) + 1)) + 1)) + 1))
          ·rw [if_pos c12] at H
           have c12b0 : (((rd_T33 l0 x5_1).f2.f3) == (wrap64 ((wrap64 ((wrap64 ((wrap64 ((wrap64 (x1_1 + 1)) + 1)) + 1)) + 1)) + 1))) = true := beq_iff_eq.mpr c12
           have c12b1 : (((rd_T33 l0 x5_1).f2.f3) != (wrap64 ((wrap64 ((wrap64 ((wrap64 ((wrap64 (x1_1 + 1)) + 1)) + 1)) + 1)) + 1))) = false := bne_eq_false_iff_eq.mpr c12
           clear c12
           by_cases c13 : ((rd_T33 l0 x5_1).f2.f4) = (wrap64 ((wrap64 ((wrap64 ((wrap64 ((wrap64 ((wrap64 (x1_1 + 1)) + 1)) + 1)) + 1)) + 1)) + 1))
           ·rw [if_pos c13] at H
            have c13b0 : (((rd_T33 l0 x5_1).f2.f4) == (wrap64 ((wrap64 ((wrap64 ((wrap64 ((wrap64 ((wrap64 (x1_1 + 1)) + 1)) + 1)) + 1)) + 1)) + 1))) = true := beq_iff_eq.mpr c13
            have c13b1 : (((rd_T33 l0 x5_1).f2.f4) != (wrap64 ((wrap64 ((wrap64 ((wrap64 ((wrap64 ((wrap64 (x1_1 + 1)) + 1)) + 1)) + 1)) + 1)) + 1))) = false := bne_eq_false_iff_eq.mpr c13
            clear c13
            replace H := Option.bind_eq_some_iff.mp H
            obtain ⟨t223, A140, H⟩ := H
            replace H : (if ((rd_T33 l0 x5_1).f2.f5).toList = t223.toList then (if ((rd_T33 l0 x5_1).f3) = (wrap64 ((wrap64 ((wrap64 ((wrap64 ((wrap64 ((wrap64 ((wrap64 ((wrap64 (x1_1 + 1)) + 1)) + 1)) + 1)) + 1)) + 1)) + 1)) + 1)) then (laws_heldActS.l0 k1 l0 (wrap64 ((wrap64 ((wrap64 ((wrap64 ((wrap64 ((wrap64 ((wrap64 ((wrap64 ((wrap64 (x1_1 + 1)) + 1)) + 1)) + 1)) + 1)) + 1)) + 1)) + 1)) + 1)) (wrap64 (x5_1 + 1))) else (some (-1))) else (some (-1))) = some r := H
            have A14 := Am A140
            clear A140
            by_cases c15 : ((rd_T33 l0 x5_1).f2.f5).toList = t223.toList
            ·rw [if_pos c15] at H
             have c15b0 : (((rd_T33 l0 x5_1).f2.f5).toList == t223.toList) = true := beq_iff_eq.mpr c15
             have c15b1 : (((rd_T33 l0 x5_1).f2.f5).toList != t223.toList) = false := bne_eq_false_iff_eq.mpr c15
             clear c15
             by_cases c16 : ((rd_T33 l0 x5_1).f3) = (wrap64 ((wrap64 ((wrap64 ((wrap64 ((wrap64 ((wrap64 ((wrap64 ((wrap64 (x1_1 + 1)) + 1)) + 1)) + 1)) + 1)) + 1)) + 1)) + 1))
             ·rw [if_pos c16] at H
              have c16b0 : (((rd_T33 l0 x5_1).f3) == (wrap64 ((wrap64 ((wrap64 ((wrap64 ((wrap64 ((wrap64 ((wrap64 ((wrap64 (x1_1 + 1)) + 1)) + 1)) + 1)) + 1)) + 1)) + 1)) + 1))) = true := beq_iff_eq.mpr c16
              have c16b1 : (((rd_T33 l0 x5_1).f3) != (wrap64 ((wrap64 ((wrap64 ((wrap64 ((wrap64 ((wrap64 ((wrap64 ((wrap64 (x1_1 + 1)) + 1)) + 1)) + 1)) + 1)) + 1)) + 1)) + 1))) = false := bne_eq_false_iff_eq.mpr c16
              clear c16
              have H' := Am H
              clear H
              have p213 : 0 ≤ (x5_1 : Int) := of_decide_eq_true (by assumption)
              have q213 : x5_1 < (l0.length : Int) := of_decide_eq_true (by assumption)
              obtain ⟨ad213, e213, hx213_0, hx213_1, hx213_2, hx213_3, hx213_4, hx213_5, hx213_6, hx213_7, hx213_8⟩ := at_T33 HR0.out x5_1 p213 q213
              cases e213
              replace hx213_0 := cl4 HB hx213_0
              replace hx213_1 := cl4 HB hx213_1
              replace hx213_2 := cl4 HB hx213_2
              replace hx213_3 := cl4 HB hx213_3
              replace hx213_4 := cl4 HB hx213_4
              replace hx213_5 := cl4 HB hx213_5
              replace hx213_6 := cl4 HB hx213_6
              replace hx213_7 := cl4 HB hx213_7
              replace hx213_8 := cl4 HB hx213_8
              replace p213 := eq_true p213
              replace q213 := eq_true q213
              have p214 : 0 ≤ (x5_1 : Int) := of_decide_eq_true (by assumption)
              have q214 : x5_1 < (l0.length : Int) := of_decide_eq_true (by assumption)
              obtain ⟨ad214, e214, hx214_0, hx214_1, hx214_2, hx214_3, hx214_4, hx214_5, hx214_6, hx214_7, hx214_8⟩ := at_T33 HR0.out x5_1 p214 q214
              obtain rfl : ad213 = ad214 := (by injection e214)
              replace hx214_0 := cl4 HB hx214_0
              replace hx214_1 := cl4 HB hx214_1
              replace hx214_2 := cl4 HB hx214_2
              replace hx214_3 := cl4 HB hx214_3
              replace hx214_4 := cl4 HB hx214_4
              replace hx214_5 := cl4 HB hx214_5
              replace hx214_6 := cl4 HB hx214_6
              replace hx214_7 := cl4 HB hx214_7
              replace hx214_8 := cl4 HB hx214_8
              replace p214 := eq_true p214
              replace q214 := eq_true q214
              have p215 : 0 ≤ (x5_1 : Int) := of_decide_eq_true (by assumption)
              have q215 : x5_1 < (l0.length : Int) := of_decide_eq_true (by assumption)
              obtain ⟨ad215, e215, hx215_0, hx215_1, hx215_2, hx215_3, hx215_4, hx215_5, hx215_6, hx215_7, hx215_8⟩ := at_T33 HR0.out x5_1 p215 q215
              obtain rfl : ad213 = ad215 := (by injection e215)
              replace hx215_0 := cl4 HB hx215_0
              replace hx215_1 := cl4 HB hx215_1
              replace hx215_2 := cl4 HB hx215_2
              replace hx215_3 := cl4 HB hx215_3
              replace hx215_4 := cl4 HB hx215_4
              replace hx215_5 := cl4 HB hx215_5
              replace hx215_6 := cl4 HB hx215_6
              replace hx215_7 := cl4 HB hx215_7
              replace hx215_8 := cl4 HB hx215_8
              replace p215 := eq_true p215
              replace q215 := eq_true q215
              try go_wp2
              have n0_ := Am (be HB.out)
              clear HB
              have HB := n0_
              clear n0_
              have p216 : 0 ≤ (x5_1 : Int) := of_decide_eq_true (by assumption)
              have q216 : x5_1 < (l0.length : Int) := of_decide_eq_true (by assumption)
              obtain ⟨ad216, e216, hx216_0, hx216_1, hx216_2, hx216_3, hx216_4, hx216_5, hx216_6, hx216_7, hx216_8⟩ := at_T33 HR0.out x5_1 p216 q216
              have hw216_8 := hx216_8
              have hw216_7 := hx216_7
              have hw216_6 := hx216_6
              have hw216_5 := hx216_5
              have hw216_4 := hx216_4
              have hw216_3 := hx216_3
              have hw216_2 := hx216_2
              have hw216_1 := hx216_1
              have hw216_0 := hx216_0
              obtain rfl : ad213 = ad216 := (by injection e216)
              replace hx216_0 := cl4 HB hx216_0
              replace hx216_1 := cl4 HB hx216_1
              replace hx216_2 := cl4 HB hx216_2
              replace hx216_3 := cl4 HB hx216_3
              replace hx216_4 := cl4 HB hx216_4
              replace hx216_5 := cl4 HB hx216_5
              replace hx216_6 := cl4 HB hx216_6
              replace hx216_7 := cl4 HB hx216_7
              replace hx216_8 := cl4 HB hx216_8
              replace p216 := eq_true p216
              replace q216 := eq_true q216
              refine start_ (n := 9) (S := fun w' => w'.cell? (ad213.add ((x5_1).toNat * 9)) = some (.int .i64 ((rd_T33 l0 x5_1).f0)) ∧ w'.cell? ⟨(ad213.add ((x5_1).toNat * 9)).block, (ad213.add ((x5_1).toNat * 9)).off + 1, none⟩ = some (.int .i64 ((rd_T33 l0 x5_1).f1)) ∧ w'.cell? ⟨(ad213.add ((x5_1).toNat * 9)).block, (ad213.add ((x5_1).toNat * 9)).off + 2, none⟩ = some (.int .i64 ((rd_T33 l0 x5_1).f2.f0)) ∧ w'.cell? ⟨(ad213.add ((x5_1).toNat * 9)).block, (ad213.add ((x5_1).toNat * 9)).off + 3, none⟩ = some (.string ((rd_T33 l0 x5_1).f2.f1)) ∧ w'.cell? ⟨(ad213.add ((x5_1).toNat * 9)).block, (ad213.add ((x5_1).toNat * 9)).off + 4, none⟩ = some (.string ((rd_T33 l0 x5_1).f2.f2)) ∧ w'.cell? ⟨(ad213.add ((x5_1).toNat * 9)).block, (ad213.add ((x5_1).toNat * 9)).off + 5, none⟩ = some (.int .i64 ((rd_T33 l0 x5_1).f2.f3)) ∧ w'.cell? ⟨(ad213.add ((x5_1).toNat * 9)).block, (ad213.add ((x5_1).toNat * 9)).off + 6, none⟩ = some (.int .i64 ((rd_T33 l0 x5_1).f2.f4)) ∧ w'.cell? ⟨(ad213.add ((x5_1).toNat * 9)).block, (ad213.add ((x5_1).toNat * 9)).off + 7, none⟩ = some (.string ((rd_T33 l0 x5_1).f2.f5)) ∧ w'.cell? ⟨(ad213.add ((x5_1).toNat * 9)).block, (ad213.add ((x5_1).toNat * 9)).off + 8, none⟩ = some (.int .i64 ((rd_T33 l0 x5_1).f3))) (ds := []) #[false, false, false, false, false, false, false, false, false] (by kernel_rfl) rfl rfl ⟨(cl4 HB hw216_0), (cl4 HB hw216_1), (cl4 HB hw216_2), (cl4 HB hw216_3), (cl4 HB hw216_4), (cl4 HB hw216_5), (cl4 HB hw216_6), (cl4 HB hw216_7), (cl4 HB hw216_8)⟩ (fun hHeld => ?_); refine with_tabW laws_heldActS.tab13 laws_heldActS.bits13 (fun HT_ HW_ => ?_)
              generalize wr.drew = w17 at HB hx216_0 hx216_1 hx216_2 hx216_3 hx216_4 hx216_5 hx216_6 hx216_7 hx216_8 hHeld ⊢
              refine pure_ (i := 0) (N := some 40) (v := ?_) (a' := ?_) #[true, false, false, false, false, false, false, false, false] rfl rfl (any_of HT_.out (by kernel_rfl)) (fun _ _ _ h => h) (Or.inl ⟨by rfl, ?_⟩) ?_ ?_
              rotate_left
              ·intro w'
               go_simp
               with_reducible rfl
              rotate_left
              ·simp only [Act.put, List.setIfInBounds_toArray, List.set_cons_zero, List.set_cons_succ, i64_w, i32_w]
               rfl
              refine pure_ (i := 1) (N := some 41) (v := ?_) (a' := ?_) #[true, true, false, false, false, false, false, false, false] rfl rfl (any_of HT_.out (by kernel_rfl)) (fun _ _ _ h => h) (Or.inl ⟨by rfl, ?_⟩) ?_ ?_
              rotate_left
              ·intro w'
               go_simp
               with_reducible rfl
              rotate_left
              ·simp only [Act.put, List.setIfInBounds_toArray, List.set_cons_zero, List.set_cons_succ, i64_w, i32_w]
               rfl
              refine pure_ (i := 2) (N := some 42) (v := ?_) (a' := ?_) #[true, true, true, false, false, false, false, false, false] rfl rfl (any_of HT_.out (by kernel_rfl)) (fun _ _ _ h => h) (Or.inl ⟨by rfl, ?_⟩) ?_ ?_
              rotate_left
              ·intro w'
               go_simp
               with_reducible rfl
              rotate_left
              ·simp only [Act.put, List.setIfInBounds_toArray, List.set_cons_zero, List.set_cons_succ, i64_w, i32_w]
               rfl
              refine pure_ (i := 3) (N := some 43) (v := ?_) (a' := ?_) #[true, true, true, true, false, false, false, false, false] rfl rfl (any_of HT_.out (by kernel_rfl)) (fun _ _ _ h => h) (Or.inl ⟨by rfl, ?_⟩) ?_ ?_
              rotate_left
              ·intro w'
               go_simp
               with_reducible rfl
              rotate_left
              ·simp only [Act.put, List.setIfInBounds_toArray, List.set_cons_zero, List.set_cons_succ, i64_w, i32_w]
               rfl
              refine pure_ (i := 4) (N := some 44) (v := ?_) (a' := ?_) #[true, true, true, true, true, false, false, false, false] rfl rfl (any_of HT_.out (by kernel_rfl)) (fun _ _ _ h => h) (Or.inl ⟨by rfl, ?_⟩) ?_ ?_
              rotate_left
              ·intro w'
               go_simp
               with_reducible rfl
              rotate_left
              ·simp only [Act.put, List.setIfInBounds_toArray, List.set_cons_zero, List.set_cons_succ, i64_w, i32_w]
               rfl
              refine pure_ (i := 6) (N := some 46) (v := ?_) (a' := ?_) #[true, true, true, true, true, false, true, false, false] rfl rfl (any_of HT_.out (by kernel_rfl)) (fun _ _ _ h => h) (Or.inl ⟨by rfl, ?_⟩) ?_ ?_
              rotate_left
              ·intro w'
               go_simp
               with_reducible rfl
              rotate_left
              ·simp only [Act.put, List.setIfInBounds_toArray, List.set_cons_zero, List.set_cons_succ, i64_w, i32_w]
               rfl
              refine take_ (i := 5) (N := some 45) (v := ?_) (a' := ?_) #[true, true, true, true, true, true, true, false, false] rfl rfl (take_ofW HT_.out HW_.out (by kernel_rfl)) (fun _ _ _ h => h) (Or.inl ⟨by rfl, ?_⟩) hHeld ?_ ?_
              rotate_left
              ·rintro w' ⟨s0, s1, s2, s3, s4, s5, s6, s7, s8⟩
               go_simp
               with_reducible rfl
              rotate_left
              ·simp only [Act.put, List.setIfInBounds_toArray, List.set_cons_zero, List.set_cons_succ, i64_w, i32_w]
               rfl
              refine one_ (i := 7) (N := some 47) #[true, true, true, true, true, true, true, true, false] rfl rfl (one_of HT_.out (by kernel_rfl)) (by decide) (fun K hK => ?_)
              refine goes_ Try.func76 (by kernel_rfl) rfl #[.int .i64 (wrap64 ((wrap64 ((wrap64 (x1_1 + 1)) + 1)) + 1))] (by rfl) rfl rfl (by (try simp only [List.map_toArray, List.map_cons, List.map_nil]); first | done | rfl | (simp only [List.length_drop, List.length_take]; rfl)) ?_
              with_reducible refine (laws_markText.calls k1 (wrap64 ((wrap64 ((wrap64 (x1_1 + 1)) + 1)) + 1)) t217 _ A8.out).mono ?_
              rintro e w18 ⟨rfl, hb⟩
              refine ⟨_, rfl, ?_⟩
              have n0_ := Am (bt (by repeat (first | (with_reducible first | exact HB.out | apply ba | apply bn | apply be) | exact HB.out)) hb)
              clear HB
              have HB := n0_
              clear n0_
              (try clear hb)
              (try clear hb2)
              (try clear hk)
              (try clear hi)
              refine hK.out _ _ ⟨(cl4 HB hw216_0), (cl4 HB hw216_1), (cl4 HB hw216_2), (cl4 HB hw216_3), (cl4 HB hw216_4), (cl4 HB hw216_5), (cl4 HB hw216_6), (cl4 HB hw216_7), (cl4 HB hw216_8)⟩ (fun hHeld => ?_)
              clear hK K
              refine norm_ (a' := ?_) ?_ ?_
              rotate_left
              ·show Act.put _ (some 47) _ = _
               simp only [Act.put, List.setIfInBounds_toArray, List.set_cons_zero, List.set_cons_succ, i64_w, i32_w]
               rfl
              refine pure_ (i := 8) (N := some 48) (v := ?_) (a' := ?_) #[true, true, true, true, true, true, true, true, true] rfl rfl (any_of HT_.out (by kernel_rfl)) (fun _ _ _ h => h) (Or.inl ⟨by rfl, ?_⟩) ?_ ?_
              rotate_left
              ·intro w'
               go_simp
               with_reducible rfl
              rotate_left
              ·simp only [Act.put, List.setIfInBounds_toArray, List.set_cons_zero, List.set_cons_succ, i64_w, i32_w]
               rfl
              refine done_ (done_of HT_.out (by kernel_rfl)) ?_
              try go_wp2
              have n0_ := Am (be HB.out)
              clear HB
              have HB := n0_
              clear n0_
              have p218 : 0 ≤ (x5_1 : Int) := of_decide_eq_true (by assumption)
              have q218 : x5_1 < (l0.length : Int) := of_decide_eq_true (by assumption)
              obtain ⟨ad218, e218, hx218_0, hx218_1, hx218_2, hx218_3, hx218_4, hx218_5, hx218_6, hx218_7, hx218_8⟩ := at_T33 HR0.out x5_1 p218 q218
              have hw218_8 := hx218_8
              have hw218_7 := hx218_7
              have hw218_6 := hx218_6
              have hw218_5 := hx218_5
              have hw218_4 := hx218_4
              have hw218_3 := hx218_3
              have hw218_2 := hx218_2
              have hw218_1 := hx218_1
              have hw218_0 := hx218_0
              obtain rfl : ad213 = ad218 := (by injection e218)
              replace hx218_0 := cl4 HB hx218_0
              replace hx218_1 := cl4 HB hx218_1
              replace hx218_2 := cl4 HB hx218_2
              replace hx218_3 := cl4 HB hx218_3
              replace hx218_4 := cl4 HB hx218_4
              replace hx218_5 := cl4 HB hx218_5
              replace hx218_6 := cl4 HB hx218_6
              replace hx218_7 := cl4 HB hx218_7
              replace hx218_8 := cl4 HB hx218_8
              replace p218 := eq_true p218
              replace q218 := eq_true q218
              refine start_ (n := 9) (S := fun w' => w'.cell? (ad213.add ((x5_1).toNat * 9)) = some (.int .i64 ((rd_T33 l0 x5_1).f0)) ∧ w'.cell? ⟨(ad213.add ((x5_1).toNat * 9)).block, (ad213.add ((x5_1).toNat * 9)).off + 1, none⟩ = some (.int .i64 ((rd_T33 l0 x5_1).f1)) ∧ w'.cell? ⟨(ad213.add ((x5_1).toNat * 9)).block, (ad213.add ((x5_1).toNat * 9)).off + 2, none⟩ = some (.int .i64 ((rd_T33 l0 x5_1).f2.f0)) ∧ w'.cell? ⟨(ad213.add ((x5_1).toNat * 9)).block, (ad213.add ((x5_1).toNat * 9)).off + 3, none⟩ = some (.string ((rd_T33 l0 x5_1).f2.f1)) ∧ w'.cell? ⟨(ad213.add ((x5_1).toNat * 9)).block, (ad213.add ((x5_1).toNat * 9)).off + 4, none⟩ = some (.string ((rd_T33 l0 x5_1).f2.f2)) ∧ w'.cell? ⟨(ad213.add ((x5_1).toNat * 9)).block, (ad213.add ((x5_1).toNat * 9)).off + 5, none⟩ = some (.int .i64 ((rd_T33 l0 x5_1).f2.f3)) ∧ w'.cell? ⟨(ad213.add ((x5_1).toNat * 9)).block, (ad213.add ((x5_1).toNat * 9)).off + 6, none⟩ = some (.int .i64 ((rd_T33 l0 x5_1).f2.f4)) ∧ w'.cell? ⟨(ad213.add ((x5_1).toNat * 9)).block, (ad213.add ((x5_1).toNat * 9)).off + 7, none⟩ = some (.string ((rd_T33 l0 x5_1).f2.f5)) ∧ w'.cell? ⟨(ad213.add ((x5_1).toNat * 9)).block, (ad213.add ((x5_1).toNat * 9)).off + 8, none⟩ = some (.int .i64 ((rd_T33 l0 x5_1).f3))) (ds := []) #[false, false, false, false, false, false, false, false, false] (by kernel_rfl) rfl rfl ⟨(cl4 HB hw218_0), (cl4 HB hw218_1), (cl4 HB hw218_2), (cl4 HB hw218_3), (cl4 HB hw218_4), (cl4 HB hw218_5), (cl4 HB hw218_6), (cl4 HB hw218_7), (cl4 HB hw218_8)⟩ (fun hHeld => ?_); refine with_tabW laws_heldActS.tab16 laws_heldActS.bits16 (fun HT_ HW_ => ?_)
              generalize w18.drew = w19 at HB hx218_0 hx218_1 hx218_2 hx218_3 hx218_4 hx218_5 hx218_6 hx218_7 hx218_8 hHeld ⊢
              refine pure_ (i := 0) (N := some 51) (v := ?_) (a' := ?_) #[true, false, false, false, false, false, false, false, false] rfl rfl (any_of HT_.out (by kernel_rfl)) (fun _ _ _ h => h) (Or.inl ⟨by rfl, ?_⟩) ?_ ?_
              rotate_left
              ·intro w'
               go_simp
               with_reducible rfl
              rotate_left
              ·simp only [Act.put, List.setIfInBounds_toArray, List.set_cons_zero, List.set_cons_succ, i64_w, i32_w]
               rfl
              refine pure_ (i := 1) (N := some 52) (v := ?_) (a' := ?_) #[true, true, false, false, false, false, false, false, false] rfl rfl (any_of HT_.out (by kernel_rfl)) (fun _ _ _ h => h) (Or.inl ⟨by rfl, ?_⟩) ?_ ?_
              rotate_left
              ·intro w'
               go_simp
               with_reducible rfl
              rotate_left
              ·simp only [Act.put, List.setIfInBounds_toArray, List.set_cons_zero, List.set_cons_succ, i64_w, i32_w]
               rfl
              refine pure_ (i := 2) (N := some 53) (v := ?_) (a' := ?_) #[true, true, true, false, false, false, false, false, false] rfl rfl (any_of HT_.out (by kernel_rfl)) (fun _ _ _ h => h) (Or.inl ⟨by rfl, ?_⟩) ?_ ?_
              rotate_left
              ·intro w'
               go_simp
               with_reducible rfl
              rotate_left
              ·simp only [Act.put, List.setIfInBounds_toArray, List.set_cons_zero, List.set_cons_succ, i64_w, i32_w]
               rfl
              refine pure_ (i := 3) (N := some 54) (v := ?_) (a' := ?_) #[true, true, true, true, false, false, false, false, false] rfl rfl (any_of HT_.out (by kernel_rfl)) (fun _ _ _ h => h) (Or.inl ⟨by rfl, ?_⟩) ?_ ?_
              rotate_left
              ·intro w'
               go_simp
               with_reducible rfl
              rotate_left
              ·simp only [Act.put, List.setIfInBounds_toArray, List.set_cons_zero, List.set_cons_succ, i64_w, i32_w]
               rfl
              refine pure_ (i := 4) (N := some 55) (v := ?_) (a' := ?_) #[true, true, true, true, true, false, false, false, false] rfl rfl (any_of HT_.out (by kernel_rfl)) (fun _ _ _ h => h) (Or.inl ⟨by rfl, ?_⟩) ?_ ?_
              rotate_left
              ·intro w'
               go_simp
               with_reducible rfl
              rotate_left
              ·simp only [Act.put, List.setIfInBounds_toArray, List.set_cons_zero, List.set_cons_succ, i64_w, i32_w]
               rfl
              refine pure_ (i := 6) (N := some 57) (v := ?_) (a' := ?_) #[true, true, true, true, true, false, true, false, false] rfl rfl (any_of HT_.out (by kernel_rfl)) (fun _ _ _ h => h) (Or.inl ⟨by rfl, ?_⟩) ?_ ?_
              rotate_left
              ·intro w'
               go_simp
               with_reducible rfl
              rotate_left
              ·simp only [Act.put, List.setIfInBounds_toArray, List.set_cons_zero, List.set_cons_succ, i64_w, i32_w]
               rfl
              refine take_ (i := 5) (N := some 56) (v := ?_) (a' := ?_) #[true, true, true, true, true, true, true, false, false] rfl rfl (take_ofW HT_.out HW_.out (by kernel_rfl)) (fun _ _ _ h => h) (Or.inl ⟨by rfl, ?_⟩) hHeld ?_ ?_
              rotate_left
              ·rintro w' ⟨s0, s1, s2, s3, s4, s5, s6, s7, s8⟩
               go_simp
               with_reducible rfl
              rotate_left
              ·simp only [Act.put, List.setIfInBounds_toArray, List.set_cons_zero, List.set_cons_succ, i64_w, i32_w]
               rfl
              refine one_ (i := 7) (N := some 58) #[true, true, true, true, true, true, true, true, false] rfl rfl (one_of HT_.out (by kernel_rfl)) (by decide) (fun K hK => ?_)
              refine goes_ Try.func76 (by kernel_rfl) rfl #[.int .i64 (wrap64 ((wrap64 ((wrap64 ((wrap64 (x1_1 + 1)) + 1)) + 1)) + 1))] (by rfl) rfl rfl (by (try simp only [List.map_toArray, List.map_cons, List.map_nil]); first | done | rfl | (simp only [List.length_drop, List.length_take]; rfl)) ?_
              with_reducible refine (laws_markText.calls k1 (wrap64 ((wrap64 ((wrap64 ((wrap64 (x1_1 + 1)) + 1)) + 1)) + 1)) t219 _ A10.out).mono ?_
              rintro e w20 ⟨rfl, hb⟩
              refine ⟨_, rfl, ?_⟩
              have n0_ := Am (bt (by repeat (first | (with_reducible first | exact HB.out | apply ba | apply bn | apply be) | exact HB.out)) hb)
              clear HB
              have HB := n0_
              clear n0_
              (try clear hb)
              (try clear hb2)
              (try clear hk)
              (try clear hi)
              refine hK.out _ _ ⟨(cl4 HB hw218_0), (cl4 HB hw218_1), (cl4 HB hw218_2), (cl4 HB hw218_3), (cl4 HB hw218_4), (cl4 HB hw218_5), (cl4 HB hw218_6), (cl4 HB hw218_7), (cl4 HB hw218_8)⟩ (fun hHeld => ?_)
              clear hK K
              refine norm_ (a' := ?_) ?_ ?_
              rotate_left
              ·show Act.put _ (some 58) _ = _
               simp only [Act.put, List.setIfInBounds_toArray, List.set_cons_zero, List.set_cons_succ, i64_w, i32_w]
               rfl
              refine pure_ (i := 8) (N := some 59) (v := ?_) (a' := ?_) #[true, true, true, true, true, true, true, true, true] rfl rfl (any_of HT_.out (by kernel_rfl)) (fun _ _ _ h => h) (Or.inl ⟨by rfl, ?_⟩) ?_ ?_
              rotate_left
              ·intro w'
               go_simp
               with_reducible rfl
              rotate_left
              ·simp only [Act.put, List.setIfInBounds_toArray, List.set_cons_zero, List.set_cons_succ, i64_w, i32_w]
               rfl
              refine done_ (done_of HT_.out (by kernel_rfl)) ?_
              have p220 : 0 ≤ (x5_1 : Int) := of_decide_eq_true (by assumption)
              have q220 : x5_1 < (l0.length : Int) := of_decide_eq_true (by assumption)
              obtain ⟨ad220, e220, hx220_0, hx220_1, hx220_2, hx220_3, hx220_4, hx220_5, hx220_6, hx220_7, hx220_8⟩ := at_T33 HR0.out x5_1 p220 q220
              obtain rfl : ad213 = ad220 := (by injection e220)
              replace hx220_0 := cl4 HB hx220_0
              replace hx220_1 := cl4 HB hx220_1
              replace hx220_2 := cl4 HB hx220_2
              replace hx220_3 := cl4 HB hx220_3
              replace hx220_4 := cl4 HB hx220_4
              replace hx220_5 := cl4 HB hx220_5
              replace hx220_6 := cl4 HB hx220_6
              replace hx220_7 := cl4 HB hx220_7
              replace hx220_8 := cl4 HB hx220_8
              replace p220 := eq_true p220
              replace q220 := eq_true q220
              have p221 : 0 ≤ (x5_1 : Int) := of_decide_eq_true (by assumption)
              have q221 : x5_1 < (l0.length : Int) := of_decide_eq_true (by assumption)
              obtain ⟨ad221, e221, hx221_0, hx221_1, hx221_2, hx221_3, hx221_4, hx221_5, hx221_6, hx221_7, hx221_8⟩ := at_T33 HR0.out x5_1 p221 q221
              obtain rfl : ad213 = ad221 := (by injection e221)
              replace hx221_0 := cl4 HB hx221_0
              replace hx221_1 := cl4 HB hx221_1
              replace hx221_2 := cl4 HB hx221_2
              replace hx221_3 := cl4 HB hx221_3
              replace hx221_4 := cl4 HB hx221_4
              replace hx221_5 := cl4 HB hx221_5
              replace hx221_6 := cl4 HB hx221_6
              replace hx221_7 := cl4 HB hx221_7
              replace hx221_8 := cl4 HB hx221_8
              replace p221 := eq_true p221
              replace q221 := eq_true q221
              try go_wp2
              have n0_ := Am (be HB.out)
              clear HB
              have HB := n0_
              clear n0_
              have p222 : 0 ≤ (x5_1 : Int) := of_decide_eq_true (by assumption)
              have q222 : x5_1 < (l0.length : Int) := of_decide_eq_true (by assumption)
              obtain ⟨ad222, e222, hx222_0, hx222_1, hx222_2, hx222_3, hx222_4, hx222_5, hx222_6, hx222_7, hx222_8⟩ := at_T33 HR0.out x5_1 p222 q222
              have hw222_8 := hx222_8
              have hw222_7 := hx222_7
              have hw222_6 := hx222_6
              have hw222_5 := hx222_5
              have hw222_4 := hx222_4
              have hw222_3 := hx222_3
              have hw222_2 := hx222_2
              have hw222_1 := hx222_1
              have hw222_0 := hx222_0
              obtain rfl : ad213 = ad222 := (by injection e222)
              replace hx222_0 := cl4 HB hx222_0
              replace hx222_1 := cl4 HB hx222_1
              replace hx222_2 := cl4 HB hx222_2
              replace hx222_3 := cl4 HB hx222_3
              replace hx222_4 := cl4 HB hx222_4
              replace hx222_5 := cl4 HB hx222_5
              replace hx222_6 := cl4 HB hx222_6
              replace hx222_7 := cl4 HB hx222_7
              replace hx222_8 := cl4 HB hx222_8
              replace p222 := eq_true p222
              replace q222 := eq_true q222
              refine start_ (n := 9) (S := fun w' => w'.cell? (ad213.add ((x5_1).toNat * 9)) = some (.int .i64 ((rd_T33 l0 x5_1).f0)) ∧ w'.cell? ⟨(ad213.add ((x5_1).toNat * 9)).block, (ad213.add ((x5_1).toNat * 9)).off + 1, none⟩ = some (.int .i64 ((rd_T33 l0 x5_1).f1)) ∧ w'.cell? ⟨(ad213.add ((x5_1).toNat * 9)).block, (ad213.add ((x5_1).toNat * 9)).off + 2, none⟩ = some (.int .i64 ((rd_T33 l0 x5_1).f2.f0)) ∧ w'.cell? ⟨(ad213.add ((x5_1).toNat * 9)).block, (ad213.add ((x5_1).toNat * 9)).off + 3, none⟩ = some (.string ((rd_T33 l0 x5_1).f2.f1)) ∧ w'.cell? ⟨(ad213.add ((x5_1).toNat * 9)).block, (ad213.add ((x5_1).toNat * 9)).off + 4, none⟩ = some (.string ((rd_T33 l0 x5_1).f2.f2)) ∧ w'.cell? ⟨(ad213.add ((x5_1).toNat * 9)).block, (ad213.add ((x5_1).toNat * 9)).off + 5, none⟩ = some (.int .i64 ((rd_T33 l0 x5_1).f2.f3)) ∧ w'.cell? ⟨(ad213.add ((x5_1).toNat * 9)).block, (ad213.add ((x5_1).toNat * 9)).off + 6, none⟩ = some (.int .i64 ((rd_T33 l0 x5_1).f2.f4)) ∧ w'.cell? ⟨(ad213.add ((x5_1).toNat * 9)).block, (ad213.add ((x5_1).toNat * 9)).off + 7, none⟩ = some (.string ((rd_T33 l0 x5_1).f2.f5)) ∧ w'.cell? ⟨(ad213.add ((x5_1).toNat * 9)).block, (ad213.add ((x5_1).toNat * 9)).off + 8, none⟩ = some (.int .i64 ((rd_T33 l0 x5_1).f3))) (ds := []) #[false, false, false, false, false, false, false, false, false] (by kernel_rfl) rfl rfl ⟨(cl4 HB hw222_0), (cl4 HB hw222_1), (cl4 HB hw222_2), (cl4 HB hw222_3), (cl4 HB hw222_4), (cl4 HB hw222_5), (cl4 HB hw222_6), (cl4 HB hw222_7), (cl4 HB hw222_8)⟩ (fun hHeld => ?_); refine with_tabW laws_heldActS.tab25 laws_heldActS.bits25 (fun HT_ HW_ => ?_)
              generalize w20.drew = w21 at HB hx222_0 hx222_1 hx222_2 hx222_3 hx222_4 hx222_5 hx222_6 hx222_7 hx222_8 hHeld ⊢
              refine pure_ (i := 0) (N := some 82) (v := ?_) (a' := ?_) #[true, false, false, false, false, false, false, false, false] rfl rfl (any_of HT_.out (by kernel_rfl)) (fun _ _ _ h => h) (Or.inl ⟨by rfl, ?_⟩) ?_ ?_
              rotate_left
              ·intro w'
               go_simp
               with_reducible rfl
              rotate_left
              ·simp only [Act.put, List.setIfInBounds_toArray, List.set_cons_zero, List.set_cons_succ, i64_w, i32_w]
               rfl
              refine pure_ (i := 1) (N := some 83) (v := ?_) (a' := ?_) #[true, true, false, false, false, false, false, false, false] rfl rfl (any_of HT_.out (by kernel_rfl)) (fun _ _ _ h => h) (Or.inl ⟨by rfl, ?_⟩) ?_ ?_
              rotate_left
              ·intro w'
               go_simp
               with_reducible rfl
              rotate_left
              ·simp only [Act.put, List.setIfInBounds_toArray, List.set_cons_zero, List.set_cons_succ, i64_w, i32_w]
               rfl
              refine pure_ (i := 2) (N := some 84) (v := ?_) (a' := ?_) #[true, true, true, false, false, false, false, false, false] rfl rfl (any_of HT_.out (by kernel_rfl)) (fun _ _ _ h => h) (Or.inl ⟨by rfl, ?_⟩) ?_ ?_
              rotate_left
              ·intro w'
               go_simp
               with_reducible rfl
              rotate_left
              ·simp only [Act.put, List.setIfInBounds_toArray, List.set_cons_zero, List.set_cons_succ, i64_w, i32_w]
               rfl
              refine pure_ (i := 3) (N := some 85) (v := ?_) (a' := ?_) #[true, true, true, true, false, false, false, false, false] rfl rfl (any_of HT_.out (by kernel_rfl)) (fun _ _ _ h => h) (Or.inl ⟨by rfl, ?_⟩) ?_ ?_
              rotate_left
              ·intro w'
               go_simp
               with_reducible rfl
              rotate_left
              ·simp only [Act.put, List.setIfInBounds_toArray, List.set_cons_zero, List.set_cons_succ, i64_w, i32_w]
               rfl
              refine pure_ (i := 4) (N := some 86) (v := ?_) (a' := ?_) #[true, true, true, true, true, false, false, false, false] rfl rfl (any_of HT_.out (by kernel_rfl)) (fun _ _ _ h => h) (Or.inl ⟨by rfl, ?_⟩) ?_ ?_
              rotate_left
              ·intro w'
               go_simp
               with_reducible rfl
              rotate_left
              ·simp only [Act.put, List.setIfInBounds_toArray, List.set_cons_zero, List.set_cons_succ, i64_w, i32_w]
               rfl
              refine pure_ (i := 6) (N := some 88) (v := ?_) (a' := ?_) #[true, true, true, true, true, false, true, false, false] rfl rfl (any_of HT_.out (by kernel_rfl)) (fun _ _ _ h => h) (Or.inl ⟨by rfl, ?_⟩) ?_ ?_
              rotate_left
              ·intro w'
               go_simp
               with_reducible rfl
              rotate_left
              ·simp only [Act.put, List.setIfInBounds_toArray, List.set_cons_zero, List.set_cons_succ, i64_w, i32_w]
               rfl
              refine take_ (i := 5) (N := some 87) (v := ?_) (a' := ?_) #[true, true, true, true, true, true, true, false, false] rfl rfl (take_ofW HT_.out HW_.out (by kernel_rfl)) (fun _ _ _ h => h) (Or.inl ⟨by rfl, ?_⟩) hHeld ?_ ?_
              rotate_left
              ·rintro w' ⟨s0, s1, s2, s3, s4, s5, s6, s7, s8⟩
               go_simp
               with_reducible rfl
              rotate_left
              ·simp only [Act.put, List.setIfInBounds_toArray, List.set_cons_zero, List.set_cons_succ, i64_w, i32_w]
               rfl
              refine one_ (i := 7) (N := some 89) #[true, true, true, true, true, true, true, true, false] rfl rfl (one_of HT_.out (by kernel_rfl)) (by decide) (fun K hK => ?_)
              refine goes_ Try.func76 (by kernel_rfl) rfl #[.int .i64 (wrap64 ((wrap64 ((wrap64 ((wrap64 ((wrap64 ((wrap64 ((wrap64 (x1_1 + 1)) + 1)) + 1)) + 1)) + 1)) + 1)) + 1))] (by rfl) rfl rfl (by (try simp only [List.map_toArray, List.map_cons, List.map_nil]); first | done | rfl | (simp only [List.length_drop, List.length_take]; rfl)) ?_
              with_reducible refine (laws_markText.calls k1 (wrap64 ((wrap64 ((wrap64 ((wrap64 ((wrap64 ((wrap64 ((wrap64 (x1_1 + 1)) + 1)) + 1)) + 1)) + 1)) + 1)) + 1)) t223 _ A14.out).mono ?_
              rintro e w22 ⟨rfl, hb⟩
              refine ⟨_, rfl, ?_⟩
              have n0_ := Am (bt (by repeat (first | (with_reducible first | exact HB.out | apply ba | apply bn | apply be) | exact HB.out)) hb)
              clear HB
              have HB := n0_
              clear n0_
              (try clear hb)
              (try clear hb2)
              (try clear hk)
              (try clear hi)
              refine hK.out _ _ ⟨(cl4 HB hw222_0), (cl4 HB hw222_1), (cl4 HB hw222_2), (cl4 HB hw222_3), (cl4 HB hw222_4), (cl4 HB hw222_5), (cl4 HB hw222_6), (cl4 HB hw222_7), (cl4 HB hw222_8)⟩ (fun hHeld => ?_)
              clear hK K
              refine norm_ (a' := ?_) ?_ ?_
              rotate_left
              ·show Act.put _ (some 89) _ = _
               simp only [Act.put, List.setIfInBounds_toArray, List.set_cons_zero, List.set_cons_succ, i64_w, i32_w]
               rfl
              refine pure_ (i := 8) (N := some 90) (v := ?_) (a' := ?_) #[true, true, true, true, true, true, true, true, true] rfl rfl (any_of HT_.out (by kernel_rfl)) (fun _ _ _ h => h) (Or.inl ⟨by rfl, ?_⟩) ?_ ?_
              rotate_left
              ·intro w'
               go_simp
               with_reducible rfl
              rotate_left
              ·simp only [Act.put, List.setIfInBounds_toArray, List.set_cons_zero, List.set_cons_succ, i64_w, i32_w]
               rfl
              refine done_ (done_of HT_.out (by kernel_rfl)) ?_
              have p224 : 0 ≤ (x5_1 : Int) := of_decide_eq_true (by assumption)
              have q224 : x5_1 < (l0.length : Int) := of_decide_eq_true (by assumption)
              obtain ⟨ad224, e224, hx224_0, hx224_1, hx224_2, hx224_3, hx224_4, hx224_5, hx224_6, hx224_7, hx224_8⟩ := at_T33 HR0.out x5_1 p224 q224
              obtain rfl : ad213 = ad224 := (by injection e224)
              replace hx224_0 := cl4 HB hx224_0
              replace hx224_1 := cl4 HB hx224_1
              replace hx224_2 := cl4 HB hx224_2
              replace hx224_3 := cl4 HB hx224_3
              replace hx224_4 := cl4 HB hx224_4
              replace hx224_5 := cl4 HB hx224_5
              replace hx224_6 := cl4 HB hx224_6
              replace hx224_7 := cl4 HB hx224_7
              replace hx224_8 := cl4 HB hx224_8
              replace p224 := eq_true p224
              replace q224 := eq_true q224
              try go_wp2
              go_roundg k1
              case measure => have := HK1.out; omega
              case rel => exact ⟨(wrap64 ((wrap64 ((wrap64 ((wrap64 ((wrap64 ((wrap64 ((wrap64 ((wrap64 ((wrap64 (x1_1 + 1)) + 1)) + 1)) + 1)) + 1)) + 1)) + 1)) + 1)) + 1)), (wrap64 (x5_1 + 1)), (by first | rfl | (simp; done) | (simp [*]; done)), (by first | rfl | (simp; done) | (simp [*]; done)), H', ⟨by have := HK1.out; omega⟩, ⟨by repeat (first | (with_reducible first | apply ba | apply bn | apply be) | exact HB.out)⟩⟩
             ·rw [if_neg c16] at H
              have c16b0 : (((rd_T33 l0 x5_1).f3) == (wrap64 ((wrap64 ((wrap64 ((wrap64 ((wrap64 ((wrap64 ((wrap64 ((wrap64 (x1_1 + 1)) + 1)) + 1)) + 1)) + 1)) + 1)) + 1)) + 1))) = false := beq_eq_false_iff_ne.mpr c16
              have c16b1 : (((rd_T33 l0 x5_1).f3) != (wrap64 ((wrap64 ((wrap64 ((wrap64 ((wrap64 ((wrap64 ((wrap64 ((wrap64 (x1_1 + 1)) + 1)) + 1)) + 1)) + 1)) + 1)) + 1)) + 1))) = true := bne_iff_ne.mpr c16
              obtain rfl := Option.some.inj H
              have p213 : 0 ≤ (x5_1 : Int) := of_decide_eq_true (by assumption)
              have q213 : x5_1 < (l0.length : Int) := of_decide_eq_true (by assumption)
              obtain ⟨ad213, e213, hx213_0, hx213_1, hx213_2, hx213_3, hx213_4, hx213_5, hx213_6, hx213_7, hx213_8⟩ := at_T33 HR0.out x5_1 p213 q213
              cases e213
              replace hx213_0 := cl4 HB hx213_0
              replace hx213_1 := cl4 HB hx213_1
              replace hx213_2 := cl4 HB hx213_2
              replace hx213_3 := cl4 HB hx213_3
              replace hx213_4 := cl4 HB hx213_4
              replace hx213_5 := cl4 HB hx213_5
              replace hx213_6 := cl4 HB hx213_6
              replace hx213_7 := cl4 HB hx213_7
              replace hx213_8 := cl4 HB hx213_8
              replace p213 := eq_true p213
              replace q213 := eq_true q213
              have p214 : 0 ≤ (x5_1 : Int) := of_decide_eq_true (by assumption)
              have q214 : x5_1 < (l0.length : Int) := of_decide_eq_true (by assumption)
              obtain ⟨ad214, e214, hx214_0, hx214_1, hx214_2, hx214_3, hx214_4, hx214_5, hx214_6, hx214_7, hx214_8⟩ := at_T33 HR0.out x5_1 p214 q214
              obtain rfl : ad213 = ad214 := (by injection e214)
              replace hx214_0 := cl4 HB hx214_0
              replace hx214_1 := cl4 HB hx214_1
              replace hx214_2 := cl4 HB hx214_2
              replace hx214_3 := cl4 HB hx214_3
              replace hx214_4 := cl4 HB hx214_4
              replace hx214_5 := cl4 HB hx214_5
              replace hx214_6 := cl4 HB hx214_6
              replace hx214_7 := cl4 HB hx214_7
              replace hx214_8 := cl4 HB hx214_8
              replace p214 := eq_true p214
              replace q214 := eq_true q214
              have p215 : 0 ≤ (x5_1 : Int) := of_decide_eq_true (by assumption)
              have q215 : x5_1 < (l0.length : Int) := of_decide_eq_true (by assumption)
              obtain ⟨ad215, e215, hx215_0, hx215_1, hx215_2, hx215_3, hx215_4, hx215_5, hx215_6, hx215_7, hx215_8⟩ := at_T33 HR0.out x5_1 p215 q215
              obtain rfl : ad213 = ad215 := (by injection e215)
              replace hx215_0 := cl4 HB hx215_0
              replace hx215_1 := cl4 HB hx215_1
              replace hx215_2 := cl4 HB hx215_2
              replace hx215_3 := cl4 HB hx215_3
              replace hx215_4 := cl4 HB hx215_4
              replace hx215_5 := cl4 HB hx215_5
              replace hx215_6 := cl4 HB hx215_6
              replace hx215_7 := cl4 HB hx215_7
              replace hx215_8 := cl4 HB hx215_8
              replace p215 := eq_true p215
              replace q215 := eq_true q215
              try go_wp2
              have n0_ := Am (be HB.out)
              clear HB
              have HB := n0_
              clear n0_
              have p216 : 0 ≤ (x5_1 : Int) := of_decide_eq_true (by assumption)
              have q216 : x5_1 < (l0.length : Int) := of_decide_eq_true (by assumption)
              obtain ⟨ad216, e216, hx216_0, hx216_1, hx216_2, hx216_3, hx216_4, hx216_5, hx216_6, hx216_7, hx216_8⟩ := at_T33 HR0.out x5_1 p216 q216
              have hw216_8 := hx216_8
              have hw216_7 := hx216_7
              have hw216_6 := hx216_6
              have hw216_5 := hx216_5
              have hw216_4 := hx216_4
              have hw216_3 := hx216_3
              have hw216_2 := hx216_2
              have hw216_1 := hx216_1
              have hw216_0 := hx216_0
              obtain rfl : ad213 = ad216 := (by injection e216)
              replace hx216_0 := cl4 HB hx216_0
              replace hx216_1 := cl4 HB hx216_1
              replace hx216_2 := cl4 HB hx216_2
              replace hx216_3 := cl4 HB hx216_3
              replace hx216_4 := cl4 HB hx216_4
              replace hx216_5 := cl4 HB hx216_5
              replace hx216_6 := cl4 HB hx216_6
              replace hx216_7 := cl4 HB hx216_7
              replace hx216_8 := cl4 HB hx216_8
              replace p216 := eq_true p216
              replace q216 := eq_true q216
              refine start_ (n := 9) (S := fun w' => w'.cell? (ad213.add ((x5_1).toNat * 9)) = some (.int .i64 ((rd_T33 l0 x5_1).f0)) ∧ w'.cell? ⟨(ad213.add ((x5_1).toNat * 9)).block, (ad213.add ((x5_1).toNat * 9)).off + 1, none⟩ = some (.int .i64 ((rd_T33 l0 x5_1).f1)) ∧ w'.cell? ⟨(ad213.add ((x5_1).toNat * 9)).block, (ad213.add ((x5_1).toNat * 9)).off + 2, none⟩ = some (.int .i64 ((rd_T33 l0 x5_1).f2.f0)) ∧ w'.cell? ⟨(ad213.add ((x5_1).toNat * 9)).block, (ad213.add ((x5_1).toNat * 9)).off + 3, none⟩ = some (.string ((rd_T33 l0 x5_1).f2.f1)) ∧ w'.cell? ⟨(ad213.add ((x5_1).toNat * 9)).block, (ad213.add ((x5_1).toNat * 9)).off + 4, none⟩ = some (.string ((rd_T33 l0 x5_1).f2.f2)) ∧ w'.cell? ⟨(ad213.add ((x5_1).toNat * 9)).block, (ad213.add ((x5_1).toNat * 9)).off + 5, none⟩ = some (.int .i64 ((rd_T33 l0 x5_1).f2.f3)) ∧ w'.cell? ⟨(ad213.add ((x5_1).toNat * 9)).block, (ad213.add ((x5_1).toNat * 9)).off + 6, none⟩ = some (.int .i64 ((rd_T33 l0 x5_1).f2.f4)) ∧ w'.cell? ⟨(ad213.add ((x5_1).toNat * 9)).block, (ad213.add ((x5_1).toNat * 9)).off + 7, none⟩ = some (.string ((rd_T33 l0 x5_1).f2.f5)) ∧ w'.cell? ⟨(ad213.add ((x5_1).toNat * 9)).block, (ad213.add ((x5_1).toNat * 9)).off + 8, none⟩ = some (.int .i64 ((rd_T33 l0 x5_1).f3))) (ds := []) #[false, false, false, false, false, false, false, false, false] (by kernel_rfl) rfl rfl ⟨(cl4 HB hw216_0), (cl4 HB hw216_1), (cl4 HB hw216_2), (cl4 HB hw216_3), (cl4 HB hw216_4), (cl4 HB hw216_5), (cl4 HB hw216_6), (cl4 HB hw216_7), (cl4 HB hw216_8)⟩ (fun hHeld => ?_); refine with_tabW laws_heldActS.tab13 laws_heldActS.bits13 (fun HT_ HW_ => ?_)
              generalize wr.drew = w23 at HB hx216_0 hx216_1 hx216_2 hx216_3 hx216_4 hx216_5 hx216_6 hx216_7 hx216_8 hHeld ⊢
              refine pure_ (i := 0) (N := some 40) (v := ?_) (a' := ?_) #[true, false, false, false, false, false, false, false, false] rfl rfl (any_of HT_.out (by kernel_rfl)) (fun _ _ _ h => h) (Or.inl ⟨by rfl, ?_⟩) ?_ ?_
              rotate_left
              ·intro w'
               go_simp
               with_reducible rfl
              rotate_left
              ·simp only [Act.put, List.setIfInBounds_toArray, List.set_cons_zero, List.set_cons_succ, i64_w, i32_w]
               rfl
              refine pure_ (i := 1) (N := some 41) (v := ?_) (a' := ?_) #[true, true, false, false, false, false, false, false, false] rfl rfl (any_of HT_.out (by kernel_rfl)) (fun _ _ _ h => h) (Or.inl ⟨by rfl, ?_⟩) ?_ ?_
              rotate_left
              ·intro w'
               go_simp
               with_reducible rfl
              rotate_left
              ·simp only [Act.put, List.setIfInBounds_toArray, List.set_cons_zero, List.set_cons_succ, i64_w, i32_w]
               rfl
              refine pure_ (i := 2) (N := some 42) (v := ?_) (a' := ?_) #[true, true, true, false, false, false, false, false, false] rfl rfl (any_of HT_.out (by kernel_rfl)) (fun _ _ _ h => h) (Or.inl ⟨by rfl, ?_⟩) ?_ ?_
              rotate_left
              ·intro w'
               go_simp
               with_reducible rfl
              rotate_left
              ·simp only [Act.put, List.setIfInBounds_toArray, List.set_cons_zero, List.set_cons_succ, i64_w, i32_w]
               rfl
              refine pure_ (i := 3) (N := some 43) (v := ?_) (a' := ?_) #[true, true, true, true, false, false, false, false, false] rfl rfl (any_of HT_.out (by kernel_rfl)) (fun _ _ _ h => h) (Or.inl ⟨by rfl, ?_⟩) ?_ ?_
              rotate_left
              ·intro w'
               go_simp
               with_reducible rfl
              rotate_left
              ·simp only [Act.put, List.setIfInBounds_toArray, List.set_cons_zero, List.set_cons_succ, i64_w, i32_w]
               rfl
              refine pure_ (i := 4) (N := some 44) (v := ?_) (a' := ?_) #[true, true, true, true, true, false, false, false, false] rfl rfl (any_of HT_.out (by kernel_rfl)) (fun _ _ _ h => h) (Or.inl ⟨by rfl, ?_⟩) ?_ ?_
              rotate_left
              ·intro w'
               go_simp
               with_reducible rfl
              rotate_left
              ·simp only [Act.put, List.setIfInBounds_toArray, List.set_cons_zero, List.set_cons_succ, i64_w, i32_w]
               rfl
              refine pure_ (i := 6) (N := some 46) (v := ?_) (a' := ?_) #[true, true, true, true, true, false, true, false, false] rfl rfl (any_of HT_.out (by kernel_rfl)) (fun _ _ _ h => h) (Or.inl ⟨by rfl, ?_⟩) ?_ ?_
              rotate_left
              ·intro w'
               go_simp
               with_reducible rfl
              rotate_left
              ·simp only [Act.put, List.setIfInBounds_toArray, List.set_cons_zero, List.set_cons_succ, i64_w, i32_w]
               rfl
              refine take_ (i := 5) (N := some 45) (v := ?_) (a' := ?_) #[true, true, true, true, true, true, true, false, false] rfl rfl (take_ofW HT_.out HW_.out (by kernel_rfl)) (fun _ _ _ h => h) (Or.inl ⟨by rfl, ?_⟩) hHeld ?_ ?_
              rotate_left
              ·rintro w' ⟨s0, s1, s2, s3, s4, s5, s6, s7, s8⟩
               go_simp
               with_reducible rfl
              rotate_left
              ·simp only [Act.put, List.setIfInBounds_toArray, List.set_cons_zero, List.set_cons_succ, i64_w, i32_w]
               rfl
              refine one_ (i := 7) (N := some 47) #[true, true, true, true, true, true, true, true, false] rfl rfl (one_of HT_.out (by kernel_rfl)) (by decide) (fun K hK => ?_)
              refine goes_ Try.func76 (by kernel_rfl) rfl #[.int .i64 (wrap64 ((wrap64 ((wrap64 (x1_1 + 1)) + 1)) + 1))] (by rfl) rfl rfl (by (try simp only [List.map_toArray, List.map_cons, List.map_nil]); first | done | rfl | (simp only [List.length_drop, List.length_take]; rfl)) ?_
              with_reducible refine (laws_markText.calls k1 (wrap64 ((wrap64 ((wrap64 (x1_1 + 1)) + 1)) + 1)) t217 _ A8.out).mono ?_
              rintro e w24 ⟨rfl, hb⟩
              refine ⟨_, rfl, ?_⟩
              have n0_ := Am (bt (by repeat (first | (with_reducible first | exact HB.out | apply ba | apply bn | apply be) | exact HB.out)) hb)
              clear HB
              have HB := n0_
              clear n0_
              (try clear hb)
              (try clear hb2)
              (try clear hk)
              (try clear hi)
              refine hK.out _ _ ⟨(cl4 HB hw216_0), (cl4 HB hw216_1), (cl4 HB hw216_2), (cl4 HB hw216_3), (cl4 HB hw216_4), (cl4 HB hw216_5), (cl4 HB hw216_6), (cl4 HB hw216_7), (cl4 HB hw216_8)⟩ (fun hHeld => ?_)
              clear hK K
              refine norm_ (a' := ?_) ?_ ?_
              rotate_left
              ·show Act.put _ (some 47) _ = _
               simp only [Act.put, List.setIfInBounds_toArray, List.set_cons_zero, List.set_cons_succ, i64_w, i32_w]
               rfl
              refine pure_ (i := 8) (N := some 48) (v := ?_) (a' := ?_) #[true, true, true, true, true, true, true, true, true] rfl rfl (any_of HT_.out (by kernel_rfl)) (fun _ _ _ h => h) (Or.inl ⟨by rfl, ?_⟩) ?_ ?_
              rotate_left
              ·intro w'
               go_simp
               with_reducible rfl
              rotate_left
              ·simp only [Act.put, List.setIfInBounds_toArray, List.set_cons_zero, List.set_cons_succ, i64_w, i32_w]
               rfl
              refine done_ (done_of HT_.out (by kernel_rfl)) ?_
              try go_wp2
              have n0_ := Am (be HB.out)
              clear HB
              have HB := n0_
              clear n0_
              have p218 : 0 ≤ (x5_1 : Int) := of_decide_eq_true (by assumption)
              have q218 : x5_1 < (l0.length : Int) := of_decide_eq_true (by assumption)
              obtain ⟨ad218, e218, hx218_0, hx218_1, hx218_2, hx218_3, hx218_4, hx218_5, hx218_6, hx218_7, hx218_8⟩ := at_T33 HR0.out x5_1 p218 q218
              have hw218_8 := hx218_8
              have hw218_7 := hx218_7
              have hw218_6 := hx218_6
              have hw218_5 := hx218_5
              have hw218_4 := hx218_4
              have hw218_3 := hx218_3
              have hw218_2 := hx218_2
              have hw218_1 := hx218_1
              have hw218_0 := hx218_0
              obtain rfl : ad213 = ad218 := (by injection e218)
              replace hx218_0 := cl4 HB hx218_0
              replace hx218_1 := cl4 HB hx218_1
              replace hx218_2 := cl4 HB hx218_2
              replace hx218_3 := cl4 HB hx218_3
              replace hx218_4 := cl4 HB hx218_4
              replace hx218_5 := cl4 HB hx218_5
              replace hx218_6 := cl4 HB hx218_6
              replace hx218_7 := cl4 HB hx218_7
              replace hx218_8 := cl4 HB hx218_8
              replace p218 := eq_true p218
              replace q218 := eq_true q218
              refine start_ (n := 9) (S := fun w' => w'.cell? (ad213.add ((x5_1).toNat * 9)) = some (.int .i64 ((rd_T33 l0 x5_1).f0)) ∧ w'.cell? ⟨(ad213.add ((x5_1).toNat * 9)).block, (ad213.add ((x5_1).toNat * 9)).off + 1, none⟩ = some (.int .i64 ((rd_T33 l0 x5_1).f1)) ∧ w'.cell? ⟨(ad213.add ((x5_1).toNat * 9)).block, (ad213.add ((x5_1).toNat * 9)).off + 2, none⟩ = some (.int .i64 ((rd_T33 l0 x5_1).f2.f0)) ∧ w'.cell? ⟨(ad213.add ((x5_1).toNat * 9)).block, (ad213.add ((x5_1).toNat * 9)).off + 3, none⟩ = some (.string ((rd_T33 l0 x5_1).f2.f1)) ∧ w'.cell? ⟨(ad213.add ((x5_1).toNat * 9)).block, (ad213.add ((x5_1).toNat * 9)).off + 4, none⟩ = some (.string ((rd_T33 l0 x5_1).f2.f2)) ∧ w'.cell? ⟨(ad213.add ((x5_1).toNat * 9)).block, (ad213.add ((x5_1).toNat * 9)).off + 5, none⟩ = some (.int .i64 ((rd_T33 l0 x5_1).f2.f3)) ∧ w'.cell? ⟨(ad213.add ((x5_1).toNat * 9)).block, (ad213.add ((x5_1).toNat * 9)).off + 6, none⟩ = some (.int .i64 ((rd_T33 l0 x5_1).f2.f4)) ∧ w'.cell? ⟨(ad213.add ((x5_1).toNat * 9)).block, (ad213.add ((x5_1).toNat * 9)).off + 7, none⟩ = some (.string ((rd_T33 l0 x5_1).f2.f5)) ∧ w'.cell? ⟨(ad213.add ((x5_1).toNat * 9)).block, (ad213.add ((x5_1).toNat * 9)).off + 8, none⟩ = some (.int .i64 ((rd_T33 l0 x5_1).f3))) (ds := []) #[false, false, false, false, false, false, false, false, false] (by kernel_rfl) rfl rfl ⟨(cl4 HB hw218_0), (cl4 HB hw218_1), (cl4 HB hw218_2), (cl4 HB hw218_3), (cl4 HB hw218_4), (cl4 HB hw218_5), (cl4 HB hw218_6), (cl4 HB hw218_7), (cl4 HB hw218_8)⟩ (fun hHeld => ?_); refine with_tabW laws_heldActS.tab16 laws_heldActS.bits16 (fun HT_ HW_ => ?_)
              generalize w24.drew = w25 at HB hx218_0 hx218_1 hx218_2 hx218_3 hx218_4 hx218_5 hx218_6 hx218_7 hx218_8 hHeld ⊢
              refine pure_ (i := 0) (N := some 51) (v := ?_) (a' := ?_) #[true, false, false, false, false, false, false, false, false] rfl rfl (any_of HT_.out (by kernel_rfl)) (fun _ _ _ h => h) (Or.inl ⟨by rfl, ?_⟩) ?_ ?_
              rotate_left
              ·intro w'
               go_simp
               with_reducible rfl
              rotate_left
              ·simp only [Act.put, List.setIfInBounds_toArray, List.set_cons_zero, List.set_cons_succ, i64_w, i32_w]
               rfl
              refine pure_ (i := 1) (N := some 52) (v := ?_) (a' := ?_) #[true, true, false, false, false, false, false, false, false] rfl rfl (any_of HT_.out (by kernel_rfl)) (fun _ _ _ h => h) (Or.inl ⟨by rfl, ?_⟩) ?_ ?_
              rotate_left
              ·intro w'
               go_simp
               with_reducible rfl
              rotate_left
              ·simp only [Act.put, List.setIfInBounds_toArray, List.set_cons_zero, List.set_cons_succ, i64_w, i32_w]
               rfl
              refine pure_ (i := 2) (N := some 53) (v := ?_) (a' := ?_) #[true, true, true, false, false, false, false, false, false] rfl rfl (any_of HT_.out (by kernel_rfl)) (fun _ _ _ h => h) (Or.inl ⟨by rfl, ?_⟩) ?_ ?_
              rotate_left
              ·intro w'
               go_simp
               with_reducible rfl
              rotate_left
              ·simp only [Act.put, List.setIfInBounds_toArray, List.set_cons_zero, List.set_cons_succ, i64_w, i32_w]
               rfl
              refine pure_ (i := 3) (N := some 54) (v := ?_) (a' := ?_) #[true, true, true, true, false, false, false, false, false] rfl rfl (any_of HT_.out (by kernel_rfl)) (fun _ _ _ h => h) (Or.inl ⟨by rfl, ?_⟩) ?_ ?_
              rotate_left
              ·intro w'
               go_simp
               with_reducible rfl
              rotate_left
              ·simp only [Act.put, List.setIfInBounds_toArray, List.set_cons_zero, List.set_cons_succ, i64_w, i32_w]
               rfl
              refine pure_ (i := 4) (N := some 55) (v := ?_) (a' := ?_) #[true, true, true, true, true, false, false, false, false] rfl rfl (any_of HT_.out (by kernel_rfl)) (fun _ _ _ h => h) (Or.inl ⟨by rfl, ?_⟩) ?_ ?_
              rotate_left
              ·intro w'
               go_simp
               with_reducible rfl
              rotate_left
              ·simp only [Act.put, List.setIfInBounds_toArray, List.set_cons_zero, List.set_cons_succ, i64_w, i32_w]
               rfl
              refine pure_ (i := 6) (N := some 57) (v := ?_) (a' := ?_) #[true, true, true, true, true, false, true, false, false] rfl rfl (any_of HT_.out (by kernel_rfl)) (fun _ _ _ h => h) (Or.inl ⟨by rfl, ?_⟩) ?_ ?_
              rotate_left
              ·intro w'
               go_simp
               with_reducible rfl
              rotate_left
              ·simp only [Act.put, List.setIfInBounds_toArray, List.set_cons_zero, List.set_cons_succ, i64_w, i32_w]
               rfl
              refine take_ (i := 5) (N := some 56) (v := ?_) (a' := ?_) #[true, true, true, true, true, true, true, false, false] rfl rfl (take_ofW HT_.out HW_.out (by kernel_rfl)) (fun _ _ _ h => h) (Or.inl ⟨by rfl, ?_⟩) hHeld ?_ ?_
              rotate_left
              ·rintro w' ⟨s0, s1, s2, s3, s4, s5, s6, s7, s8⟩
               go_simp
               with_reducible rfl
              rotate_left
              ·simp only [Act.put, List.setIfInBounds_toArray, List.set_cons_zero, List.set_cons_succ, i64_w, i32_w]
               rfl
              refine one_ (i := 7) (N := some 58) #[true, true, true, true, true, true, true, true, false] rfl rfl (one_of HT_.out (by kernel_rfl)) (by decide) (fun K hK => ?_)
              refine goes_ Try.func76 (by kernel_rfl) rfl #[.int .i64 (wrap64 ((wrap64 ((wrap64 ((wrap64 (x1_1 + 1)) + 1)) + 1)) + 1))] (by rfl) rfl rfl (by (try simp only [List.map_toArray, List.map_cons, List.map_nil]); first | done | rfl | (simp only [List.length_drop, List.length_take]; rfl)) ?_
              with_reducible refine (laws_markText.calls k1 (wrap64 ((wrap64 ((wrap64 ((wrap64 (x1_1 + 1)) + 1)) + 1)) + 1)) t219 _ A10.out).mono ?_
              rintro e w26 ⟨rfl, hb⟩
              refine ⟨_, rfl, ?_⟩
              have n0_ := Am (bt (by repeat (first | (with_reducible first | exact HB.out | apply ba | apply bn | apply be) | exact HB.out)) hb)
              clear HB
              have HB := n0_
              clear n0_
              (try clear hb)
              (try clear hb2)
              (try clear hk)
              (try clear hi)
              refine hK.out _ _ ⟨(cl4 HB hw218_0), (cl4 HB hw218_1), (cl4 HB hw218_2), (cl4 HB hw218_3), (cl4 HB hw218_4), (cl4 HB hw218_5), (cl4 HB hw218_6), (cl4 HB hw218_7), (cl4 HB hw218_8)⟩ (fun hHeld => ?_)
              clear hK K
              refine norm_ (a' := ?_) ?_ ?_
              rotate_left
              ·show Act.put _ (some 58) _ = _
               simp only [Act.put, List.setIfInBounds_toArray, List.set_cons_zero, List.set_cons_succ, i64_w, i32_w]
               rfl
              refine pure_ (i := 8) (N := some 59) (v := ?_) (a' := ?_) #[true, true, true, true, true, true, true, true, true] rfl rfl (any_of HT_.out (by kernel_rfl)) (fun _ _ _ h => h) (Or.inl ⟨by rfl, ?_⟩) ?_ ?_
              rotate_left
              ·intro w'
               go_simp
               with_reducible rfl
              rotate_left
              ·simp only [Act.put, List.setIfInBounds_toArray, List.set_cons_zero, List.set_cons_succ, i64_w, i32_w]
               rfl
              refine done_ (done_of HT_.out (by kernel_rfl)) ?_
              have p220 : 0 ≤ (x5_1 : Int) := of_decide_eq_true (by assumption)
              have q220 : x5_1 < (l0.length : Int) := of_decide_eq_true (by assumption)
              obtain ⟨ad220, e220, hx220_0, hx220_1, hx220_2, hx220_3, hx220_4, hx220_5, hx220_6, hx220_7, hx220_8⟩ := at_T33 HR0.out x5_1 p220 q220
              obtain rfl : ad213 = ad220 := (by injection e220)
              replace hx220_0 := cl4 HB hx220_0
              replace hx220_1 := cl4 HB hx220_1
              replace hx220_2 := cl4 HB hx220_2
              replace hx220_3 := cl4 HB hx220_3
              replace hx220_4 := cl4 HB hx220_4
              replace hx220_5 := cl4 HB hx220_5
              replace hx220_6 := cl4 HB hx220_6
              replace hx220_7 := cl4 HB hx220_7
              replace hx220_8 := cl4 HB hx220_8
              replace p220 := eq_true p220
              replace q220 := eq_true q220
              have p221 : 0 ≤ (x5_1 : Int) := of_decide_eq_true (by assumption)
              have q221 : x5_1 < (l0.length : Int) := of_decide_eq_true (by assumption)
              obtain ⟨ad221, e221, hx221_0, hx221_1, hx221_2, hx221_3, hx221_4, hx221_5, hx221_6, hx221_7, hx221_8⟩ := at_T33 HR0.out x5_1 p221 q221
              obtain rfl : ad213 = ad221 := (by injection e221)
              replace hx221_0 := cl4 HB hx221_0
              replace hx221_1 := cl4 HB hx221_1
              replace hx221_2 := cl4 HB hx221_2
              replace hx221_3 := cl4 HB hx221_3
              replace hx221_4 := cl4 HB hx221_4
              replace hx221_5 := cl4 HB hx221_5
              replace hx221_6 := cl4 HB hx221_6
              replace hx221_7 := cl4 HB hx221_7
              replace hx221_8 := cl4 HB hx221_8
              replace p221 := eq_true p221
              replace q221 := eq_true q221
              try go_wp2
              have n0_ := Am (be HB.out)
              clear HB
              have HB := n0_
              clear n0_
              have p222 : 0 ≤ (x5_1 : Int) := of_decide_eq_true (by assumption)
              have q222 : x5_1 < (l0.length : Int) := of_decide_eq_true (by assumption)
              obtain ⟨ad222, e222, hx222_0, hx222_1, hx222_2, hx222_3, hx222_4, hx222_5, hx222_6, hx222_7, hx222_8⟩ := at_T33 HR0.out x5_1 p222 q222
              have hw222_8 := hx222_8
              have hw222_7 := hx222_7
              have hw222_6 := hx222_6
              have hw222_5 := hx222_5
              have hw222_4 := hx222_4
              have hw222_3 := hx222_3
              have hw222_2 := hx222_2
              have hw222_1 := hx222_1
              have hw222_0 := hx222_0
              obtain rfl : ad213 = ad222 := (by injection e222)
              replace hx222_0 := cl4 HB hx222_0
              replace hx222_1 := cl4 HB hx222_1
              replace hx222_2 := cl4 HB hx222_2
              replace hx222_3 := cl4 HB hx222_3
              replace hx222_4 := cl4 HB hx222_4
              replace hx222_5 := cl4 HB hx222_5
              replace hx222_6 := cl4 HB hx222_6
              replace hx222_7 := cl4 HB hx222_7
              replace hx222_8 := cl4 HB hx222_8
              replace p222 := eq_true p222
              replace q222 := eq_true q222
              refine start_ (n := 9) (S := fun w' => w'.cell? (ad213.add ((x5_1).toNat * 9)) = some (.int .i64 ((rd_T33 l0 x5_1).f0)) ∧ w'.cell? ⟨(ad213.add ((x5_1).toNat * 9)).block, (ad213.add ((x5_1).toNat * 9)).off + 1, none⟩ = some (.int .i64 ((rd_T33 l0 x5_1).f1)) ∧ w'.cell? ⟨(ad213.add ((x5_1).toNat * 9)).block, (ad213.add ((x5_1).toNat * 9)).off + 2, none⟩ = some (.int .i64 ((rd_T33 l0 x5_1).f2.f0)) ∧ w'.cell? ⟨(ad213.add ((x5_1).toNat * 9)).block, (ad213.add ((x5_1).toNat * 9)).off + 3, none⟩ = some (.string ((rd_T33 l0 x5_1).f2.f1)) ∧ w'.cell? ⟨(ad213.add ((x5_1).toNat * 9)).block, (ad213.add ((x5_1).toNat * 9)).off + 4, none⟩ = some (.string ((rd_T33 l0 x5_1).f2.f2)) ∧ w'.cell? ⟨(ad213.add ((x5_1).toNat * 9)).block, (ad213.add ((x5_1).toNat * 9)).off + 5, none⟩ = some (.int .i64 ((rd_T33 l0 x5_1).f2.f3)) ∧ w'.cell? ⟨(ad213.add ((x5_1).toNat * 9)).block, (ad213.add ((x5_1).toNat * 9)).off + 6, none⟩ = some (.int .i64 ((rd_T33 l0 x5_1).f2.f4)) ∧ w'.cell? ⟨(ad213.add ((x5_1).toNat * 9)).block, (ad213.add ((x5_1).toNat * 9)).off + 7, none⟩ = some (.string ((rd_T33 l0 x5_1).f2.f5)) ∧ w'.cell? ⟨(ad213.add ((x5_1).toNat * 9)).block, (ad213.add ((x5_1).toNat * 9)).off + 8, none⟩ = some (.int .i64 ((rd_T33 l0 x5_1).f3))) (ds := []) #[false, false, false, false, false, false, false, false, false] (by kernel_rfl) rfl rfl ⟨(cl4 HB hw222_0), (cl4 HB hw222_1), (cl4 HB hw222_2), (cl4 HB hw222_3), (cl4 HB hw222_4), (cl4 HB hw222_5), (cl4 HB hw222_6), (cl4 HB hw222_7), (cl4 HB hw222_8)⟩ (fun hHeld => ?_); refine with_tabW laws_heldActS.tab25 laws_heldActS.bits25 (fun HT_ HW_ => ?_)
              generalize w26.drew = w27 at HB hx222_0 hx222_1 hx222_2 hx222_3 hx222_4 hx222_5 hx222_6 hx222_7 hx222_8 hHeld ⊢
              refine pure_ (i := 0) (N := some 82) (v := ?_) (a' := ?_) #[true, false, false, false, false, false, false, false, false] rfl rfl (any_of HT_.out (by kernel_rfl)) (fun _ _ _ h => h) (Or.inl ⟨by rfl, ?_⟩) ?_ ?_
              rotate_left
              ·intro w'
               go_simp
               with_reducible rfl
              rotate_left
              ·simp only [Act.put, List.setIfInBounds_toArray, List.set_cons_zero, List.set_cons_succ, i64_w, i32_w]
               rfl
              refine pure_ (i := 1) (N := some 83) (v := ?_) (a' := ?_) #[true, true, false, false, false, false, false, false, false] rfl rfl (any_of HT_.out (by kernel_rfl)) (fun _ _ _ h => h) (Or.inl ⟨by rfl, ?_⟩) ?_ ?_
              rotate_left
              ·intro w'
               go_simp
               with_reducible rfl
              rotate_left
              ·simp only [Act.put, List.setIfInBounds_toArray, List.set_cons_zero, List.set_cons_succ, i64_w, i32_w]
               rfl
              refine pure_ (i := 2) (N := some 84) (v := ?_) (a' := ?_) #[true, true, true, false, false, false, false, false, false] rfl rfl (any_of HT_.out (by kernel_rfl)) (fun _ _ _ h => h) (Or.inl ⟨by rfl, ?_⟩) ?_ ?_
              rotate_left
              ·intro w'
               go_simp
               with_reducible rfl
              rotate_left
              ·simp only [Act.put, List.setIfInBounds_toArray, List.set_cons_zero, List.set_cons_succ, i64_w, i32_w]
               rfl
              refine pure_ (i := 3) (N := some 85) (v := ?_) (a' := ?_) #[true, true, true, true, false, false, false, false, false] rfl rfl (any_of HT_.out (by kernel_rfl)) (fun _ _ _ h => h) (Or.inl ⟨by rfl, ?_⟩) ?_ ?_
              rotate_left
              ·intro w'
               go_simp
               with_reducible rfl
              rotate_left
              ·simp only [Act.put, List.setIfInBounds_toArray, List.set_cons_zero, List.set_cons_succ, i64_w, i32_w]
               rfl
              refine pure_ (i := 4) (N := some 86) (v := ?_) (a' := ?_) #[true, true, true, true, true, false, false, false, false] rfl rfl (any_of HT_.out (by kernel_rfl)) (fun _ _ _ h => h) (Or.inl ⟨by rfl, ?_⟩) ?_ ?_
              rotate_left
              ·intro w'
               go_simp
               with_reducible rfl
              rotate_left
              ·simp only [Act.put, List.setIfInBounds_toArray, List.set_cons_zero, List.set_cons_succ, i64_w, i32_w]
               rfl
              refine pure_ (i := 6) (N := some 88) (v := ?_) (a' := ?_) #[true, true, true, true, true, false, true, false, false] rfl rfl (any_of HT_.out (by kernel_rfl)) (fun _ _ _ h => h) (Or.inl ⟨by rfl, ?_⟩) ?_ ?_
              rotate_left
              ·intro w'
               go_simp
               with_reducible rfl
              rotate_left
              ·simp only [Act.put, List.setIfInBounds_toArray, List.set_cons_zero, List.set_cons_succ, i64_w, i32_w]
               rfl
              refine take_ (i := 5) (N := some 87) (v := ?_) (a' := ?_) #[true, true, true, true, true, true, true, false, false] rfl rfl (take_ofW HT_.out HW_.out (by kernel_rfl)) (fun _ _ _ h => h) (Or.inl ⟨by rfl, ?_⟩) hHeld ?_ ?_
              rotate_left
              ·rintro w' ⟨s0, s1, s2, s3, s4, s5, s6, s7, s8⟩
               go_simp
               with_reducible rfl
              rotate_left
              ·simp only [Act.put, List.setIfInBounds_toArray, List.set_cons_zero, List.set_cons_succ, i64_w, i32_w]
               rfl
              refine one_ (i := 7) (N := some 89) #[true, true, true, true, true, true, true, true, false] rfl rfl (one_of HT_.out (by kernel_rfl)) (by decide) (fun K hK => ?_)
              refine goes_ Try.func76 (by kernel_rfl) rfl #[.int .i64 (wrap64 ((wrap64 ((wrap64 ((wrap64 ((wrap64 ((wrap64 ((wrap64 (x1_1 + 1)) + 1)) + 1)) + 1)) + 1)) + 1)) + 1))] (by rfl) rfl rfl (by (try simp only [List.map_toArray, List.map_cons, List.map_nil]); first | done | rfl | (simp only [List.length_drop, List.length_take]; rfl)) ?_
              with_reducible refine (laws_markText.calls k1 (wrap64 ((wrap64 ((wrap64 ((wrap64 ((wrap64 ((wrap64 ((wrap64 (x1_1 + 1)) + 1)) + 1)) + 1)) + 1)) + 1)) + 1)) t223 _ A14.out).mono ?_
              rintro e w28 ⟨rfl, hb⟩
              refine ⟨_, rfl, ?_⟩
              have n0_ := Am (bt (by repeat (first | (with_reducible first | exact HB.out | apply ba | apply bn | apply be) | exact HB.out)) hb)
              clear HB
              have HB := n0_
              clear n0_
              (try clear hb)
              (try clear hb2)
              (try clear hk)
              (try clear hi)
              refine hK.out _ _ ⟨(cl4 HB hw222_0), (cl4 HB hw222_1), (cl4 HB hw222_2), (cl4 HB hw222_3), (cl4 HB hw222_4), (cl4 HB hw222_5), (cl4 HB hw222_6), (cl4 HB hw222_7), (cl4 HB hw222_8)⟩ (fun hHeld => ?_)
              clear hK K
              refine norm_ (a' := ?_) ?_ ?_
              rotate_left
              ·show Act.put _ (some 89) _ = _
               simp only [Act.put, List.setIfInBounds_toArray, List.set_cons_zero, List.set_cons_succ, i64_w, i32_w]
               rfl
              refine pure_ (i := 8) (N := some 90) (v := ?_) (a' := ?_) #[true, true, true, true, true, true, true, true, true] rfl rfl (any_of HT_.out (by kernel_rfl)) (fun _ _ _ h => h) (Or.inl ⟨by rfl, ?_⟩) ?_ ?_
              rotate_left
              ·intro w'
               go_simp
               with_reducible rfl
              rotate_left
              ·simp only [Act.put, List.setIfInBounds_toArray, List.set_cons_zero, List.set_cons_succ, i64_w, i32_w]
               rfl
              refine done_ (done_of HT_.out (by kernel_rfl)) ?_
              have p224 : 0 ≤ (x5_1 : Int) := of_decide_eq_true (by assumption)
              have q224 : x5_1 < (l0.length : Int) := of_decide_eq_true (by assumption)
              obtain ⟨ad224, e224, hx224_0, hx224_1, hx224_2, hx224_3, hx224_4, hx224_5, hx224_6, hx224_7, hx224_8⟩ := at_T33 HR0.out x5_1 p224 q224
              obtain rfl : ad213 = ad224 := (by injection e224)
              replace hx224_0 := cl4 HB hx224_0
              replace hx224_1 := cl4 HB hx224_1
              replace hx224_2 := cl4 HB hx224_2
              replace hx224_3 := cl4 HB hx224_3
              replace hx224_4 := cl4 HB hx224_4
              replace hx224_5 := cl4 HB hx224_5
              replace hx224_6 := cl4 HB hx224_6
              replace hx224_7 := cl4 HB hx224_7
              replace hx224_8 := cl4 HB hx224_8
              replace p224 := eq_true p224
              replace q224 := eq_true q224
              try go_wp2
              go_ret
              exact ⟨by first | rfl | (simp [errW_none, errW_some] <;> rfl) | (simp [*, errW_none, errW_some] <;> rfl), by repeat (first | (with_reducible first | apply ba | apply bn | apply be) | exact HB.out)⟩
            ·rw [if_neg c15] at H
             have c15b0 : (((rd_T33 l0 x5_1).f2.f5).toList == t223.toList) = false := beq_eq_false_iff_ne.mpr c15
             have c15b1 : (((rd_T33 l0 x5_1).f2.f5).toList != t223.toList) = true := bne_iff_ne.mpr c15
             obtain rfl := Option.some.inj H
             have p213 : 0 ≤ (x5_1 : Int) := of_decide_eq_true (by assumption)
             have q213 : x5_1 < (l0.length : Int) := of_decide_eq_true (by assumption)
             obtain ⟨ad213, e213, hx213_0, hx213_1, hx213_2, hx213_3, hx213_4, hx213_5, hx213_6, hx213_7, hx213_8⟩ := at_T33 HR0.out x5_1 p213 q213
             cases e213
             replace hx213_0 := cl4 HB hx213_0
             replace hx213_1 := cl4 HB hx213_1
             replace hx213_2 := cl4 HB hx213_2
             replace hx213_3 := cl4 HB hx213_3
             replace hx213_4 := cl4 HB hx213_4
             replace hx213_5 := cl4 HB hx213_5
             replace hx213_6 := cl4 HB hx213_6
             replace hx213_7 := cl4 HB hx213_7
             replace hx213_8 := cl4 HB hx213_8
             replace p213 := eq_true p213
             replace q213 := eq_true q213
             have p214 : 0 ≤ (x5_1 : Int) := of_decide_eq_true (by assumption)
             have q214 : x5_1 < (l0.length : Int) := of_decide_eq_true (by assumption)
             obtain ⟨ad214, e214, hx214_0, hx214_1, hx214_2, hx214_3, hx214_4, hx214_5, hx214_6, hx214_7, hx214_8⟩ := at_T33 HR0.out x5_1 p214 q214
             obtain rfl : ad213 = ad214 := (by injection e214)
             replace hx214_0 := cl4 HB hx214_0
             replace hx214_1 := cl4 HB hx214_1
             replace hx214_2 := cl4 HB hx214_2
             replace hx214_3 := cl4 HB hx214_3
             replace hx214_4 := cl4 HB hx214_4
             replace hx214_5 := cl4 HB hx214_5
             replace hx214_6 := cl4 HB hx214_6
             replace hx214_7 := cl4 HB hx214_7
             replace hx214_8 := cl4 HB hx214_8
             replace p214 := eq_true p214
             replace q214 := eq_true q214
             have p215 : 0 ≤ (x5_1 : Int) := of_decide_eq_true (by assumption)
             have q215 : x5_1 < (l0.length : Int) := of_decide_eq_true (by assumption)
             obtain ⟨ad215, e215, hx215_0, hx215_1, hx215_2, hx215_3, hx215_4, hx215_5, hx215_6, hx215_7, hx215_8⟩ := at_T33 HR0.out x5_1 p215 q215
             obtain rfl : ad213 = ad215 := (by injection e215)
             replace hx215_0 := cl4 HB hx215_0
             replace hx215_1 := cl4 HB hx215_1
             replace hx215_2 := cl4 HB hx215_2
             replace hx215_3 := cl4 HB hx215_3
             replace hx215_4 := cl4 HB hx215_4
             replace hx215_5 := cl4 HB hx215_5
             replace hx215_6 := cl4 HB hx215_6
             replace hx215_7 := cl4 HB hx215_7
             replace hx215_8 := cl4 HB hx215_8
             replace p215 := eq_true p215
             replace q215 := eq_true q215
             try go_wp2
             have n0_ := Am (be HB.out)
             clear HB
             have HB := n0_
             clear n0_
             have p216 : 0 ≤ (x5_1 : Int) := of_decide_eq_true (by assumption)
             have q216 : x5_1 < (l0.length : Int) := of_decide_eq_true (by assumption)
             obtain ⟨ad216, e216, hx216_0, hx216_1, hx216_2, hx216_3, hx216_4, hx216_5, hx216_6, hx216_7, hx216_8⟩ := at_T33 HR0.out x5_1 p216 q216
             have hw216_8 := hx216_8
             have hw216_7 := hx216_7
             have hw216_6 := hx216_6
             have hw216_5 := hx216_5
             have hw216_4 := hx216_4
             have hw216_3 := hx216_3
             have hw216_2 := hx216_2
             have hw216_1 := hx216_1
             have hw216_0 := hx216_0
             obtain rfl : ad213 = ad216 := (by injection e216)
             replace hx216_0 := cl4 HB hx216_0
             replace hx216_1 := cl4 HB hx216_1
             replace hx216_2 := cl4 HB hx216_2
             replace hx216_3 := cl4 HB hx216_3
             replace hx216_4 := cl4 HB hx216_4
             replace hx216_5 := cl4 HB hx216_5
             replace hx216_6 := cl4 HB hx216_6
             replace hx216_7 := cl4 HB hx216_7
             replace hx216_8 := cl4 HB hx216_8
             replace p216 := eq_true p216
             replace q216 := eq_true q216
             refine start_ (n := 9) (S := fun w' => w'.cell? (ad213.add ((x5_1).toNat * 9)) = some (.int .i64 ((rd_T33 l0 x5_1).f0)) ∧ w'.cell? ⟨(ad213.add ((x5_1).toNat * 9)).block, (ad213.add ((x5_1).toNat * 9)).off + 1, none⟩ = some (.int .i64 ((rd_T33 l0 x5_1).f1)) ∧ w'.cell? ⟨(ad213.add ((x5_1).toNat * 9)).block, (ad213.add ((x5_1).toNat * 9)).off + 2, none⟩ = some (.int .i64 ((rd_T33 l0 x5_1).f2.f0)) ∧ w'.cell? ⟨(ad213.add ((x5_1).toNat * 9)).block, (ad213.add ((x5_1).toNat * 9)).off + 3, none⟩ = some (.string ((rd_T33 l0 x5_1).f2.f1)) ∧ w'.cell? ⟨(ad213.add ((x5_1).toNat * 9)).block, (ad213.add ((x5_1).toNat * 9)).off + 4, none⟩ = some (.string ((rd_T33 l0 x5_1).f2.f2)) ∧ w'.cell? ⟨(ad213.add ((x5_1).toNat * 9)).block, (ad213.add ((x5_1).toNat * 9)).off + 5, none⟩ = some (.int .i64 ((rd_T33 l0 x5_1).f2.f3)) ∧ w'.cell? ⟨(ad213.add ((x5_1).toNat * 9)).block, (ad213.add ((x5_1).toNat * 9)).off + 6, none⟩ = some (.int .i64 ((rd_T33 l0 x5_1).f2.f4)) ∧ w'.cell? ⟨(ad213.add ((x5_1).toNat * 9)).block, (ad213.add ((x5_1).toNat * 9)).off + 7, none⟩ = some (.string ((rd_T33 l0 x5_1).f2.f5)) ∧ w'.cell? ⟨(ad213.add ((x5_1).toNat * 9)).block, (ad213.add ((x5_1).toNat * 9)).off + 8, none⟩ = some (.int .i64 ((rd_T33 l0 x5_1).f3))) (ds := []) #[false, false, false, false, false, false, false, false, false] (by kernel_rfl) rfl rfl ⟨(cl4 HB hw216_0), (cl4 HB hw216_1), (cl4 HB hw216_2), (cl4 HB hw216_3), (cl4 HB hw216_4), (cl4 HB hw216_5), (cl4 HB hw216_6), (cl4 HB hw216_7), (cl4 HB hw216_8)⟩ (fun hHeld => ?_); refine with_tabW laws_heldActS.tab13 laws_heldActS.bits13 (fun HT_ HW_ => ?_)
             generalize wr.drew = w29 at HB hx216_0 hx216_1 hx216_2 hx216_3 hx216_4 hx216_5 hx216_6 hx216_7 hx216_8 hHeld ⊢
             refine pure_ (i := 0) (N := some 40) (v := ?_) (a' := ?_) #[true, false, false, false, false, false, false, false, false] rfl rfl (any_of HT_.out (by kernel_rfl)) (fun _ _ _ h => h) (Or.inl ⟨by rfl, ?_⟩) ?_ ?_
             rotate_left
             ·intro w'
              go_simp
              with_reducible rfl
             rotate_left
             ·simp only [Act.put, List.setIfInBounds_toArray, List.set_cons_zero, List.set_cons_succ, i64_w, i32_w]
              rfl
             refine pure_ (i := 1) (N := some 41) (v := ?_) (a' := ?_) #[true, true, false, false, false, false, false, false, false] rfl rfl (any_of HT_.out (by kernel_rfl)) (fun _ _ _ h => h) (Or.inl ⟨by rfl, ?_⟩) ?_ ?_
             rotate_left
             ·intro w'
              go_simp
              with_reducible rfl
             rotate_left
             ·simp only [Act.put, List.setIfInBounds_toArray, List.set_cons_zero, List.set_cons_succ, i64_w, i32_w]
              rfl
             refine pure_ (i := 2) (N := some 42) (v := ?_) (a' := ?_) #[true, true, true, false, false, false, false, false, false] rfl rfl (any_of HT_.out (by kernel_rfl)) (fun _ _ _ h => h) (Or.inl ⟨by rfl, ?_⟩) ?_ ?_
             rotate_left
             ·intro w'
              go_simp
              with_reducible rfl
             rotate_left
             ·simp only [Act.put, List.setIfInBounds_toArray, List.set_cons_zero, List.set_cons_succ, i64_w, i32_w]
              rfl
             refine pure_ (i := 3) (N := some 43) (v := ?_) (a' := ?_) #[true, true, true, true, false, false, false, false, false] rfl rfl (any_of HT_.out (by kernel_rfl)) (fun _ _ _ h => h) (Or.inl ⟨by rfl, ?_⟩) ?_ ?_
             rotate_left
             ·intro w'
              go_simp
              with_reducible rfl
             rotate_left
             ·simp only [Act.put, List.setIfInBounds_toArray, List.set_cons_zero, List.set_cons_succ, i64_w, i32_w]
              rfl
             refine pure_ (i := 4) (N := some 44) (v := ?_) (a' := ?_) #[true, true, true, true, true, false, false, false, false] rfl rfl (any_of HT_.out (by kernel_rfl)) (fun _ _ _ h => h) (Or.inl ⟨by rfl, ?_⟩) ?_ ?_
             rotate_left
             ·intro w'
              go_simp
              with_reducible rfl
             rotate_left
             ·simp only [Act.put, List.setIfInBounds_toArray, List.set_cons_zero, List.set_cons_succ, i64_w, i32_w]
              rfl
             refine pure_ (i := 6) (N := some 46) (v := ?_) (a' := ?_) #[true, true, true, true, true, false, true, false, false] rfl rfl (any_of HT_.out (by kernel_rfl)) (fun _ _ _ h => h) (Or.inl ⟨by rfl, ?_⟩) ?_ ?_
             rotate_left
             ·intro w'
              go_simp
              with_reducible rfl
             rotate_left
             ·simp only [Act.put, List.setIfInBounds_toArray, List.set_cons_zero, List.set_cons_succ, i64_w, i32_w]
              rfl
             refine take_ (i := 5) (N := some 45) (v := ?_) (a' := ?_) #[true, true, true, true, true, true, true, false, false] rfl rfl (take_ofW HT_.out HW_.out (by kernel_rfl)) (fun _ _ _ h => h) (Or.inl ⟨by rfl, ?_⟩) hHeld ?_ ?_
             rotate_left
             ·rintro w' ⟨s0, s1, s2, s3, s4, s5, s6, s7, s8⟩
              go_simp
              with_reducible rfl
             rotate_left
             ·simp only [Act.put, List.setIfInBounds_toArray, List.set_cons_zero, List.set_cons_succ, i64_w, i32_w]
              rfl
             refine one_ (i := 7) (N := some 47) #[true, true, true, true, true, true, true, true, false] rfl rfl (one_of HT_.out (by kernel_rfl)) (by decide) (fun K hK => ?_)
             refine goes_ Try.func76 (by kernel_rfl) rfl #[.int .i64 (wrap64 ((wrap64 ((wrap64 (x1_1 + 1)) + 1)) + 1))] (by rfl) rfl rfl (by (try simp only [List.map_toArray, List.map_cons, List.map_nil]); first | done | rfl | (simp only [List.length_drop, List.length_take]; rfl)) ?_
             with_reducible refine (laws_markText.calls k1 (wrap64 ((wrap64 ((wrap64 (x1_1 + 1)) + 1)) + 1)) t217 _ A8.out).mono ?_
             rintro e w30 ⟨rfl, hb⟩
             refine ⟨_, rfl, ?_⟩
             have n0_ := Am (bt (by repeat (first | (with_reducible first | exact HB.out | apply ba | apply bn | apply be) | exact HB.out)) hb)
             clear HB
             have HB := n0_
             clear n0_
             (try clear hb)
             (try clear hb2)
             (try clear hk)
             (try clear hi)
             refine hK.out _ _ ⟨(cl4 HB hw216_0), (cl4 HB hw216_1), (cl4 HB hw216_2), (cl4 HB hw216_3), (cl4 HB hw216_4), (cl4 HB hw216_5), (cl4 HB hw216_6), (cl4 HB hw216_7), (cl4 HB hw216_8)⟩ (fun hHeld => ?_)
             clear hK K
             refine norm_ (a' := ?_) ?_ ?_
             rotate_left
             ·show Act.put _ (some 47) _ = _
              simp only [Act.put, List.setIfInBounds_toArray, List.set_cons_zero, List.set_cons_succ, i64_w, i32_w]
              rfl
             refine pure_ (i := 8) (N := some 48) (v := ?_) (a' := ?_) #[true, true, true, true, true, true, true, true, true] rfl rfl (any_of HT_.out (by kernel_rfl)) (fun _ _ _ h => h) (Or.inl ⟨by rfl, ?_⟩) ?_ ?_
             rotate_left
             ·intro w'
              go_simp
              with_reducible rfl
             rotate_left
             ·simp only [Act.put, List.setIfInBounds_toArray, List.set_cons_zero, List.set_cons_succ, i64_w, i32_w]
              rfl
             refine done_ (done_of HT_.out (by kernel_rfl)) ?_
             try go_wp2
             have n0_ := Am (be HB.out)
             clear HB
             have HB := n0_
             clear n0_
             have p218 : 0 ≤ (x5_1 : Int) := of_decide_eq_true (by assumption)
             have q218 : x5_1 < (l0.length : Int) := of_decide_eq_true (by assumption)
             obtain ⟨ad218, e218, hx218_0, hx218_1, hx218_2, hx218_3, hx218_4, hx218_5, hx218_6, hx218_7, hx218_8⟩ := at_T33 HR0.out x5_1 p218 q218
             have hw218_8 := hx218_8
             have hw218_7 := hx218_7
             have hw218_6 := hx218_6
             have hw218_5 := hx218_5
             have hw218_4 := hx218_4
             have hw218_3 := hx218_3
             have hw218_2 := hx218_2
             have hw218_1 := hx218_1
             have hw218_0 := hx218_0
             obtain rfl : ad213 = ad218 := (by injection e218)
             replace hx218_0 := cl4 HB hx218_0
             replace hx218_1 := cl4 HB hx218_1
             replace hx218_2 := cl4 HB hx218_2
             replace hx218_3 := cl4 HB hx218_3
             replace hx218_4 := cl4 HB hx218_4
             replace hx218_5 := cl4 HB hx218_5
             replace hx218_6 := cl4 HB hx218_6
             replace hx218_7 := cl4 HB hx218_7
             replace hx218_8 := cl4 HB hx218_8
             replace p218 := eq_true p218
             replace q218 := eq_true q218
             refine start_ (n := 9) (S := fun w' => w'.cell? (ad213.add ((x5_1).toNat * 9)) = some (.int .i64 ((rd_T33 l0 x5_1).f0)) ∧ w'.cell? ⟨(ad213.add ((x5_1).toNat * 9)).block, (ad213.add ((x5_1).toNat * 9)).off + 1, none⟩ = some (.int .i64 ((rd_T33 l0 x5_1).f1)) ∧ w'.cell? ⟨(ad213.add ((x5_1).toNat * 9)).block, (ad213.add ((x5_1).toNat * 9)).off + 2, none⟩ = some (.int .i64 ((rd_T33 l0 x5_1).f2.f0)) ∧ w'.cell? ⟨(ad213.add ((x5_1).toNat * 9)).block, (ad213.add ((x5_1).toNat * 9)).off + 3, none⟩ = some (.string ((rd_T33 l0 x5_1).f2.f1)) ∧ w'.cell? ⟨(ad213.add ((x5_1).toNat * 9)).block, (ad213.add ((x5_1).toNat * 9)).off + 4, none⟩ = some (.string ((rd_T33 l0 x5_1).f2.f2)) ∧ w'.cell? ⟨(ad213.add ((x5_1).toNat * 9)).block, (ad213.add ((x5_1).toNat * 9)).off + 5, none⟩ = some (.int .i64 ((rd_T33 l0 x5_1).f2.f3)) ∧ w'.cell? ⟨(ad213.add ((x5_1).toNat * 9)).block, (ad213.add ((x5_1).toNat * 9)).off + 6, none⟩ = some (.int .i64 ((rd_T33 l0 x5_1).f2.f4)) ∧ w'.cell? ⟨(ad213.add ((x5_1).toNat * 9)).block, (ad213.add ((x5_1).toNat * 9)).off + 7, none⟩ = some (.string ((rd_T33 l0 x5_1).f2.f5)) ∧ w'.cell? ⟨(ad213.add ((x5_1).toNat * 9)).block, (ad213.add ((x5_1).toNat * 9)).off + 8, none⟩ = some (.int .i64 ((rd_T33 l0 x5_1).f3))) (ds := []) #[false, false, false, false, false, false, false, false, false] (by kernel_rfl) rfl rfl ⟨(cl4 HB hw218_0), (cl4 HB hw218_1), (cl4 HB hw218_2), (cl4 HB hw218_3), (cl4 HB hw218_4), (cl4 HB hw218_5), (cl4 HB hw218_6), (cl4 HB hw218_7), (cl4 HB hw218_8)⟩ (fun hHeld => ?_); refine with_tabW laws_heldActS.tab16 laws_heldActS.bits16 (fun HT_ HW_ => ?_)
             generalize w30.drew = w31 at HB hx218_0 hx218_1 hx218_2 hx218_3 hx218_4 hx218_5 hx218_6 hx218_7 hx218_8 hHeld ⊢
             refine pure_ (i := 0) (N := some 51) (v := ?_) (a' := ?_) #[true, false, false, false, false, false, false, false, false] rfl rfl (any_of HT_.out (by kernel_rfl)) (fun _ _ _ h => h) (Or.inl ⟨by rfl, ?_⟩) ?_ ?_
             rotate_left
             ·intro w'
              go_simp
              with_reducible rfl
             rotate_left
             ·simp only [Act.put, List.setIfInBounds_toArray, List.set_cons_zero, List.set_cons_succ, i64_w, i32_w]
              rfl
             refine pure_ (i := 1) (N := some 52) (v := ?_) (a' := ?_) #[true, true, false, false, false, false, false, false, false] rfl rfl (any_of HT_.out (by kernel_rfl)) (fun _ _ _ h => h) (Or.inl ⟨by rfl, ?_⟩) ?_ ?_
             rotate_left
             ·intro w'
              go_simp
              with_reducible rfl
             rotate_left
             ·simp only [Act.put, List.setIfInBounds_toArray, List.set_cons_zero, List.set_cons_succ, i64_w, i32_w]
              rfl
             refine pure_ (i := 2) (N := some 53) (v := ?_) (a' := ?_) #[true, true, true, false, false, false, false, false, false] rfl rfl (any_of HT_.out (by kernel_rfl)) (fun _ _ _ h => h) (Or.inl ⟨by rfl, ?_⟩) ?_ ?_
             rotate_left
             ·intro w'
              go_simp
              with_reducible rfl
             rotate_left
             ·simp only [Act.put, List.setIfInBounds_toArray, List.set_cons_zero, List.set_cons_succ, i64_w, i32_w]
              rfl
             refine pure_ (i := 3) (N := some 54) (v := ?_) (a' := ?_) #[true, true, true, true, false, false, false, false, false] rfl rfl (any_of HT_.out (by kernel_rfl)) (fun _ _ _ h => h) (Or.inl ⟨by rfl, ?_⟩) ?_ ?_
             rotate_left
             ·intro w'
              go_simp
              with_reducible rfl
             rotate_left
             ·simp only [Act.put, List.setIfInBounds_toArray, List.set_cons_zero, List.set_cons_succ, i64_w, i32_w]
              rfl
             refine pure_ (i := 4) (N := some 55) (v := ?_) (a' := ?_) #[true, true, true, true, true, false, false, false, false] rfl rfl (any_of HT_.out (by kernel_rfl)) (fun _ _ _ h => h) (Or.inl ⟨by rfl, ?_⟩) ?_ ?_
             rotate_left
             ·intro w'
              go_simp
              with_reducible rfl
             rotate_left
             ·simp only [Act.put, List.setIfInBounds_toArray, List.set_cons_zero, List.set_cons_succ, i64_w, i32_w]
              rfl
             refine pure_ (i := 6) (N := some 57) (v := ?_) (a' := ?_) #[true, true, true, true, true, false, true, false, false] rfl rfl (any_of HT_.out (by kernel_rfl)) (fun _ _ _ h => h) (Or.inl ⟨by rfl, ?_⟩) ?_ ?_
             rotate_left
             ·intro w'
              go_simp
              with_reducible rfl
             rotate_left
             ·simp only [Act.put, List.setIfInBounds_toArray, List.set_cons_zero, List.set_cons_succ, i64_w, i32_w]
              rfl
             refine take_ (i := 5) (N := some 56) (v := ?_) (a' := ?_) #[true, true, true, true, true, true, true, false, false] rfl rfl (take_ofW HT_.out HW_.out (by kernel_rfl)) (fun _ _ _ h => h) (Or.inl ⟨by rfl, ?_⟩) hHeld ?_ ?_
             rotate_left
             ·rintro w' ⟨s0, s1, s2, s3, s4, s5, s6, s7, s8⟩
              go_simp
              with_reducible rfl
             rotate_left
             ·simp only [Act.put, List.setIfInBounds_toArray, List.set_cons_zero, List.set_cons_succ, i64_w, i32_w]
              rfl
             refine one_ (i := 7) (N := some 58) #[true, true, true, true, true, true, true, true, false] rfl rfl (one_of HT_.out (by kernel_rfl)) (by decide) (fun K hK => ?_)
             refine goes_ Try.func76 (by kernel_rfl) rfl #[.int .i64 (wrap64 ((wrap64 ((wrap64 ((wrap64 (x1_1 + 1)) + 1)) + 1)) + 1))] (by rfl) rfl rfl (by (try simp only [List.map_toArray, List.map_cons, List.map_nil]); first | done | rfl | (simp only [List.length_drop, List.length_take]; rfl)) ?_
             with_reducible refine (laws_markText.calls k1 (wrap64 ((wrap64 ((wrap64 ((wrap64 (x1_1 + 1)) + 1)) + 1)) + 1)) t219 _ A10.out).mono ?_
             rintro e w32 ⟨rfl, hb⟩
             refine ⟨_, rfl, ?_⟩
             have n0_ := Am (bt (by repeat (first | (with_reducible first | exact HB.out | apply ba | apply bn | apply be) | exact HB.out)) hb)
             clear HB
             have HB := n0_
             clear n0_
             (try clear hb)
             (try clear hb2)
             (try clear hk)
             (try clear hi)
             refine hK.out _ _ ⟨(cl4 HB hw218_0), (cl4 HB hw218_1), (cl4 HB hw218_2), (cl4 HB hw218_3), (cl4 HB hw218_4), (cl4 HB hw218_5), (cl4 HB hw218_6), (cl4 HB hw218_7), (cl4 HB hw218_8)⟩ (fun hHeld => ?_)
             clear hK K
             refine norm_ (a' := ?_) ?_ ?_
             rotate_left
             ·show Act.put _ (some 58) _ = _
              simp only [Act.put, List.setIfInBounds_toArray, List.set_cons_zero, List.set_cons_succ, i64_w, i32_w]
              rfl
             refine pure_ (i := 8) (N := some 59) (v := ?_) (a' := ?_) #[true, true, true, true, true, true, true, true, true] rfl rfl (any_of HT_.out (by kernel_rfl)) (fun _ _ _ h => h) (Or.inl ⟨by rfl, ?_⟩) ?_ ?_
             rotate_left
             ·intro w'
              go_simp
              with_reducible rfl
             rotate_left
             ·simp only [Act.put, List.setIfInBounds_toArray, List.set_cons_zero, List.set_cons_succ, i64_w, i32_w]
              rfl
             refine done_ (done_of HT_.out (by kernel_rfl)) ?_
             have p220 : 0 ≤ (x5_1 : Int) := of_decide_eq_true (by assumption)
             have q220 : x5_1 < (l0.length : Int) := of_decide_eq_true (by assumption)
             obtain ⟨ad220, e220, hx220_0, hx220_1, hx220_2, hx220_3, hx220_4, hx220_5, hx220_6, hx220_7, hx220_8⟩ := at_T33 HR0.out x5_1 p220 q220
             obtain rfl : ad213 = ad220 := (by injection e220)
             replace hx220_0 := cl4 HB hx220_0
             replace hx220_1 := cl4 HB hx220_1
             replace hx220_2 := cl4 HB hx220_2
             replace hx220_3 := cl4 HB hx220_3
             replace hx220_4 := cl4 HB hx220_4
             replace hx220_5 := cl4 HB hx220_5
             replace hx220_6 := cl4 HB hx220_6
             replace hx220_7 := cl4 HB hx220_7
             replace hx220_8 := cl4 HB hx220_8
             replace p220 := eq_true p220
             replace q220 := eq_true q220
             have p221 : 0 ≤ (x5_1 : Int) := of_decide_eq_true (by assumption)
             have q221 : x5_1 < (l0.length : Int) := of_decide_eq_true (by assumption)
             obtain ⟨ad221, e221, hx221_0, hx221_1, hx221_2, hx221_3, hx221_4, hx221_5, hx221_6, hx221_7, hx221_8⟩ := at_T33 HR0.out x5_1 p221 q221
             obtain rfl : ad213 = ad221 := (by injection e221)
             replace hx221_0 := cl4 HB hx221_0
             replace hx221_1 := cl4 HB hx221_1
             replace hx221_2 := cl4 HB hx221_2
             replace hx221_3 := cl4 HB hx221_3
             replace hx221_4 := cl4 HB hx221_4
             replace hx221_5 := cl4 HB hx221_5
             replace hx221_6 := cl4 HB hx221_6
             replace hx221_7 := cl4 HB hx221_7
             replace hx221_8 := cl4 HB hx221_8
             replace p221 := eq_true p221
             replace q221 := eq_true q221
             try go_wp2
             have n0_ := Am (be HB.out)
             clear HB
             have HB := n0_
             clear n0_
             have p222 : 0 ≤ (x5_1 : Int) := of_decide_eq_true (by assumption)
             have q222 : x5_1 < (l0.length : Int) := of_decide_eq_true (by assumption)
             obtain ⟨ad222, e222, hx222_0, hx222_1, hx222_2, hx222_3, hx222_4, hx222_5, hx222_6, hx222_7, hx222_8⟩ := at_T33 HR0.out x5_1 p222 q222
             have hw222_8 := hx222_8
             have hw222_7 := hx222_7
             have hw222_6 := hx222_6
             have hw222_5 := hx222_5
             have hw222_4 := hx222_4
             have hw222_3 := hx222_3
             have hw222_2 := hx222_2
             have hw222_1 := hx222_1
             have hw222_0 := hx222_0
             obtain rfl : ad213 = ad222 := (by injection e222)
             replace hx222_0 := cl4 HB hx222_0
             replace hx222_1 := cl4 HB hx222_1
             replace hx222_2 := cl4 HB hx222_2
             replace hx222_3 := cl4 HB hx222_3
             replace hx222_4 := cl4 HB hx222_4
             replace hx222_5 := cl4 HB hx222_5
             replace hx222_6 := cl4 HB hx222_6
             replace hx222_7 := cl4 HB hx222_7
             replace hx222_8 := cl4 HB hx222_8
             replace p222 := eq_true p222
             replace q222 := eq_true q222
             refine start_ (n := 9) (S := fun w' => w'.cell? (ad213.add ((x5_1).toNat * 9)) = some (.int .i64 ((rd_T33 l0 x5_1).f0)) ∧ w'.cell? ⟨(ad213.add ((x5_1).toNat * 9)).block, (ad213.add ((x5_1).toNat * 9)).off + 1, none⟩ = some (.int .i64 ((rd_T33 l0 x5_1).f1)) ∧ w'.cell? ⟨(ad213.add ((x5_1).toNat * 9)).block, (ad213.add ((x5_1).toNat * 9)).off + 2, none⟩ = some (.int .i64 ((rd_T33 l0 x5_1).f2.f0)) ∧ w'.cell? ⟨(ad213.add ((x5_1).toNat * 9)).block, (ad213.add ((x5_1).toNat * 9)).off + 3, none⟩ = some (.string ((rd_T33 l0 x5_1).f2.f1)) ∧ w'.cell? ⟨(ad213.add ((x5_1).toNat * 9)).block, (ad213.add ((x5_1).toNat * 9)).off + 4, none⟩ = some (.string ((rd_T33 l0 x5_1).f2.f2)) ∧ w'.cell? ⟨(ad213.add ((x5_1).toNat * 9)).block, (ad213.add ((x5_1).toNat * 9)).off + 5, none⟩ = some (.int .i64 ((rd_T33 l0 x5_1).f2.f3)) ∧ w'.cell? ⟨(ad213.add ((x5_1).toNat * 9)).block, (ad213.add ((x5_1).toNat * 9)).off + 6, none⟩ = some (.int .i64 ((rd_T33 l0 x5_1).f2.f4)) ∧ w'.cell? ⟨(ad213.add ((x5_1).toNat * 9)).block, (ad213.add ((x5_1).toNat * 9)).off + 7, none⟩ = some (.string ((rd_T33 l0 x5_1).f2.f5)) ∧ w'.cell? ⟨(ad213.add ((x5_1).toNat * 9)).block, (ad213.add ((x5_1).toNat * 9)).off + 8, none⟩ = some (.int .i64 ((rd_T33 l0 x5_1).f3))) (ds := []) #[false, false, false, false, false, false, false, false, false] (by kernel_rfl) rfl rfl ⟨(cl4 HB hw222_0), (cl4 HB hw222_1), (cl4 HB hw222_2), (cl4 HB hw222_3), (cl4 HB hw222_4), (cl4 HB hw222_5), (cl4 HB hw222_6), (cl4 HB hw222_7), (cl4 HB hw222_8)⟩ (fun hHeld => ?_); refine with_tabW laws_heldActS.tab25 laws_heldActS.bits25 (fun HT_ HW_ => ?_)
             generalize w32.drew = w33 at HB hx222_0 hx222_1 hx222_2 hx222_3 hx222_4 hx222_5 hx222_6 hx222_7 hx222_8 hHeld ⊢
             refine pure_ (i := 0) (N := some 82) (v := ?_) (a' := ?_) #[true, false, false, false, false, false, false, false, false] rfl rfl (any_of HT_.out (by kernel_rfl)) (fun _ _ _ h => h) (Or.inl ⟨by rfl, ?_⟩) ?_ ?_
             rotate_left
             ·intro w'
              go_simp
              with_reducible rfl
             rotate_left
             ·simp only [Act.put, List.setIfInBounds_toArray, List.set_cons_zero, List.set_cons_succ, i64_w, i32_w]
              rfl
             refine pure_ (i := 1) (N := some 83) (v := ?_) (a' := ?_) #[true, true, false, false, false, false, false, false, false] rfl rfl (any_of HT_.out (by kernel_rfl)) (fun _ _ _ h => h) (Or.inl ⟨by rfl, ?_⟩) ?_ ?_
             rotate_left
             ·intro w'
              go_simp
              with_reducible rfl
             rotate_left
             ·simp only [Act.put, List.setIfInBounds_toArray, List.set_cons_zero, List.set_cons_succ, i64_w, i32_w]
              rfl
             refine pure_ (i := 2) (N := some 84) (v := ?_) (a' := ?_) #[true, true, true, false, false, false, false, false, false] rfl rfl (any_of HT_.out (by kernel_rfl)) (fun _ _ _ h => h) (Or.inl ⟨by rfl, ?_⟩) ?_ ?_
             rotate_left
             ·intro w'
              go_simp
              with_reducible rfl
             rotate_left
             ·simp only [Act.put, List.setIfInBounds_toArray, List.set_cons_zero, List.set_cons_succ, i64_w, i32_w]
              rfl
             refine pure_ (i := 3) (N := some 85) (v := ?_) (a' := ?_) #[true, true, true, true, false, false, false, false, false] rfl rfl (any_of HT_.out (by kernel_rfl)) (fun _ _ _ h => h) (Or.inl ⟨by rfl, ?_⟩) ?_ ?_
             rotate_left
             ·intro w'
              go_simp
              with_reducible rfl
             rotate_left
             ·simp only [Act.put, List.setIfInBounds_toArray, List.set_cons_zero, List.set_cons_succ, i64_w, i32_w]
              rfl
             refine pure_ (i := 4) (N := some 86) (v := ?_) (a' := ?_) #[true, true, true, true, true, false, false, false, false] rfl rfl (any_of HT_.out (by kernel_rfl)) (fun _ _ _ h => h) (Or.inl ⟨by rfl, ?_⟩) ?_ ?_
             rotate_left
             ·intro w'
              go_simp
              with_reducible rfl
             rotate_left
             ·simp only [Act.put, List.setIfInBounds_toArray, List.set_cons_zero, List.set_cons_succ, i64_w, i32_w]
              rfl
             refine pure_ (i := 6) (N := some 88) (v := ?_) (a' := ?_) #[true, true, true, true, true, false, true, false, false] rfl rfl (any_of HT_.out (by kernel_rfl)) (fun _ _ _ h => h) (Or.inl ⟨by rfl, ?_⟩) ?_ ?_
             rotate_left
             ·intro w'
              go_simp
              with_reducible rfl
             rotate_left
             ·simp only [Act.put, List.setIfInBounds_toArray, List.set_cons_zero, List.set_cons_succ, i64_w, i32_w]
              rfl
             refine take_ (i := 5) (N := some 87) (v := ?_) (a' := ?_) #[true, true, true, true, true, true, true, false, false] rfl rfl (take_ofW HT_.out HW_.out (by kernel_rfl)) (fun _ _ _ h => h) (Or.inl ⟨by rfl, ?_⟩) hHeld ?_ ?_
             rotate_left
             ·rintro w' ⟨s0, s1, s2, s3, s4, s5, s6, s7, s8⟩
              go_simp
              with_reducible rfl
             rotate_left
             ·simp only [Act.put, List.setIfInBounds_toArray, List.set_cons_zero, List.set_cons_succ, i64_w, i32_w]
              rfl
             refine one_ (i := 7) (N := some 89) #[true, true, true, true, true, true, true, true, false] rfl rfl (one_of HT_.out (by kernel_rfl)) (by decide) (fun K hK => ?_)
             refine goes_ Try.func76 (by kernel_rfl) rfl #[.int .i64 (wrap64 ((wrap64 ((wrap64 ((wrap64 ((wrap64 ((wrap64 ((wrap64 (x1_1 + 1)) + 1)) + 1)) + 1)) + 1)) + 1)) + 1))] (by rfl) rfl rfl (by (try simp only [List.map_toArray, List.map_cons, List.map_nil]); first | done | rfl | (simp only [List.length_drop, List.length_take]; rfl)) ?_
             with_reducible refine (laws_markText.calls k1 (wrap64 ((wrap64 ((wrap64 ((wrap64 ((wrap64 ((wrap64 ((wrap64 (x1_1 + 1)) + 1)) + 1)) + 1)) + 1)) + 1)) + 1)) t223 _ A14.out).mono ?_
             rintro e w34 ⟨rfl, hb⟩
             refine ⟨_, rfl, ?_⟩
             have n0_ := Am (bt (by repeat (first | (with_reducible first | exact HB.out | apply ba | apply bn | apply be) | exact HB.out)) hb)
             clear HB
             have HB := n0_
             clear n0_
             (try clear hb)
             (try clear hb2)
             (try clear hk)
             (try clear hi)
             refine hK.out _ _ ⟨(cl4 HB hw222_0), (cl4 HB hw222_1), (cl4 HB hw222_2), (cl4 HB hw222_3), (cl4 HB hw222_4), (cl4 HB hw222_5), (cl4 HB hw222_6), (cl4 HB hw222_7), (cl4 HB hw222_8)⟩ (fun hHeld => ?_)
             clear hK K
             refine norm_ (a' := ?_) ?_ ?_
             rotate_left
             ·show Act.put _ (some 89) _ = _
              simp only [Act.put, List.setIfInBounds_toArray, List.set_cons_zero, List.set_cons_succ, i64_w, i32_w]
              rfl
             refine pure_ (i := 8) (N := some 90) (v := ?_) (a' := ?_) #[true, true, true, true, true, true, true, true, true] rfl rfl (any_of HT_.out (by kernel_rfl)) (fun _ _ _ h => h) (Or.inl ⟨by rfl, ?_⟩) ?_ ?_
             rotate_left
             ·intro w'
              go_simp
              with_reducible rfl
             rotate_left
             ·simp only [Act.put, List.setIfInBounds_toArray, List.set_cons_zero, List.set_cons_succ, i64_w, i32_w]
              rfl
             refine done_ (done_of HT_.out (by kernel_rfl)) ?_
             try go_wp2
             go_ret
             exact ⟨by first | rfl | (simp [errW_none, errW_some] <;> rfl) | (simp [*, errW_none, errW_some] <;> rfl), by repeat (first | (with_reducible first | apply ba | apply bn | apply be) | exact HB.out)⟩
           ·rw [if_neg c13] at H
            have c13b0 : (((rd_T33 l0 x5_1).f2.f4) == (wrap64 ((wrap64 ((wrap64 ((wrap64 ((wrap64 ((wrap64 (x1_1 + 1)) + 1)) + 1)) + 1)) + 1)) + 1))) = false := beq_eq_false_iff_ne.mpr c13
            have c13b1 : (((rd_T33 l0 x5_1).f2.f4) != (wrap64 ((wrap64 ((wrap64 ((wrap64 ((wrap64 ((wrap64 (x1_1 + 1)) + 1)) + 1)) + 1)) + 1)) + 1))) = true := bne_iff_ne.mpr c13
            obtain rfl := Option.some.inj H
            have p213 : 0 ≤ (x5_1 : Int) := of_decide_eq_true (by assumption)
            have q213 : x5_1 < (l0.length : Int) := of_decide_eq_true (by assumption)
            obtain ⟨ad213, e213, hx213_0, hx213_1, hx213_2, hx213_3, hx213_4, hx213_5, hx213_6, hx213_7, hx213_8⟩ := at_T33 HR0.out x5_1 p213 q213
            cases e213
            replace hx213_0 := cl4 HB hx213_0
            replace hx213_1 := cl4 HB hx213_1
            replace hx213_2 := cl4 HB hx213_2
            replace hx213_3 := cl4 HB hx213_3
            replace hx213_4 := cl4 HB hx213_4
            replace hx213_5 := cl4 HB hx213_5
            replace hx213_6 := cl4 HB hx213_6
            replace hx213_7 := cl4 HB hx213_7
            replace hx213_8 := cl4 HB hx213_8
            replace p213 := eq_true p213
            replace q213 := eq_true q213
            have p214 : 0 ≤ (x5_1 : Int) := of_decide_eq_true (by assumption)
            have q214 : x5_1 < (l0.length : Int) := of_decide_eq_true (by assumption)
            obtain ⟨ad214, e214, hx214_0, hx214_1, hx214_2, hx214_3, hx214_4, hx214_5, hx214_6, hx214_7, hx214_8⟩ := at_T33 HR0.out x5_1 p214 q214
            obtain rfl : ad213 = ad214 := (by injection e214)
            replace hx214_0 := cl4 HB hx214_0
            replace hx214_1 := cl4 HB hx214_1
            replace hx214_2 := cl4 HB hx214_2
            replace hx214_3 := cl4 HB hx214_3
            replace hx214_4 := cl4 HB hx214_4
            replace hx214_5 := cl4 HB hx214_5
            replace hx214_6 := cl4 HB hx214_6
            replace hx214_7 := cl4 HB hx214_7
            replace hx214_8 := cl4 HB hx214_8
            replace p214 := eq_true p214
            replace q214 := eq_true q214
            have p215 : 0 ≤ (x5_1 : Int) := of_decide_eq_true (by assumption)
            have q215 : x5_1 < (l0.length : Int) := of_decide_eq_true (by assumption)
            obtain ⟨ad215, e215, hx215_0, hx215_1, hx215_2, hx215_3, hx215_4, hx215_5, hx215_6, hx215_7, hx215_8⟩ := at_T33 HR0.out x5_1 p215 q215
            obtain rfl : ad213 = ad215 := (by injection e215)
            replace hx215_0 := cl4 HB hx215_0
            replace hx215_1 := cl4 HB hx215_1
            replace hx215_2 := cl4 HB hx215_2
            replace hx215_3 := cl4 HB hx215_3
            replace hx215_4 := cl4 HB hx215_4
            replace hx215_5 := cl4 HB hx215_5
            replace hx215_6 := cl4 HB hx215_6
            replace hx215_7 := cl4 HB hx215_7
            replace hx215_8 := cl4 HB hx215_8
            replace p215 := eq_true p215
            replace q215 := eq_true q215
            try go_wp2
            have n0_ := Am (be HB.out)
            clear HB
            have HB := n0_
            clear n0_
            have p216 : 0 ≤ (x5_1 : Int) := of_decide_eq_true (by assumption)
            have q216 : x5_1 < (l0.length : Int) := of_decide_eq_true (by assumption)
            obtain ⟨ad216, e216, hx216_0, hx216_1, hx216_2, hx216_3, hx216_4, hx216_5, hx216_6, hx216_7, hx216_8⟩ := at_T33 HR0.out x5_1 p216 q216
            have hw216_8 := hx216_8
            have hw216_7 := hx216_7
            have hw216_6 := hx216_6
            have hw216_5 := hx216_5
            have hw216_4 := hx216_4
            have hw216_3 := hx216_3
            have hw216_2 := hx216_2
            have hw216_1 := hx216_1
            have hw216_0 := hx216_0
            obtain rfl : ad213 = ad216 := (by injection e216)
            replace hx216_0 := cl4 HB hx216_0
            replace hx216_1 := cl4 HB hx216_1
            replace hx216_2 := cl4 HB hx216_2
            replace hx216_3 := cl4 HB hx216_3
            replace hx216_4 := cl4 HB hx216_4
            replace hx216_5 := cl4 HB hx216_5
            replace hx216_6 := cl4 HB hx216_6
            replace hx216_7 := cl4 HB hx216_7
            replace hx216_8 := cl4 HB hx216_8
            replace p216 := eq_true p216
            replace q216 := eq_true q216
            refine start_ (n := 9) (S := fun w' => w'.cell? (ad213.add ((x5_1).toNat * 9)) = some (.int .i64 ((rd_T33 l0 x5_1).f0)) ∧ w'.cell? ⟨(ad213.add ((x5_1).toNat * 9)).block, (ad213.add ((x5_1).toNat * 9)).off + 1, none⟩ = some (.int .i64 ((rd_T33 l0 x5_1).f1)) ∧ w'.cell? ⟨(ad213.add ((x5_1).toNat * 9)).block, (ad213.add ((x5_1).toNat * 9)).off + 2, none⟩ = some (.int .i64 ((rd_T33 l0 x5_1).f2.f0)) ∧ w'.cell? ⟨(ad213.add ((x5_1).toNat * 9)).block, (ad213.add ((x5_1).toNat * 9)).off + 3, none⟩ = some (.string ((rd_T33 l0 x5_1).f2.f1)) ∧ w'.cell? ⟨(ad213.add ((x5_1).toNat * 9)).block, (ad213.add ((x5_1).toNat * 9)).off + 4, none⟩ = some (.string ((rd_T33 l0 x5_1).f2.f2)) ∧ w'.cell? ⟨(ad213.add ((x5_1).toNat * 9)).block, (ad213.add ((x5_1).toNat * 9)).off + 5, none⟩ = some (.int .i64 ((rd_T33 l0 x5_1).f2.f3)) ∧ w'.cell? ⟨(ad213.add ((x5_1).toNat * 9)).block, (ad213.add ((x5_1).toNat * 9)).off + 6, none⟩ = some (.int .i64 ((rd_T33 l0 x5_1).f2.f4)) ∧ w'.cell? ⟨(ad213.add ((x5_1).toNat * 9)).block, (ad213.add ((x5_1).toNat * 9)).off + 7, none⟩ = some (.string ((rd_T33 l0 x5_1).f2.f5)) ∧ w'.cell? ⟨(ad213.add ((x5_1).toNat * 9)).block, (ad213.add ((x5_1).toNat * 9)).off + 8, none⟩ = some (.int .i64 ((rd_T33 l0 x5_1).f3))) (ds := []) #[false, false, false, false, false, false, false, false, false] (by kernel_rfl) rfl rfl ⟨(cl4 HB hw216_0), (cl4 HB hw216_1), (cl4 HB hw216_2), (cl4 HB hw216_3), (cl4 HB hw216_4), (cl4 HB hw216_5), (cl4 HB hw216_6), (cl4 HB hw216_7), (cl4 HB hw216_8)⟩ (fun hHeld => ?_); refine with_tabW laws_heldActS.tab13 laws_heldActS.bits13 (fun HT_ HW_ => ?_)
            generalize wr.drew = w35 at HB hx216_0 hx216_1 hx216_2 hx216_3 hx216_4 hx216_5 hx216_6 hx216_7 hx216_8 hHeld ⊢
            refine pure_ (i := 0) (N := some 40) (v := ?_) (a' := ?_) #[true, false, false, false, false, false, false, false, false] rfl rfl (any_of HT_.out (by kernel_rfl)) (fun _ _ _ h => h) (Or.inl ⟨by rfl, ?_⟩) ?_ ?_
            rotate_left
            ·intro w'
             go_simp
             with_reducible rfl
            rotate_left
            ·simp only [Act.put, List.setIfInBounds_toArray, List.set_cons_zero, List.set_cons_succ, i64_w, i32_w]
             rfl
            refine pure_ (i := 1) (N := some 41) (v := ?_) (a' := ?_) #[true, true, false, false, false, false, false, false, false] rfl rfl (any_of HT_.out (by kernel_rfl)) (fun _ _ _ h => h) (Or.inl ⟨by rfl, ?_⟩) ?_ ?_
            rotate_left
            ·intro w'
             go_simp
             with_reducible rfl
            rotate_left
            ·simp only [Act.put, List.setIfInBounds_toArray, List.set_cons_zero, List.set_cons_succ, i64_w, i32_w]
             rfl
            refine pure_ (i := 2) (N := some 42) (v := ?_) (a' := ?_) #[true, true, true, false, false, false, false, false, false] rfl rfl (any_of HT_.out (by kernel_rfl)) (fun _ _ _ h => h) (Or.inl ⟨by rfl, ?_⟩) ?_ ?_
            rotate_left
            ·intro w'
             go_simp
             with_reducible rfl
            rotate_left
            ·simp only [Act.put, List.setIfInBounds_toArray, List.set_cons_zero, List.set_cons_succ, i64_w, i32_w]
             rfl
            refine pure_ (i := 3) (N := some 43) (v := ?_) (a' := ?_) #[true, true, true, true, false, false, false, false, false] rfl rfl (any_of HT_.out (by kernel_rfl)) (fun _ _ _ h => h) (Or.inl ⟨by rfl, ?_⟩) ?_ ?_
            rotate_left
            ·intro w'
             go_simp
             with_reducible rfl
            rotate_left
            ·simp only [Act.put, List.setIfInBounds_toArray, List.set_cons_zero, List.set_cons_succ, i64_w, i32_w]
             rfl
            refine pure_ (i := 4) (N := some 44) (v := ?_) (a' := ?_) #[true, true, true, true, true, false, false, false, false] rfl rfl (any_of HT_.out (by kernel_rfl)) (fun _ _ _ h => h) (Or.inl ⟨by rfl, ?_⟩) ?_ ?_
            rotate_left
            ·intro w'
             go_simp
             with_reducible rfl
            rotate_left
            ·simp only [Act.put, List.setIfInBounds_toArray, List.set_cons_zero, List.set_cons_succ, i64_w, i32_w]
             rfl
            refine pure_ (i := 6) (N := some 46) (v := ?_) (a' := ?_) #[true, true, true, true, true, false, true, false, false] rfl rfl (any_of HT_.out (by kernel_rfl)) (fun _ _ _ h => h) (Or.inl ⟨by rfl, ?_⟩) ?_ ?_
            rotate_left
            ·intro w'
             go_simp
             with_reducible rfl
            rotate_left
            ·simp only [Act.put, List.setIfInBounds_toArray, List.set_cons_zero, List.set_cons_succ, i64_w, i32_w]
             rfl
            refine take_ (i := 5) (N := some 45) (v := ?_) (a' := ?_) #[true, true, true, true, true, true, true, false, false] rfl rfl (take_ofW HT_.out HW_.out (by kernel_rfl)) (fun _ _ _ h => h) (Or.inl ⟨by rfl, ?_⟩) hHeld ?_ ?_
            rotate_left
            ·rintro w' ⟨s0, s1, s2, s3, s4, s5, s6, s7, s8⟩
             go_simp
             with_reducible rfl
            rotate_left
            ·simp only [Act.put, List.setIfInBounds_toArray, List.set_cons_zero, List.set_cons_succ, i64_w, i32_w]
             rfl
            refine one_ (i := 7) (N := some 47) #[true, true, true, true, true, true, true, true, false] rfl rfl (one_of HT_.out (by kernel_rfl)) (by decide) (fun K hK => ?_)
            refine goes_ Try.func76 (by kernel_rfl) rfl #[.int .i64 (wrap64 ((wrap64 ((wrap64 (x1_1 + 1)) + 1)) + 1))] (by rfl) rfl rfl (by (try simp only [List.map_toArray, List.map_cons, List.map_nil]); first | done | rfl | (simp only [List.length_drop, List.length_take]; rfl)) ?_
            with_reducible refine (laws_markText.calls k1 (wrap64 ((wrap64 ((wrap64 (x1_1 + 1)) + 1)) + 1)) t217 _ A8.out).mono ?_
            rintro e w36 ⟨rfl, hb⟩
            refine ⟨_, rfl, ?_⟩
            have n0_ := Am (bt (by repeat (first | (with_reducible first | exact HB.out | apply ba | apply bn | apply be) | exact HB.out)) hb)
            clear HB
            have HB := n0_
            clear n0_
            (try clear hb)
            (try clear hb2)
            (try clear hk)
            (try clear hi)
            refine hK.out _ _ ⟨(cl4 HB hw216_0), (cl4 HB hw216_1), (cl4 HB hw216_2), (cl4 HB hw216_3), (cl4 HB hw216_4), (cl4 HB hw216_5), (cl4 HB hw216_6), (cl4 HB hw216_7), (cl4 HB hw216_8)⟩ (fun hHeld => ?_)
            clear hK K
            refine norm_ (a' := ?_) ?_ ?_
            rotate_left
            ·show Act.put _ (some 47) _ = _
             simp only [Act.put, List.setIfInBounds_toArray, List.set_cons_zero, List.set_cons_succ, i64_w, i32_w]
             rfl
            refine pure_ (i := 8) (N := some 48) (v := ?_) (a' := ?_) #[true, true, true, true, true, true, true, true, true] rfl rfl (any_of HT_.out (by kernel_rfl)) (fun _ _ _ h => h) (Or.inl ⟨by rfl, ?_⟩) ?_ ?_
            rotate_left
            ·intro w'
             go_simp
             with_reducible rfl
            rotate_left
            ·simp only [Act.put, List.setIfInBounds_toArray, List.set_cons_zero, List.set_cons_succ, i64_w, i32_w]
             rfl
            refine done_ (done_of HT_.out (by kernel_rfl)) ?_
            try go_wp2
            have n0_ := Am (be HB.out)
            clear HB
            have HB := n0_
            clear n0_
            have p218 : 0 ≤ (x5_1 : Int) := of_decide_eq_true (by assumption)
            have q218 : x5_1 < (l0.length : Int) := of_decide_eq_true (by assumption)
            obtain ⟨ad218, e218, hx218_0, hx218_1, hx218_2, hx218_3, hx218_4, hx218_5, hx218_6, hx218_7, hx218_8⟩ := at_T33 HR0.out x5_1 p218 q218
            have hw218_8 := hx218_8
            have hw218_7 := hx218_7
            have hw218_6 := hx218_6
            have hw218_5 := hx218_5
            have hw218_4 := hx218_4
            have hw218_3 := hx218_3
            have hw218_2 := hx218_2
            have hw218_1 := hx218_1
            have hw218_0 := hx218_0
            obtain rfl : ad213 = ad218 := (by injection e218)
            replace hx218_0 := cl4 HB hx218_0
            replace hx218_1 := cl4 HB hx218_1
            replace hx218_2 := cl4 HB hx218_2
            replace hx218_3 := cl4 HB hx218_3
            replace hx218_4 := cl4 HB hx218_4
            replace hx218_5 := cl4 HB hx218_5
            replace hx218_6 := cl4 HB hx218_6
            replace hx218_7 := cl4 HB hx218_7
            replace hx218_8 := cl4 HB hx218_8
            replace p218 := eq_true p218
            replace q218 := eq_true q218
            refine start_ (n := 9) (S := fun w' => w'.cell? (ad213.add ((x5_1).toNat * 9)) = some (.int .i64 ((rd_T33 l0 x5_1).f0)) ∧ w'.cell? ⟨(ad213.add ((x5_1).toNat * 9)).block, (ad213.add ((x5_1).toNat * 9)).off + 1, none⟩ = some (.int .i64 ((rd_T33 l0 x5_1).f1)) ∧ w'.cell? ⟨(ad213.add ((x5_1).toNat * 9)).block, (ad213.add ((x5_1).toNat * 9)).off + 2, none⟩ = some (.int .i64 ((rd_T33 l0 x5_1).f2.f0)) ∧ w'.cell? ⟨(ad213.add ((x5_1).toNat * 9)).block, (ad213.add ((x5_1).toNat * 9)).off + 3, none⟩ = some (.string ((rd_T33 l0 x5_1).f2.f1)) ∧ w'.cell? ⟨(ad213.add ((x5_1).toNat * 9)).block, (ad213.add ((x5_1).toNat * 9)).off + 4, none⟩ = some (.string ((rd_T33 l0 x5_1).f2.f2)) ∧ w'.cell? ⟨(ad213.add ((x5_1).toNat * 9)).block, (ad213.add ((x5_1).toNat * 9)).off + 5, none⟩ = some (.int .i64 ((rd_T33 l0 x5_1).f2.f3)) ∧ w'.cell? ⟨(ad213.add ((x5_1).toNat * 9)).block, (ad213.add ((x5_1).toNat * 9)).off + 6, none⟩ = some (.int .i64 ((rd_T33 l0 x5_1).f2.f4)) ∧ w'.cell? ⟨(ad213.add ((x5_1).toNat * 9)).block, (ad213.add ((x5_1).toNat * 9)).off + 7, none⟩ = some (.string ((rd_T33 l0 x5_1).f2.f5)) ∧ w'.cell? ⟨(ad213.add ((x5_1).toNat * 9)).block, (ad213.add ((x5_1).toNat * 9)).off + 8, none⟩ = some (.int .i64 ((rd_T33 l0 x5_1).f3))) (ds := []) #[false, false, false, false, false, false, false, false, false] (by kernel_rfl) rfl rfl ⟨(cl4 HB hw218_0), (cl4 HB hw218_1), (cl4 HB hw218_2), (cl4 HB hw218_3), (cl4 HB hw218_4), (cl4 HB hw218_5), (cl4 HB hw218_6), (cl4 HB hw218_7), (cl4 HB hw218_8)⟩ (fun hHeld => ?_); refine with_tabW laws_heldActS.tab16 laws_heldActS.bits16 (fun HT_ HW_ => ?_)
            generalize w36.drew = w37 at HB hx218_0 hx218_1 hx218_2 hx218_3 hx218_4 hx218_5 hx218_6 hx218_7 hx218_8 hHeld ⊢
            refine pure_ (i := 0) (N := some 51) (v := ?_) (a' := ?_) #[true, false, false, false, false, false, false, false, false] rfl rfl (any_of HT_.out (by kernel_rfl)) (fun _ _ _ h => h) (Or.inl ⟨by rfl, ?_⟩) ?_ ?_
            rotate_left
            ·intro w'
             go_simp
             with_reducible rfl
            rotate_left
            ·simp only [Act.put, List.setIfInBounds_toArray, List.set_cons_zero, List.set_cons_succ, i64_w, i32_w]
             rfl
            refine pure_ (i := 1) (N := some 52) (v := ?_) (a' := ?_) #[true, true, false, false, false, false, false, false, false] rfl rfl (any_of HT_.out (by kernel_rfl)) (fun _ _ _ h => h) (Or.inl ⟨by rfl, ?_⟩) ?_ ?_
            rotate_left
            ·intro w'
             go_simp
             with_reducible rfl
            rotate_left
            ·simp only [Act.put, List.setIfInBounds_toArray, List.set_cons_zero, List.set_cons_succ, i64_w, i32_w]
             rfl
            refine pure_ (i := 2) (N := some 53) (v := ?_) (a' := ?_) #[true, true, true, false, false, false, false, false, false] rfl rfl (any_of HT_.out (by kernel_rfl)) (fun _ _ _ h => h) (Or.inl ⟨by rfl, ?_⟩) ?_ ?_
            rotate_left
            ·intro w'
             go_simp
             with_reducible rfl
            rotate_left
            ·simp only [Act.put, List.setIfInBounds_toArray, List.set_cons_zero, List.set_cons_succ, i64_w, i32_w]
             rfl
            refine pure_ (i := 3) (N := some 54) (v := ?_) (a' := ?_) #[true, true, true, true, false, false, false, false, false] rfl rfl (any_of HT_.out (by kernel_rfl)) (fun _ _ _ h => h) (Or.inl ⟨by rfl, ?_⟩) ?_ ?_
            rotate_left
            ·intro w'
             go_simp
             with_reducible rfl
            rotate_left
            ·simp only [Act.put, List.setIfInBounds_toArray, List.set_cons_zero, List.set_cons_succ, i64_w, i32_w]
             rfl
            refine pure_ (i := 4) (N := some 55) (v := ?_) (a' := ?_) #[true, true, true, true, true, false, false, false, false] rfl rfl (any_of HT_.out (by kernel_rfl)) (fun _ _ _ h => h) (Or.inl ⟨by rfl, ?_⟩) ?_ ?_
            rotate_left
            ·intro w'
             go_simp
             with_reducible rfl
            rotate_left
            ·simp only [Act.put, List.setIfInBounds_toArray, List.set_cons_zero, List.set_cons_succ, i64_w, i32_w]
             rfl
            refine pure_ (i := 6) (N := some 57) (v := ?_) (a' := ?_) #[true, true, true, true, true, false, true, false, false] rfl rfl (any_of HT_.out (by kernel_rfl)) (fun _ _ _ h => h) (Or.inl ⟨by rfl, ?_⟩) ?_ ?_
            rotate_left
            ·intro w'
             go_simp
             with_reducible rfl
            rotate_left
            ·simp only [Act.put, List.setIfInBounds_toArray, List.set_cons_zero, List.set_cons_succ, i64_w, i32_w]
             rfl
            refine take_ (i := 5) (N := some 56) (v := ?_) (a' := ?_) #[true, true, true, true, true, true, true, false, false] rfl rfl (take_ofW HT_.out HW_.out (by kernel_rfl)) (fun _ _ _ h => h) (Or.inl ⟨by rfl, ?_⟩) hHeld ?_ ?_
            rotate_left
            ·rintro w' ⟨s0, s1, s2, s3, s4, s5, s6, s7, s8⟩
             go_simp
             with_reducible rfl
            rotate_left
            ·simp only [Act.put, List.setIfInBounds_toArray, List.set_cons_zero, List.set_cons_succ, i64_w, i32_w]
             rfl
            refine one_ (i := 7) (N := some 58) #[true, true, true, true, true, true, true, true, false] rfl rfl (one_of HT_.out (by kernel_rfl)) (by decide) (fun K hK => ?_)
            refine goes_ Try.func76 (by kernel_rfl) rfl #[.int .i64 (wrap64 ((wrap64 ((wrap64 ((wrap64 (x1_1 + 1)) + 1)) + 1)) + 1))] (by rfl) rfl rfl (by (try simp only [List.map_toArray, List.map_cons, List.map_nil]); first | done | rfl | (simp only [List.length_drop, List.length_take]; rfl)) ?_
            with_reducible refine (laws_markText.calls k1 (wrap64 ((wrap64 ((wrap64 ((wrap64 (x1_1 + 1)) + 1)) + 1)) + 1)) t219 _ A10.out).mono ?_
            rintro e w38 ⟨rfl, hb⟩
            refine ⟨_, rfl, ?_⟩
            have n0_ := Am (bt (by repeat (first | (with_reducible first | exact HB.out | apply ba | apply bn | apply be) | exact HB.out)) hb)
            clear HB
            have HB := n0_
            clear n0_
            (try clear hb)
            (try clear hb2)
            (try clear hk)
            (try clear hi)
            refine hK.out _ _ ⟨(cl4 HB hw218_0), (cl4 HB hw218_1), (cl4 HB hw218_2), (cl4 HB hw218_3), (cl4 HB hw218_4), (cl4 HB hw218_5), (cl4 HB hw218_6), (cl4 HB hw218_7), (cl4 HB hw218_8)⟩ (fun hHeld => ?_)
            clear hK K
            refine norm_ (a' := ?_) ?_ ?_
            rotate_left
            ·show Act.put _ (some 58) _ = _
             simp only [Act.put, List.setIfInBounds_toArray, List.set_cons_zero, List.set_cons_succ, i64_w, i32_w]
             rfl
            refine pure_ (i := 8) (N := some 59) (v := ?_) (a' := ?_) #[true, true, true, true, true, true, true, true, true] rfl rfl (any_of HT_.out (by kernel_rfl)) (fun _ _ _ h => h) (Or.inl ⟨by rfl, ?_⟩) ?_ ?_
            rotate_left
            ·intro w'
             go_simp
             with_reducible rfl
            rotate_left
            ·simp only [Act.put, List.setIfInBounds_toArray, List.set_cons_zero, List.set_cons_succ, i64_w, i32_w]
             rfl
            refine done_ (done_of HT_.out (by kernel_rfl)) ?_
            have p220 : 0 ≤ (x5_1 : Int) := of_decide_eq_true (by assumption)
            have q220 : x5_1 < (l0.length : Int) := of_decide_eq_true (by assumption)
            obtain ⟨ad220, e220, hx220_0, hx220_1, hx220_2, hx220_3, hx220_4, hx220_5, hx220_6, hx220_7, hx220_8⟩ := at_T33 HR0.out x5_1 p220 q220
            obtain rfl : ad213 = ad220 := (by injection e220)
            replace hx220_0 := cl4 HB hx220_0
            replace hx220_1 := cl4 HB hx220_1
            replace hx220_2 := cl4 HB hx220_2
            replace hx220_3 := cl4 HB hx220_3
            replace hx220_4 := cl4 HB hx220_4
            replace hx220_5 := cl4 HB hx220_5
            replace hx220_6 := cl4 HB hx220_6
            replace hx220_7 := cl4 HB hx220_7
            replace hx220_8 := cl4 HB hx220_8
            replace p220 := eq_true p220
            replace q220 := eq_true q220
            have p221 : 0 ≤ (x5_1 : Int) := of_decide_eq_true (by assumption)
            have q221 : x5_1 < (l0.length : Int) := of_decide_eq_true (by assumption)
            obtain ⟨ad221, e221, hx221_0, hx221_1, hx221_2, hx221_3, hx221_4, hx221_5, hx221_6, hx221_7, hx221_8⟩ := at_T33 HR0.out x5_1 p221 q221
            obtain rfl : ad213 = ad221 := (by injection e221)
            replace hx221_0 := cl4 HB hx221_0
            replace hx221_1 := cl4 HB hx221_1
            replace hx221_2 := cl4 HB hx221_2
            replace hx221_3 := cl4 HB hx221_3
            replace hx221_4 := cl4 HB hx221_4
            replace hx221_5 := cl4 HB hx221_5
            replace hx221_6 := cl4 HB hx221_6
            replace hx221_7 := cl4 HB hx221_7
            replace hx221_8 := cl4 HB hx221_8
            replace p221 := eq_true p221
            replace q221 := eq_true q221
            try go_wp2
            go_ret
            exact ⟨by first | rfl | (simp [errW_none, errW_some] <;> rfl) | (simp [*, errW_none, errW_some] <;> rfl), by repeat (first | (with_reducible first | apply ba | apply bn | apply be) | exact HB.out)⟩
          ·rw [if_neg c12] at H
           have c12b0 : (((rd_T33 l0 x5_1).f2.f3) == (wrap64 ((wrap64 ((wrap64 ((wrap64 ((wrap64 (x1_1 + 1)) + 1)) + 1)) + 1)) + 1))) = false := beq_eq_false_iff_ne.mpr c12
           have c12b1 : (((rd_T33 l0 x5_1).f2.f3) != (wrap64 ((wrap64 ((wrap64 ((wrap64 ((wrap64 (x1_1 + 1)) + 1)) + 1)) + 1)) + 1))) = true := bne_iff_ne.mpr c12
           obtain rfl := Option.some.inj H
           have p213 : 0 ≤ (x5_1 : Int) := of_decide_eq_true (by assumption)
           have q213 : x5_1 < (l0.length : Int) := of_decide_eq_true (by assumption)
           obtain ⟨ad213, e213, hx213_0, hx213_1, hx213_2, hx213_3, hx213_4, hx213_5, hx213_6, hx213_7, hx213_8⟩ := at_T33 HR0.out x5_1 p213 q213
           cases e213
           replace hx213_0 := cl4 HB hx213_0
           replace hx213_1 := cl4 HB hx213_1
           replace hx213_2 := cl4 HB hx213_2
           replace hx213_3 := cl4 HB hx213_3
           replace hx213_4 := cl4 HB hx213_4
           replace hx213_5 := cl4 HB hx213_5
           replace hx213_6 := cl4 HB hx213_6
           replace hx213_7 := cl4 HB hx213_7
           replace hx213_8 := cl4 HB hx213_8
           replace p213 := eq_true p213
           replace q213 := eq_true q213
           have p214 : 0 ≤ (x5_1 : Int) := of_decide_eq_true (by assumption)
           have q214 : x5_1 < (l0.length : Int) := of_decide_eq_true (by assumption)
           obtain ⟨ad214, e214, hx214_0, hx214_1, hx214_2, hx214_3, hx214_4, hx214_5, hx214_6, hx214_7, hx214_8⟩ := at_T33 HR0.out x5_1 p214 q214
           obtain rfl : ad213 = ad214 := (by injection e214)
           replace hx214_0 := cl4 HB hx214_0
           replace hx214_1 := cl4 HB hx214_1
           replace hx214_2 := cl4 HB hx214_2
           replace hx214_3 := cl4 HB hx214_3
           replace hx214_4 := cl4 HB hx214_4
           replace hx214_5 := cl4 HB hx214_5
           replace hx214_6 := cl4 HB hx214_6
           replace hx214_7 := cl4 HB hx214_7
           replace hx214_8 := cl4 HB hx214_8
           replace p214 := eq_true p214
           replace q214 := eq_true q214
           have p215 : 0 ≤ (x5_1 : Int) := of_decide_eq_true (by assumption)
           have q215 : x5_1 < (l0.length : Int) := of_decide_eq_true (by assumption)
           obtain ⟨ad215, e215, hx215_0, hx215_1, hx215_2, hx215_3, hx215_4, hx215_5, hx215_6, hx215_7, hx215_8⟩ := at_T33 HR0.out x5_1 p215 q215
           obtain rfl : ad213 = ad215 := (by injection e215)
           replace hx215_0 := cl4 HB hx215_0
           replace hx215_1 := cl4 HB hx215_1
           replace hx215_2 := cl4 HB hx215_2
           replace hx215_3 := cl4 HB hx215_3
           replace hx215_4 := cl4 HB hx215_4
           replace hx215_5 := cl4 HB hx215_5
           replace hx215_6 := cl4 HB hx215_6
           replace hx215_7 := cl4 HB hx215_7
           replace hx215_8 := cl4 HB hx215_8
           replace p215 := eq_true p215
           replace q215 := eq_true q215
           try go_wp2
           have n0_ := Am (be HB.out)
           clear HB
           have HB := n0_
           clear n0_
           have p216 : 0 ≤ (x5_1 : Int) := of_decide_eq_true (by assumption)
           have q216 : x5_1 < (l0.length : Int) := of_decide_eq_true (by assumption)
           obtain ⟨ad216, e216, hx216_0, hx216_1, hx216_2, hx216_3, hx216_4, hx216_5, hx216_6, hx216_7, hx216_8⟩ := at_T33 HR0.out x5_1 p216 q216
           have hw216_8 := hx216_8
           have hw216_7 := hx216_7
           have hw216_6 := hx216_6
           have hw216_5 := hx216_5
           have hw216_4 := hx216_4
           have hw216_3 := hx216_3
           have hw216_2 := hx216_2
           have hw216_1 := hx216_1
           have hw216_0 := hx216_0
           obtain rfl : ad213 = ad216 := (by injection e216)
           replace hx216_0 := cl4 HB hx216_0
           replace hx216_1 := cl4 HB hx216_1
           replace hx216_2 := cl4 HB hx216_2
           replace hx216_3 := cl4 HB hx216_3
           replace hx216_4 := cl4 HB hx216_4
           replace hx216_5 := cl4 HB hx216_5
           replace hx216_6 := cl4 HB hx216_6
           replace hx216_7 := cl4 HB hx216_7
           replace hx216_8 := cl4 HB hx216_8
           replace p216 := eq_true p216
           replace q216 := eq_true q216
           refine start_ (n := 9) (S := fun w' => w'.cell? (ad213.add ((x5_1).toNat * 9)) = some (.int .i64 ((rd_T33 l0 x5_1).f0)) ∧ w'.cell? ⟨(ad213.add ((x5_1).toNat * 9)).block, (ad213.add ((x5_1).toNat * 9)).off + 1, none⟩ = some (.int .i64 ((rd_T33 l0 x5_1).f1)) ∧ w'.cell? ⟨(ad213.add ((x5_1).toNat * 9)).block, (ad213.add ((x5_1).toNat * 9)).off + 2, none⟩ = some (.int .i64 ((rd_T33 l0 x5_1).f2.f0)) ∧ w'.cell? ⟨(ad213.add ((x5_1).toNat * 9)).block, (ad213.add ((x5_1).toNat * 9)).off + 3, none⟩ = some (.string ((rd_T33 l0 x5_1).f2.f1)) ∧ w'.cell? ⟨(ad213.add ((x5_1).toNat * 9)).block, (ad213.add ((x5_1).toNat * 9)).off + 4, none⟩ = some (.string ((rd_T33 l0 x5_1).f2.f2)) ∧ w'.cell? ⟨(ad213.add ((x5_1).toNat * 9)).block, (ad213.add ((x5_1).toNat * 9)).off + 5, none⟩ = some (.int .i64 ((rd_T33 l0 x5_1).f2.f3)) ∧ w'.cell? ⟨(ad213.add ((x5_1).toNat * 9)).block, (ad213.add ((x5_1).toNat * 9)).off + 6, none⟩ = some (.int .i64 ((rd_T33 l0 x5_1).f2.f4)) ∧ w'.cell? ⟨(ad213.add ((x5_1).toNat * 9)).block, (ad213.add ((x5_1).toNat * 9)).off + 7, none⟩ = some (.string ((rd_T33 l0 x5_1).f2.f5)) ∧ w'.cell? ⟨(ad213.add ((x5_1).toNat * 9)).block, (ad213.add ((x5_1).toNat * 9)).off + 8, none⟩ = some (.int .i64 ((rd_T33 l0 x5_1).f3))) (ds := []) #[false, false, false, false, false, false, false, false, false] (by kernel_rfl) rfl rfl ⟨(cl4 HB hw216_0), (cl4 HB hw216_1), (cl4 HB hw216_2), (cl4 HB hw216_3), (cl4 HB hw216_4), (cl4 HB hw216_5), (cl4 HB hw216_6), (cl4 HB hw216_7), (cl4 HB hw216_8)⟩ (fun hHeld => ?_); refine with_tabW laws_heldActS.tab13 laws_heldActS.bits13 (fun HT_ HW_ => ?_)
           generalize wr.drew = w39 at HB hx216_0 hx216_1 hx216_2 hx216_3 hx216_4 hx216_5 hx216_6 hx216_7 hx216_8 hHeld ⊢
           refine pure_ (i := 0) (N := some 40) (v := ?_) (a' := ?_) #[true, false, false, false, false, false, false, false, false] rfl rfl (any_of HT_.out (by kernel_rfl)) (fun _ _ _ h => h) (Or.inl ⟨by rfl, ?_⟩) ?_ ?_
           rotate_left
           ·intro w'
            go_simp
            with_reducible rfl
           rotate_left
           ·simp only [Act.put, List.setIfInBounds_toArray, List.set_cons_zero, List.set_cons_succ, i64_w, i32_w]
            rfl
           refine pure_ (i := 1) (N := some 41) (v := ?_) (a' := ?_) #[true, true, false, false, false, false, false, false, false] rfl rfl (any_of HT_.out (by kernel_rfl)) (fun _ _ _ h => h) (Or.inl ⟨by rfl, ?_⟩) ?_ ?_
           rotate_left
           ·intro w'
            go_simp
            with_reducible rfl
           rotate_left
           ·simp only [Act.put, List.setIfInBounds_toArray, List.set_cons_zero, List.set_cons_succ, i64_w, i32_w]
            rfl
           refine pure_ (i := 2) (N := some 42) (v := ?_) (a' := ?_) #[true, true, true, false, false, false, false, false, false] rfl rfl (any_of HT_.out (by kernel_rfl)) (fun _ _ _ h => h) (Or.inl ⟨by rfl, ?_⟩) ?_ ?_
           rotate_left
           ·intro w'
            go_simp
            with_reducible rfl
           rotate_left
           ·simp only [Act.put, List.setIfInBounds_toArray, List.set_cons_zero, List.set_cons_succ, i64_w, i32_w]
            rfl
           refine pure_ (i := 3) (N := some 43) (v := ?_) (a' := ?_) #[true, true, true, true, false, false, false, false, false] rfl rfl (any_of HT_.out (by kernel_rfl)) (fun _ _ _ h => h) (Or.inl ⟨by rfl, ?_⟩) ?_ ?_
           rotate_left
           ·intro w'
            go_simp
            with_reducible rfl
           rotate_left
           ·simp only [Act.put, List.setIfInBounds_toArray, List.set_cons_zero, List.set_cons_succ, i64_w, i32_w]
            rfl
           refine pure_ (i := 4) (N := some 44) (v := ?_) (a' := ?_) #[true, true, true, true, true, false, false, false, false] rfl rfl (any_of HT_.out (by kernel_rfl)) (fun _ _ _ h => h) (Or.inl ⟨by rfl, ?_⟩) ?_ ?_
           rotate_left
           ·intro w'
            go_simp
            with_reducible rfl
           rotate_left
           ·simp only [Act.put, List.setIfInBounds_toArray, List.set_cons_zero, List.set_cons_succ, i64_w, i32_w]
            rfl
           refine pure_ (i := 6) (N := some 46) (v := ?_) (a' := ?_) #[true, true, true, true, true, false, true, false, false] rfl rfl (any_of HT_.out (by kernel_rfl)) (fun _ _ _ h => h) (Or.inl ⟨by rfl, ?_⟩) ?_ ?_
           rotate_left
           ·intro w'
            go_simp
            with_reducible rfl
           rotate_left
           ·simp only [Act.put, List.setIfInBounds_toArray, List.set_cons_zero, List.set_cons_succ, i64_w, i32_w]
            rfl
           refine take_ (i := 5) (N := some 45) (v := ?_) (a' := ?_) #[true, true, true, true, true, true, true, false, false] rfl rfl (take_ofW HT_.out HW_.out (by kernel_rfl)) (fun _ _ _ h => h) (Or.inl ⟨by rfl, ?_⟩) hHeld ?_ ?_
           rotate_left
           ·rintro w' ⟨s0, s1, s2, s3, s4, s5, s6, s7, s8⟩
            go_simp
            with_reducible rfl
           rotate_left
           ·simp only [Act.put, List.setIfInBounds_toArray, List.set_cons_zero, List.set_cons_succ, i64_w, i32_w]
            rfl
           refine one_ (i := 7) (N := some 47) #[true, true, true, true, true, true, true, true, false] rfl rfl (one_of HT_.out (by kernel_rfl)) (by decide) (fun K hK => ?_)
           refine goes_ Try.func76 (by kernel_rfl) rfl #[.int .i64 (wrap64 ((wrap64 ((wrap64 (x1_1 + 1)) + 1)) + 1))] (by rfl) rfl rfl (by (try simp only [List.map_toArray, List.map_cons, List.map_nil]); first | done | rfl | (simp only [List.length_drop, List.length_take]; rfl)) ?_
           with_reducible refine (laws_markText.calls k1 (wrap64 ((wrap64 ((wrap64 (x1_1 + 1)) + 1)) + 1)) t217 _ A8.out).mono ?_
           rintro e w40 ⟨rfl, hb⟩
           refine ⟨_, rfl, ?_⟩
           have n0_ := Am (bt (by repeat (first | (with_reducible first | exact HB.out | apply ba | apply bn | apply be) | exact HB.out)) hb)
           clear HB
           have HB := n0_
           clear n0_
           (try clear hb)
           (try clear hb2)
           (try clear hk)
           (try clear hi)
           refine hK.out _ _ ⟨(cl4 HB hw216_0), (cl4 HB hw216_1), (cl4 HB hw216_2), (cl4 HB hw216_3), (cl4 HB hw216_4), (cl4 HB hw216_5), (cl4 HB hw216_6), (cl4 HB hw216_7), (cl4 HB hw216_8)⟩ (fun hHeld => ?_)
           clear hK K
           refine norm_ (a' := ?_) ?_ ?_
           rotate_left
           ·show Act.put _ (some 47) _ = _
            simp only [Act.put, List.setIfInBounds_toArray, List.set_cons_zero, List.set_cons_succ, i64_w, i32_w]
            rfl
           refine pure_ (i := 8) (N := some 48) (v := ?_) (a' := ?_) #[true, true, true, true, true, true, true, true, true] rfl rfl (any_of HT_.out (by kernel_rfl)) (fun _ _ _ h => h) (Or.inl ⟨by rfl, ?_⟩) ?_ ?_
           rotate_left
           ·intro w'
            go_simp
            with_reducible rfl
           rotate_left
           ·simp only [Act.put, List.setIfInBounds_toArray, List.set_cons_zero, List.set_cons_succ, i64_w, i32_w]
            rfl
           refine done_ (done_of HT_.out (by kernel_rfl)) ?_
           try go_wp2
           have n0_ := Am (be HB.out)
           clear HB
           have HB := n0_
           clear n0_
           have p218 : 0 ≤ (x5_1 : Int) := of_decide_eq_true (by assumption)
           have q218 : x5_1 < (l0.length : Int) := of_decide_eq_true (by assumption)
           obtain ⟨ad218, e218, hx218_0, hx218_1, hx218_2, hx218_3, hx218_4, hx218_5, hx218_6, hx218_7, hx218_8⟩ := at_T33 HR0.out x5_1 p218 q218
           have hw218_8 := hx218_8
           have hw218_7 := hx218_7
           have hw218_6 := hx218_6
           have hw218_5 := hx218_5
           have hw218_4 := hx218_4
           have hw218_3 := hx218_3
           have hw218_2 := hx218_2
           have hw218_1 := hx218_1
           have hw218_0 := hx218_0
           obtain rfl : ad213 = ad218 := (by injection e218)
           replace hx218_0 := cl4 HB hx218_0
           replace hx218_1 := cl4 HB hx218_1
           replace hx218_2 := cl4 HB hx218_2
           replace hx218_3 := cl4 HB hx218_3
           replace hx218_4 := cl4 HB hx218_4
           replace hx218_5 := cl4 HB hx218_5
           replace hx218_6 := cl4 HB hx218_6
           replace hx218_7 := cl4 HB hx218_7
           replace hx218_8 := cl4 HB hx218_8
           replace p218 := eq_true p218
           replace q218 := eq_true q218
           refine start_ (n := 9) (S := fun w' => w'.cell? (ad213.add ((x5_1).toNat * 9)) = some (.int .i64 ((rd_T33 l0 x5_1).f0)) ∧ w'.cell? ⟨(ad213.add ((x5_1).toNat * 9)).block, (ad213.add ((x5_1).toNat * 9)).off + 1, none⟩ = some (.int .i64 ((rd_T33 l0 x5_1).f1)) ∧ w'.cell? ⟨(ad213.add ((x5_1).toNat * 9)).block, (ad213.add ((x5_1).toNat * 9)).off + 2, none⟩ = some (.int .i64 ((rd_T33 l0 x5_1).f2.f0)) ∧ w'.cell? ⟨(ad213.add ((x5_1).toNat * 9)).block, (ad213.add ((x5_1).toNat * 9)).off + 3, none⟩ = some (.string ((rd_T33 l0 x5_1).f2.f1)) ∧ w'.cell? ⟨(ad213.add ((x5_1).toNat * 9)).block, (ad213.add ((x5_1).toNat * 9)).off + 4, none⟩ = some (.string ((rd_T33 l0 x5_1).f2.f2)) ∧ w'.cell? ⟨(ad213.add ((x5_1).toNat * 9)).block, (ad213.add ((x5_1).toNat * 9)).off + 5, none⟩ = some (.int .i64 ((rd_T33 l0 x5_1).f2.f3)) ∧ w'.cell? ⟨(ad213.add ((x5_1).toNat * 9)).block, (ad213.add ((x5_1).toNat * 9)).off + 6, none⟩ = some (.int .i64 ((rd_T33 l0 x5_1).f2.f4)) ∧ w'.cell? ⟨(ad213.add ((x5_1).toNat * 9)).block, (ad213.add ((x5_1).toNat * 9)).off + 7, none⟩ = some (.string ((rd_T33 l0 x5_1).f2.f5)) ∧ w'.cell? ⟨(ad213.add ((x5_1).toNat * 9)).block, (ad213.add ((x5_1).toNat * 9)).off + 8, none⟩ = some (.int .i64 ((rd_T33 l0 x5_1).f3))) (ds := []) #[false, false, false, false, false, false, false, false, false] (by kernel_rfl) rfl rfl ⟨(cl4 HB hw218_0), (cl4 HB hw218_1), (cl4 HB hw218_2), (cl4 HB hw218_3), (cl4 HB hw218_4), (cl4 HB hw218_5), (cl4 HB hw218_6), (cl4 HB hw218_7), (cl4 HB hw218_8)⟩ (fun hHeld => ?_); refine with_tabW laws_heldActS.tab16 laws_heldActS.bits16 (fun HT_ HW_ => ?_)
           generalize w40.drew = w41 at HB hx218_0 hx218_1 hx218_2 hx218_3 hx218_4 hx218_5 hx218_6 hx218_7 hx218_8 hHeld ⊢
           refine pure_ (i := 0) (N := some 51) (v := ?_) (a' := ?_) #[true, false, false, false, false, false, false, false, false] rfl rfl (any_of HT_.out (by kernel_rfl)) (fun _ _ _ h => h) (Or.inl ⟨by rfl, ?_⟩) ?_ ?_
           rotate_left
           ·intro w'
            go_simp
            with_reducible rfl
           rotate_left
           ·simp only [Act.put, List.setIfInBounds_toArray, List.set_cons_zero, List.set_cons_succ, i64_w, i32_w]
            rfl
           refine pure_ (i := 1) (N := some 52) (v := ?_) (a' := ?_) #[true, true, false, false, false, false, false, false, false] rfl rfl (any_of HT_.out (by kernel_rfl)) (fun _ _ _ h => h) (Or.inl ⟨by rfl, ?_⟩) ?_ ?_
           rotate_left
           ·intro w'
            go_simp
            with_reducible rfl
           rotate_left
           ·simp only [Act.put, List.setIfInBounds_toArray, List.set_cons_zero, List.set_cons_succ, i64_w, i32_w]
            rfl
           refine pure_ (i := 2) (N := some 53) (v := ?_) (a' := ?_) #[true, true, true, false, false, false, false, false, false] rfl rfl (any_of HT_.out (by kernel_rfl)) (fun _ _ _ h => h) (Or.inl ⟨by rfl, ?_⟩) ?_ ?_
           rotate_left
           ·intro w'
            go_simp
            with_reducible rfl
           rotate_left
           ·simp only [Act.put, List.setIfInBounds_toArray, List.set_cons_zero, List.set_cons_succ, i64_w, i32_w]
            rfl
           refine pure_ (i := 3) (N := some 54) (v := ?_) (a' := ?_) #[true, true, true, true, false, false, false, false, false] rfl rfl (any_of HT_.out (by kernel_rfl)) (fun _ _ _ h => h) (Or.inl ⟨by rfl, ?_⟩) ?_ ?_
           rotate_left
           ·intro w'
            go_simp
            with_reducible rfl
           rotate_left
           ·simp only [Act.put, List.setIfInBounds_toArray, List.set_cons_zero, List.set_cons_succ, i64_w, i32_w]
            rfl
           refine pure_ (i := 4) (N := some 55) (v := ?_) (a' := ?_) #[true, true, true, true, true, false, false, false, false] rfl rfl (any_of HT_.out (by kernel_rfl)) (fun _ _ _ h => h) (Or.inl ⟨by rfl, ?_⟩) ?_ ?_
           rotate_left
           ·intro w'
            go_simp
            with_reducible rfl
           rotate_left
           ·simp only [Act.put, List.setIfInBounds_toArray, List.set_cons_zero, List.set_cons_succ, i64_w, i32_w]
            rfl
           refine pure_ (i := 6) (N := some 57) (v := ?_) (a' := ?_) #[true, true, true, true, true, false, true, false, false] rfl rfl (any_of HT_.out (by kernel_rfl)) (fun _ _ _ h => h) (Or.inl ⟨by rfl, ?_⟩) ?_ ?_
           rotate_left
           ·intro w'
            go_simp
            with_reducible rfl
           rotate_left
           ·simp only [Act.put, List.setIfInBounds_toArray, List.set_cons_zero, List.set_cons_succ, i64_w, i32_w]
            rfl
           refine take_ (i := 5) (N := some 56) (v := ?_) (a' := ?_) #[true, true, true, true, true, true, true, false, false] rfl rfl (take_ofW HT_.out HW_.out (by kernel_rfl)) (fun _ _ _ h => h) (Or.inl ⟨by rfl, ?_⟩) hHeld ?_ ?_
           rotate_left
           ·rintro w' ⟨s0, s1, s2, s3, s4, s5, s6, s7, s8⟩
            go_simp
            with_reducible rfl
           rotate_left
           ·simp only [Act.put, List.setIfInBounds_toArray, List.set_cons_zero, List.set_cons_succ, i64_w, i32_w]
            rfl
           refine one_ (i := 7) (N := some 58) #[true, true, true, true, true, true, true, true, false] rfl rfl (one_of HT_.out (by kernel_rfl)) (by decide) (fun K hK => ?_)
           refine goes_ Try.func76 (by kernel_rfl) rfl #[.int .i64 (wrap64 ((wrap64 ((wrap64 ((wrap64 (x1_1 + 1)) + 1)) + 1)) + 1))] (by rfl) rfl rfl (by (try simp only [List.map_toArray, List.map_cons, List.map_nil]); first | done | rfl | (simp only [List.length_drop, List.length_take]; rfl)) ?_
           with_reducible refine (laws_markText.calls k1 (wrap64 ((wrap64 ((wrap64 ((wrap64 (x1_1 + 1)) + 1)) + 1)) + 1)) t219 _ A10.out).mono ?_
           rintro e w42 ⟨rfl, hb⟩
           refine ⟨_, rfl, ?_⟩
           have n0_ := Am (bt (by repeat (first | (with_reducible first | exact HB.out | apply ba | apply bn | apply be) | exact HB.out)) hb)
           clear HB
           have HB := n0_
           clear n0_
           (try clear hb)
           (try clear hb2)
           (try clear hk)
           (try clear hi)
           refine hK.out _ _ ⟨(cl4 HB hw218_0), (cl4 HB hw218_1), (cl4 HB hw218_2), (cl4 HB hw218_3), (cl4 HB hw218_4), (cl4 HB hw218_5), (cl4 HB hw218_6), (cl4 HB hw218_7), (cl4 HB hw218_8)⟩ (fun hHeld => ?_)
           clear hK K
           refine norm_ (a' := ?_) ?_ ?_
           rotate_left
           ·show Act.put _ (some 58) _ = _
            simp only [Act.put, List.setIfInBounds_toArray, List.set_cons_zero, List.set_cons_succ, i64_w, i32_w]
            rfl
           refine pure_ (i := 8) (N := some 59) (v := ?_) (a' := ?_) #[true, true, true, true, true, true, true, true, true] rfl rfl (any_of HT_.out (by kernel_rfl)) (fun _ _ _ h => h) (Or.inl ⟨by rfl, ?_⟩) ?_ ?_
           rotate_left
           ·intro w'
            go_simp
            with_reducible rfl
           rotate_left
           ·simp only [Act.put, List.setIfInBounds_toArray, List.set_cons_zero, List.set_cons_succ, i64_w, i32_w]
            rfl
           refine done_ (done_of HT_.out (by kernel_rfl)) ?_
           have p220 : 0 ≤ (x5_1 : Int) := of_decide_eq_true (by assumption)
           have q220 : x5_1 < (l0.length : Int) := of_decide_eq_true (by assumption)
           obtain ⟨ad220, e220, hx220_0, hx220_1, hx220_2, hx220_3, hx220_4, hx220_5, hx220_6, hx220_7, hx220_8⟩ := at_T33 HR0.out x5_1 p220 q220
           obtain rfl : ad213 = ad220 := (by injection e220)
           replace hx220_0 := cl4 HB hx220_0
           replace hx220_1 := cl4 HB hx220_1
           replace hx220_2 := cl4 HB hx220_2
           replace hx220_3 := cl4 HB hx220_3
           replace hx220_4 := cl4 HB hx220_4
           replace hx220_5 := cl4 HB hx220_5
           replace hx220_6 := cl4 HB hx220_6
           replace hx220_7 := cl4 HB hx220_7
           replace hx220_8 := cl4 HB hx220_8
           replace p220 := eq_true p220
           replace q220 := eq_true q220
           try go_wp2
           go_ret
           exact ⟨by first | rfl | (simp [errW_none, errW_some] <;> rfl) | (simp [*, errW_none, errW_some] <;> rfl), by repeat (first | (with_reducible first | apply ba | apply bn | apply be) | exact HB.out)⟩
         ·rw [if_neg c11] at H
          have c11b0 : (((rd_T33 l0 x5_1).f2.f2).toList == t219.toList) = false := beq_eq_false_iff_ne.mpr c11
          have c11b1 : (((rd_T33 l0 x5_1).f2.f2).toList != t219.toList) = true := bne_iff_ne.mpr c11
          obtain rfl := Option.some.inj H
          have p213 : 0 ≤ (x5_1 : Int) := of_decide_eq_true (by assumption)
          have q213 : x5_1 < (l0.length : Int) := of_decide_eq_true (by assumption)
          obtain ⟨ad213, e213, hx213_0, hx213_1, hx213_2, hx213_3, hx213_4, hx213_5, hx213_6, hx213_7, hx213_8⟩ := at_T33 HR0.out x5_1 p213 q213
          cases e213
          replace hx213_0 := cl4 HB hx213_0
          replace hx213_1 := cl4 HB hx213_1
          replace hx213_2 := cl4 HB hx213_2
          replace hx213_3 := cl4 HB hx213_3
          replace hx213_4 := cl4 HB hx213_4
          replace hx213_5 := cl4 HB hx213_5
          replace hx213_6 := cl4 HB hx213_6
          replace hx213_7 := cl4 HB hx213_7
          replace hx213_8 := cl4 HB hx213_8
          replace p213 := eq_true p213
          replace q213 := eq_true q213
          have p214 : 0 ≤ (x5_1 : Int) := of_decide_eq_true (by assumption)
          have q214 : x5_1 < (l0.length : Int) := of_decide_eq_true (by assumption)
          obtain ⟨ad214, e214, hx214_0, hx214_1, hx214_2, hx214_3, hx214_4, hx214_5, hx214_6, hx214_7, hx214_8⟩ := at_T33 HR0.out x5_1 p214 q214
          obtain rfl : ad213 = ad214 := (by injection e214)
          replace hx214_0 := cl4 HB hx214_0
          replace hx214_1 := cl4 HB hx214_1
          replace hx214_2 := cl4 HB hx214_2
          replace hx214_3 := cl4 HB hx214_3
          replace hx214_4 := cl4 HB hx214_4
          replace hx214_5 := cl4 HB hx214_5
          replace hx214_6 := cl4 HB hx214_6
          replace hx214_7 := cl4 HB hx214_7
          replace hx214_8 := cl4 HB hx214_8
          replace p214 := eq_true p214
          replace q214 := eq_true q214
          have p215 : 0 ≤ (x5_1 : Int) := of_decide_eq_true (by assumption)
          have q215 : x5_1 < (l0.length : Int) := of_decide_eq_true (by assumption)
          obtain ⟨ad215, e215, hx215_0, hx215_1, hx215_2, hx215_3, hx215_4, hx215_5, hx215_6, hx215_7, hx215_8⟩ := at_T33 HR0.out x5_1 p215 q215
          obtain rfl : ad213 = ad215 := (by injection e215)
          replace hx215_0 := cl4 HB hx215_0
          replace hx215_1 := cl4 HB hx215_1
          replace hx215_2 := cl4 HB hx215_2
          replace hx215_3 := cl4 HB hx215_3
          replace hx215_4 := cl4 HB hx215_4
          replace hx215_5 := cl4 HB hx215_5
          replace hx215_6 := cl4 HB hx215_6
          replace hx215_7 := cl4 HB hx215_7
          replace hx215_8 := cl4 HB hx215_8
          replace p215 := eq_true p215
          replace q215 := eq_true q215
          try go_wp2
          have n0_ := Am (be HB.out)
          clear HB
          have HB := n0_
          clear n0_
          have p216 : 0 ≤ (x5_1 : Int) := of_decide_eq_true (by assumption)
          have q216 : x5_1 < (l0.length : Int) := of_decide_eq_true (by assumption)
          obtain ⟨ad216, e216, hx216_0, hx216_1, hx216_2, hx216_3, hx216_4, hx216_5, hx216_6, hx216_7, hx216_8⟩ := at_T33 HR0.out x5_1 p216 q216
          have hw216_8 := hx216_8
          have hw216_7 := hx216_7
          have hw216_6 := hx216_6
          have hw216_5 := hx216_5
          have hw216_4 := hx216_4
          have hw216_3 := hx216_3
          have hw216_2 := hx216_2
          have hw216_1 := hx216_1
          have hw216_0 := hx216_0
          obtain rfl : ad213 = ad216 := (by injection e216)
          replace hx216_0 := cl4 HB hx216_0
          replace hx216_1 := cl4 HB hx216_1
          replace hx216_2 := cl4 HB hx216_2
          replace hx216_3 := cl4 HB hx216_3
          replace hx216_4 := cl4 HB hx216_4
          replace hx216_5 := cl4 HB hx216_5
          replace hx216_6 := cl4 HB hx216_6
          replace hx216_7 := cl4 HB hx216_7
          replace hx216_8 := cl4 HB hx216_8
          replace p216 := eq_true p216
          replace q216 := eq_true q216
          refine start_ (n := 9) (S := fun w' => w'.cell? (ad213.add ((x5_1).toNat * 9)) = some (.int .i64 ((rd_T33 l0 x5_1).f0)) ∧ w'.cell? ⟨(ad213.add ((x5_1).toNat * 9)).block, (ad213.add ((x5_1).toNat * 9)).off + 1, none⟩ = some (.int .i64 ((rd_T33 l0 x5_1).f1)) ∧ w'.cell? ⟨(ad213.add ((x5_1).toNat * 9)).block, (ad213.add ((x5_1).toNat * 9)).off + 2, none⟩ = some (.int .i64 ((rd_T33 l0 x5_1).f2.f0)) ∧ w'.cell? ⟨(ad213.add ((x5_1).toNat * 9)).block, (ad213.add ((x5_1).toNat * 9)).off + 3, none⟩ = some (.string ((rd_T33 l0 x5_1).f2.f1)) ∧ w'.cell? ⟨(ad213.add ((x5_1).toNat * 9)).block, (ad213.add ((x5_1).toNat * 9)).off + 4, none⟩ = some (.string ((rd_T33 l0 x5_1).f2.f2)) ∧ w'.cell? ⟨(ad213.add ((x5_1).toNat * 9)).block, (ad213.add ((x5_1).toNat * 9)).off + 5, none⟩ = some (.int .i64 ((rd_T33 l0 x5_1).f2.f3)) ∧ w'.cell? ⟨(ad213.add ((x5_1).toNat * 9)).block, (ad213.add ((x5_1).toNat * 9)).off + 6, none⟩ = some (.int .i64 ((rd_T33 l0 x5_1).f2.f4)) ∧ w'.cell? ⟨(ad213.add ((x5_1).toNat * 9)).block, (ad213.add ((x5_1).toNat * 9)).off + 7, none⟩ = some (.string ((rd_T33 l0 x5_1).f2.f5)) ∧ w'.cell? ⟨(ad213.add ((x5_1).toNat * 9)).block, (ad213.add ((x5_1).toNat * 9)).off + 8, none⟩ = some (.int .i64 ((rd_T33 l0 x5_1).f3))) (ds := []) #[false, false, false, false, false, false, false, false, false] (by kernel_rfl) rfl rfl ⟨(cl4 HB hw216_0), (cl4 HB hw216_1), (cl4 HB hw216_2), (cl4 HB hw216_3), (cl4 HB hw216_4), (cl4 HB hw216_5), (cl4 HB hw216_6), (cl4 HB hw216_7), (cl4 HB hw216_8)⟩ (fun hHeld => ?_); refine with_tabW laws_heldActS.tab13 laws_heldActS.bits13 (fun HT_ HW_ => ?_)
          generalize wr.drew = w43 at HB hx216_0 hx216_1 hx216_2 hx216_3 hx216_4 hx216_5 hx216_6 hx216_7 hx216_8 hHeld ⊢
          refine pure_ (i := 0) (N := some 40) (v := ?_) (a' := ?_) #[true, false, false, false, false, false, false, false, false] rfl rfl (any_of HT_.out (by kernel_rfl)) (fun _ _ _ h => h) (Or.inl ⟨by rfl, ?_⟩) ?_ ?_
          rotate_left
          ·intro w'
           go_simp
           with_reducible rfl
          rotate_left
          ·simp only [Act.put, List.setIfInBounds_toArray, List.set_cons_zero, List.set_cons_succ, i64_w, i32_w]
           rfl
          refine pure_ (i := 1) (N := some 41) (v := ?_) (a' := ?_) #[true, true, false, false, false, false, false, false, false] rfl rfl (any_of HT_.out (by kernel_rfl)) (fun _ _ _ h => h) (Or.inl ⟨by rfl, ?_⟩) ?_ ?_
          rotate_left
          ·intro w'
           go_simp
           with_reducible rfl
          rotate_left
          ·simp only [Act.put, List.setIfInBounds_toArray, List.set_cons_zero, List.set_cons_succ, i64_w, i32_w]
           rfl
          refine pure_ (i := 2) (N := some 42) (v := ?_) (a' := ?_) #[true, true, true, false, false, false, false, false, false] rfl rfl (any_of HT_.out (by kernel_rfl)) (fun _ _ _ h => h) (Or.inl ⟨by rfl, ?_⟩) ?_ ?_
          rotate_left
          ·intro w'
           go_simp
           with_reducible rfl
          rotate_left
          ·simp only [Act.put, List.setIfInBounds_toArray, List.set_cons_zero, List.set_cons_succ, i64_w, i32_w]
           rfl
          refine pure_ (i := 3) (N := some 43) (v := ?_) (a' := ?_) #[true, true, true, true, false, false, false, false, false] rfl rfl (any_of HT_.out (by kernel_rfl)) (fun _ _ _ h => h) (Or.inl ⟨by rfl, ?_⟩) ?_ ?_
          rotate_left
          ·intro w'
           go_simp
           with_reducible rfl
          rotate_left
          ·simp only [Act.put, List.setIfInBounds_toArray, List.set_cons_zero, List.set_cons_succ, i64_w, i32_w]
           rfl
          refine pure_ (i := 4) (N := some 44) (v := ?_) (a' := ?_) #[true, true, true, true, true, false, false, false, false] rfl rfl (any_of HT_.out (by kernel_rfl)) (fun _ _ _ h => h) (Or.inl ⟨by rfl, ?_⟩) ?_ ?_
          rotate_left
          ·intro w'
           go_simp
           with_reducible rfl
          rotate_left
          ·simp only [Act.put, List.setIfInBounds_toArray, List.set_cons_zero, List.set_cons_succ, i64_w, i32_w]
           rfl
          refine pure_ (i := 6) (N := some 46) (v := ?_) (a' := ?_) #[true, true, true, true, true, false, true, false, false] rfl rfl (any_of HT_.out (by kernel_rfl)) (fun _ _ _ h => h) (Or.inl ⟨by rfl, ?_⟩) ?_ ?_
          rotate_left
          ·intro w'
           go_simp
           with_reducible rfl
          rotate_left
          ·simp only [Act.put, List.setIfInBounds_toArray, List.set_cons_zero, List.set_cons_succ, i64_w, i32_w]
           rfl
          refine take_ (i := 5) (N := some 45) (v := ?_) (a' := ?_) #[true, true, true, true, true, true, true, false, false] rfl rfl (take_ofW HT_.out HW_.out (by kernel_rfl)) (fun _ _ _ h => h) (Or.inl ⟨by rfl, ?_⟩) hHeld ?_ ?_
          rotate_left
          ·rintro w' ⟨s0, s1, s2, s3, s4, s5, s6, s7, s8⟩
           go_simp
           with_reducible rfl
          rotate_left
          ·simp only [Act.put, List.setIfInBounds_toArray, List.set_cons_zero, List.set_cons_succ, i64_w, i32_w]
           rfl
          refine one_ (i := 7) (N := some 47) #[true, true, true, true, true, true, true, true, false] rfl rfl (one_of HT_.out (by kernel_rfl)) (by decide) (fun K hK => ?_)
          refine goes_ Try.func76 (by kernel_rfl) rfl #[.int .i64 (wrap64 ((wrap64 ((wrap64 (x1_1 + 1)) + 1)) + 1))] (by rfl) rfl rfl (by (try simp only [List.map_toArray, List.map_cons, List.map_nil]); first | done | rfl | (simp only [List.length_drop, List.length_take]; rfl)) ?_
          with_reducible refine (laws_markText.calls k1 (wrap64 ((wrap64 ((wrap64 (x1_1 + 1)) + 1)) + 1)) t217 _ A8.out).mono ?_
          rintro e w44 ⟨rfl, hb⟩
          refine ⟨_, rfl, ?_⟩
          have n0_ := Am (bt (by repeat (first | (with_reducible first | exact HB.out | apply ba | apply bn | apply be) | exact HB.out)) hb)
          clear HB
          have HB := n0_
          clear n0_
          (try clear hb)
          (try clear hb2)
          (try clear hk)
          (try clear hi)
          refine hK.out _ _ ⟨(cl4 HB hw216_0), (cl4 HB hw216_1), (cl4 HB hw216_2), (cl4 HB hw216_3), (cl4 HB hw216_4), (cl4 HB hw216_5), (cl4 HB hw216_6), (cl4 HB hw216_7), (cl4 HB hw216_8)⟩ (fun hHeld => ?_)
          clear hK K
          refine norm_ (a' := ?_) ?_ ?_
          rotate_left
          ·show Act.put _ (some 47) _ = _
           simp only [Act.put, List.setIfInBounds_toArray, List.set_cons_zero, List.set_cons_succ, i64_w, i32_w]
           rfl
          refine pure_ (i := 8) (N := some 48) (v := ?_) (a' := ?_) #[true, true, true, true, true, true, true, true, true] rfl rfl (any_of HT_.out (by kernel_rfl)) (fun _ _ _ h => h) (Or.inl ⟨by rfl, ?_⟩) ?_ ?_
          rotate_left
          ·intro w'
           go_simp
           with_reducible rfl
          rotate_left
          ·simp only [Act.put, List.setIfInBounds_toArray, List.set_cons_zero, List.set_cons_succ, i64_w, i32_w]
           rfl
          refine done_ (done_of HT_.out (by kernel_rfl)) ?_
          try go_wp2
          have n0_ := Am (be HB.out)
          clear HB
          have HB := n0_
          clear n0_
          have p218 : 0 ≤ (x5_1 : Int) := of_decide_eq_true (by assumption)
          have q218 : x5_1 < (l0.length : Int) := of_decide_eq_true (by assumption)
          obtain ⟨ad218, e218, hx218_0, hx218_1, hx218_2, hx218_3, hx218_4, hx218_5, hx218_6, hx218_7, hx218_8⟩ := at_T33 HR0.out x5_1 p218 q218
          have hw218_8 := hx218_8
          have hw218_7 := hx218_7
          have hw218_6 := hx218_6
          have hw218_5 := hx218_5
          have hw218_4 := hx218_4
          have hw218_3 := hx218_3
          have hw218_2 := hx218_2
          have hw218_1 := hx218_1
          have hw218_0 := hx218_0
          obtain rfl : ad213 = ad218 := (by injection e218)
          replace hx218_0 := cl4 HB hx218_0
          replace hx218_1 := cl4 HB hx218_1
          replace hx218_2 := cl4 HB hx218_2
          replace hx218_3 := cl4 HB hx218_3
          replace hx218_4 := cl4 HB hx218_4
          replace hx218_5 := cl4 HB hx218_5
          replace hx218_6 := cl4 HB hx218_6
          replace hx218_7 := cl4 HB hx218_7
          replace hx218_8 := cl4 HB hx218_8
          replace p218 := eq_true p218
          replace q218 := eq_true q218
          refine start_ (n := 9) (S := fun w' => w'.cell? (ad213.add ((x5_1).toNat * 9)) = some (.int .i64 ((rd_T33 l0 x5_1).f0)) ∧ w'.cell? ⟨(ad213.add ((x5_1).toNat * 9)).block, (ad213.add ((x5_1).toNat * 9)).off + 1, none⟩ = some (.int .i64 ((rd_T33 l0 x5_1).f1)) ∧ w'.cell? ⟨(ad213.add ((x5_1).toNat * 9)).block, (ad213.add ((x5_1).toNat * 9)).off + 2, none⟩ = some (.int .i64 ((rd_T33 l0 x5_1).f2.f0)) ∧ w'.cell? ⟨(ad213.add ((x5_1).toNat * 9)).block, (ad213.add ((x5_1).toNat * 9)).off + 3, none⟩ = some (.string ((rd_T33 l0 x5_1).f2.f1)) ∧ w'.cell? ⟨(ad213.add ((x5_1).toNat * 9)).block, (ad213.add ((x5_1).toNat * 9)).off + 4, none⟩ = some (.string ((rd_T33 l0 x5_1).f2.f2)) ∧ w'.cell? ⟨(ad213.add ((x5_1).toNat * 9)).block, (ad213.add ((x5_1).toNat * 9)).off + 5, none⟩ = some (.int .i64 ((rd_T33 l0 x5_1).f2.f3)) ∧ w'.cell? ⟨(ad213.add ((x5_1).toNat * 9)).block, (ad213.add ((x5_1).toNat * 9)).off + 6, none⟩ = some (.int .i64 ((rd_T33 l0 x5_1).f2.f4)) ∧ w'.cell? ⟨(ad213.add ((x5_1).toNat * 9)).block, (ad213.add ((x5_1).toNat * 9)).off + 7, none⟩ = some (.string ((rd_T33 l0 x5_1).f2.f5)) ∧ w'.cell? ⟨(ad213.add ((x5_1).toNat * 9)).block, (ad213.add ((x5_1).toNat * 9)).off + 8, none⟩ = some (.int .i64 ((rd_T33 l0 x5_1).f3))) (ds := []) #[false, false, false, false, false, false, false, false, false] (by kernel_rfl) rfl rfl ⟨(cl4 HB hw218_0), (cl4 HB hw218_1), (cl4 HB hw218_2), (cl4 HB hw218_3), (cl4 HB hw218_4), (cl4 HB hw218_5), (cl4 HB hw218_6), (cl4 HB hw218_7), (cl4 HB hw218_8)⟩ (fun hHeld => ?_); refine with_tabW laws_heldActS.tab16 laws_heldActS.bits16 (fun HT_ HW_ => ?_)
          generalize w44.drew = w45 at HB hx218_0 hx218_1 hx218_2 hx218_3 hx218_4 hx218_5 hx218_6 hx218_7 hx218_8 hHeld ⊢
          refine pure_ (i := 0) (N := some 51) (v := ?_) (a' := ?_) #[true, false, false, false, false, false, false, false, false] rfl rfl (any_of HT_.out (by kernel_rfl)) (fun _ _ _ h => h) (Or.inl ⟨by rfl, ?_⟩) ?_ ?_
          rotate_left
          ·intro w'
           go_simp
           with_reducible rfl
          rotate_left
          ·simp only [Act.put, List.setIfInBounds_toArray, List.set_cons_zero, List.set_cons_succ, i64_w, i32_w]
           rfl
          refine pure_ (i := 1) (N := some 52) (v := ?_) (a' := ?_) #[true, true, false, false, false, false, false, false, false] rfl rfl (any_of HT_.out (by kernel_rfl)) (fun _ _ _ h => h) (Or.inl ⟨by rfl, ?_⟩) ?_ ?_
          rotate_left
          ·intro w'
           go_simp
           with_reducible rfl
          rotate_left
          ·simp only [Act.put, List.setIfInBounds_toArray, List.set_cons_zero, List.set_cons_succ, i64_w, i32_w]
           rfl
          refine pure_ (i := 2) (N := some 53) (v := ?_) (a' := ?_) #[true, true, true, false, false, false, false, false, false] rfl rfl (any_of HT_.out (by kernel_rfl)) (fun _ _ _ h => h) (Or.inl ⟨by rfl, ?_⟩) ?_ ?_
          rotate_left
          ·intro w'
           go_simp
           with_reducible rfl
          rotate_left
          ·simp only [Act.put, List.setIfInBounds_toArray, List.set_cons_zero, List.set_cons_succ, i64_w, i32_w]
           rfl
          refine pure_ (i := 3) (N := some 54) (v := ?_) (a' := ?_) #[true, true, true, true, false, false, false, false, false] rfl rfl (any_of HT_.out (by kernel_rfl)) (fun _ _ _ h => h) (Or.inl ⟨by rfl, ?_⟩) ?_ ?_
          rotate_left
          ·intro w'
           go_simp
           with_reducible rfl
          rotate_left
          ·simp only [Act.put, List.setIfInBounds_toArray, List.set_cons_zero, List.set_cons_succ, i64_w, i32_w]
           rfl
          refine pure_ (i := 4) (N := some 55) (v := ?_) (a' := ?_) #[true, true, true, true, true, false, false, false, false] rfl rfl (any_of HT_.out (by kernel_rfl)) (fun _ _ _ h => h) (Or.inl ⟨by rfl, ?_⟩) ?_ ?_
          rotate_left
          ·intro w'
           go_simp
           with_reducible rfl
          rotate_left
          ·simp only [Act.put, List.setIfInBounds_toArray, List.set_cons_zero, List.set_cons_succ, i64_w, i32_w]
           rfl
          refine pure_ (i := 6) (N := some 57) (v := ?_) (a' := ?_) #[true, true, true, true, true, false, true, false, false] rfl rfl (any_of HT_.out (by kernel_rfl)) (fun _ _ _ h => h) (Or.inl ⟨by rfl, ?_⟩) ?_ ?_
          rotate_left
          ·intro w'
           go_simp
           with_reducible rfl
          rotate_left
          ·simp only [Act.put, List.setIfInBounds_toArray, List.set_cons_zero, List.set_cons_succ, i64_w, i32_w]
           rfl
          refine take_ (i := 5) (N := some 56) (v := ?_) (a' := ?_) #[true, true, true, true, true, true, true, false, false] rfl rfl (take_ofW HT_.out HW_.out (by kernel_rfl)) (fun _ _ _ h => h) (Or.inl ⟨by rfl, ?_⟩) hHeld ?_ ?_
          rotate_left
          ·rintro w' ⟨s0, s1, s2, s3, s4, s5, s6, s7, s8⟩
           go_simp
           with_reducible rfl
          rotate_left
          ·simp only [Act.put, List.setIfInBounds_toArray, List.set_cons_zero, List.set_cons_succ, i64_w, i32_w]
           rfl
          refine one_ (i := 7) (N := some 58) #[true, true, true, true, true, true, true, true, false] rfl rfl (one_of HT_.out (by kernel_rfl)) (by decide) (fun K hK => ?_)
          refine goes_ Try.func76 (by kernel_rfl) rfl #[.int .i64 (wrap64 ((wrap64 ((wrap64 ((wrap64 (x1_1 + 1)) + 1)) + 1)) + 1))] (by rfl) rfl rfl (by (try simp only [List.map_toArray, List.map_cons, List.map_nil]); first | done | rfl | (simp only [List.length_drop, List.length_take]; rfl)) ?_
          with_reducible refine (laws_markText.calls k1 (wrap64 ((wrap64 ((wrap64 ((wrap64 (x1_1 + 1)) + 1)) + 1)) + 1)) t219 _ A10.out).mono ?_
          rintro e w46 ⟨rfl, hb⟩
          refine ⟨_, rfl, ?_⟩
          have n0_ := Am (bt (by repeat (first | (with_reducible first | exact HB.out | apply ba | apply bn | apply be) | exact HB.out)) hb)
          clear HB
          have HB := n0_
          clear n0_
          (try clear hb)
          (try clear hb2)
          (try clear hk)
          (try clear hi)
          refine hK.out _ _ ⟨(cl4 HB hw218_0), (cl4 HB hw218_1), (cl4 HB hw218_2), (cl4 HB hw218_3), (cl4 HB hw218_4), (cl4 HB hw218_5), (cl4 HB hw218_6), (cl4 HB hw218_7), (cl4 HB hw218_8)⟩ (fun hHeld => ?_)
          clear hK K
          refine norm_ (a' := ?_) ?_ ?_
          rotate_left
          ·show Act.put _ (some 58) _ = _
           simp only [Act.put, List.setIfInBounds_toArray, List.set_cons_zero, List.set_cons_succ, i64_w, i32_w]
           rfl
          refine pure_ (i := 8) (N := some 59) (v := ?_) (a' := ?_) #[true, true, true, true, true, true, true, true, true] rfl rfl (any_of HT_.out (by kernel_rfl)) (fun _ _ _ h => h) (Or.inl ⟨by rfl, ?_⟩) ?_ ?_
          rotate_left
          ·intro w'
           go_simp
           with_reducible rfl
          rotate_left
          ·simp only [Act.put, List.setIfInBounds_toArray, List.set_cons_zero, List.set_cons_succ, i64_w, i32_w]
           rfl
          refine done_ (done_of HT_.out (by kernel_rfl)) ?_
          try go_wp2
          go_ret
          exact ⟨by first | rfl | (simp [errW_none, errW_some] <;> rfl) | (simp [*, errW_none, errW_some] <;> rfl), by repeat (first | (with_reducible first | apply ba | apply bn | apply be) | exact HB.out)⟩
        ·rw [if_neg c9] at H
         have c9b0 : (((rd_T33 l0 x5_1).f2.f1).toList == t217.toList) = false := beq_eq_false_iff_ne.mpr c9
         have c9b1 : (((rd_T33 l0 x5_1).f2.f1).toList != t217.toList) = true := bne_iff_ne.mpr c9
         obtain rfl := Option.some.inj H
         have p213 : 0 ≤ (x5_1 : Int) := of_decide_eq_true (by assumption)
         have q213 : x5_1 < (l0.length : Int) := of_decide_eq_true (by assumption)
         obtain ⟨ad213, e213, hx213_0, hx213_1, hx213_2, hx213_3, hx213_4, hx213_5, hx213_6, hx213_7, hx213_8⟩ := at_T33 HR0.out x5_1 p213 q213
         cases e213
         replace hx213_0 := cl4 HB hx213_0
         replace hx213_1 := cl4 HB hx213_1
         replace hx213_2 := cl4 HB hx213_2
         replace hx213_3 := cl4 HB hx213_3
         replace hx213_4 := cl4 HB hx213_4
         replace hx213_5 := cl4 HB hx213_5
         replace hx213_6 := cl4 HB hx213_6
         replace hx213_7 := cl4 HB hx213_7
         replace hx213_8 := cl4 HB hx213_8
         replace p213 := eq_true p213
         replace q213 := eq_true q213
         have p214 : 0 ≤ (x5_1 : Int) := of_decide_eq_true (by assumption)
         have q214 : x5_1 < (l0.length : Int) := of_decide_eq_true (by assumption)
         obtain ⟨ad214, e214, hx214_0, hx214_1, hx214_2, hx214_3, hx214_4, hx214_5, hx214_6, hx214_7, hx214_8⟩ := at_T33 HR0.out x5_1 p214 q214
         obtain rfl : ad213 = ad214 := (by injection e214)
         replace hx214_0 := cl4 HB hx214_0
         replace hx214_1 := cl4 HB hx214_1
         replace hx214_2 := cl4 HB hx214_2
         replace hx214_3 := cl4 HB hx214_3
         replace hx214_4 := cl4 HB hx214_4
         replace hx214_5 := cl4 HB hx214_5
         replace hx214_6 := cl4 HB hx214_6
         replace hx214_7 := cl4 HB hx214_7
         replace hx214_8 := cl4 HB hx214_8
         replace p214 := eq_true p214
         replace q214 := eq_true q214
         have p215 : 0 ≤ (x5_1 : Int) := of_decide_eq_true (by assumption)
         have q215 : x5_1 < (l0.length : Int) := of_decide_eq_true (by assumption)
         obtain ⟨ad215, e215, hx215_0, hx215_1, hx215_2, hx215_3, hx215_4, hx215_5, hx215_6, hx215_7, hx215_8⟩ := at_T33 HR0.out x5_1 p215 q215
         obtain rfl : ad213 = ad215 := (by injection e215)
         replace hx215_0 := cl4 HB hx215_0
         replace hx215_1 := cl4 HB hx215_1
         replace hx215_2 := cl4 HB hx215_2
         replace hx215_3 := cl4 HB hx215_3
         replace hx215_4 := cl4 HB hx215_4
         replace hx215_5 := cl4 HB hx215_5
         replace hx215_6 := cl4 HB hx215_6
         replace hx215_7 := cl4 HB hx215_7
         replace hx215_8 := cl4 HB hx215_8
         replace p215 := eq_true p215
         replace q215 := eq_true q215
         try go_wp2
         have n0_ := Am (be HB.out)
         clear HB
         have HB := n0_
         clear n0_
         have p216 : 0 ≤ (x5_1 : Int) := of_decide_eq_true (by assumption)
         have q216 : x5_1 < (l0.length : Int) := of_decide_eq_true (by assumption)
         obtain ⟨ad216, e216, hx216_0, hx216_1, hx216_2, hx216_3, hx216_4, hx216_5, hx216_6, hx216_7, hx216_8⟩ := at_T33 HR0.out x5_1 p216 q216
         have hw216_8 := hx216_8
         have hw216_7 := hx216_7
         have hw216_6 := hx216_6
         have hw216_5 := hx216_5
         have hw216_4 := hx216_4
         have hw216_3 := hx216_3
         have hw216_2 := hx216_2
         have hw216_1 := hx216_1
         have hw216_0 := hx216_0
         obtain rfl : ad213 = ad216 := (by injection e216)
         replace hx216_0 := cl4 HB hx216_0
         replace hx216_1 := cl4 HB hx216_1
         replace hx216_2 := cl4 HB hx216_2
         replace hx216_3 := cl4 HB hx216_3
         replace hx216_4 := cl4 HB hx216_4
         replace hx216_5 := cl4 HB hx216_5
         replace hx216_6 := cl4 HB hx216_6
         replace hx216_7 := cl4 HB hx216_7
         replace hx216_8 := cl4 HB hx216_8
         replace p216 := eq_true p216
         replace q216 := eq_true q216
         refine start_ (n := 9) (S := fun w' => w'.cell? (ad213.add ((x5_1).toNat * 9)) = some (.int .i64 ((rd_T33 l0 x5_1).f0)) ∧ w'.cell? ⟨(ad213.add ((x5_1).toNat * 9)).block, (ad213.add ((x5_1).toNat * 9)).off + 1, none⟩ = some (.int .i64 ((rd_T33 l0 x5_1).f1)) ∧ w'.cell? ⟨(ad213.add ((x5_1).toNat * 9)).block, (ad213.add ((x5_1).toNat * 9)).off + 2, none⟩ = some (.int .i64 ((rd_T33 l0 x5_1).f2.f0)) ∧ w'.cell? ⟨(ad213.add ((x5_1).toNat * 9)).block, (ad213.add ((x5_1).toNat * 9)).off + 3, none⟩ = some (.string ((rd_T33 l0 x5_1).f2.f1)) ∧ w'.cell? ⟨(ad213.add ((x5_1).toNat * 9)).block, (ad213.add ((x5_1).toNat * 9)).off + 4, none⟩ = some (.string ((rd_T33 l0 x5_1).f2.f2)) ∧ w'.cell? ⟨(ad213.add ((x5_1).toNat * 9)).block, (ad213.add ((x5_1).toNat * 9)).off + 5, none⟩ = some (.int .i64 ((rd_T33 l0 x5_1).f2.f3)) ∧ w'.cell? ⟨(ad213.add ((x5_1).toNat * 9)).block, (ad213.add ((x5_1).toNat * 9)).off + 6, none⟩ = some (.int .i64 ((rd_T33 l0 x5_1).f2.f4)) ∧ w'.cell? ⟨(ad213.add ((x5_1).toNat * 9)).block, (ad213.add ((x5_1).toNat * 9)).off + 7, none⟩ = some (.string ((rd_T33 l0 x5_1).f2.f5)) ∧ w'.cell? ⟨(ad213.add ((x5_1).toNat * 9)).block, (ad213.add ((x5_1).toNat * 9)).off + 8, none⟩ = some (.int .i64 ((rd_T33 l0 x5_1).f3))) (ds := []) #[false, false, false, false, false, false, false, false, false] (by kernel_rfl) rfl rfl ⟨(cl4 HB hw216_0), (cl4 HB hw216_1), (cl4 HB hw216_2), (cl4 HB hw216_3), (cl4 HB hw216_4), (cl4 HB hw216_5), (cl4 HB hw216_6), (cl4 HB hw216_7), (cl4 HB hw216_8)⟩ (fun hHeld => ?_); refine with_tabW laws_heldActS.tab13 laws_heldActS.bits13 (fun HT_ HW_ => ?_)
         generalize wr.drew = w47 at HB hx216_0 hx216_1 hx216_2 hx216_3 hx216_4 hx216_5 hx216_6 hx216_7 hx216_8 hHeld ⊢
         refine pure_ (i := 0) (N := some 40) (v := ?_) (a' := ?_) #[true, false, false, false, false, false, false, false, false] rfl rfl (any_of HT_.out (by kernel_rfl)) (fun _ _ _ h => h) (Or.inl ⟨by rfl, ?_⟩) ?_ ?_
         rotate_left
         ·intro w'
          go_simp
          with_reducible rfl
         rotate_left
         ·simp only [Act.put, List.setIfInBounds_toArray, List.set_cons_zero, List.set_cons_succ, i64_w, i32_w]
          rfl
         refine pure_ (i := 1) (N := some 41) (v := ?_) (a' := ?_) #[true, true, false, false, false, false, false, false, false] rfl rfl (any_of HT_.out (by kernel_rfl)) (fun _ _ _ h => h) (Or.inl ⟨by rfl, ?_⟩) ?_ ?_
         rotate_left
         ·intro w'
          go_simp
          with_reducible rfl
         rotate_left
         ·simp only [Act.put, List.setIfInBounds_toArray, List.set_cons_zero, List.set_cons_succ, i64_w, i32_w]
          rfl
         refine pure_ (i := 2) (N := some 42) (v := ?_) (a' := ?_) #[true, true, true, false, false, false, false, false, false] rfl rfl (any_of HT_.out (by kernel_rfl)) (fun _ _ _ h => h) (Or.inl ⟨by rfl, ?_⟩) ?_ ?_
         rotate_left
         ·intro w'
          go_simp
          with_reducible rfl
         rotate_left
         ·simp only [Act.put, List.setIfInBounds_toArray, List.set_cons_zero, List.set_cons_succ, i64_w, i32_w]
          rfl
         refine pure_ (i := 3) (N := some 43) (v := ?_) (a' := ?_) #[true, true, true, true, false, false, false, false, false] rfl rfl (any_of HT_.out (by kernel_rfl)) (fun _ _ _ h => h) (Or.inl ⟨by rfl, ?_⟩) ?_ ?_
         rotate_left
         ·intro w'
          go_simp
          with_reducible rfl
         rotate_left
         ·simp only [Act.put, List.setIfInBounds_toArray, List.set_cons_zero, List.set_cons_succ, i64_w, i32_w]
          rfl
         refine pure_ (i := 4) (N := some 44) (v := ?_) (a' := ?_) #[true, true, true, true, true, false, false, false, false] rfl rfl (any_of HT_.out (by kernel_rfl)) (fun _ _ _ h => h) (Or.inl ⟨by rfl, ?_⟩) ?_ ?_
         rotate_left
         ·intro w'
          go_simp
          with_reducible rfl
         rotate_left
         ·simp only [Act.put, List.setIfInBounds_toArray, List.set_cons_zero, List.set_cons_succ, i64_w, i32_w]
          rfl
         refine pure_ (i := 6) (N := some 46) (v := ?_) (a' := ?_) #[true, true, true, true, true, false, true, false, false] rfl rfl (any_of HT_.out (by kernel_rfl)) (fun _ _ _ h => h) (Or.inl ⟨by rfl, ?_⟩) ?_ ?_
         rotate_left
         ·intro w'
          go_simp
          with_reducible rfl
         rotate_left
         ·simp only [Act.put, List.setIfInBounds_toArray, List.set_cons_zero, List.set_cons_succ, i64_w, i32_w]
          rfl
         refine take_ (i := 5) (N := some 45) (v := ?_) (a' := ?_) #[true, true, true, true, true, true, true, false, false] rfl rfl (take_ofW HT_.out HW_.out (by kernel_rfl)) (fun _ _ _ h => h) (Or.inl ⟨by rfl, ?_⟩) hHeld ?_ ?_
         rotate_left
         ·rintro w' ⟨s0, s1, s2, s3, s4, s5, s6, s7, s8⟩
          go_simp
          with_reducible rfl
         rotate_left
         ·simp only [Act.put, List.setIfInBounds_toArray, List.set_cons_zero, List.set_cons_succ, i64_w, i32_w]
          rfl
         refine one_ (i := 7) (N := some 47) #[true, true, true, true, true, true, true, true, false] rfl rfl (one_of HT_.out (by kernel_rfl)) (by decide) (fun K hK => ?_)
         refine goes_ Try.func76 (by kernel_rfl) rfl #[.int .i64 (wrap64 ((wrap64 ((wrap64 (x1_1 + 1)) + 1)) + 1))] (by rfl) rfl rfl (by (try simp only [List.map_toArray, List.map_cons, List.map_nil]); first | done | rfl | (simp only [List.length_drop, List.length_take]; rfl)) ?_
         with_reducible refine (laws_markText.calls k1 (wrap64 ((wrap64 ((wrap64 (x1_1 + 1)) + 1)) + 1)) t217 _ A8.out).mono ?_
         rintro e w48 ⟨rfl, hb⟩
         refine ⟨_, rfl, ?_⟩
         have n0_ := Am (bt (by repeat (first | (with_reducible first | exact HB.out | apply ba | apply bn | apply be) | exact HB.out)) hb)
         clear HB
         have HB := n0_
         clear n0_
         (try clear hb)
         (try clear hb2)
         (try clear hk)
         (try clear hi)
         refine hK.out _ _ ⟨(cl4 HB hw216_0), (cl4 HB hw216_1), (cl4 HB hw216_2), (cl4 HB hw216_3), (cl4 HB hw216_4), (cl4 HB hw216_5), (cl4 HB hw216_6), (cl4 HB hw216_7), (cl4 HB hw216_8)⟩ (fun hHeld => ?_)
         clear hK K
         refine norm_ (a' := ?_) ?_ ?_
         rotate_left
         ·show Act.put _ (some 47) _ = _
          simp only [Act.put, List.setIfInBounds_toArray, List.set_cons_zero, List.set_cons_succ, i64_w, i32_w]
          rfl
         refine pure_ (i := 8) (N := some 48) (v := ?_) (a' := ?_) #[true, true, true, true, true, true, true, true, true] rfl rfl (any_of HT_.out (by kernel_rfl)) (fun _ _ _ h => h) (Or.inl ⟨by rfl, ?_⟩) ?_ ?_
         rotate_left
         ·intro w'
          go_simp
          with_reducible rfl
         rotate_left
         ·simp only [Act.put, List.setIfInBounds_toArray, List.set_cons_zero, List.set_cons_succ, i64_w, i32_w]
          rfl
         refine done_ (done_of HT_.out (by kernel_rfl)) ?_
         try go_wp2
         go_ret
         exact ⟨by first | rfl | (simp [errW_none, errW_some] <;> rfl) | (simp [*, errW_none, errW_some] <;> rfl), by repeat (first | (with_reducible first | apply ba | apply bn | apply be) | exact HB.out)⟩
       ·rw [if_neg c7] at H
        have c7b0 : (((rd_T33 l0 x5_1).f2.f0) == (wrap64 ((wrap64 (x1_1 + 1)) + 1))) = false := beq_eq_false_iff_ne.mpr c7
        have c7b1 : (((rd_T33 l0 x5_1).f2.f0) != (wrap64 ((wrap64 (x1_1 + 1)) + 1))) = true := bne_iff_ne.mpr c7
        obtain rfl := Option.some.inj H
        have p213 : 0 ≤ (x5_1 : Int) := of_decide_eq_true (by assumption)
        have q213 : x5_1 < (l0.length : Int) := of_decide_eq_true (by assumption)
        obtain ⟨ad213, e213, hx213_0, hx213_1, hx213_2, hx213_3, hx213_4, hx213_5, hx213_6, hx213_7, hx213_8⟩ := at_T33 HR0.out x5_1 p213 q213
        cases e213
        replace hx213_0 := cl4 HB hx213_0
        replace hx213_1 := cl4 HB hx213_1
        replace hx213_2 := cl4 HB hx213_2
        replace hx213_3 := cl4 HB hx213_3
        replace hx213_4 := cl4 HB hx213_4
        replace hx213_5 := cl4 HB hx213_5
        replace hx213_6 := cl4 HB hx213_6
        replace hx213_7 := cl4 HB hx213_7
        replace hx213_8 := cl4 HB hx213_8
        replace p213 := eq_true p213
        replace q213 := eq_true q213
        have p214 : 0 ≤ (x5_1 : Int) := of_decide_eq_true (by assumption)
        have q214 : x5_1 < (l0.length : Int) := of_decide_eq_true (by assumption)
        obtain ⟨ad214, e214, hx214_0, hx214_1, hx214_2, hx214_3, hx214_4, hx214_5, hx214_6, hx214_7, hx214_8⟩ := at_T33 HR0.out x5_1 p214 q214
        obtain rfl : ad213 = ad214 := (by injection e214)
        replace hx214_0 := cl4 HB hx214_0
        replace hx214_1 := cl4 HB hx214_1
        replace hx214_2 := cl4 HB hx214_2
        replace hx214_3 := cl4 HB hx214_3
        replace hx214_4 := cl4 HB hx214_4
        replace hx214_5 := cl4 HB hx214_5
        replace hx214_6 := cl4 HB hx214_6
        replace hx214_7 := cl4 HB hx214_7
        replace hx214_8 := cl4 HB hx214_8
        replace p214 := eq_true p214
        replace q214 := eq_true q214
        have p215 : 0 ≤ (x5_1 : Int) := of_decide_eq_true (by assumption)
        have q215 : x5_1 < (l0.length : Int) := of_decide_eq_true (by assumption)
        obtain ⟨ad215, e215, hx215_0, hx215_1, hx215_2, hx215_3, hx215_4, hx215_5, hx215_6, hx215_7, hx215_8⟩ := at_T33 HR0.out x5_1 p215 q215
        obtain rfl : ad213 = ad215 := (by injection e215)
        replace hx215_0 := cl4 HB hx215_0
        replace hx215_1 := cl4 HB hx215_1
        replace hx215_2 := cl4 HB hx215_2
        replace hx215_3 := cl4 HB hx215_3
        replace hx215_4 := cl4 HB hx215_4
        replace hx215_5 := cl4 HB hx215_5
        replace hx215_6 := cl4 HB hx215_6
        replace hx215_7 := cl4 HB hx215_7
        replace hx215_8 := cl4 HB hx215_8
        replace p215 := eq_true p215
        replace q215 := eq_true q215
        go_wp2
        go_ret
        exact ⟨by first | rfl | (simp [errW_none, errW_some] <;> rfl) | (simp [*, errW_none, errW_some] <;> rfl), by repeat (first | (with_reducible first | apply ba | apply bn | apply be) | exact HB.out)⟩
      ·rw [if_neg c6] at H
       have c6b0 : (((rd_T33 l0 x5_1).f1) == (wrap64 (x1_1 + 1))) = false := beq_eq_false_iff_ne.mpr c6
       have c6b1 : (((rd_T33 l0 x5_1).f1) != (wrap64 (x1_1 + 1))) = true := bne_iff_ne.mpr c6
       obtain rfl := Option.some.inj H
       have p213 : 0 ≤ (x5_1 : Int) := of_decide_eq_true (by assumption)
       have q213 : x5_1 < (l0.length : Int) := of_decide_eq_true (by assumption)
       obtain ⟨ad213, e213, hx213_0, hx213_1, hx213_2, hx213_3, hx213_4, hx213_5, hx213_6, hx213_7, hx213_8⟩ := at_T33 HR0.out x5_1 p213 q213
       cases e213
       replace hx213_0 := cl4 HB hx213_0
       replace hx213_1 := cl4 HB hx213_1
       replace hx213_2 := cl4 HB hx213_2
       replace hx213_3 := cl4 HB hx213_3
       replace hx213_4 := cl4 HB hx213_4
       replace hx213_5 := cl4 HB hx213_5
       replace hx213_6 := cl4 HB hx213_6
       replace hx213_7 := cl4 HB hx213_7
       replace hx213_8 := cl4 HB hx213_8
       replace p213 := eq_true p213
       replace q213 := eq_true q213
       have p214 : 0 ≤ (x5_1 : Int) := of_decide_eq_true (by assumption)
       have q214 : x5_1 < (l0.length : Int) := of_decide_eq_true (by assumption)
       obtain ⟨ad214, e214, hx214_0, hx214_1, hx214_2, hx214_3, hx214_4, hx214_5, hx214_6, hx214_7, hx214_8⟩ := at_T33 HR0.out x5_1 p214 q214
       obtain rfl : ad213 = ad214 := (by injection e214)
       replace hx214_0 := cl4 HB hx214_0
       replace hx214_1 := cl4 HB hx214_1
       replace hx214_2 := cl4 HB hx214_2
       replace hx214_3 := cl4 HB hx214_3
       replace hx214_4 := cl4 HB hx214_4
       replace hx214_5 := cl4 HB hx214_5
       replace hx214_6 := cl4 HB hx214_6
       replace hx214_7 := cl4 HB hx214_7
       replace hx214_8 := cl4 HB hx214_8
       replace p214 := eq_true p214
       replace q214 := eq_true q214
       go_wp2
       go_ret
       exact ⟨by first | rfl | (simp [errW_none, errW_some] <;> rfl) | (simp [*, errW_none, errW_some] <;> rfl), by repeat (first | (with_reducible first | apply ba | apply bn | apply be) | exact HB.out)⟩
     ·rw [if_neg c5] at H
      have c5b0 : (((rd_T33 l0 x5_1).f0) == x1_1) = false := beq_eq_false_iff_ne.mpr c5
      have c5b1 : (((rd_T33 l0 x5_1).f0) != x1_1) = true := bne_iff_ne.mpr c5
      obtain rfl := Option.some.inj H
      have p213 : 0 ≤ (x5_1 : Int) := of_decide_eq_true (by assumption)
      have q213 : x5_1 < (l0.length : Int) := of_decide_eq_true (by assumption)
      obtain ⟨ad213, e213, hx213_0, hx213_1, hx213_2, hx213_3, hx213_4, hx213_5, hx213_6, hx213_7, hx213_8⟩ := at_T33 HR0.out x5_1 p213 q213
      cases e213
      replace hx213_0 := cl4 HB hx213_0
      replace hx213_1 := cl4 HB hx213_1
      replace hx213_2 := cl4 HB hx213_2
      replace hx213_3 := cl4 HB hx213_3
      replace hx213_4 := cl4 HB hx213_4
      replace hx213_5 := cl4 HB hx213_5
      replace hx213_6 := cl4 HB hx213_6
      replace hx213_7 := cl4 HB hx213_7
      replace hx213_8 := cl4 HB hx213_8
      replace p213 := eq_true p213
      replace q213 := eq_true q213
      go_wp2
      go_ret
      exact ⟨by first | rfl | (simp [errW_none, errW_some] <;> rfl) | (simp [*, errW_none, errW_some] <;> rfl), by repeat (first | (with_reducible first | apply ba | apply bn | apply be) | exact HB.out)⟩
    ·rw [if_neg c4] at H
     exact absurd H (by simp)
   ·rw [if_neg c3] at H
    have c3b0 : decide (x5_1 < (l0.length : Int)) = false := decide_eq_false c3
    clear c3
    obtain rfl := Option.some.inj H
    go_wp2
    go_ret
    exact ⟨by first | rfl | (simp [errW_none, errW_some] <;> rfl) | (simp [*, errW_none, errW_some] <;> rfl), by repeat (first | (with_reducible first | apply ba | apply bn | apply be) | exact HB.out)⟩

end Go.Proofs.Ytklghegofjigoaa.QFnExactWoven
