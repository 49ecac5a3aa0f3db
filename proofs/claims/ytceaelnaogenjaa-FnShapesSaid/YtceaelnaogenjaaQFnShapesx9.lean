/- Go functions as Lean functions, and their contracts. Own text: written by wip/gen/pr.py (a turned copy of the print). -/
import Derived.Test.YtceaelnaogenjaaQFnShapesx0
import Derived.Test.YtceaelnaogenjaaQFnShapesx3
import Derived.Test.YtceaelnaogenjaaQFnShapesx5
import Derived.Test.YtceaelnaogenjaaQFnShapesx6
import Derived.Test.YtceaelnaogenjaaQFnShapesx7
import Derived.Test.YtceaelnaogenjaaQFnShapesx8
namespace Go.Proofs.Ytceaelnaogenjaa.QFnShapes
open Go.RowKit Go.Proofs.YtceaelnaogenjaaW.PrintWords Go.Proofs.YtceaelnaogenjaaW.PrintLast Go.Proofs.YtceaelnaogenjaaW.PrintMore
attribute [local go_sem] max2_int min2_int max_two min_two max_three min_three max_four min_four   -- for this text's walks alone
open Go.Proofs.YtceaelnaogenjaaW.PrintWords renaming below_alloc → ba, pw_below_drewN → bn, below_drew1 → be, below_set → bs, blk_drewN → kn, blk_drew → ke, blk_alloc → ka, blk_below → kb, blk_frozen → kf, blk_cell → kc, below_step → bq, below_size → bz, blk_lt → kl, blk_put → kp
open Go.Proofs.YtceaelnaogenjaaW.PrintWords.Kd renaming R_alloc → ra, R_drewN → rn, R_drew → re, C_alloc → ca, C_drewN → cn, C_drew → ce, R_below → rb, C_below → cb
open Go.Proofs.YtceaelnaogenjaaW.PrintWords.Aside0 renaming mk → Am
set_option linter.unusedVariables false
set_option linter.unusedSimpArgs false

def o9b0 (p0 : Int) (p1 : ByteArray) (p2 : ByteArray) (p3 : Int) (p4 : Int) (p5 : ByteArray) : Obj := .cells #[.int .i64 p0, .string p1, .string p2, .int .i64 p3, .int .i64 p4, .string p5] 32 (0, 0)
def o9b1 (p0 : Int) (p1 : ByteArray) (p2 : ByteArray) (p3 : Int) (p4 : Int) (p5 : ByteArray) : Obj := .cells #[.int .i64 p0, .string p1, .string p2, .int .i64 p3, .int .i64 p4, .string p5] 32 (0, 0)
def o9b3 (p0 : Int) (p1 : ByteArray) (p2 : ByteArray) (p3 : Int) (p4 : Int) (p5 : ByteArray) : Obj := .cells #[.int .i64 p0, .string p1, .string p2, .int .i64 p3, .int .i64 p4, .string p5] 32 (0, 0)
/-! ### laws_FnShapes: function 4 -/
def laws_FnShapes.f (k : Nat) (l0 : List Int) : Option (Bool) := (laws_big.f l0).bind fun t445 => (if t445 = true then (some true) else ((spec_DrawSameShape.f k l0).bind fun bt446 => ((spec_DrawSameActs.f k l0).bind fun bt460 => ((laws_others.f bt446.2.2.2.2.2.1).bind fun t469 => ((spec_DrawMaskRec.f k l0).bind fun t470 => ((impl_MaskRec.f t470).bind fun t471 => ((impl_SameShape.f bt446.1 bt446.2.1 bt446.2.2.1 bt446.2.2.2.1 bt446.2.2.2.2.1 bt446.2.2.2.2.2.1 bt446.2.2.2.2.2.2.1 bt446.2.2.2.2.2.2.2.1 bt446.2.2.2.2.2.2.2.2.1 bt446.2.2.2.2.2.2.2.2.2.1 bt446.2.2.2.2.2.2.2.2.2.2.1 bt446.2.2.2.2.2.2.2.2.2.2.2).bind fun t472 => ((spec_SameShape.f bt446.1 bt446.2.1 bt446.2.2.1 bt446.2.2.2.1 bt446.2.2.2.2.1 bt446.2.2.2.2.2.1 bt446.2.2.2.2.2.2.1 bt446.2.2.2.2.2.2.2.1 bt446.2.2.2.2.2.2.2.2.1 bt446.2.2.2.2.2.2.2.2.2.1 bt446.2.2.2.2.2.2.2.2.2.2.1 bt446.2.2.2.2.2.2.2.2.2.2.2).bind fun t473 => (if (t472 == t473) = true then ((impl_SameShape.f bt446.1 bt446.2.1 bt446.2.2.1 bt446.2.2.2.1 bt446.2.2.2.2.1 bt446.2.2.2.2.2.1 bt446.1 bt446.2.1 bt446.2.2.1 (wrap64 (bt446.2.2.2.1 + 1)) bt446.2.2.2.2.1 bt446.2.2.2.2.2.1).bind fun t474 => (if t474 = true then (none) else ((impl_SameShape.f bt446.1 bt446.2.1 bt446.2.2.1 bt446.2.2.2.1 bt446.2.2.2.2.1 bt446.2.2.2.2.2.1 bt446.1 bt446.2.1 bt446.2.2.1 bt446.2.2.2.1 bt446.2.2.2.2.1 t469).bind fun t475 => (if t475 = true then ((impl_SameActs.f k bt460.1 bt460.2.1 bt460.2.2).bind fun t476 => ((spec_SameActs.f k bt460.1 bt460.2.1 bt460.2.2).bind fun t477 => (if (t476 == t477) = true then ((impl_SameActs.f k bt460.1 bt460.1 bt460.2.2).bind fun t478 => (if t478 = true then (if (t471.size : Int) = (t470.size : Int) then ((spec_MaskRec.f k t470).bind fun t479 => (some (t471.toList == t479.toList))) else (none)) else (none))) else (none)))) else (none))))) else (none))))))))))
theorem laws_FnShapes.mono : ∀ a0 k, LeO (laws_FnShapes.f k a0) (laws_FnShapes.f (k + 1) a0) := by
 intro a0 k
 unfold laws_FnShapes.f
 repeat' first
   | (with_reducible exact impl_SameActs.mono _ _ _ _)
   | (with_reducible exact spec_DrawMaskRec.mono _ _)
   | (with_reducible exact spec_DrawSameActs.mono _ _)
   | (with_reducible exact spec_DrawSameShape.mono _ _)
   | (with_reducible exact spec_MaskRec.mono _ _)
   | (with_reducible exact spec_SameActs.mono _ _ _ _)
   | (with_reducible exact LeO.refl _)
   | (with_reducible exact LeO.none _)
   | (with_reducible refine LeO.ite ?_ ?_)
   | (with_reducible refine LeO.bind ?_ (fun _ => ?_))
   | exact impl_SameActs.mono _ _ _ _
   | exact spec_DrawMaskRec.mono _ _
   | exact spec_DrawSameActs.mono _ _
   | exact spec_DrawSameShape.mono _ _
   | exact spec_MaskRec.mono _ _
   | exact spec_SameActs.mono _ _ _ _
   | exact LeO.none _
   | refine LeO.ite ?_ ?_
   | refine LeO.bind ?_ (fun _ => ?_)
def laws_FnShapes.T11 : Bool × List (List Nat × List Nat) := (true, [([], []), ([], []), ([0, 1], [0, 1]), ([], []), ([], []), ([3, 4, 2], [3, 4]), ([2, 5], [2, 5]), ([6, 5], [6]), ([7], [7]), ([7], [7]), ([8, 9, 7, 7], [7, 8, 9]), ([10, 7], [7, 10]), ([7, 11], [7, 11]), ([12, 10], [12]), ([13], [13]), ([13], [13]), ([14, 15, 13, 13], [13, 14, 15]), ([13, 16], [13, 16]), ([17, 16], [17]), ([18], [18]), ([18], [18]), ([18], [18]), ([19, 20, 21, 18, 18], [18, 19, 20, 21]), ([18], [18]), ([18], [18]), ([18], [18]), ([23, 24, 25, 22, 18], [18, 23, 24, 25]), ([22, 26, 18], [18, 22, 26]), ([18, 27], [18, 27]), ([28, 26], [28]), ([29], [29]), ([29], [29]), ([29], [29]), ([30, 31, 32, 29, 29], [29, 30, 31, 32]), ([29, 33], [29, 33]), ([34, 33], [34]), ([35], [35]), ([36, 35], [35, 36]), ([35], [35]), ([38, 35], [35, 38]), ([37, 39, 35], [35, 37, 39]), ([35, 40], [35, 40]), ([41, 35], [41]), ([42], [42]), ([42], [42]), ([44, 42, 42], [42, 44]), ([43, 45, 42], [42, 43, 45]), ([42, 46], [42, 46]), ([47, 45, 0, 1, 2, 3, 4, 5, 6, 7, 8, 9, 10, 11, 12, 13, 14, 15, 16, 17, 18, 19, 20, 21, 22, 23, 24, 25, 26, 27, 28, 29, 30, 31, 32, 33, 34, 35, 36, 37, 38, 39, 40, 41, 42, 43, 44, 45, 46, 47], [47])])
def laws_FnShapes.B11 : List Nat := [0, 0, 3, 0, 0, 31, 63, 127, 255, 255, 1023, 2047, 4095, 8191, 16383, 16383, 65535, 131071, 262143, 524287, 524287, 524287, 4194303, 524287, 524287, 524287, 67108863, 134217727, 268435455, 536870911, 1073741823, 1073741823, 1073741823, 8589934591, 17179869183, 34359738367, 68719476735, 137438953471, 68719476735, 343597383679, 1099511627775, 2199023255551, 4398046511103, 8796093022207, 8796093022207, 26388279066623, 70368744177663, 140737488355327, 281474976710655]
theorem laws_FnShapes.tab11 : rtab .any (opsOf Try.f4 11) = laws_FnShapes.T11 := by kernel_rfl
theorem laws_FnShapes.bits11 : waitsOk laws_FnShapes.T11.2 laws_FnShapes.B11 = true := by kernel_rfl
set_option maxHeartbeats 8000000 in
set_option maxRecDepth 100000 in
theorem laws_FnShapes.calls (k : Nat) (A0 : Option Addr) (c0 : Nat) (l0 : List Int) (r : Bool) (w : World) (hr0 : Kd.C (Kd.int .u8) w A0 l0.length l0) (hc0 : l0.length ≤ c0) (h : laws_FnShapes.f k l0 = some r) :
  Calls Try.prog 4 #[.slice A0 l0.length c0] w fun e w' => e = .returned (.bool r) ∧ Below w.heap.size w w' := by
 have hu32 := Try.underlying32
 have HR0 := Am hr0
 have HC0 := Am hc0
 clear hr0 hc0
 have HB := Am (Below.refl w.heap.size w)
 have H : ((laws_big.f l0).bind fun t445 => (if t445 = true then (some true) else ((spec_DrawSameShape.f k l0).bind fun bt446 => ((spec_DrawSameActs.f k l0).bind fun bt460 => ((laws_others.f bt446.2.2.2.2.2.1).bind fun t469 => ((spec_DrawMaskRec.f k l0).bind fun t470 => ((impl_MaskRec.f t470).bind fun t471 => ((impl_SameShape.f bt446.1 bt446.2.1 bt446.2.2.1 bt446.2.2.2.1 bt446.2.2.2.2.1 bt446.2.2.2.2.2.1 bt446.2.2.2.2.2.2.1 bt446.2.2.2.2.2.2.2.1 bt446.2.2.2.2.2.2.2.2.1 bt446.2.2.2.2.2.2.2.2.2.1 bt446.2.2.2.2.2.2.2.2.2.2.1 bt446.2.2.2.2.2.2.2.2.2.2.2).bind fun t472 => ((spec_SameShape.f bt446.1 bt446.2.1 bt446.2.2.1 bt446.2.2.2.1 bt446.2.2.2.2.1 bt446.2.2.2.2.2.1 bt446.2.2.2.2.2.2.1 bt446.2.2.2.2.2.2.2.1 bt446.2.2.2.2.2.2.2.2.1 bt446.2.2.2.2.2.2.2.2.2.1 bt446.2.2.2.2.2.2.2.2.2.2.1 bt446.2.2.2.2.2.2.2.2.2.2.2).bind fun t473 => (if (t472 == t473) = true then ((impl_SameShape.f bt446.1 bt446.2.1 bt446.2.2.1 bt446.2.2.2.1 bt446.2.2.2.2.1 bt446.2.2.2.2.2.1 bt446.1 bt446.2.1 bt446.2.2.1 (wrap64 (bt446.2.2.2.1 + 1)) bt446.2.2.2.2.1 bt446.2.2.2.2.2.1).bind fun t474 => (if t474 = true then (none) else ((impl_SameShape.f bt446.1 bt446.2.1 bt446.2.2.1 bt446.2.2.2.1 bt446.2.2.2.2.1 bt446.2.2.2.2.2.1 bt446.1 bt446.2.1 bt446.2.2.1 bt446.2.2.2.1 bt446.2.2.2.2.1 t469).bind fun t475 => (if t475 = true then ((impl_SameActs.f k bt460.1 bt460.2.1 bt460.2.2).bind fun t476 => ((spec_SameActs.f k bt460.1 bt460.2.1 bt460.2.2).bind fun t477 => (if (t476 == t477) = true then ((impl_SameActs.f k bt460.1 bt460.1 bt460.2.2).bind fun t478 => (if t478 = true then (if (t471.size : Int) = (t470.size : Int) then ((spec_MaskRec.f k t470).bind fun t479 => (some (t471.toList == t479.toList))) else (none)) else (none))) else (none)))) else (none))))) else (none))))))))))) = some r := h
 clear h
 replace H := Option.bind_eq_some_iff.mp H
 obtain ⟨t445, A20, H⟩ := H
 replace H : (if t445 = true then (some true) else ((spec_DrawSameShape.f k l0).bind fun bt446 => ((spec_DrawSameActs.f k l0).bind fun bt460 => ((laws_others.f bt446.2.2.2.2.2.1).bind fun t469 => ((spec_DrawMaskRec.f k l0).bind fun t470 => ((impl_MaskRec.f t470).bind fun t471 => ((impl_SameShape.f bt446.1 bt446.2.1 bt446.2.2.1 bt446.2.2.2.1 bt446.2.2.2.2.1 bt446.2.2.2.2.2.1 bt446.2.2.2.2.2.2.1 bt446.2.2.2.2.2.2.2.1 bt446.2.2.2.2.2.2.2.2.1 bt446.2.2.2.2.2.2.2.2.2.1 bt446.2.2.2.2.2.2.2.2.2.2.1 bt446.2.2.2.2.2.2.2.2.2.2.2).bind fun t472 => ((spec_SameShape.f bt446.1 bt446.2.1 bt446.2.2.1 bt446.2.2.2.1 bt446.2.2.2.2.1 bt446.2.2.2.2.2.1 bt446.2.2.2.2.2.2.1 bt446.2.2.2.2.2.2.2.1 bt446.2.2.2.2.2.2.2.2.1 bt446.2.2.2.2.2.2.2.2.2.1 bt446.2.2.2.2.2.2.2.2.2.2.1 bt446.2.2.2.2.2.2.2.2.2.2.2).bind fun t473 => (if (t472 == t473) = true then ((impl_SameShape.f bt446.1 bt446.2.1 bt446.2.2.1 bt446.2.2.2.1 bt446.2.2.2.2.1 bt446.2.2.2.2.2.1 bt446.1 bt446.2.1 bt446.2.2.1 (wrap64 (bt446.2.2.2.1 + 1)) bt446.2.2.2.2.1 bt446.2.2.2.2.2.1).bind fun t474 => (if t474 = true then (none) else ((impl_SameShape.f bt446.1 bt446.2.1 bt446.2.2.1 bt446.2.2.2.1 bt446.2.2.2.2.1 bt446.2.2.2.2.2.1 bt446.1 bt446.2.1 bt446.2.2.1 bt446.2.2.2.1 bt446.2.2.2.2.1 t469).bind fun t475 => (if t475 = true then ((impl_SameActs.f k bt460.1 bt460.2.1 bt460.2.2).bind fun t476 => ((spec_SameActs.f k bt460.1 bt460.2.1 bt460.2.2).bind fun t477 => (if (t476 == t477) = true then ((impl_SameActs.f k bt460.1 bt460.1 bt460.2.2).bind fun t478 => (if t478 = true then (if (t471.size : Int) = (t470.size : Int) then ((spec_MaskRec.f k t470).bind fun t479 => (some (t471.toList == t479.toList))) else (none)) else (none))) else (none)))) else (none))))) else (none)))))))))) = some r := H
 have A2 := Am A20
 clear A20
 by_cases c3 : t445 = true
 ·subst c3
  have H1 : (some true) = some r := by rw [if_pos rfl] at H; exact H
  clear H
  have H := H1
  clear H1
  obtain rfl := Option.some.inj H
  go_enter Try.func4, Try.ntmps4
  go_wp2_with (first | ((with_reducible refine gate_callee (f := 10) rfl ?_); refine zC (some 13) rfl rfl Try.func10 rfl #[.slice A0 l0.length c0] rfl ?_; (with_reducible refine (laws_big.calls _ _ l0 true _ ?side1 ?side2 A2.out).mono ?_); (case side1 => repeat (first | exact HR0.out | (with_reducible first | refine ca ?_ _ | refine cn ?_ _ | refine ce ?_))); (case side2 => exact HC0.out); rintro e w' ⟨rfl, ⟨nd, rfl⟩⟩; refine ⟨_, rfl, ?_⟩))
  go_ret
  exact ⟨zR, zB⟩
 ·replace c3 := Bool.eq_false_iff.mpr c3
  subst c3
  have H1 : ((spec_DrawSameShape.f k l0).bind fun bt446 => ((spec_DrawSameActs.f k l0).bind fun bt460 => ((laws_others.f bt446.2.2.2.2.2.1).bind fun t469 => ((spec_DrawMaskRec.f k l0).bind fun t470 => ((impl_MaskRec.f t470).bind fun t471 => ((impl_SameShape.f bt446.1 bt446.2.1 bt446.2.2.1 bt446.2.2.2.1 bt446.2.2.2.2.1 bt446.2.2.2.2.2.1 bt446.2.2.2.2.2.2.1 bt446.2.2.2.2.2.2.2.1 bt446.2.2.2.2.2.2.2.2.1 bt446.2.2.2.2.2.2.2.2.2.1 bt446.2.2.2.2.2.2.2.2.2.2.1 bt446.2.2.2.2.2.2.2.2.2.2.2).bind fun t472 => ((spec_SameShape.f bt446.1 bt446.2.1 bt446.2.2.1 bt446.2.2.2.1 bt446.2.2.2.2.1 bt446.2.2.2.2.2.1 bt446.2.2.2.2.2.2.1 bt446.2.2.2.2.2.2.2.1 bt446.2.2.2.2.2.2.2.2.1 bt446.2.2.2.2.2.2.2.2.2.1 bt446.2.2.2.2.2.2.2.2.2.2.1 bt446.2.2.2.2.2.2.2.2.2.2.2).bind fun t473 => (if (t472 == t473) = true then ((impl_SameShape.f bt446.1 bt446.2.1 bt446.2.2.1 bt446.2.2.2.1 bt446.2.2.2.2.1 bt446.2.2.2.2.2.1 bt446.1 bt446.2.1 bt446.2.2.1 (wrap64 (bt446.2.2.2.1 + 1)) bt446.2.2.2.2.1 bt446.2.2.2.2.2.1).bind fun t474 => (if t474 = true then (none) else ((impl_SameShape.f bt446.1 bt446.2.1 bt446.2.2.1 bt446.2.2.2.1 bt446.2.2.2.2.1 bt446.2.2.2.2.2.1 bt446.1 bt446.2.1 bt446.2.2.1 bt446.2.2.2.1 bt446.2.2.2.2.1 t469).bind fun t475 => (if t475 = true then ((impl_SameActs.f k bt460.1 bt460.2.1 bt460.2.2).bind fun t476 => ((spec_SameActs.f k bt460.1 bt460.2.1 bt460.2.2).bind fun t477 => (if (t476 == t477) = true then ((impl_SameActs.f k bt460.1 bt460.1 bt460.2.2).bind fun t478 => (if t478 = true then (if (t471.size : Int) = (t470.size : Int) then ((spec_MaskRec.f k t470).bind fun t479 => (some (t471.toList == t479.toList))) else (none)) else (none))) else (none)))) else (none))))) else (none))))))))) = some r := by rw [if_neg (show ¬ (false = true) by decide)] at H; exact H
  clear H
  have H := H1
  clear H1
  replace H := Option.bind_eq_some_iff.mp H
  obtain ⟨⟨t446, t447, t448, t449, t450, t451, t452, t453, t454, t455, t456, t457⟩, A40, H⟩ := H
  replace H : ((spec_DrawSameActs.f k l0).bind fun bt460 => ((laws_others.f t451).bind fun t469 => ((spec_DrawMaskRec.f k l0).bind fun t470 => ((impl_MaskRec.f t470).bind fun t471 => ((impl_SameShape.f t446 t447 t448 t449 t450 t451 t452 t453 t454 t455 t456 t457).bind fun t472 => ((spec_SameShape.f t446 t447 t448 t449 t450 t451 t452 t453 t454 t455 t456 t457).bind fun t473 => (if (t472 == t473) = true then ((impl_SameShape.f t446 t447 t448 t449 t450 t451 t446 t447 t448 (wrap64 (t449 + 1)) t450 t451).bind fun t474 => (if t474 = true then (none) else ((impl_SameShape.f t446 t447 t448 t449 t450 t451 t446 t447 t448 t449 t450 t469).bind fun t475 => (if t475 = true then ((impl_SameActs.f k bt460.1 bt460.2.1 bt460.2.2).bind fun t476 => ((spec_SameActs.f k bt460.1 bt460.2.1 bt460.2.2).bind fun t477 => (if (t476 == t477) = true then ((impl_SameActs.f k bt460.1 bt460.1 bt460.2.2).bind fun t478 => (if t478 = true then (if (t471.size : Int) = (t470.size : Int) then ((spec_MaskRec.f k t470).bind fun t479 => (some (t471.toList == t479.toList))) else (none)) else (none))) else (none)))) else (none))))) else (none)))))))) = some r := H
  have A4 := Am A40
  clear A40
  replace H := Option.bind_eq_some_iff.mp H
  obtain ⟨⟨t460, t461, t462⟩, A50, H⟩ := H
  replace H : ((laws_others.f t451).bind fun t469 => ((spec_DrawMaskRec.f k l0).bind fun t470 => ((impl_MaskRec.f t470).bind fun t471 => ((impl_SameShape.f t446 t447 t448 t449 t450 t451 t452 t453 t454 t455 t456 t457).bind fun t472 => ((spec_SameShape.f t446 t447 t448 t449 t450 t451 t452 t453 t454 t455 t456 t457).bind fun t473 => (if (t472 == t473) = true then ((impl_SameShape.f t446 t447 t448 t449 t450 t451 t446 t447 t448 (wrap64 (t449 + 1)) t450 t451).bind fun t474 => (if t474 = true then (none) else ((impl_SameShape.f t446 t447 t448 t449 t450 t451 t446 t447 t448 t449 t450 t469).bind fun t475 => (if t475 = true then ((impl_SameActs.f k t460 t461 t462).bind fun t476 => ((spec_SameActs.f k t460 t461 t462).bind fun t477 => (if (t476 == t477) = true then ((impl_SameActs.f k t460 t460 t462).bind fun t478 => (if t478 = true then (if (t471.size : Int) = (t470.size : Int) then ((spec_MaskRec.f k t470).bind fun t479 => (some (t471.toList == t479.toList))) else (none)) else (none))) else (none)))) else (none))))) else (none))))))) = some r := H
  have A5 := Am A50
  clear A50
  replace H := Option.bind_eq_some_iff.mp H
  obtain ⟨t469, A60, H⟩ := H
  replace H : ((spec_DrawMaskRec.f k l0).bind fun t470 => ((impl_MaskRec.f t470).bind fun t471 => ((impl_SameShape.f t446 t447 t448 t449 t450 t451 t452 t453 t454 t455 t456 t457).bind fun t472 => ((spec_SameShape.f t446 t447 t448 t449 t450 t451 t452 t453 t454 t455 t456 t457).bind fun t473 => (if (t472 == t473) = true then ((impl_SameShape.f t446 t447 t448 t449 t450 t451 t446 t447 t448 (wrap64 (t449 + 1)) t450 t451).bind fun t474 => (if t474 = true then (none) else ((impl_SameShape.f t446 t447 t448 t449 t450 t451 t446 t447 t448 t449 t450 t469).bind fun t475 => (if t475 = true then ((impl_SameActs.f k t460 t461 t462).bind fun t476 => ((spec_SameActs.f k t460 t461 t462).bind fun t477 => (if (t476 == t477) = true then ((impl_SameActs.f k t460 t460 t462).bind fun t478 => (if t478 = true then (if (t471.size : Int) = (t470.size : Int) then ((spec_MaskRec.f k t470).bind fun t479 => (some (t471.toList == t479.toList))) else (none)) else (none))) else (none)))) else (none))))) else (none)))))) = some r := H
  have A6 := Am A60
  clear A60
  replace H := Option.bind_eq_some_iff.mp H
  obtain ⟨t470, A70, H⟩ := H
  replace H : ((impl_MaskRec.f t470).bind fun t471 => ((impl_SameShape.f t446 t447 t448 t449 t450 t451 t452 t453 t454 t455 t456 t457).bind fun t472 => ((spec_SameShape.f t446 t447 t448 t449 t450 t451 t452 t453 t454 t455 t456 t457).bind fun t473 => (if (t472 == t473) = true then ((impl_SameShape.f t446 t447 t448 t449 t450 t451 t446 t447 t448 (wrap64 (t449 + 1)) t450 t451).bind fun t474 => (if t474 = true then (none) else ((impl_SameShape.f t446 t447 t448 t449 t450 t451 t446 t447 t448 t449 t450 t469).bind fun t475 => (if t475 = true then ((impl_SameActs.f k t460 t461 t462).bind fun t476 => ((spec_SameActs.f k t460 t461 t462).bind fun t477 => (if (t476 == t477) = true then ((impl_SameActs.f k t460 t460 t462).bind fun t478 => (if t478 = true then (if (t471.size : Int) = (t470.size : Int) then ((spec_MaskRec.f k t470).bind fun t479 => (some (t471.toList == t479.toList))) else (none)) else (none))) else (none)))) else (none))))) else (none))))) = some r := H
  have A7 := Am A70
  clear A70
  replace H := Option.bind_eq_some_iff.mp H
  obtain ⟨t471, A80, H⟩ := H
  replace H : ((impl_SameShape.f t446 t447 t448 t449 t450 t451 t452 t453 t454 t455 t456 t457).bind fun t472 => ((spec_SameShape.f t446 t447 t448 t449 t450 t451 t452 t453 t454 t455 t456 t457).bind fun t473 => (if (t472 == t473) = true then ((impl_SameShape.f t446 t447 t448 t449 t450 t451 t446 t447 t448 (wrap64 (t449 + 1)) t450 t451).bind fun t474 => (if t474 = true then (none) else ((impl_SameShape.f t446 t447 t448 t449 t450 t451 t446 t447 t448 t449 t450 t469).bind fun t475 => (if t475 = true then ((impl_SameActs.f k t460 t461 t462).bind fun t476 => ((spec_SameActs.f k t460 t461 t462).bind fun t477 => (if (t476 == t477) = true then ((impl_SameActs.f k t460 t460 t462).bind fun t478 => (if t478 = true then (if (t471.size : Int) = (t470.size : Int) then ((spec_MaskRec.f k t470).bind fun t479 => (some (t471.toList == t479.toList))) else (none)) else (none))) else (none)))) else (none))))) else (none)))) = some r := H
  have A8 := Am A80
  clear A80
  replace H := Option.bind_eq_some_iff.mp H
  obtain ⟨t472, A90, H⟩ := H
  replace H : ((spec_SameShape.f t446 t447 t448 t449 t450 t451 t452 t453 t454 t455 t456 t457).bind fun t473 => (if (t472 == t473) = true then ((impl_SameShape.f t446 t447 t448 t449 t450 t451 t446 t447 t448 (wrap64 (t449 + 1)) t450 t451).bind fun t474 => (if t474 = true then (none) else ((impl_SameShape.f t446 t447 t448 t449 t450 t451 t446 t447 t448 t449 t450 t469).bind fun t475 => (if t475 = true then ((impl_SameActs.f k t460 t461 t462).bind fun t476 => ((spec_SameActs.f k t460 t461 t462).bind fun t477 => (if (t476 == t477) = true then ((impl_SameActs.f k t460 t460 t462).bind fun t478 => (if t478 = true then (if (t471.size : Int) = (t470.size : Int) then ((spec_MaskRec.f k t470).bind fun t479 => (some (t471.toList == t479.toList))) else (none)) else (none))) else (none)))) else (none))))) else (none))) = some r := H
  have A9 := Am A90
  clear A90
  replace H := Option.bind_eq_some_iff.mp H
  obtain ⟨t473, A100, H⟩ := H
  replace H : (if (t472 == t473) = true then ((impl_SameShape.f t446 t447 t448 t449 t450 t451 t446 t447 t448 (wrap64 (t449 + 1)) t450 t451).bind fun t474 => (if t474 = true then (none) else ((impl_SameShape.f t446 t447 t448 t449 t450 t451 t446 t447 t448 t449 t450 t469).bind fun t475 => (if t475 = true then ((impl_SameActs.f k t460 t461 t462).bind fun t476 => ((spec_SameActs.f k t460 t461 t462).bind fun t477 => (if (t476 == t477) = true then ((impl_SameActs.f k t460 t460 t462).bind fun t478 => (if t478 = true then (if (t471.size : Int) = (t470.size : Int) then ((spec_MaskRec.f k t470).bind fun t479 => (some (t471.toList == t479.toList))) else (none)) else (none))) else (none)))) else (none))))) else (none)) = some r := H
  have A10 := Am A100
  clear A100
  by_cases c11 : (t472 == t473) = true
  ·rw [if_pos c11] at H
   have c11b0 : (t472 == t473) = true := c11
   (try (have c11b1 : decide (t472 = t473) = true := by simpa using c11))
   (try (have c11b2 : (t472 == t473) = true := by simpa using c11))
   clear c11
   replace H := Option.bind_eq_some_iff.mp H
   obtain ⟨t474, A120, H⟩ := H
   replace H : (if t474 = true then (none) else ((impl_SameShape.f t446 t447 t448 t449 t450 t451 t446 t447 t448 t449 t450 t469).bind fun t475 => (if t475 = true then ((impl_SameActs.f k t460 t461 t462).bind fun t476 => ((spec_SameActs.f k t460 t461 t462).bind fun t477 => (if (t476 == t477) = true then ((impl_SameActs.f k t460 t460 t462).bind fun t478 => (if t478 = true then (if (t471.size : Int) = (t470.size : Int) then ((spec_MaskRec.f k t470).bind fun t479 => (some (t471.toList == t479.toList))) else (none)) else (none))) else (none)))) else (none)))) = some r := H
   have A12 := Am A120
   clear A120
   by_cases c13 : t474 = true
   ·subst c13
    have H1 : (none) = some r := by rw [if_pos rfl] at H; exact H
    exact absurd H1 (by simp)
   ·replace c13 := Bool.eq_false_iff.mpr c13
    subst c13
    have H1 : ((impl_SameShape.f t446 t447 t448 t449 t450 t451 t446 t447 t448 t449 t450 t469).bind fun t475 => (if t475 = true then ((impl_SameActs.f k t460 t461 t462).bind fun t476 => ((spec_SameActs.f k t460 t461 t462).bind fun t477 => (if (t476 == t477) = true then ((impl_SameActs.f k t460 t460 t462).bind fun t478 => (if t478 = true then (if (t471.size : Int) = (t470.size : Int) then ((spec_MaskRec.f k t470).bind fun t479 => (some (t471.toList == t479.toList))) else (none)) else (none))) else (none)))) else (none))) = some r := by rw [if_neg (show ¬ (false = true) by decide)] at H; exact H
    clear H
    have H := H1
    clear H1
    replace H := Option.bind_eq_some_iff.mp H
    obtain ⟨t475, A410, H⟩ := H
    replace H : (if t475 = true then ((impl_SameActs.f k t460 t461 t462).bind fun t476 => ((spec_SameActs.f k t460 t461 t462).bind fun t477 => (if (t476 == t477) = true then ((impl_SameActs.f k t460 t460 t462).bind fun t478 => (if t478 = true then (if (t471.size : Int) = (t470.size : Int) then ((spec_MaskRec.f k t470).bind fun t479 => (some (t471.toList == t479.toList))) else (none)) else (none))) else (none)))) else (none)) = some r := H
    have A41 := Am A410
    clear A410
    by_cases c42 : t475 = true
    ·subst c42
     have H1 : ((impl_SameActs.f k t460 t461 t462).bind fun t476 => ((spec_SameActs.f k t460 t461 t462).bind fun t477 => (if (t476 == t477) = true then ((impl_SameActs.f k t460 t460 t462).bind fun t478 => (if t478 = true then (if (t471.size : Int) = (t470.size : Int) then ((spec_MaskRec.f k t470).bind fun t479 => (some (t471.toList == t479.toList))) else (none)) else (none))) else (none)))) = some r := by rw [if_pos rfl] at H; exact H
     clear H
     have H := H1
     clear H1
     replace H := Option.bind_eq_some_iff.mp H
     obtain ⟨t476, A430, H⟩ := H
     replace H : ((spec_SameActs.f k t460 t461 t462).bind fun t477 => (if (t476 == t477) = true then ((impl_SameActs.f k t460 t460 t462).bind fun t478 => (if t478 = true then (if (t471.size : Int) = (t470.size : Int) then ((spec_MaskRec.f k t470).bind fun t479 => (some (t471.toList == t479.toList))) else (none)) else (none))) else (none))) = some r := H
     have A43 := Am A430
     clear A430
     replace H := Option.bind_eq_some_iff.mp H
     obtain ⟨t477, A440, H⟩ := H
     replace H : (if (t476 == t477) = true then ((impl_SameActs.f k t460 t460 t462).bind fun t478 => (if t478 = true then (if (t471.size : Int) = (t470.size : Int) then ((spec_MaskRec.f k t470).bind fun t479 => (some (t471.toList == t479.toList))) else (none)) else (none))) else (none)) = some r := H
     have A44 := Am A440
     clear A440
     by_cases c45 : (t476 == t477) = true
     ·rw [if_pos c45] at H
      have c45b0 : (t476 == t477) = true := c45
      (try (have c45b1 : decide (t476 = t477) = true := by simpa using c45))
      (try (have c45b2 : (t476 == t477) = true := by simpa using c45))
      clear c45
      replace H := Option.bind_eq_some_iff.mp H
      obtain ⟨t478, A460, H⟩ := H
      replace H : (if t478 = true then (if (t471.size : Int) = (t470.size : Int) then ((spec_MaskRec.f k t470).bind fun t479 => (some (t471.toList == t479.toList))) else (none)) else (none)) = some r := H
      have A46 := Am A460
      clear A460
      by_cases c47 : t478 = true
      ·subst c47
       have H1 : (if (t471.size : Int) = (t470.size : Int) then ((spec_MaskRec.f k t470).bind fun t479 => (some (t471.toList == t479.toList))) else (none)) = some r := by rw [if_pos rfl] at H; exact H
       clear H
       have H := H1
       clear H1
       by_cases c48 : (t471.size : Int) = (t470.size : Int)
       ·rw [if_pos c48] at H
        have c48b0 : ((t471.size : Int) == (t470.size : Int)) = true := beq_iff_eq.mpr c48
        have c48b1 : ((t471.size : Int) != (t470.size : Int)) = false := bne_eq_false_iff_eq.mpr c48
        have c48b2 : (t471.size == t470.size) = true := by first | simpa using c48 | (simp at c48 ⊢; omega)
        clear c48
        replace H := Option.bind_eq_some_iff.mp H
        obtain ⟨t479, A490, H⟩ := H
        replace H : (some (t471.toList == t479.toList)) = some r := H
        have A49 := Am A490
        clear A490
        obtain rfl := Option.some.inj H
        go_enter Try.func4, Try.ntmps4
        try go_wp2_with (first | ((with_reducible refine gate_callee (f := 10) rfl ?_); refine zC (some 13) rfl rfl Try.func10 rfl #[.slice A0 l0.length c0] rfl ?_; (with_reducible refine (laws_big.calls _ _ l0 false _ ?side1 ?side2 A2.out).mono ?_); (case side1 => repeat (first | exact HR0.out | (with_reducible first | refine ca ?_ _ | refine cn ?_ _ | refine ce ?_))); (case side2 => exact HC0.out); rintro e w' ⟨rfl, ⟨nd, rfl⟩⟩; refine ⟨_, rfl, ?_⟩) | ((with_reducible refine gate_callee (f := 11) rfl ?_); refine zC (some 16) rfl rfl Try.func11 rfl #[.slice A0 l0.length c0] rfl ?_; (with_reducible refine (spec_DrawSameShape.calls k _ _ l0 t446 t447 t448 t449 t450 t451 t452 t453 t454 t455 t456 t457 _ ?side1 ?side2 A4.out).mono ?_); (case side1 => repeat (first | exact HR0.out | (with_reducible first | refine ca ?_ _ | refine cn ?_ _ | refine ce ?_))); (case side2 => exact HC0.out); rintro e w50 ⟨rfl, hb⟩; refine ⟨_, rfl, ?_⟩; replace HB := Am (bq zB hb); (try clear hb)) | ((with_reducible refine gate_dst (N := 3) rfl ?_); (try (refine gate_guard (by rfl) ?_; dsimp only)); refine box_event ?hg (N := 3) ?hd (cs := #[.int .i64 0, .string (⟨#[]⟩ : ByteArray), .string (⟨#[]⟩ : ByteArray), .int .i64 0, .int .i64 0, .string (⟨#[]⟩ : ByteArray)]) (t := 32) ?hr ?_; (case hd => rfl); (case hg => rfl); (case hr => first | (go_simp; done) | (go_simp; rfl)); intro gb458 hg w51 hbox hb; have BK458 := Am (hbox); have GW458 := Am ((by rw [hg]; exact (bz zB) : w.heap.size ≤ gb458)); have GE458 := Am ((by rw [hg]; exact (bz zB) : w.heap.size ≤ gb458)); replace HB := Am (bq zB hb); clear hb hbox hg) | ((with_reducible refine gate_dst (N := 4) rfl ?_); (try (refine gate_guard (by rfl) ?_; dsimp only)); refine box_event ?hg (N := 4) ?hd (cs := #[.int .i64 0, .string (⟨#[]⟩ : ByteArray), .string (⟨#[]⟩ : ByteArray), .int .i64 0, .int .i64 0, .string (⟨#[]⟩ : ByteArray)]) (t := 32) ?hr ?_; (case hd => rfl); (case hg => rfl); (case hr => first | (go_simp; done) | (go_simp; rfl)); intro gb459 hg w52 hbox hb; have n0_ := Am (zK BK458 hb); have n1_ := Am (bq zG hb); have n2_ := Am (hbox); have n3_ := Am ((by rw [hg]; exact (bz zG) : w.heap.size ≤ gb459)); have n4_ := Am ((by rw [hg]; exact (bz zG) : w.heap.size ≤ gb459)); have n5_ := Am ((by rw [hg]; exact Nat.ne_of_lt (zL BK458) : gb458 ≠ gb459)); have n6_ := Am ((by rw [hg]; exact Nat.ne_of_gt (zL BK458) : gb459 ≠ gb458)); clear BK458; clear HB; have BK458 := n0_; have HB := n1_; have BK459 := n2_; have GW459 := n3_; have GE459 := n4_; have NB458_459 := n5_; have NB459_458 := n6_; clear n0_ n1_ n2_ n3_ n4_ n5_ n6_; clear hb hbox hg; have hnb53 := NB458_459.out; have hnc53 := NB459_458.out; obtain ⟨hcz54_0, hcz54_1, hcz54_2, hcz54_3, hcz54_4, hcz54_5⟩ := kc6 (w := w52) BK458.out; have hfz54_0 := kf BK458.out; obtain ⟨hcz55_0, hcz55_1, hcz55_2, hcz55_3, hcz55_4, hcz55_5⟩ := kc6 (w := w52) BK459.out; have hfz55_0 := kf BK459.out) | ((with_reducible refine gate_callee (f := 12) rfl ?_); refine zC (some 21) rfl rfl Try.func12 rfl #[.slice A0 l0.length c0] rfl ?_; (with_reducible refine (spec_DrawSameActs.calls k _ _ l0 t460 t461 t462 _ ?side1 ?side2 A5.out).mono ?_); (case side1 => exact cb HR0.out zG); (case side2 => exact HC0.out); rintro e w56 ⟨v463, v465, rfl, ho0, ho1, hb⟩; refine ⟨_, rfl, ?_⟩; have n0_ := Am (Kd.R_lower ho0 (bz zG)); have n1_ := Am (Kd.R_lower ho1 (bz zG)); have n2_ := Am (kb (g := gb458) (o := o9b0 t446 t447 t448 t449 t450 t451) (by (with_reducible repeat (first | refine kn ?_ _ | refine ke ?_ | refine ka ?_ _)); refine blk_far ?_ NB458_459.out _; (with_reducible repeat (first | refine kn ?_ _ | refine ke ?_ | refine ka ?_ _)); refine blk_far ?_ NB458_459.out _; (with_reducible repeat (first | refine kn ?_ _ | refine ke ?_ | refine ka ?_ _)); refine blk_far ?_ NB458_459.out _; (with_reducible repeat (first | refine kn ?_ _ | refine ke ?_ | refine ka ?_ _)); refine blk_far ?_ NB458_459.out _; (with_reducible repeat (first | refine kn ?_ _ | refine ke ?_ | refine ka ?_ _)); refine blk_far ?_ NB458_459.out _; (with_reducible repeat (first | refine kn ?_ _ | refine ke ?_ | refine ka ?_ _)); refine blk_far ?_ NB458_459.out _; (with_reducible repeat (first | refine kn ?_ _ | refine ke ?_ | refine ka ?_ _)); refine kp (cs := #[.int .i64 t446, .string t447, .string t448, .int .i64 t449, .int .i64 t450, .string (⟨#[]⟩ : ByteArray)]) ?_ 5 _ rfl; (with_reducible repeat (first | refine kn ?_ _ | refine ke ?_ | refine ka ?_ _)); refine kp (cs := #[.int .i64 t446, .string t447, .string t448, .int .i64 t449, .int .i64 0, .string (⟨#[]⟩ : ByteArray)]) ?_ 4 _ rfl; (with_reducible repeat (first | refine kn ?_ _ | refine ke ?_ | refine ka ?_ _)); refine kp (cs := #[.int .i64 t446, .string t447, .string t448, .int .i64 0, .int .i64 0, .string (⟨#[]⟩ : ByteArray)]) ?_ 3 _ rfl; (with_reducible repeat (first | refine kn ?_ _ | refine ke ?_ | refine ka ?_ _)); refine kp (cs := #[.int .i64 t446, .string t447, .string (⟨#[]⟩ : ByteArray), .int .i64 0, .int .i64 0, .string (⟨#[]⟩ : ByteArray)]) ?_ 2 _ rfl; (with_reducible repeat (first | refine kn ?_ _ | refine ke ?_ | refine ka ?_ _)); refine kp (cs := #[.int .i64 t446, .string (⟨#[]⟩ : ByteArray), .string (⟨#[]⟩ : ByteArray), .int .i64 0, .int .i64 0, .string (⟨#[]⟩ : ByteArray)]) ?_ 1 _ rfl; (with_reducible repeat (first | refine kn ?_ _ | refine ke ?_ | refine ka ?_ _)); refine kp (cs := #[.int .i64 0, .string (⟨#[]⟩ : ByteArray), .string (⟨#[]⟩ : ByteArray), .int .i64 0, .int .i64 0, .string (⟨#[]⟩ : ByteArray)]) ?_ 0 _ rfl; (with_reducible repeat (first | refine kn ?_ _ | refine ke ?_ | refine ka ?_ _)); exact BK458.out) hb); have n3_ := Am (kb (g := gb459) (o := o9b1 t452 t453 t454 t455 t456 t457) (by (with_reducible repeat (first | refine kn ?_ _ | refine ke ?_ | refine ka ?_ _)); refine kp (cs := #[.int .i64 t452, .string t453, .string t454, .int .i64 t455, .int .i64 t456, .string (⟨#[]⟩ : ByteArray)]) ?_ 5 _ rfl; (with_reducible repeat (first | refine kn ?_ _ | refine ke ?_ | refine ka ?_ _)); refine kp (cs := #[.int .i64 t452, .string t453, .string t454, .int .i64 t455, .int .i64 0, .string (⟨#[]⟩ : ByteArray)]) ?_ 4 _ rfl; (with_reducible repeat (first | refine kn ?_ _ | refine ke ?_ | refine ka ?_ _)); refine kp (cs := #[.int .i64 t452, .string t453, .string t454, .int .i64 0, .int .i64 0, .string (⟨#[]⟩ : ByteArray)]) ?_ 3 _ rfl; (with_reducible repeat (first | refine kn ?_ _ | refine ke ?_ | refine ka ?_ _)); refine kp (cs := #[.int .i64 t452, .string t453, .string (⟨#[]⟩ : ByteArray), .int .i64 0, .int .i64 0, .string (⟨#[]⟩ : ByteArray)]) ?_ 2 _ rfl; (with_reducible repeat (first | refine kn ?_ _ | refine ke ?_ | refine ka ?_ _)); refine kp (cs := #[.int .i64 t452, .string (⟨#[]⟩ : ByteArray), .string (⟨#[]⟩ : ByteArray), .int .i64 0, .int .i64 0, .string (⟨#[]⟩ : ByteArray)]) ?_ 1 _ rfl; (with_reducible repeat (first | refine kn ?_ _ | refine ke ?_ | refine ka ?_ _)); refine kp (cs := #[.int .i64 0, .string (⟨#[]⟩ : ByteArray), .string (⟨#[]⟩ : ByteArray), .int .i64 0, .int .i64 0, .string (⟨#[]⟩ : ByteArray)]) ?_ 0 _ rfl; (with_reducible repeat (first | refine kn ?_ _ | refine ke ?_ | refine ka ?_ _)); refine blk_far ?_ NB459_458.out _; (with_reducible repeat (first | refine kn ?_ _ | refine ke ?_ | refine ka ?_ _)); refine blk_far ?_ NB459_458.out _; (with_reducible repeat (first | refine kn ?_ _ | refine ke ?_ | refine ka ?_ _)); refine blk_far ?_ NB459_458.out _; (with_reducible repeat (first | refine kn ?_ _ | refine ke ?_ | refine ka ?_ _)); refine blk_far ?_ NB459_458.out _; (with_reducible repeat (first | refine kn ?_ _ | refine ke ?_ | refine ka ?_ _)); refine blk_far ?_ NB459_458.out _; (with_reducible repeat (first | refine kn ?_ _ | refine ke ?_ | refine ka ?_ _)); refine blk_far ?_ NB459_458.out _; (with_reducible repeat (first | refine kn ?_ _ | refine ke ?_ | refine ka ?_ _)); exact BK459.out) hb); have n4_ := Am (bq zG hb); clear BK458; clear BK459; clear HB; have HO464 := n0_; have HO466 := n1_; have BK458 := n2_; have BK459 := n3_; have HB := n4_; clear n0_ n1_ n2_ n3_ n4_; (try clear hb ho0 ho1); obtain ⟨hcz57_0, hcz57_1, hcz57_2, hcz57_3, hcz57_4, hcz57_5⟩ := kc6 (w := w56) BK458.out; have hfz57_0 := kf BK458.out) | ((with_reducible refine gate_dst (N := 8) rfl ?_); (try (refine gate_guard (by rfl) ?_; dsimp only)); refine box_event ?hg (N := 8) ?hd (cs := #[.int .i64 0, .string (⟨#[]⟩ : ByteArray), .string (⟨#[]⟩ : ByteArray), .int .i64 0, .int .i64 0, .string (⟨#[]⟩ : ByteArray)]) (t := 32) ?hr ?_; (case hd => rfl); (case hg => rfl); (case hr => first | (go_simp; done) | (go_simp; rfl)); intro gb467 hg w58 hbox hb; have n0_ := Am (rb (by (with_reducible repeat (first | apply ra | apply rn | apply re)); exact HO464.out) hb); have n1_ := Am (rb (by (with_reducible repeat (first | apply ra | apply rn | apply re)); exact HO466.out) hb); have n2_ := Am (zK BK458 hb); have n3_ := Am (zK BK459 hb); have n4_ := Am (bq zG hb); have n5_ := Am (hbox); have n6_ := Am ((by rw [hg]; exact (bz zG) : w.heap.size ≤ gb467)); have n7_ := Am ((by rw [hg]; exact (bz zG) : w.heap.size ≤ gb467)); have n8_ := Am ((by rw [hg]; exact Nat.ne_of_lt (zL BK458) : gb458 ≠ gb467)); have n9_ := Am ((by rw [hg]; exact Nat.ne_of_gt (zL BK458) : gb467 ≠ gb458)); have n10_ := Am ((by rw [hg]; exact Nat.ne_of_lt (zL BK459) : gb459 ≠ gb467)); have n11_ := Am ((by rw [hg]; exact Nat.ne_of_gt (zL BK459) : gb467 ≠ gb459)); clear HO464; clear HO466; clear BK458; clear BK459; clear HB; have HO464 := n0_; have HO466 := n1_; have BK458 := n2_; have BK459 := n3_; have HB := n4_; have BK467 := n5_; have GW467 := n6_; have GE467 := n7_; have NB458_467 := n8_; have NB467_458 := n9_; have NB459_467 := n10_; have NB467_459 := n11_; clear n0_ n1_ n2_ n3_ n4_ n5_ n6_ n7_ n8_ n9_ n10_ n11_; clear hb hbox hg; have hnb59 := NB467_458.out; have hnc59 := NB458_467.out; have hnb60 := NB467_459.out; have hnc60 := NB459_467.out; obtain ⟨hcz61_0, hcz61_1, hcz61_2, hcz61_3, hcz61_4, hcz61_5⟩ := kc6 (w := w58) BK467.out; have hfz61_0 := kf BK467.out; obtain ⟨hcz62_0, hcz62_1, hcz62_2, hcz62_3, hcz62_4, hcz62_5⟩ := kc6 (w := w58) BK458.out; have hfz62_0 := kf BK458.out) | ((with_reducible refine gate_dst (N := 9) rfl ?_); (try (refine gate_guard (by rfl) ?_; dsimp only)); refine box_event ?hg (N := 9) ?hd (cs := #[.int .i64 0, .string (⟨#[]⟩ : ByteArray), .string (⟨#[]⟩ : ByteArray), .int .i64 0, .int .i64 0, .string (⟨#[]⟩ : ByteArray)]) (t := 32) ?hr ?_; (case hd => rfl); (case hg => rfl); (case hr => first | (go_simp; done) | (go_simp; rfl)); intro gb468 hg w63 hbox hb; have n0_ := Am (rb (by (with_reducible repeat (first | apply ra | apply rn | apply re)); exact (Kd.R_mono (Kd.R_far (p := ⟨gb467, 3, none⟩) (Kd.R_far (p := ⟨gb467, 5, none⟩) (Kd.R_far (p := ⟨gb467, 4, none⟩) (Kd.R_far (p := ⟨gb467, 3, none⟩) (Kd.R_far (p := ⟨gb467, 2, none⟩) (Kd.R_far (p := ⟨gb467, 1, none⟩) (Kd.R_far (p := ⟨gb467, 0, none⟩) (Kd.R_types HO464.out BK467.out (by decide)) (fun _ hk => hk.2) (.int .i64 t446)) (fun _ hk => hk.2) (.string t447)) (fun _ hk => hk.2) (.string t448)) (fun _ hk => hk.2) (.int .i64 t449)) (fun _ hk => hk.2) (.int .i64 t450)) (fun _ hk => hk.2) (.string t451)) (fun _ hk => hk.2) (.int .i64 (wrap64 (t449 + 1)))) (fun _ h_ => h_.1))) hb); have n1_ := Am (rb (by (with_reducible repeat (first | apply ra | apply rn | apply re)); exact (Kd.R_mono (Kd.R_far (p := ⟨gb467, 3, none⟩) (Kd.R_far (p := ⟨gb467, 5, none⟩) (Kd.R_far (p := ⟨gb467, 4, none⟩) (Kd.R_far (p := ⟨gb467, 3, none⟩) (Kd.R_far (p := ⟨gb467, 2, none⟩) (Kd.R_far (p := ⟨gb467, 1, none⟩) (Kd.R_far (p := ⟨gb467, 0, none⟩) (Kd.R_types HO466.out BK467.out (by decide)) (fun _ hk => hk.2) (.int .i64 t446)) (fun _ hk => hk.2) (.string t447)) (fun _ hk => hk.2) (.string t448)) (fun _ hk => hk.2) (.int .i64 t449)) (fun _ hk => hk.2) (.int .i64 t450)) (fun _ hk => hk.2) (.string t451)) (fun _ hk => hk.2) (.int .i64 (wrap64 (t449 + 1)))) (fun _ h_ => h_.1))) hb); have n2_ := Am (kb (g := gb458) (o := o9b0 t446 t447 t448 t449 t450 t451) (by (with_reducible repeat (first | refine kn ?_ _ | refine ke ?_ | refine ka ?_ _)); refine blk_far ?_ NB458_467.out _; (with_reducible repeat (first | refine kn ?_ _ | refine ke ?_ | refine ka ?_ _)); refine blk_far ?_ NB458_467.out _; (with_reducible repeat (first | refine kn ?_ _ | refine ke ?_ | refine ka ?_ _)); refine blk_far ?_ NB458_467.out _; (with_reducible repeat (first | refine kn ?_ _ | refine ke ?_ | refine ka ?_ _)); refine blk_far ?_ NB458_467.out _; (with_reducible repeat (first | refine kn ?_ _ | refine ke ?_ | refine ka ?_ _)); refine blk_far ?_ NB458_467.out _; (with_reducible repeat (first | refine kn ?_ _ | refine ke ?_ | refine ka ?_ _)); refine blk_far ?_ NB458_467.out _; (with_reducible repeat (first | refine kn ?_ _ | refine ke ?_ | refine ka ?_ _)); refine blk_far ?_ NB458_467.out _; (with_reducible repeat (first | refine kn ?_ _ | refine ke ?_ | refine ka ?_ _)); exact BK458.out) hb); have n3_ := Am (kb (g := gb459) (o := o9b1 t452 t453 t454 t455 t456 t457) (by (with_reducible repeat (first | refine kn ?_ _ | refine ke ?_ | refine ka ?_ _)); refine blk_far ?_ NB459_467.out _; (with_reducible repeat (first | refine kn ?_ _ | refine ke ?_ | refine ka ?_ _)); refine blk_far ?_ NB459_467.out _; (with_reducible repeat (first | refine kn ?_ _ | refine ke ?_ | refine ka ?_ _)); refine blk_far ?_ NB459_467.out _; (with_reducible repeat (first | refine kn ?_ _ | refine ke ?_ | refine ka ?_ _)); refine blk_far ?_ NB459_467.out _; (with_reducible repeat (first | refine kn ?_ _ | refine ke ?_ | refine ka ?_ _)); refine blk_far ?_ NB459_467.out _; (with_reducible repeat (first | refine kn ?_ _ | refine ke ?_ | refine ka ?_ _)); refine blk_far ?_ NB459_467.out _; (with_reducible repeat (first | refine kn ?_ _ | refine ke ?_ | refine ka ?_ _)); refine blk_far ?_ NB459_467.out _; (with_reducible repeat (first | refine kn ?_ _ | refine ke ?_ | refine ka ?_ _)); exact BK459.out) hb); have n4_ := Am (kb (g := gb467) (o := .cells #[.int .i64 t446, .string t447, .string t448, .int .i64 (wrap64 (t449 + 1)), .int .i64 t450, .string t451] 32 (0, 0)) (by (with_reducible repeat (first | refine kn ?_ _ | refine ke ?_ | refine ka ?_ _)); refine kp (cs := #[.int .i64 t446, .string t447, .string t448, .int .i64 t449, .int .i64 t450, .string t451]) ?_ 3 _ rfl; (with_reducible repeat (first | refine kn ?_ _ | refine ke ?_ | refine ka ?_ _)); refine kp (cs := #[.int .i64 t446, .string t447, .string t448, .int .i64 t449, .int .i64 t450, .string (⟨#[]⟩ : ByteArray)]) ?_ 5 _ rfl; (with_reducible repeat (first | refine kn ?_ _ | refine ke ?_ | refine ka ?_ _)); refine kp (cs := #[.int .i64 t446, .string t447, .string t448, .int .i64 t449, .int .i64 0, .string (⟨#[]⟩ : ByteArray)]) ?_ 4 _ rfl; (with_reducible repeat (first | refine kn ?_ _ | refine ke ?_ | refine ka ?_ _)); refine kp (cs := #[.int .i64 t446, .string t447, .string t448, .int .i64 0, .int .i64 0, .string (⟨#[]⟩ : ByteArray)]) ?_ 3 _ rfl; (with_reducible repeat (first | refine kn ?_ _ | refine ke ?_ | refine ka ?_ _)); refine kp (cs := #[.int .i64 t446, .string t447, .string (⟨#[]⟩ : ByteArray), .int .i64 0, .int .i64 0, .string (⟨#[]⟩ : ByteArray)]) ?_ 2 _ rfl; (with_reducible repeat (first | refine kn ?_ _ | refine ke ?_ | refine ka ?_ _)); refine kp (cs := #[.int .i64 t446, .string (⟨#[]⟩ : ByteArray), .string (⟨#[]⟩ : ByteArray), .int .i64 0, .int .i64 0, .string (⟨#[]⟩ : ByteArray)]) ?_ 1 _ rfl; (with_reducible repeat (first | refine kn ?_ _ | refine ke ?_ | refine ka ?_ _)); refine kp (cs := #[.int .i64 0, .string (⟨#[]⟩ : ByteArray), .string (⟨#[]⟩ : ByteArray), .int .i64 0, .int .i64 0, .string (⟨#[]⟩ : ByteArray)]) ?_ 0 _ rfl; (with_reducible repeat (first | refine kn ?_ _ | refine ke ?_ | refine ka ?_ _)); exact BK467.out) hb); have n5_ := Am (bq zG hb); have n6_ := Am (hbox); have n7_ := Am ((by rw [hg]; exact (bz zG) : w.heap.size ≤ gb468)); have n8_ := Am ((by rw [hg]; exact (bz zG) : w.heap.size ≤ gb468)); have n9_ := Am ((by rw [hg]; exact Nat.ne_of_lt (kl (g := gb458) (o := o9b0 t446 t447 t448 t449 t450 t451) (by (with_reducible repeat (first | refine kn ?_ _ | refine ke ?_ | refine ka ?_ _)); refine blk_far ?_ NB458_467.out _; (with_reducible repeat (first | refine kn ?_ _ | refine ke ?_ | refine ka ?_ _)); refine blk_far ?_ NB458_467.out _; (with_reducible repeat (first | refine kn ?_ _ | refine ke ?_ | refine ka ?_ _)); refine blk_far ?_ NB458_467.out _; (with_reducible repeat (first | refine kn ?_ _ | refine ke ?_ | refine ka ?_ _)); refine blk_far ?_ NB458_467.out _; (with_reducible repeat (first | refine kn ?_ _ | refine ke ?_ | refine ka ?_ _)); refine blk_far ?_ NB458_467.out _; (with_reducible repeat (first | refine kn ?_ _ | refine ke ?_ | refine ka ?_ _)); refine blk_far ?_ NB458_467.out _; (with_reducible repeat (first | refine kn ?_ _ | refine ke ?_ | refine ka ?_ _)); refine blk_far ?_ NB458_467.out _; (with_reducible repeat (first | refine kn ?_ _ | refine ke ?_ | refine ka ?_ _)); exact BK458.out)) : gb458 ≠ gb468)); have n10_ := Am ((by rw [hg]; exact Nat.ne_of_gt (kl (g := gb458) (o := o9b0 t446 t447 t448 t449 t450 t451) (by (with_reducible repeat (first | refine kn ?_ _ | refine ke ?_ | refine ka ?_ _)); refine blk_far ?_ NB458_467.out _; (with_reducible repeat (first | refine kn ?_ _ | refine ke ?_ | refine ka ?_ _)); refine blk_far ?_ NB458_467.out _; (with_reducible repeat (first | refine kn ?_ _ | refine ke ?_ | refine ka ?_ _)); refine blk_far ?_ NB458_467.out _; (with_reducible repeat (first | refine kn ?_ _ | refine ke ?_ | refine ka ?_ _)); refine blk_far ?_ NB458_467.out _; (with_reducible repeat (first | refine kn ?_ _ | refine ke ?_ | refine ka ?_ _)); refine blk_far ?_ NB458_467.out _; (with_reducible repeat (first | refine kn ?_ _ | refine ke ?_ | refine ka ?_ _)); refine blk_far ?_ NB458_467.out _; (with_reducible repeat (first | refine kn ?_ _ | refine ke ?_ | refine ka ?_ _)); refine blk_far ?_ NB458_467.out _; (with_reducible repeat (first | refine kn ?_ _ | refine ke ?_ | refine ka ?_ _)); exact BK458.out)) : gb468 ≠ gb458)); have n11_ := Am ((by rw [hg]; exact Nat.ne_of_lt (kl (g := gb459) (o := o9b1 t452 t453 t454 t455 t456 t457) (by (with_reducible repeat (first | refine kn ?_ _ | refine ke ?_ | refine ka ?_ _)); refine blk_far ?_ NB459_467.out _; (with_reducible repeat (first | refine kn ?_ _ | refine ke ?_ | refine ka ?_ _)); refine blk_far ?_ NB459_467.out _; (with_reducible repeat (first | refine kn ?_ _ | refine ke ?_ | refine ka ?_ _)); refine blk_far ?_ NB459_467.out _; (with_reducible repeat (first | refine kn ?_ _ | refine ke ?_ | refine ka ?_ _)); refine blk_far ?_ NB459_467.out _; (with_reducible repeat (first | refine kn ?_ _ | refine ke ?_ | refine ka ?_ _)); refine blk_far ?_ NB459_467.out _; (with_reducible repeat (first | refine kn ?_ _ | refine ke ?_ | refine ka ?_ _)); refine blk_far ?_ NB459_467.out _; (with_reducible repeat (first | refine kn ?_ _ | refine ke ?_ | refine ka ?_ _)); refine blk_far ?_ NB459_467.out _; (with_reducible repeat (first | refine kn ?_ _ | refine ke ?_ | refine ka ?_ _)); exact BK459.out)) : gb459 ≠ gb468)); have n12_ := Am ((by rw [hg]; exact Nat.ne_of_gt (kl (g := gb459) (o := o9b1 t452 t453 t454 t455 t456 t457) (by (with_reducible repeat (first | refine kn ?_ _ | refine ke ?_ | refine ka ?_ _)); refine blk_far ?_ NB459_467.out _; (with_reducible repeat (first | refine kn ?_ _ | refine ke ?_ | refine ka ?_ _)); refine blk_far ?_ NB459_467.out _; (with_reducible repeat (first | refine kn ?_ _ | refine ke ?_ | refine ka ?_ _)); refine blk_far ?_ NB459_467.out _; (with_reducible repeat (first | refine kn ?_ _ | refine ke ?_ | refine ka ?_ _)); refine blk_far ?_ NB459_467.out _; (with_reducible repeat (first | refine kn ?_ _ | refine ke ?_ | refine ka ?_ _)); refine blk_far ?_ NB459_467.out _; (with_reducible repeat (first | refine kn ?_ _ | refine ke ?_ | refine ka ?_ _)); refine blk_far ?_ NB459_467.out _; (with_reducible repeat (first | refine kn ?_ _ | refine ke ?_ | refine ka ?_ _)); refine blk_far ?_ NB459_467.out _; (with_reducible repeat (first | refine kn ?_ _ | refine ke ?_ | refine ka ?_ _)); exact BK459.out)) : gb468 ≠ gb459)); have n13_ := Am ((by rw [hg]; exact Nat.ne_of_lt (kl (g := gb467) (o := .cells #[.int .i64 t446, .string t447, .string t448, .int .i64 (wrap64 (t449 + 1)), .int .i64 t450, .string t451] 32 (0, 0)) (by (with_reducible repeat (first | refine kn ?_ _ | refine ke ?_ | refine ka ?_ _)); refine kp (cs := #[.int .i64 t446, .string t447, .string t448, .int .i64 t449, .int .i64 t450, .string t451]) ?_ 3 _ rfl; (with_reducible repeat (first | refine kn ?_ _ | refine ke ?_ | refine ka ?_ _)); refine kp (cs := #[.int .i64 t446, .string t447, .string t448, .int .i64 t449, .int .i64 t450, .string (⟨#[]⟩ : ByteArray)]) ?_ 5 _ rfl; (with_reducible repeat (first | refine kn ?_ _ | refine ke ?_ | refine ka ?_ _)); refine kp (cs := #[.int .i64 t446, .string t447, .string t448, .int .i64 t449, .int .i64 0, .string (⟨#[]⟩ : ByteArray)]) ?_ 4 _ rfl; (with_reducible repeat (first | refine kn ?_ _ | refine ke ?_ | refine ka ?_ _)); refine kp (cs := #[.int .i64 t446, .string t447, .string t448, .int .i64 0, .int .i64 0, .string (⟨#[]⟩ : ByteArray)]) ?_ 3 _ rfl; (with_reducible repeat (first | refine kn ?_ _ | refine ke ?_ | refine ka ?_ _)); refine kp (cs := #[.int .i64 t446, .string t447, .string (⟨#[]⟩ : ByteArray), .int .i64 0, .int .i64 0, .string (⟨#[]⟩ : ByteArray)]) ?_ 2 _ rfl; (with_reducible repeat (first | refine kn ?_ _ | refine ke ?_ | refine ka ?_ _)); refine kp (cs := #[.int .i64 t446, .string (⟨#[]⟩ : ByteArray), .string (⟨#[]⟩ : ByteArray), .int .i64 0, .int .i64 0, .string (⟨#[]⟩ : ByteArray)]) ?_ 1 _ rfl; (with_reducible repeat (first | refine kn ?_ _ | refine ke ?_ | refine ka ?_ _)); refine kp (cs := #[.int .i64 0, .string (⟨#[]⟩ : ByteArray), .string (⟨#[]⟩ : ByteArray), .int .i64 0, .int .i64 0, .string (⟨#[]⟩ : ByteArray)]) ?_ 0 _ rfl; (with_reducible repeat (first | refine kn ?_ _ | refine ke ?_ | refine ka ?_ _)); exact BK467.out)) : gb467 ≠ gb468)); have n14_ := Am ((by rw [hg]; exact Nat.ne_of_gt (kl (g := gb467) (o := .cells #[.int .i64 t446, .string t447, .string t448, .int .i64 (wrap64 (t449 + 1)), .int .i64 t450, .string t451] 32 (0, 0)) (by (with_reducible repeat (first | refine kn ?_ _ | refine ke ?_ | refine ka ?_ _)); refine kp (cs := #[.int .i64 t446, .string t447, .string t448, .int .i64 t449, .int .i64 t450, .string t451]) ?_ 3 _ rfl; (with_reducible repeat (first | refine kn ?_ _ | refine ke ?_ | refine ka ?_ _)); refine kp (cs := #[.int .i64 t446, .string t447, .string t448, .int .i64 t449, .int .i64 t450, .string (⟨#[]⟩ : ByteArray)]) ?_ 5 _ rfl; (with_reducible repeat (first | refine kn ?_ _ | refine ke ?_ | refine ka ?_ _)); refine kp (cs := #[.int .i64 t446, .string t447, .string t448, .int .i64 t449, .int .i64 0, .string (⟨#[]⟩ : ByteArray)]) ?_ 4 _ rfl; (with_reducible repeat (first | refine kn ?_ _ | refine ke ?_ | refine ka ?_ _)); refine kp (cs := #[.int .i64 t446, .string t447, .string t448, .int .i64 0, .int .i64 0, .string (⟨#[]⟩ : ByteArray)]) ?_ 3 _ rfl; (with_reducible repeat (first | refine kn ?_ _ | refine ke ?_ | refine ka ?_ _)); refine kp (cs := #[.int .i64 t446, .string t447, .string (⟨#[]⟩ : ByteArray), .int .i64 0, .int .i64 0, .string (⟨#[]⟩ : ByteArray)]) ?_ 2 _ rfl; (with_reducible repeat (first | refine kn ?_ _ | refine ke ?_ | refine ka ?_ _)); refine kp (cs := #[.int .i64 t446, .string (⟨#[]⟩ : ByteArray), .string (⟨#[]⟩ : ByteArray), .int .i64 0, .int .i64 0, .string (⟨#[]⟩ : ByteArray)]) ?_ 1 _ rfl; (with_reducible repeat (first | refine kn ?_ _ | refine ke ?_ | refine ka ?_ _)); refine kp (cs := #[.int .i64 0, .string (⟨#[]⟩ : ByteArray), .string (⟨#[]⟩ : ByteArray), .int .i64 0, .int .i64 0, .string (⟨#[]⟩ : ByteArray)]) ?_ 0 _ rfl; (with_reducible repeat (first | refine kn ?_ _ | refine ke ?_ | refine ka ?_ _)); exact BK467.out)) : gb468 ≠ gb467)); clear HO464; clear HO466; clear BK458; clear BK459; clear BK467; clear HB; have HO464 := n0_; have HO466 := n1_; have BK458 := n2_; have BK459 := n3_; have BK467 := n4_; have HB := n5_; have BK468 := n6_; have GW468 := n7_; have GE468 := n8_; have NB458_468 := n9_; have NB468_458 := n10_; have NB459_468 := n11_; have NB468_459 := n12_; have NB467_468 := n13_; have NB468_467 := n14_; clear n0_ n1_ n2_ n3_ n4_ n5_ n6_ n7_ n8_ n9_ n10_ n11_ n12_ n13_ n14_; clear hb hbox hg; have hnb64 := NB468_458.out; have hnc64 := NB458_468.out; have hnb65 := NB468_459.out; have hnc65 := NB459_468.out; have hnb66 := NB468_467.out; have hnc66 := NB467_468.out; obtain ⟨hcz67_0, hcz67_1, hcz67_2, hcz67_3, hcz67_4, hcz67_5⟩ := kc6 (w := w63) BK468.out; have hfz67_0 := kf BK468.out; obtain ⟨hcz68_0, hcz68_1, hcz68_2, hcz68_3, hcz68_4, hcz68_5⟩ := kc6 (w := w63) BK458.out; have hfz68_0 := kf BK458.out) | ((with_reducible refine gate_callee (f := 13) rfl ?_); refine zC (some 33) rfl rfl Try.func13 rfl #[.string t451] rfl ?_; (with_reducible refine (laws_others.calls t451 t469 _ A6.out).mono ?_); rintro e w69 ⟨rfl, hb⟩; refine ⟨_, rfl, ?_⟩; have n0_ := Am (rb (by (with_reducible repeat (first | apply ra | apply rn | apply re)); exact (Kd.R_mono (Kd.R_far (p := ⟨gb468, 5, none⟩) (Kd.R_far (p := ⟨gb468, 4, none⟩) (Kd.R_far (p := ⟨gb468, 3, none⟩) (Kd.R_far (p := ⟨gb468, 2, none⟩) (Kd.R_far (p := ⟨gb468, 1, none⟩) (Kd.R_far (p := ⟨gb468, 0, none⟩) (Kd.R_types HO464.out BK468.out (by decide)) (fun _ hk => hk.2) (.int .i64 t446)) (fun _ hk => hk.2) (.string t447)) (fun _ hk => hk.2) (.string t448)) (fun _ hk => hk.2) (.int .i64 t449)) (fun _ hk => hk.2) (.int .i64 t450)) (fun _ hk => hk.2) (.string t451)) (fun _ h_ => h_.1))) hb); have n1_ := Am (rb (by (with_reducible repeat (first | apply ra | apply rn | apply re)); exact (Kd.R_mono (Kd.R_far (p := ⟨gb468, 5, none⟩) (Kd.R_far (p := ⟨gb468, 4, none⟩) (Kd.R_far (p := ⟨gb468, 3, none⟩) (Kd.R_far (p := ⟨gb468, 2, none⟩) (Kd.R_far (p := ⟨gb468, 1, none⟩) (Kd.R_far (p := ⟨gb468, 0, none⟩) (Kd.R_types HO466.out BK468.out (by decide)) (fun _ hk => hk.2) (.int .i64 t446)) (fun _ hk => hk.2) (.string t447)) (fun _ hk => hk.2) (.string t448)) (fun _ hk => hk.2) (.int .i64 t449)) (fun _ hk => hk.2) (.int .i64 t450)) (fun _ hk => hk.2) (.string t451)) (fun _ h_ => h_.1))) hb); have n2_ := Am (kb (g := gb458) (o := o9b0 t446 t447 t448 t449 t450 t451) (by (with_reducible repeat (first | refine kn ?_ _ | refine ke ?_ | refine ka ?_ _)); refine blk_far ?_ NB458_468.out _; (with_reducible repeat (first | refine kn ?_ _ | refine ke ?_ | refine ka ?_ _)); refine blk_far ?_ NB458_468.out _; (with_reducible repeat (first | refine kn ?_ _ | refine ke ?_ | refine ka ?_ _)); refine blk_far ?_ NB458_468.out _; (with_reducible repeat (first | refine kn ?_ _ | refine ke ?_ | refine ka ?_ _)); refine blk_far ?_ NB458_468.out _; (with_reducible repeat (first | refine kn ?_ _ | refine ke ?_ | refine ka ?_ _)); refine blk_far ?_ NB458_468.out _; (with_reducible repeat (first | refine kn ?_ _ | refine ke ?_ | refine ka ?_ _)); refine blk_far ?_ NB458_468.out _; (with_reducible repeat (first | refine kn ?_ _ | refine ke ?_ | refine ka ?_ _)); exact BK458.out) hb); have n3_ := Am (kb (g := gb459) (o := o9b1 t452 t453 t454 t455 t456 t457) (by (with_reducible repeat (first | refine kn ?_ _ | refine ke ?_ | refine ka ?_ _)); refine blk_far ?_ NB459_468.out _; (with_reducible repeat (first | refine kn ?_ _ | refine ke ?_ | refine ka ?_ _)); refine blk_far ?_ NB459_468.out _; (with_reducible repeat (first | refine kn ?_ _ | refine ke ?_ | refine ka ?_ _)); refine blk_far ?_ NB459_468.out _; (with_reducible repeat (first | refine kn ?_ _ | refine ke ?_ | refine ka ?_ _)); refine blk_far ?_ NB459_468.out _; (with_reducible repeat (first | refine kn ?_ _ | refine ke ?_ | refine ka ?_ _)); refine blk_far ?_ NB459_468.out _; (with_reducible repeat (first | refine kn ?_ _ | refine ke ?_ | refine ka ?_ _)); refine blk_far ?_ NB459_468.out _; (with_reducible repeat (first | refine kn ?_ _ | refine ke ?_ | refine ka ?_ _)); exact BK459.out) hb); have n4_ := Am (kb (g := gb467) (o := .cells #[.int .i64 t446, .string t447, .string t448, .int .i64 (wrap64 (t449 + 1)), .int .i64 t450, .string t451] 32 (0, 0)) (by (with_reducible repeat (first | refine kn ?_ _ | refine ke ?_ | refine ka ?_ _)); refine blk_far ?_ NB467_468.out _; (with_reducible repeat (first | refine kn ?_ _ | refine ke ?_ | refine ka ?_ _)); refine blk_far ?_ NB467_468.out _; (with_reducible repeat (first | refine kn ?_ _ | refine ke ?_ | refine ka ?_ _)); refine blk_far ?_ NB467_468.out _; (with_reducible repeat (first | refine kn ?_ _ | refine ke ?_ | refine ka ?_ _)); refine blk_far ?_ NB467_468.out _; (with_reducible repeat (first | refine kn ?_ _ | refine ke ?_ | refine ka ?_ _)); refine blk_far ?_ NB467_468.out _; (with_reducible repeat (first | refine kn ?_ _ | refine ke ?_ | refine ka ?_ _)); refine blk_far ?_ NB467_468.out _; (with_reducible repeat (first | refine kn ?_ _ | refine ke ?_ | refine ka ?_ _)); exact BK467.out) hb); have n5_ := Am (kb (g := gb468) (o := o9b0 t446 t447 t448 t449 t450 t451) (by (with_reducible repeat (first | refine kn ?_ _ | refine ke ?_ | refine ka ?_ _)); refine kp (cs := #[.int .i64 t446, .string t447, .string t448, .int .i64 t449, .int .i64 t450, .string (⟨#[]⟩ : ByteArray)]) ?_ 5 _ rfl; (with_reducible repeat (first | refine kn ?_ _ | refine ke ?_ | refine ka ?_ _)); refine kp (cs := #[.int .i64 t446, .string t447, .string t448, .int .i64 t449, .int .i64 0, .string (⟨#[]⟩ : ByteArray)]) ?_ 4 _ rfl; (with_reducible repeat (first | refine kn ?_ _ | refine ke ?_ | refine ka ?_ _)); refine kp (cs := #[.int .i64 t446, .string t447, .string t448, .int .i64 0, .int .i64 0, .string (⟨#[]⟩ : ByteArray)]) ?_ 3 _ rfl; (with_reducible repeat (first | refine kn ?_ _ | refine ke ?_ | refine ka ?_ _)); refine kp (cs := #[.int .i64 t446, .string t447, .string (⟨#[]⟩ : ByteArray), .int .i64 0, .int .i64 0, .string (⟨#[]⟩ : ByteArray)]) ?_ 2 _ rfl; (with_reducible repeat (first | refine kn ?_ _ | refine ke ?_ | refine ka ?_ _)); refine kp (cs := #[.int .i64 t446, .string (⟨#[]⟩ : ByteArray), .string (⟨#[]⟩ : ByteArray), .int .i64 0, .int .i64 0, .string (⟨#[]⟩ : ByteArray)]) ?_ 1 _ rfl; (with_reducible repeat (first | refine kn ?_ _ | refine ke ?_ | refine ka ?_ _)); refine kp (cs := #[.int .i64 0, .string (⟨#[]⟩ : ByteArray), .string (⟨#[]⟩ : ByteArray), .int .i64 0, .int .i64 0, .string (⟨#[]⟩ : ByteArray)]) ?_ 0 _ rfl; (with_reducible repeat (first | refine kn ?_ _ | refine ke ?_ | refine ka ?_ _)); exact BK468.out) hb); have n6_ := Am (bq zG hb); clear HO464; clear HO466; clear BK458; clear BK459; clear BK467; clear BK468; clear HB; have HO464 := n0_; have HO466 := n1_; have BK458 := n2_; have BK459 := n3_; have BK467 := n4_; have BK468 := n5_; have HB := n6_; clear n0_ n1_ n2_ n3_ n4_ n5_ n6_; (try clear hb); (try clear hb2); (try clear hk); (try clear hi); obtain ⟨hcz70_0, hcz70_1, hcz70_2, hcz70_3, hcz70_4, hcz70_5⟩ := kc6 (w := w69) BK468.out; have hfz70_0 := kf BK468.out) | ((with_reducible refine gate_callee (f := 14) rfl ?_); refine zC (some 36) rfl rfl Try.func14 rfl #[.slice A0 l0.length c0] rfl ?_; (with_reducible refine (spec_DrawMaskRec.calls k _ _ l0 t470 _ ?side1 ?side2 A7.out).mono ?_); (case side1 => exact cb HR0.out zG); (case side2 => exact HC0.out); rintro e w71 ⟨rfl, hb⟩; refine ⟨_, rfl, ?_⟩; have n0_ := Am (rb (by (with_reducible repeat (first | apply ra | apply rn | apply re)); exact (Kd.R_mono (Kd.R_far (p := ⟨gb468, 5, none⟩) (Kd.R_types HO464.out BK468.out (by decide)) (fun _ hk => hk.2) (.string t469)) (fun _ h_ => h_.1))) hb); have n1_ := Am (rb (by (with_reducible repeat (first | apply ra | apply rn | apply re)); exact (Kd.R_mono (Kd.R_far (p := ⟨gb468, 5, none⟩) (Kd.R_types HO466.out BK468.out (by decide)) (fun _ hk => hk.2) (.string t469)) (fun _ h_ => h_.1))) hb); have n2_ := Am (kb (g := gb458) (o := o9b0 t446 t447 t448 t449 t450 t451) (by (with_reducible repeat (first | refine kn ?_ _ | refine ke ?_ | refine ka ?_ _)); refine blk_far ?_ NB458_468.out _; (with_reducible repeat (first | refine kn ?_ _ | refine ke ?_ | refine ka ?_ _)); exact BK458.out) hb); have n3_ := Am (kb (g := gb459) (o := o9b1 t452 t453 t454 t455 t456 t457) (by (with_reducible repeat (first | refine kn ?_ _ | refine ke ?_ | refine ka ?_ _)); refine blk_far ?_ NB459_468.out _; (with_reducible repeat (first | refine kn ?_ _ | refine ke ?_ | refine ka ?_ _)); exact BK459.out) hb); have n4_ := Am (kb (g := gb467) (o := .cells #[.int .i64 t446, .string t447, .string t448, .int .i64 (wrap64 (t449 + 1)), .int .i64 t450, .string t451] 32 (0, 0)) (by (with_reducible repeat (first | refine kn ?_ _ | refine ke ?_ | refine ka ?_ _)); refine blk_far ?_ NB467_468.out _; (with_reducible repeat (first | refine kn ?_ _ | refine ke ?_ | refine ka ?_ _)); exact BK467.out) hb); have n5_ := Am (kb (g := gb468) (o := o9b3 t446 t447 t448 t449 t450 t469) (by (with_reducible repeat (first | refine kn ?_ _ | refine ke ?_ | refine ka ?_ _)); refine kp (cs := #[.int .i64 t446, .string t447, .string t448, .int .i64 t449, .int .i64 t450, .string t451]) ?_ 5 _ rfl; (with_reducible repeat (first | refine kn ?_ _ | refine ke ?_ | refine ka ?_ _)); exact BK468.out) hb); have n6_ := Am (bq zG hb); clear HO464; clear HO466; clear BK458; clear BK459; clear BK467; clear BK468; clear HB; have HO464 := n0_; have HO466 := n1_; have BK458 := n2_; have BK459 := n3_; have BK467 := n4_; have BK468 := n5_; have HB := n6_; clear n0_ n1_ n2_ n3_ n4_ n5_ n6_; (try clear hb)) | ((with_reducible refine gate_callee (f := 15) rfl ?_); refine zC (some 38) rfl rfl Try.func15 rfl #[.string t470] rfl ?_; (with_reducible refine (impl_MaskRec.calls t470 t471 _ A8.out).mono ?_); rintro e w72 ⟨rfl, hb⟩; refine ⟨_, rfl, ?_⟩; have n0_ := Am (rb (by (with_reducible repeat (first | apply ra | apply rn | apply re)); exact HO464.out) hb); have n1_ := Am (rb (by (with_reducible repeat (first | apply ra | apply rn | apply re)); exact HO466.out) hb); have n2_ := Am (zK BK458 hb); have n3_ := Am (zK BK459 hb); have n4_ := Am (zK BK467 hb); have n5_ := Am (zK BK468 hb); have n6_ := Am (bq zG hb); clear HO464; clear HO466; clear BK458; clear BK459; clear BK467; clear BK468; clear HB; have HO464 := n0_; have HO466 := n1_; have BK458 := n2_; have BK459 := n3_; have BK467 := n4_; have BK468 := n5_; have HB := n6_; clear n0_ n1_ n2_ n3_ n4_ n5_ n6_; (try clear hb)))
        have n0_ := Am (re HO464.out)
        have n1_ := Am (re HO466.out)
        have n2_ := Am (ke BK458.out)
        have n3_ := Am (ke BK459.out)
        have n4_ := Am (ke BK467.out)
        have n5_ := Am (ke BK468.out)
        have n6_ := Am (be HB.out)
        clear HO464
        clear HO466
        clear BK458
        clear BK459
        clear BK467
        clear BK468
        clear HB
        have HO464 := n0_
        have HO466 := n1_
        have BK458 := n2_
        have BK459 := n3_
        have BK467 := n4_
        have BK468 := n5_
        have HB := n6_
        clear n0_ n1_ n2_ n3_ n4_ n5_ n6_
        refine start_ (n := 49) (S := fun w' => w'.cell? ⟨gb458, 0, none⟩ = some (.int .i64 t446) ∧ w'.cell? ⟨gb458, 1, none⟩ = some (.string t447) ∧ w'.cell? ⟨gb458, 2, none⟩ = some (.string t448) ∧ w'.cell? ⟨gb458, 3, none⟩ = some (.int .i64 t449) ∧ w'.cell? ⟨gb458, 4, none⟩ = some (.int .i64 t450) ∧ w'.cell? ⟨gb458, 5, none⟩ = some (.string t451) ∧ w'.cell? ⟨gb459, 0, none⟩ = some (.int .i64 t452) ∧ w'.cell? ⟨gb459, 1, none⟩ = some (.string t453) ∧ w'.cell? ⟨gb459, 2, none⟩ = some (.string t454) ∧ w'.cell? ⟨gb459, 3, none⟩ = some (.int .i64 t455) ∧ w'.cell? ⟨gb459, 4, none⟩ = some (.int .i64 t456) ∧ w'.cell? ⟨gb459, 5, none⟩ = some (.string t457) ∧ w'.cell? ⟨gb467, 0, none⟩ = some (.int .i64 t446) ∧ w'.cell? ⟨gb467, 1, none⟩ = some (.string t447) ∧ w'.cell? ⟨gb467, 2, none⟩ = some (.string t448) ∧ w'.cell? ⟨gb467, 3, none⟩ = some (.int .i64 (wrap64 (t449 + 1))) ∧ w'.cell? ⟨gb467, 4, none⟩ = some (.int .i64 t450) ∧ w'.cell? ⟨gb467, 5, none⟩ = some (.string t451) ∧ w'.cell? ⟨gb468, 0, none⟩ = some (.int .i64 t446) ∧ w'.cell? ⟨gb468, 1, none⟩ = some (.string t447) ∧ w'.cell? ⟨gb468, 2, none⟩ = some (.string t448) ∧ w'.cell? ⟨gb468, 3, none⟩ = some (.int .i64 t449) ∧ w'.cell? ⟨gb468, 4, none⟩ = some (.int .i64 t450) ∧ w'.cell? ⟨gb468, 5, none⟩ = some (.string t469)) (ds := []) #[false, false, false, false, false, false, false, false, false, false, false, false, false, false, false, false, false, false, false, false, false, false, false, false, false, false, false, false, false, false, false, false, false, false, false, false, false, false, false, false, false, false, false, false, false, false, false, false, false] (by kernel_rfl) rfl rfl ⟨(kc BK458.out 0).trans rfl, (kc BK458.out 1).trans rfl, (kc BK458.out 2).trans rfl, (kc BK458.out 3).trans rfl, (kc BK458.out 4).trans rfl, (kc BK458.out 5).trans rfl, (kc BK459.out 0).trans rfl, (kc BK459.out 1).trans rfl, (kc BK459.out 2).trans rfl, (kc BK459.out 3).trans rfl, (kc BK459.out 4).trans rfl, (kc BK459.out 5).trans rfl, (kc BK467.out 0).trans rfl, (kc BK467.out 1).trans rfl, (kc BK467.out 2).trans rfl, (kc BK467.out 3).trans rfl, (kc BK467.out 4).trans rfl, (kc BK467.out 5).trans rfl, (kc BK468.out 0).trans rfl, (kc BK468.out 1).trans rfl, (kc BK468.out 2).trans rfl, (kc BK468.out 3).trans rfl, (kc BK468.out 4).trans rfl, (kc BK468.out 5).trans rfl⟩ (fun hHeld => ?_); refine with_tabW laws_FnShapes.tab11 laws_FnShapes.bits11 (fun HT_ HW_ => ?_)
        generalize w72.drew = w73 at HO464 HO466 BK458 BK459 BK467 BK468 HB hHeld ⊢
        refine zT 0 (some 39) HT_.out HW_.out rfl rfl hHeld ?_
        refine zT 1 (some 40) HT_.out HW_.out rfl rfl hHeld ?_
        refine zT 3 (some 42) HT_.out HW_.out rfl rfl hHeld ?_
        refine zT 4 (some 43) HT_.out HW_.out rfl rfl hHeld ?_
        refine zO 2 (some 41) HT_.out rfl rfl (fun K hK => ?_)
        refine goes_ Try.func16 (by kernel_rfl) rfl #[.agg #[.int .i64 t446, .string t447, .string t448, .int .i64 t449, .int .i64 t450, .string t451], .agg #[.int .i64 t452, .string t453, .string t454, .int .i64 t455, .int .i64 t456, .string t457]] (by rfl) rfl rfl (by (try simp only [List.map_toArray, List.map_cons, List.map_nil]); first | done | rfl | (simp only [List.length_drop, List.length_take]; rfl)) ?_
        with_reducible refine (impl_SameShape.calls t446 t447 t448 t449 t450 t451 t452 t453 t454 t455 t456 t457 t472 _ A9.out).mono ?_
        rintro e w74 ⟨rfl, hb⟩
        refine ⟨_, rfl, ?_⟩
        have n0_ := Am (rb (by (with_reducible repeat (first | apply ra | apply rn | apply re)); exact HO464.out) hb)
        have n1_ := Am (rb (by (with_reducible repeat (first | apply ra | apply rn | apply re)); exact HO466.out) hb)
        have n2_ := Am (zK BK458 hb)
        have n3_ := Am (zK BK459 hb)
        have n4_ := Am (zK BK467 hb)
        have n5_ := Am (zK BK468 hb)
        have n6_ := Am (bq zG hb)
        clear HO464
        clear HO466
        clear BK458
        clear BK459
        clear BK467
        clear BK468
        clear HB
        have HO464 := n0_
        have HO466 := n1_
        have BK458 := n2_
        have BK459 := n3_
        have BK467 := n4_
        have BK468 := n5_
        have HB := n6_
        clear n0_ n1_ n2_ n3_ n4_ n5_ n6_
        (try clear hb)
        (try clear hb2)
        (try clear hk)
        (try clear hi)
        refine hK.out _ _ ⟨(kc BK458.out 0).trans rfl, (kc BK458.out 1).trans rfl, (kc BK458.out 2).trans rfl, (kc BK458.out 3).trans rfl, (kc BK458.out 4).trans rfl, (kc BK458.out 5).trans rfl, (kc BK459.out 0).trans rfl, (kc BK459.out 1).trans rfl, (kc BK459.out 2).trans rfl, (kc BK459.out 3).trans rfl, (kc BK459.out 4).trans rfl, (kc BK459.out 5).trans rfl, (kc BK467.out 0).trans rfl, (kc BK467.out 1).trans rfl, (kc BK467.out 2).trans rfl, (kc BK467.out 3).trans rfl, (kc BK467.out 4).trans rfl, (kc BK467.out 5).trans rfl, (kc BK468.out 0).trans rfl, (kc BK468.out 1).trans rfl, (kc BK468.out 2).trans rfl, (kc BK468.out 3).trans rfl, (kc BK468.out 4).trans rfl, (kc BK468.out 5).trans rfl⟩ (fun hHeld => ?_)
        clear hK K
        refine zN (some 41) ?_
        refine zO 5 (some 44) HT_.out rfl rfl (fun K hK => ?_)
        refine goes_ Try.func17 (by kernel_rfl) rfl #[.agg #[.int .i64 t446, .string t447, .string t448, .int .i64 t449, .int .i64 t450, .string t451], .agg #[.int .i64 t452, .string t453, .string t454, .int .i64 t455, .int .i64 t456, .string t457]] (by rfl) rfl rfl (by (try simp only [List.map_toArray, List.map_cons, List.map_nil]); first | done | rfl | (simp only [List.length_drop, List.length_take]; rfl)) ?_
        with_reducible refine (spec_SameShape.calls t446 t447 t448 t449 t450 t451 t452 t453 t454 t455 t456 t457 t473 _ A10.out).mono ?_
        rintro e w75 ⟨rfl, hb⟩
        refine ⟨_, rfl, ?_⟩
        have n0_ := Am (rb (by (with_reducible repeat (first | apply ra | apply rn | apply re)); exact HO464.out) hb)
        have n1_ := Am (rb (by (with_reducible repeat (first | apply ra | apply rn | apply re)); exact HO466.out) hb)
        have n2_ := Am (zK BK458 hb)
        have n3_ := Am (zK BK459 hb)
        have n4_ := Am (zK BK467 hb)
        have n5_ := Am (zK BK468 hb)
        have n6_ := Am (bq zG hb)
        clear HO464
        clear HO466
        clear BK458
        clear BK459
        clear BK467
        clear BK468
        clear HB
        have HO464 := n0_
        have HO466 := n1_
        have BK458 := n2_
        have BK459 := n3_
        have BK467 := n4_
        have BK468 := n5_
        have HB := n6_
        clear n0_ n1_ n2_ n3_ n4_ n5_ n6_
        (try clear hb)
        (try clear hb2)
        (try clear hk)
        (try clear hi)
        refine hK.out _ _ ⟨(kc BK458.out 0).trans rfl, (kc BK458.out 1).trans rfl, (kc BK458.out 2).trans rfl, (kc BK458.out 3).trans rfl, (kc BK458.out 4).trans rfl, (kc BK458.out 5).trans rfl, (kc BK459.out 0).trans rfl, (kc BK459.out 1).trans rfl, (kc BK459.out 2).trans rfl, (kc BK459.out 3).trans rfl, (kc BK459.out 4).trans rfl, (kc BK459.out 5).trans rfl, (kc BK467.out 0).trans rfl, (kc BK467.out 1).trans rfl, (kc BK467.out 2).trans rfl, (kc BK467.out 3).trans rfl, (kc BK467.out 4).trans rfl, (kc BK467.out 5).trans rfl, (kc BK468.out 0).trans rfl, (kc BK468.out 1).trans rfl, (kc BK468.out 2).trans rfl, (kc BK468.out 3).trans rfl, (kc BK468.out 4).trans rfl, (kc BK468.out 5).trans rfl⟩ (fun hHeld => ?_)
        clear hK K
        refine zN (some 44) ?_
        refine zA 6 (some 45) HT_.out rfl rfl ?_
        refine zA 7 (some 46) HT_.out rfl rfl ?_
        refine zT 8 (some 47) HT_.out HW_.out rfl rfl hHeld ?_
        refine zT 9 (some 48) HT_.out HW_.out rfl rfl hHeld ?_
        refine zO 10 (some 49) HT_.out rfl rfl (fun K hK => ?_)
        refine goes_ Try.func16 (by kernel_rfl) rfl #[.agg #[.int .i64 t446, .string t447, .string t448, .int .i64 t449, .int .i64 t450, .string t451], .agg #[.int .i64 t446, .string t447, .string t448, .int .i64 (wrap64 (t449 + 1)), .int .i64 t450, .string t451]] (by rfl) rfl rfl (by (try simp only [List.map_toArray, List.map_cons, List.map_nil]); first | done | rfl | (simp only [List.length_drop, List.length_take]; rfl)) ?_
        with_reducible refine (impl_SameShape.calls t446 t447 t448 t449 t450 t451 t446 t447 t448 (wrap64 (t449 + 1)) t450 t451 false _ A12.out).mono ?_
        rintro e w76 ⟨rfl, hb⟩
        refine ⟨_, rfl, ?_⟩
        have n0_ := Am (rb (by (with_reducible repeat (first | apply ra | apply rn | apply re)); exact HO464.out) hb)
        have n1_ := Am (rb (by (with_reducible repeat (first | apply ra | apply rn | apply re)); exact HO466.out) hb)
        have n2_ := Am (zK BK458 hb)
        have n3_ := Am (zK BK459 hb)
        have n4_ := Am (zK BK467 hb)
        have n5_ := Am (zK BK468 hb)
        have n6_ := Am (bq zG hb)
        clear HO464
        clear HO466
        clear BK458
        clear BK459
        clear BK467
        clear BK468
        clear HB
        have HO464 := n0_
        have HO466 := n1_
        have BK458 := n2_
        have BK459 := n3_
        have BK467 := n4_
        have BK468 := n5_
        have HB := n6_
        clear n0_ n1_ n2_ n3_ n4_ n5_ n6_
        (try clear hb)
        (try clear hb2)
        (try clear hk)
        (try clear hi)
        refine hK.out _ _ ⟨(kc BK458.out 0).trans rfl, (kc BK458.out 1).trans rfl, (kc BK458.out 2).trans rfl, (kc BK458.out 3).trans rfl, (kc BK458.out 4).trans rfl, (kc BK458.out 5).trans rfl, (kc BK459.out 0).trans rfl, (kc BK459.out 1).trans rfl, (kc BK459.out 2).trans rfl, (kc BK459.out 3).trans rfl, (kc BK459.out 4).trans rfl, (kc BK459.out 5).trans rfl, (kc BK467.out 0).trans rfl, (kc BK467.out 1).trans rfl, (kc BK467.out 2).trans rfl, (kc BK467.out 3).trans rfl, (kc BK467.out 4).trans rfl, (kc BK467.out 5).trans rfl, (kc BK468.out 0).trans rfl, (kc BK468.out 1).trans rfl, (kc BK468.out 2).trans rfl, (kc BK468.out 3).trans rfl, (kc BK468.out 4).trans rfl, (kc BK468.out 5).trans rfl⟩ (fun hHeld => ?_)
        clear hK K
        refine zN (some 49) ?_
        refine zA 11 (some 50) HT_.out rfl rfl ?_
        refine zA 12 (some 51) HT_.out rfl rfl ?_
        refine zA 13 (some 52) HT_.out rfl rfl ?_
        refine zT 14 (some 53) HT_.out HW_.out rfl rfl hHeld ?_
        refine zT 15 (some 54) HT_.out HW_.out rfl rfl hHeld ?_
        refine zO 16 (some 55) HT_.out rfl rfl (fun K hK => ?_)
        refine goes_ Try.func16 (by kernel_rfl) rfl #[.agg #[.int .i64 t446, .string t447, .string t448, .int .i64 t449, .int .i64 t450, .string t451], .agg #[.int .i64 t446, .string t447, .string t448, .int .i64 t449, .int .i64 t450, .string t469]] (by rfl) rfl rfl (by (try simp only [List.map_toArray, List.map_cons, List.map_nil]); first | done | rfl | (simp only [List.length_drop, List.length_take]; rfl)) ?_
        with_reducible refine (impl_SameShape.calls t446 t447 t448 t449 t450 t451 t446 t447 t448 t449 t450 t469 true _ A41.out).mono ?_
        rintro e w77 ⟨rfl, hb⟩
        refine ⟨_, rfl, ?_⟩
        have n0_ := Am (rb (by (with_reducible repeat (first | apply ra | apply rn | apply re)); exact HO464.out) hb)
        have n1_ := Am (rb (by (with_reducible repeat (first | apply ra | apply rn | apply re)); exact HO466.out) hb)
        have n2_ := Am (zK BK458 hb)
        have n3_ := Am (zK BK459 hb)
        have n4_ := Am (zK BK467 hb)
        have n5_ := Am (zK BK468 hb)
        have n6_ := Am (bq zG hb)
        clear HO464
        clear HO466
        clear BK458
        clear BK459
        clear BK467
        clear BK468
        clear HB
        have HO464 := n0_
        have HO466 := n1_
        have BK458 := n2_
        have BK459 := n3_
        have BK467 := n4_
        have BK468 := n5_
        have HB := n6_
        clear n0_ n1_ n2_ n3_ n4_ n5_ n6_
        (try clear hb)
        (try clear hb2)
        (try clear hk)
        (try clear hi)
        obtain ⟨Ao78, co78, eo78⟩ := Kd.R_slice HO464.out
        (first | subst eo78 | (injection eo78 with f1_ f2_ f3_; have f4_ := f1_.symm; have f5_ := f3_.symm; clear f1_ f2_ f3_; subst f4_; subst f5_))
        obtain ⟨Ao79, co79, eo79⟩ := Kd.R_slice HO466.out
        (first | subst eo79 | (injection eo79 with f1_ f2_ f3_; have f4_ := f1_.symm; have f5_ := f3_.symm; clear f1_ f2_ f3_; subst f4_; subst f5_))
        refine hK.out _ _ ⟨(kc BK458.out 0).trans rfl, (kc BK458.out 1).trans rfl, (kc BK458.out 2).trans rfl, (kc BK458.out 3).trans rfl, (kc BK458.out 4).trans rfl, (kc BK458.out 5).trans rfl, (kc BK459.out 0).trans rfl, (kc BK459.out 1).trans rfl, (kc BK459.out 2).trans rfl, (kc BK459.out 3).trans rfl, (kc BK459.out 4).trans rfl, (kc BK459.out 5).trans rfl, (kc BK467.out 0).trans rfl, (kc BK467.out 1).trans rfl, (kc BK467.out 2).trans rfl, (kc BK467.out 3).trans rfl, (kc BK467.out 4).trans rfl, (kc BK467.out 5).trans rfl, (kc BK468.out 0).trans rfl, (kc BK468.out 1).trans rfl, (kc BK468.out 2).trans rfl, (kc BK468.out 3).trans rfl, (kc BK468.out 4).trans rfl, (kc BK468.out 5).trans rfl⟩ (fun hHeld => ?_)
        clear hK K
        refine zN (some 55) ?_
        refine zA 17 (some 56) HT_.out rfl rfl ?_
        refine zA 18 (some 57) HT_.out rfl rfl ?_
        refine zA 19 (some 58) HT_.out rfl rfl ?_
        refine zA 20 (some 59) HT_.out rfl rfl ?_
        refine zA 21 (some 60) HT_.out rfl rfl ?_
        refine zA 23 (some 62) HT_.out rfl rfl ?_
        refine zA 24 (some 63) HT_.out rfl rfl ?_
        refine zA 25 (some 64) HT_.out rfl rfl ?_
        refine zO 22 (some 61) HT_.out rfl rfl (fun K hK => ?_)
        refine goes_ Try.func18 (by kernel_rfl) rfl #[.slice Ao78 t460.length co78, .slice Ao79 t461.length co79, .int .i64 t462] (by rfl) rfl rfl (by (try simp only [List.map_toArray, List.map_cons, List.map_nil]); first | done | rfl | (simp only [List.length_drop, List.length_take]; rfl)) ?_
        with_reducible refine (impl_SameActs.calls k _ _ t460 _ _ t461 t462 t476 _ ?side1 ?side2 ?side3 ?side4 A43.out).mono ?_
        (case side1 => repeat (first | exact (Kd.R_reads' HO464.out).2.2 | (with_reducible first | refine ca ?_ _ | refine cn ?_ _ | refine ce ?_)))
        (case side2 => exact (Kd.R_reads' HO464.out).2.1)
        (case side3 => repeat (first | exact (Kd.R_reads' HO466.out).2.2 | (with_reducible first | refine ca ?_ _ | refine cn ?_ _ | refine ce ?_)))
        (case side4 => exact (Kd.R_reads' HO466.out).2.1)
        rintro e w80 ⟨rfl, hb⟩
        refine ⟨_, rfl, ?_⟩
        have n0_ := Am (rb (by (with_reducible repeat (first | apply ra | apply rn | apply re)); exact HO464.out) hb)
        have n1_ := Am (rb (by (with_reducible repeat (first | apply ra | apply rn | apply re)); exact HO466.out) hb)
        have n2_ := Am (zK BK458 hb)
        have n3_ := Am (zK BK459 hb)
        have n4_ := Am (zK BK467 hb)
        have n5_ := Am (zK BK468 hb)
        have n6_ := Am (bq zG hb)
        clear HO464
        clear HO466
        clear BK458
        clear BK459
        clear BK467
        clear BK468
        clear HB
        have HO464 := n0_
        have HO466 := n1_
        have BK458 := n2_
        have BK459 := n3_
        have BK467 := n4_
        have BK468 := n5_
        have HB := n6_
        clear n0_ n1_ n2_ n3_ n4_ n5_ n6_
        (try clear hb)
        (try clear hb2)
        (try clear hk)
        (try clear hi)
        refine hK.out _ _ ⟨(kc BK458.out 0).trans rfl, (kc BK458.out 1).trans rfl, (kc BK458.out 2).trans rfl, (kc BK458.out 3).trans rfl, (kc BK458.out 4).trans rfl, (kc BK458.out 5).trans rfl, (kc BK459.out 0).trans rfl, (kc BK459.out 1).trans rfl, (kc BK459.out 2).trans rfl, (kc BK459.out 3).trans rfl, (kc BK459.out 4).trans rfl, (kc BK459.out 5).trans rfl, (kc BK467.out 0).trans rfl, (kc BK467.out 1).trans rfl, (kc BK467.out 2).trans rfl, (kc BK467.out 3).trans rfl, (kc BK467.out 4).trans rfl, (kc BK467.out 5).trans rfl, (kc BK468.out 0).trans rfl, (kc BK468.out 1).trans rfl, (kc BK468.out 2).trans rfl, (kc BK468.out 3).trans rfl, (kc BK468.out 4).trans rfl, (kc BK468.out 5).trans rfl⟩ (fun hHeld => ?_)
        clear hK K
        refine zN (some 61) ?_
        refine zO 26 (some 65) HT_.out rfl rfl (fun K hK => ?_)
        refine goes_ Try.func19 (by kernel_rfl) rfl #[.slice Ao78 t460.length co78, .slice Ao79 t461.length co79, .int .i64 t462] (by rfl) rfl rfl (by (try simp only [List.map_toArray, List.map_cons, List.map_nil]); first | done | rfl | (simp only [List.length_drop, List.length_take]; rfl)) ?_
        with_reducible refine (spec_SameActs.calls k _ _ t460 _ _ t461 t462 t477 _ ?side1 ?side2 ?side3 ?side4 A44.out).mono ?_
        (case side1 => repeat (first | exact (Kd.R_reads' HO464.out).2.2 | (with_reducible first | refine ca ?_ _ | refine cn ?_ _ | refine ce ?_)))
        (case side2 => exact (Kd.R_reads' HO464.out).2.1)
        (case side3 => repeat (first | exact (Kd.R_reads' HO466.out).2.2 | (with_reducible first | refine ca ?_ _ | refine cn ?_ _ | refine ce ?_)))
        (case side4 => exact (Kd.R_reads' HO466.out).2.1)
        rintro e w81 ⟨rfl, hb⟩
        refine ⟨_, rfl, ?_⟩
        have n0_ := Am (rb (by (with_reducible repeat (first | apply ra | apply rn | apply re)); exact HO464.out) hb)
        have n1_ := Am (rb (by (with_reducible repeat (first | apply ra | apply rn | apply re)); exact HO466.out) hb)
        have n2_ := Am (zK BK458 hb)
        have n3_ := Am (zK BK459 hb)
        have n4_ := Am (zK BK467 hb)
        have n5_ := Am (zK BK468 hb)
        have n6_ := Am (bq zG hb)
        clear HO464
        clear HO466
        clear BK458
        clear BK459
        clear BK467
        clear BK468
        clear HB
        have HO464 := n0_
        have HO466 := n1_
        have BK458 := n2_
        have BK459 := n3_
        have BK467 := n4_
        have BK468 := n5_
        have HB := n6_
        clear n0_ n1_ n2_ n3_ n4_ n5_ n6_
        (try clear hb)
        (try clear hb2)
        (try clear hk)
        (try clear hi)
        refine hK.out _ _ ⟨(kc BK458.out 0).trans rfl, (kc BK458.out 1).trans rfl, (kc BK458.out 2).trans rfl, (kc BK458.out 3).trans rfl, (kc BK458.out 4).trans rfl, (kc BK458.out 5).trans rfl, (kc BK459.out 0).trans rfl, (kc BK459.out 1).trans rfl, (kc BK459.out 2).trans rfl, (kc BK459.out 3).trans rfl, (kc BK459.out 4).trans rfl, (kc BK459.out 5).trans rfl, (kc BK467.out 0).trans rfl, (kc BK467.out 1).trans rfl, (kc BK467.out 2).trans rfl, (kc BK467.out 3).trans rfl, (kc BK467.out 4).trans rfl, (kc BK467.out 5).trans rfl, (kc BK468.out 0).trans rfl, (kc BK468.out 1).trans rfl, (kc BK468.out 2).trans rfl, (kc BK468.out 3).trans rfl, (kc BK468.out 4).trans rfl, (kc BK468.out 5).trans rfl⟩ (fun hHeld => ?_)
        clear hK K
        refine zN (some 65) ?_
        refine zA 27 (some 66) HT_.out rfl rfl ?_
        refine zA 28 (some 67) HT_.out rfl rfl ?_
        refine zA 29 (some 68) HT_.out rfl rfl ?_
        refine zA 30 (some 69) HT_.out rfl rfl ?_
        refine zA 31 (some 70) HT_.out rfl rfl ?_
        refine zA 32 (some 71) HT_.out rfl rfl ?_
        refine zO 33 (some 72) HT_.out rfl rfl (fun K hK => ?_)
        refine goes_ Try.func18 (by kernel_rfl) rfl #[.slice Ao78 t460.length co78, .slice Ao78 t460.length co78, .int .i64 t462] (by rfl) rfl rfl (by (try simp only [List.map_toArray, List.map_cons, List.map_nil]); first | done | rfl | (simp only [List.length_drop, List.length_take]; rfl)) ?_
        with_reducible refine (impl_SameActs.calls k _ _ t460 _ _ t460 t462 true _ ?side1 ?side2 ?side3 ?side4 A46.out).mono ?_
        (case side1 => repeat (first | exact (Kd.R_reads' HO464.out).2.2 | (with_reducible first | refine ca ?_ _ | refine cn ?_ _ | refine ce ?_)))
        (case side2 => exact (Kd.R_reads' HO464.out).2.1)
        (case side3 => repeat (first | exact (Kd.R_reads' HO464.out).2.2 | (with_reducible first | refine ca ?_ _ | refine cn ?_ _ | refine ce ?_)))
        (case side4 => exact (Kd.R_reads' HO464.out).2.1)
        rintro e w82 ⟨rfl, hb⟩
        refine ⟨_, rfl, ?_⟩
        have n0_ := Am (rb (by (with_reducible repeat (first | apply ra | apply rn | apply re)); exact HO464.out) hb)
        have n1_ := Am (rb (by (with_reducible repeat (first | apply ra | apply rn | apply re)); exact HO466.out) hb)
        have n2_ := Am (zK BK458 hb)
        have n3_ := Am (zK BK459 hb)
        have n4_ := Am (zK BK467 hb)
        have n5_ := Am (zK BK468 hb)
        have n6_ := Am (bq zG hb)
        clear HO464
        clear HO466
        clear BK458
        clear BK459
        clear BK467
        clear BK468
        clear HB
        have HO464 := n0_
        have HO466 := n1_
        have BK458 := n2_
        have BK459 := n3_
        have BK467 := n4_
        have BK468 := n5_
        have HB := n6_
        clear n0_ n1_ n2_ n3_ n4_ n5_ n6_
        (try clear hb)
        (try clear hb2)
        (try clear hk)
        (try clear hi)
        refine hK.out _ _ ⟨(kc BK458.out 0).trans rfl, (kc BK458.out 1).trans rfl, (kc BK458.out 2).trans rfl, (kc BK458.out 3).trans rfl, (kc BK458.out 4).trans rfl, (kc BK458.out 5).trans rfl, (kc BK459.out 0).trans rfl, (kc BK459.out 1).trans rfl, (kc BK459.out 2).trans rfl, (kc BK459.out 3).trans rfl, (kc BK459.out 4).trans rfl, (kc BK459.out 5).trans rfl, (kc BK467.out 0).trans rfl, (kc BK467.out 1).trans rfl, (kc BK467.out 2).trans rfl, (kc BK467.out 3).trans rfl, (kc BK467.out 4).trans rfl, (kc BK467.out 5).trans rfl, (kc BK468.out 0).trans rfl, (kc BK468.out 1).trans rfl, (kc BK468.out 2).trans rfl, (kc BK468.out 3).trans rfl, (kc BK468.out 4).trans rfl, (kc BK468.out 5).trans rfl⟩ (fun hHeld => ?_)
        clear hK K
        refine zN (some 72) ?_
        refine zA 34 (some 73) HT_.out rfl rfl ?_
        refine zA 35 (some 74) HT_.out rfl rfl ?_
        refine zA 36 (some 75) HT_.out rfl rfl ?_
        refine zA 37 (some 76) HT_.out rfl rfl ?_
        refine zA 38 (some 77) HT_.out rfl rfl ?_
        refine zA 39 (some 78) HT_.out rfl rfl ?_
        refine zA 40 (some 79) HT_.out rfl rfl ?_
        refine zA 41 (some 80) HT_.out rfl rfl ?_
        refine zA 42 (some 81) HT_.out rfl rfl ?_
        refine zA 43 (some 82) HT_.out rfl rfl ?_
        refine zA 44 (some 83) HT_.out rfl rfl ?_
        refine zO 45 (some 84) HT_.out rfl rfl (fun K hK => ?_)
        refine goes_ Try.func20 (by kernel_rfl) rfl #[.string t470] (by rfl) rfl rfl (by (try simp only [List.map_toArray, List.map_cons, List.map_nil]); first | done | rfl | (simp only [List.length_drop, List.length_take]; rfl)) ?_
        with_reducible refine (spec_MaskRec.calls k t470 t479 _ A49.out).mono ?_
        rintro e w83 ⟨rfl, hb⟩
        refine ⟨_, rfl, ?_⟩
        have n0_ := Am (rb (by (with_reducible repeat (first | apply ra | apply rn | apply re)); exact HO464.out) hb)
        have n1_ := Am (rb (by (with_reducible repeat (first | apply ra | apply rn | apply re)); exact HO466.out) hb)
        have n2_ := Am (zK BK458 hb)
        have n3_ := Am (zK BK459 hb)
        have n4_ := Am (zK BK467 hb)
        have n5_ := Am (zK BK468 hb)
        have n6_ := Am (bq zG hb)
        clear HO464
        clear HO466
        clear BK458
        clear BK459
        clear BK467
        clear BK468
        clear HB
        have HO464 := n0_
        have HO466 := n1_
        have BK458 := n2_
        have BK459 := n3_
        have BK467 := n4_
        have BK468 := n5_
        have HB := n6_
        clear n0_ n1_ n2_ n3_ n4_ n5_ n6_
        (try clear hb)
        (try clear hb2)
        (try clear hk)
        (try clear hi)
        refine hK.out _ _ ⟨(kc BK458.out 0).trans rfl, (kc BK458.out 1).trans rfl, (kc BK458.out 2).trans rfl, (kc BK458.out 3).trans rfl, (kc BK458.out 4).trans rfl, (kc BK458.out 5).trans rfl, (kc BK459.out 0).trans rfl, (kc BK459.out 1).trans rfl, (kc BK459.out 2).trans rfl, (kc BK459.out 3).trans rfl, (kc BK459.out 4).trans rfl, (kc BK459.out 5).trans rfl, (kc BK467.out 0).trans rfl, (kc BK467.out 1).trans rfl, (kc BK467.out 2).trans rfl, (kc BK467.out 3).trans rfl, (kc BK467.out 4).trans rfl, (kc BK467.out 5).trans rfl, (kc BK468.out 0).trans rfl, (kc BK468.out 1).trans rfl, (kc BK468.out 2).trans rfl, (kc BK468.out 3).trans rfl, (kc BK468.out 4).trans rfl, (kc BK468.out 5).trans rfl⟩ (fun hHeld => ?_)
        clear hK K
        refine zN (some 84) ?_
        refine zA 46 (some 85) HT_.out rfl rfl ?_
        refine zA 47 (some 86) HT_.out rfl rfl ?_
        refine zA 48 (some 2) HT_.out rfl rfl ?_
        refine done_ (done_of HT_.out (by kernel_rfl)) ?_
        try go_wp2
        go_ret
        exact ⟨zR, zG⟩
       ·rw [if_neg c48] at H
        exact absurd H (by simp)
      ·replace c47 := Bool.eq_false_iff.mpr c47
       subst c47
       have H1 : (none) = some r := by rw [if_neg (show ¬ (false = true) by decide)] at H; exact H
       exact absurd H1 (by simp)
     ·rw [if_neg c45] at H
      exact absurd H (by simp)
    ·replace c42 := Bool.eq_false_iff.mpr c42
     subst c42
     have H1 : (none) = some r := by rw [if_neg (show ¬ (false = true) by decide)] at H; exact H
     exact absurd H1 (by simp)
  ·rw [if_neg c11] at H
   exact absurd H (by simp)
/-- THE ONE PURE STATEMENT of laws_FnShapes: yours. -/
def laws_FnShapes.Pure : Prop := ∀ (l0 : List Int), l0.length ≤ maxLen → l0.length * 1 ≤ 140737488351232 → (∀ x ∈ l0, (Lit.int .u8 x).wf = true) → ∃ k, laws_FnShapes.f k l0 = some true
theorem laws_FnShapes.walk (P : laws_FnShapes.Pure) (a0 : Option Addr) (len0 cap0 : Nat) (z0 : List Int) (w : World) (w0 : (a0 = none ∧ len0 = 0 ∧ cap0 = 0 ∧ z0 = []) ∨ ∃ x, a0 = some x ∧ len0 ≤ cap0 ∧ cap0 ≤ maxLen ∧ z0.length = cap0 ∧ (∀ i, i < z0.length → w.cell? (x.add i) = some (.int .u8 (z0.getD i 0))) ∧ ∀ n ∈ z0, (Lit.int .u8 n).wf = true) (y0 : len0 * 1 ≤ 140737488351232) :
  Calls Try.prog 4 #[.slice a0 len0 cap0] w fun e w' => e = .returned (.bool true) ∧ Below w.heap.size w w' := by
 obtain ⟨l0, rfl, hr0, hm0, hw0, hc0⟩ := ReadsInt.ofRowC w0
 obtain ⟨k, h⟩ := P l0 hm0 y0 hw0
 refine (laws_FnShapes.calls k _ _ l0 true w (Kd.C_of_reads (d := (0 : Int)) (h1 := fun _ => rfl) hr0) hc0 h).mono ?_
 rintro e w' ⟨rfl, hd⟩
 exact ⟨rfl, hd⟩

end Go.Proofs.Ytceaelnaogenjaa.QFnShapes
