/- Go functions as Lean functions, and their contracts. Own text: written by wip/gen/pr.py (a turned copy of the print). -/
import Derived.Test.YtconffflmbakgaaQFnExactMaskedImagex0
import Derived.Test.YtconffflmbakgaaQFnExactMaskedImagex6
import Derived.Test.YtconffflmbakgaaQFnExactMaskedImagex8
import Derived.Test.YtconffflmbakgaaQFnExactMaskedImagex9
import Derived.Test.YtconffflmbakgaaQFnExactMaskedImagex10
namespace Go.Proofs.Ytconffflmbakgaa.QFnExactMaskedImage
open Go.RowKit Go.Proofs.YtconffflmbakgaaW.PrintWords Go.Proofs.YtconffflmbakgaaW.PrintLast Go.Proofs.YtconffflmbakgaaW.PrintMore
attribute [local go_sem] max2_int min2_int max_two min_two max_three min_three max_four min_four   -- for this text's walks alone
open Go.Proofs.YtconffflmbakgaaW.PrintWords renaming below_alloc → ba, pw_below_drewN → bn, below_drew1 → be, below_set → bs, blk_drewN → kn, blk_drew → ke, blk_alloc → ka, blk_below → kb, blk_frozen → kf, blk_cell → kc, below_step → bq, below_size → bz, blk_lt → kl
open Go.Proofs.YtconffflmbakgaaW.PrintWords.Kd renaming R_alloc → ra, R_drewN → rn, R_drew → re, C_alloc → ca, C_drewN → cn, C_drew → ce, C_below → cb
open Go.Proofs.YtconffflmbakgaaW.PrintWords.Aside0 renaming mk → Am
set_option linter.unusedVariables false
set_option linter.unusedSimpArgs false

def o11b0 (p0 : Int) (p1 : Int) (p2 : Int) (p3 : Int) : Obj := .cells #[.int .i64 p0, .int .i64 p1, .int .i64 p2, .int .i64 p3] 29 (0, 0)
def o11b1 (p0 : ByteArray) (p1 : Option Addr) (p2 p3 : Nat) : Obj := .cells #[.string p0, .slice p1 p2 p3] 33 (0, 0)
/-! ### impl_NumAt: function 142 -/
mutual
def impl_NumAt.j0 : Nat → ByteArray → Int → Int → Bool → Option (Int × Bool)
 | 0, _, _, _, _ => none
 | k + 1, x0, x1, x2, x24 => if x24 = true then (some (0, false)) else (impl_NumAt.l0 k x0 x1 0 x2 0)
def impl_NumAt.l0 : Nat → ByteArray → Int → Int → Int → Int → Option (Int × Bool)
 | 0, _, _, _, _, _ => none
 | k + 1, x0, x1, x8, x25, x26 => if x26 < x25 then (if 0 ≤ (wrap64 (x1 + x26)) then (if (wrap64 (x1 + x26)) < (x0.size : Int) then (impl_NumAt.l0 k x0 x1 (Go.bits .or .i64 (wrap64 (x8 * 256)) (wrap64 (bt x0 (wrap64 (x1 + x26))))) x25 (wrap64 (x26 + 1))) else (none)) else (none)) else (some (x8, true))
end
def impl_NumAt.f (k : Nat) (a0 : ByteArray) (a1 : Int) (a2 : Int) : Option (Int × Bool) := if a1 < 0 then (impl_NumAt.j0 k a0 a1 a2 true) else ((impl_within.f a2 1 7).bind fun t276 => (if t276 = true then (impl_NumAt.j0 k a0 a1 a2 (decide (a1 > (wrap64 ((a0.size : Int) - a2))))) else (impl_NumAt.j0 k a0 a1 a2 true)))
theorem impl_NumAt.mono_l : ∀ k, (∀ y0 y1 y2 y3, LeO (impl_NumAt.j0 k y0 y1 y2 y3) (impl_NumAt.j0 (k + 1) y0 y1 y2 y3)) ∧ (∀ y0 y1 y2 y3 y4, LeO (impl_NumAt.l0 k y0 y1 y2 y3 y4) (impl_NumAt.l0 (k + 1) y0 y1 y2 y3 y4))
 | 0 => ⟨fun _ _ _ _ r h => by simp [impl_NumAt.j0] at h, fun _ _ _ _ _ r h => by simp [impl_NumAt.l0] at h⟩
 | k + 1 => by
  obtain ⟨ih0, ih1⟩ := impl_NumAt.mono_l k
  refine ⟨?_, ?_⟩
  ·intro y0 y1 y2 y3
   unfold impl_NumAt.j0
   repeat' first
   | (with_reducible exact ih0 _ _ _ _)
   | (with_reducible exact ih1 _ _ _ _ _)
   | (with_reducible exact LeO.refl _)
   | (with_reducible exact LeO.none _)
   | (with_reducible refine LeO.ite ?_ ?_)
   | (with_reducible refine LeO.bind ?_ (fun _ => ?_))
   | exact ih0 _ _ _ _
   | exact ih1 _ _ _ _ _
   | exact LeO.none _
   | refine LeO.ite ?_ ?_
   | refine LeO.bind ?_ (fun _ => ?_)
  ·intro y0 y1 y2 y3 y4
   unfold impl_NumAt.l0
   repeat' first
   | (with_reducible exact ih0 _ _ _ _)
   | (with_reducible exact ih1 _ _ _ _ _)
   | (with_reducible exact LeO.refl _)
   | (with_reducible exact LeO.none _)
   | (with_reducible refine LeO.ite ?_ ?_)
   | (with_reducible refine LeO.bind ?_ (fun _ => ?_))
   | exact ih0 _ _ _ _
   | exact ih1 _ _ _ _ _
   | exact LeO.none _
   | refine LeO.ite ?_ ?_
   | refine LeO.bind ?_ (fun _ => ?_)
theorem impl_NumAt.mono : ∀ a0 a1 a2 k, LeO (impl_NumAt.f k a0 a1 a2) (impl_NumAt.f (k + 1) a0 a1 a2) := by
 intro a0 a1 a2 k
 obtain ⟨ih0, ih1⟩ := impl_NumAt.mono_l k
 unfold impl_NumAt.f
 repeat' first
   | (with_reducible exact ih0 _ _ _ _)
   | (with_reducible exact ih1 _ _ _ _ _)
   | (with_reducible exact LeO.refl _)
   | (with_reducible exact LeO.none _)
   | (with_reducible refine LeO.ite ?_ ?_)
   | (with_reducible refine LeO.bind ?_ (fun _ => ?_))
   | exact ih0 _ _ _ _
   | exact ih1 _ _ _ _ _
   | exact LeO.none _
   | refine LeO.ite ?_ ?_
   | refine LeO.bind ?_ (fun _ => ?_)
set_option maxHeartbeats 8000000 in
set_option maxRecDepth 100000 in
theorem impl_NumAt.calls (k : Nat) (a0 : ByteArray) (a1 : Int) (a2 : Int) (r1 : Int) (r2 : Bool) (w : World) (h : impl_NumAt.f k a0 a1 a2 = some (r1, r2)) :
  Calls Try.prog 142 #[.string a0, .int .i64 a1, .int .i64 a2] w fun e w' => e = .returned (.tuple #[.int .i64 r1, .bool r2]) ∧ Drawn0 w w' := by
 have H : (if a1 < 0 then (impl_NumAt.j0 k a0 a1 a2 true) else ((impl_within.f a2 1 7).bind fun t276 => (if t276 = true then (impl_NumAt.j0 k a0 a1 a2 (decide (a1 > (wrap64 ((a0.size : Int) - a2))))) else (impl_NumAt.j0 k a0 a1 a2 true)))) = some (r1, r2) := h
 clear h
 have HC4 := Am H
 clear H
 go_enter Try.func142, Try.ntmps142
 go_upto_region 1 with (fail)
 go_cut [24] (fun v24 wc => ∃ (kq : Nat) (x24_3 : Bool), v24 = .bool x24_3 ∧ Aside0 (impl_NumAt.j0 kq a0 a1 a2 x24_3 = some (r1, r2)) ∧ Aside0 (kq ≤ k) ∧ Drawn0 w wc)
 case first =>
  have H := HC4.out
  clear HC4
  by_cases c5 : a1 < 0
  ·rw [if_pos c5] at H
   have c5b0 : decide (a1 < 0) = true := decide_eq_true c5
   clear c5
   (first | rw [c5b0] | (simp only [i64_w, i32_w]; rw [c5b0]) | skip)
   have H' := Am H
   clear H
   go_wp2
   go_meet
   case rel => exact ⟨_, (true), (by first | rfl | (simp; done) | (simp [*]; done)), H', ⟨by first | omega | exact Nat.le_refl _⟩, by repeat (first | exact Drawn0.refl _ | apply Drawn0.step)⟩
  ·rw [if_neg c5] at H
   have c5b0 : decide (a1 < 0) = false := decide_eq_false c5
   clear c5
   (first | rw [c5b0] | (simp only [i64_w, i32_w]; rw [c5b0]) | skip)
   replace H := Option.bind_eq_some_iff.mp H
   obtain ⟨t276, A60, H⟩ := H
   replace H : (if t276 = true then (impl_NumAt.j0 k a0 a1 a2 (decide (a1 > (wrap64 ((a0.size : Int) - a2))))) else (impl_NumAt.j0 k a0 a1 a2 true)) = some (r1, r2) := H
   have A6 := Am A60
   clear A60
   by_cases c7 : t276 = true
   ·subst c7
    have H1 : (impl_NumAt.j0 k a0 a1 a2 (decide (a1 > (wrap64 ((a0.size : Int) - a2))))) = some (r1, r2) := by rw [if_pos rfl] at H; exact H
    clear H
    have H := H1
    clear H1
    have H' := Am H
    clear H
    go_wp2_with (first | (go_at_call 59; (with_reducible refine (impl_within.calls a2 1 7 true _ A6.out).mono ?_); rintro e w' ⟨rfl, ⟨nd, rfl⟩⟩))
    go_meet
    case rel => exact ⟨_, (decide (a1 > (wrap64 ((a0.size : Int) - a2)))), (by first | rfl | (simp; done) | (simp [*]; done)), H', ⟨by first | omega | exact Nat.le_refl _⟩, by repeat (first | exact Drawn0.refl _ | apply Drawn0.step)⟩
   ·replace c7 := Bool.eq_false_iff.mpr c7
    subst c7
    have H1 : (impl_NumAt.j0 k a0 a1 a2 true) = some (r1, r2) := by rw [if_neg (show ¬ (false = true) by decide)] at H; exact H
    clear H
    have H := H1
    clear H1
    have H' := Am H
    clear H
    go_wp2_with (first | (go_at_call 59; (with_reducible refine (impl_within.calls a2 1 7 false _ A6.out).mono ?_); rintro e w' ⟨rfl, ⟨nd, rfl⟩⟩))
    go_meet
    case rel => exact ⟨_, (true), (by first | rfl | (simp; done) | (simp [*]; done)), H', ⟨by first | omega | exact Nat.le_refl _⟩, by repeat (first | exact Drawn0.refl _ | apply Drawn0.step)⟩
 case rest =>
  clear HC4
  try clear c1; try clear p2; try clear c5; try clear c5b0; try clear p6; try clear c7
  obtain ⟨kq, x24_3, rfl, HA, HJ3, ⟨mc3, rfl⟩⟩ := hcut
  cases kq with
  | zero => exact absurd HA.out (by simp [impl_NumAt.j0])
  | succ kj3 =>
   have H := HA.out
   clear HA
   simp only [impl_NumAt.j0] at H
   by_cases c8 : x24_3 = true
   ·subst c8
    have H1 : (some (0, false)) = some (r1, r2) := by rw [if_pos rfl] at H; exact H
    clear H
    have H := H1
    clear H1
    simp only [Option.some.injEq, Prod.mk.injEq] at H
    obtain ⟨rfl, rfl⟩ := H
    go_wp2
    go_ret2
    exact ⟨by first | rfl | (simp; done) | (simp [*]; done), by repeat (first | exact Drawn0.refl _ | apply Drawn0.step)⟩
   ·replace c8 := Bool.eq_false_iff.mpr c8
    subst c8
    have H1 : (impl_NumAt.l0 kj3 a0 a1 0 a2 0) = some (r1, r2) := by rw [if_neg (show ¬ (false = true) by decide)] at H; exact H
    clear H
    have H := H1
    clear H1
    have H' := Am H
    clear H
    go_wp2
    go_loopg [8, 26] kj3 (fun kq v8 v26 w' => ∃ (x8_2 : Int) (x26_2 : Int), v8 = .int .i64 x8_2 ∧ v26 = .int .i64 x26_2 ∧ Aside0 (impl_NumAt.l0 kq a0 a1 x8_2 a2 x26_2 = some (r1, r2)) ∧ Aside0 (kq ≤ kj3) ∧ Drawn0 w w')
    case atStart => exact ⟨(0), (0), (by first | rfl | (simp; done) | (simp [*]; done)), (by first | rfl | (simp; done) | (simp [*]; done)), H', ⟨Nat.le_refl _⟩, by repeat (first | exact Drawn0.refl _ | apply Drawn0.step)⟩
    case round =>
     clear H'
     try clear c1; try clear p2; try clear c3; try clear c5; try clear c5b0; try clear p6; try clear c7; try clear c8; try clear p2; try clear p6
     obtain ⟨x8_2, x26_2, rfl, rfl, HA, HK2, ⟨m2, rfl⟩⟩ := hrel
     cases gk with
     | zero => exact absurd HA.out (by simp [impl_NumAt.l0])
     | succ k2 =>
      have H := HA.out
      clear HA
      simp only [impl_NumAt.l0] at H
      by_cases c9 : x26_2 < a2
      ·rw [if_pos c9] at H
       have c9b0 : decide (x26_2 < a2) = true := decide_eq_true c9
       clear c9
       obtain ⟨ji10, hji10⟩ : ∃ j_ : Int, (wrap64 (a1 + x26_2)) = j_ := ⟨_, rfl⟩
       replace H : (if 0 ≤ (ji10) then (if (ji10) < (a0.size : Int) then (impl_NumAt.l0 k2 a0 a1 (Go.bits .or .i64 (wrap64 (x8_2 * 256)) (wrap64 (bt a0 (ji10)))) a2 (wrap64 (x26_2 + 1))) else (none)) else (none)) = some (r1, r2) := by first | (rw [hji10] at H; exact H) | (simp only [hji10] at H ⊢; exact H)
       have hji10w : (IntKind.i64.wrap (a1 + x26_2)) = ji10 := (i64_w _).trans hji10
       by_cases c11 : 0 ≤ (ji10)
       ·rw [if_pos c11] at H
        have c11b0 : decide (0 ≤ (ji10)) = true := decide_eq_true c11
        clear c11
        by_cases c12 : (ji10) < (a0.size : Int)
        ·rw [if_pos c12] at H
         have c12b0 : decide ((ji10) < (a0.size : Int)) = true := decide_eq_true c12
         clear c12
         have H' := Am H
         clear H
         have p13 : 0 ≤ ((ji10) : Int) := of_decide_eq_true (by first | (with_reducible assumption) | assumption)
         have q13 : (ji10) < (a0.size : Int) := of_decide_eq_true (by first | (with_reducible assumption) | assumption)
         have hx13 := bt_at a0 (ji10)
         replace p13 := eq_true p13
         replace q13 := eq_true q13
         go_wp2
         go_roundg k2
         case measure => have := HJ3.out; have := HK2.out; omega
         case rel => exact ⟨(Go.bits .or .i64 (wrap64 (x8_2 * 256)) (wrap64 (bt a0 (ji10)))), (wrap64 (x26_2 + 1)), (by first | rfl | (simp; done) | (simp only [← hji10] <;> (first | rfl | simp)) | (simp [*]; done)), (by first | rfl | (simp; done) | (simp [*]; done)), H', ⟨by have := HJ3.out; have := HK2.out; omega⟩, by repeat (first | exact Drawn0.refl _ | apply Drawn0.step)⟩
        ·rw [if_neg c12] at H
         exact absurd H (by simp)
       ·rw [if_neg c11] at H
        exact absurd H (by simp)
      ·rw [if_neg c9] at H
       have c9b0 : decide (x26_2 < a2) = false := decide_eq_false c9
       clear c9
       simp only [Option.some.injEq, Prod.mk.injEq] at H
       obtain ⟨rfl, rfl⟩ := H
       go_wp2
       go_ret2
       exact ⟨by first | rfl | (simp; done) | (simp [*]; done), by repeat (first | exact Drawn0.refl _ | apply Drawn0.step)⟩

/-! ### impl_NumText: function 153 -/
mutual
def impl_NumText.j0 : Nat → Int → Int → Bool → Option (ByteArray)
 | 0, _, _, _ => none
 | k + 1, x0, x1, x20 => if x20 = true then (some (⟨#[]⟩ : ByteArray)) else (if 0 ≤ x1 then (if (x1 : Int).toNat ≤ 281474976710656 then ((some (List.replicate (x1 : Int).toNat 0 : List Int)).bind fun y278 => (impl_NumText.l0 k x0 x1 y278 (y278.length : Int) 0)) else (none)) else (none))
def impl_NumText.l0 : Nat → Int → Int → List Int → Int → Int → Option (ByteArray)
 | 0, _, _, _, _, _ => none
 | k + 1, x0, x1, x5, x24, x25 => if x25 < x24 then (if 0 ≤ (wrap64 (8 * (wrap64 ((wrap64 (x1 - 1)) - x25)))) then (if 0 ≤ x25 then (if x25 < (x5.length : Int) then (impl_NumText.l0 k x0 x1 (x5.set (x25 : Int).toNat ((shr .i64 x0 (wrap64 (8 * (wrap64 ((wrap64 (x1 - 1)) - x25))))) % 256)) x24 (wrap64 (x25 + 1))) else (none)) else (none)) else (none)) else (some (strOfNums x5))
end
def impl_NumText.f (k : Nat) (a0 : Int) (a1 : Int) : Option (ByteArray) := if a0 < 0 then (impl_NumText.j0 k a0 a1 true) else ((impl_within.f a1 1 7).bind fun t277 => (if t277 = true then (if 0 ≤ (wrap64 (8 * a1)) then (impl_NumText.j0 k a0 a1 (decide (a0 ≥ (shl .i64 1 (wrap64 (8 * a1)))))) else (none)) else (impl_NumText.j0 k a0 a1 true)))
theorem impl_NumText.mono_l : ∀ k, (∀ y0 y1 y2, LeO (impl_NumText.j0 k y0 y1 y2) (impl_NumText.j0 (k + 1) y0 y1 y2)) ∧ (∀ y0 y1 y2 y3 y4, LeO (impl_NumText.l0 k y0 y1 y2 y3 y4) (impl_NumText.l0 (k + 1) y0 y1 y2 y3 y4))
 | 0 => ⟨fun _ _ _ r h => by simp [impl_NumText.j0] at h, fun _ _ _ _ _ r h => by simp [impl_NumText.l0] at h⟩
 | k + 1 => by
  obtain ⟨ih0, ih1⟩ := impl_NumText.mono_l k
  refine ⟨?_, ?_⟩
  ·intro y0 y1 y2
   unfold impl_NumText.j0
   repeat' first
   | (with_reducible exact ih0 _ _ _)
   | (with_reducible exact ih1 _ _ _ _ _)
   | (with_reducible exact LeO.refl _)
   | (with_reducible exact LeO.none _)
   | (with_reducible refine LeO.ite ?_ ?_)
   | (with_reducible refine LeO.bind ?_ (fun _ => ?_))
   | exact ih0 _ _ _
   | exact ih1 _ _ _ _ _
   | exact LeO.none _
   | refine LeO.ite ?_ ?_
   | refine LeO.bind ?_ (fun _ => ?_)
  ·intro y0 y1 y2 y3 y4
   unfold impl_NumText.l0
   repeat' first
   | (with_reducible exact ih0 _ _ _)
   | (with_reducible exact ih1 _ _ _ _ _)
   | (with_reducible exact LeO.refl _)
   | (with_reducible exact LeO.none _)
   | (with_reducible refine LeO.ite ?_ ?_)
   | (with_reducible refine LeO.bind ?_ (fun _ => ?_))
   | exact ih0 _ _ _
   | exact ih1 _ _ _ _ _
   | exact LeO.none _
   | refine LeO.ite ?_ ?_
   | refine LeO.bind ?_ (fun _ => ?_)
theorem impl_NumText.mono : ∀ a0 a1 k, LeO (impl_NumText.f k a0 a1) (impl_NumText.f (k + 1) a0 a1) := by
 intro a0 a1 k
 obtain ⟨ih0, ih1⟩ := impl_NumText.mono_l k
 unfold impl_NumText.f
 repeat' first
   | (with_reducible exact ih0 _ _ _)
   | (with_reducible exact ih1 _ _ _ _ _)
   | (with_reducible exact LeO.refl _)
   | (with_reducible exact LeO.none _)
   | (with_reducible refine LeO.ite ?_ ?_)
   | (with_reducible refine LeO.bind ?_ (fun _ => ?_))
   | exact ih0 _ _ _
   | exact ih1 _ _ _ _ _
   | exact LeO.none _
   | refine LeO.ite ?_ ?_
   | refine LeO.bind ?_ (fun _ => ?_)
set_option maxHeartbeats 8000000 in
set_option maxRecDepth 100000 in
theorem impl_NumText.calls (k : Nat) (a0 : Int) (a1 : Int) (r : ByteArray) (w : World) (h : impl_NumText.f k a0 a1 = some r) :
  Calls Try.prog 153 #[.int .i64 a0, .int .i64 a1] w fun e w' => e = .returned (.string r) ∧ Below w.heap.size w w' := by
 have HB := Am (Below.refl w.heap.size w)
 have H : (if a0 < 0 then (impl_NumText.j0 k a0 a1 true) else ((impl_within.f a1 1 7).bind fun t277 => (if t277 = true then (if 0 ≤ (wrap64 (8 * a1)) then (impl_NumText.j0 k a0 a1 (decide (a0 ≥ (shl .i64 1 (wrap64 (8 * a1)))))) else (none)) else (impl_NumText.j0 k a0 a1 true)))) = some r := h
 clear h
 have HC3 := Am H
 clear H
 go_enter Try.func153, Try.ntmps153
 go_upto_region 1 with (fail)
 go_cut [20] (fun v20 wc => ∃ (kq : Nat) (x20_2 : Bool), v20 = .bool x20_2 ∧ Aside0 (impl_NumText.j0 kq a0 a1 x20_2 = some r) ∧ Aside0 (kq ≤ k) ∧ Aside0 (Below w.heap.size w wc))
 case first =>
  have H := HC3.out
  clear HC3
  by_cases c4 : a0 < 0
  ·rw [if_pos c4] at H
   have c4b0 : decide (a0 < 0) = true := decide_eq_true c4
   clear c4
   (first | rw [c4b0] | (simp only [i64_w, i32_w]; rw [c4b0]) | skip)
   have H' := Am H
   clear H
   go_wp2
   go_meet
   case rel => exact ⟨_, (true), (by first | rfl | (simp; done) | (simp [*]; done)), H', ⟨by first | omega | exact Nat.le_refl _⟩, ⟨zB⟩⟩
  ·rw [if_neg c4] at H
   have c4b0 : decide (a0 < 0) = false := decide_eq_false c4
   clear c4
   (first | rw [c4b0] | (simp only [i64_w, i32_w]; rw [c4b0]) | skip)
   replace H := Option.bind_eq_some_iff.mp H
   obtain ⟨t277, A50, H⟩ := H
   replace H : (if t277 = true then (if 0 ≤ (wrap64 (8 * a1)) then (impl_NumText.j0 k a0 a1 (decide (a0 ≥ (shl .i64 1 (wrap64 (8 * a1)))))) else (none)) else (impl_NumText.j0 k a0 a1 true)) = some r := H
   have A5 := Am A50
   clear A50
   by_cases c6 : t277 = true
   ·subst c6
    have H1 : (if 0 ≤ (wrap64 (8 * a1)) then (impl_NumText.j0 k a0 a1 (decide (a0 ≥ (shl .i64 1 (wrap64 (8 * a1)))))) else (none)) = some r := by rw [if_pos rfl] at H; exact H
    clear H
    have H := H1
    clear H1
    obtain ⟨ji7, hji7⟩ : ∃ j_ : Int, (wrap64 (8 * a1)) = j_ := ⟨_, rfl⟩
    replace H : (if 0 ≤ (ji7) then (impl_NumText.j0 k a0 a1 (decide (a0 ≥ (shl .i64 1 (ji7))))) else (none)) = some r := by first | (rw [hji7] at H; exact H) | (simp only [hji7] at H ⊢; exact H)
    (try rw [hji7] at A5)
    have hji7w : (IntKind.i64.wrap (8 * a1)) = ji7 := (i64_w _).trans hji7
    by_cases c8 : 0 ≤ (ji7)
    ·rw [if_pos c8] at H
     have c8b0 := eq_true c8
     have c8b1 : decide (0 ≤ (ji7)) = true := decide_eq_true c8
     clear c8
     obtain ⟨ji9, hji9⟩ : ∃ j_ : Int, (shl .i64 1 (ji7)) = j_ := ⟨_, rfl⟩
     replace H : (impl_NumText.j0 k a0 a1 (decide (a0 ≥ (ji9)))) = some r := by first | (rw [hji9] at H; exact H) | (simp only [hji9] at H ⊢; exact H)
     (try rw [hji9] at A5)
     have hji9_ : (IntKind.i64.wrap (1 * 2 ^ min (ji7).toNat 64)) = ji9 := hji9
     have hji9z : (ji7) ≤ 64 → (IntKind.i64.wrap (1 * 2 ^ (ji7).toNat)) = ji9 := shl_small hji9
     have hji9u : (IntKind.i64.wrap (2 ^ min (ji7).toNat 64)) = ji9 := by have h_ := hji9_; rw [Int.one_mul] at h_; exact h_
     have hji9v : (ji7) ≤ 64 → (IntKind.i64.wrap (2 ^ (ji7).toNat)) = ji9 := fun hle_ => by have h_ := hji9z hle_; rw [Int.one_mul] at h_; exact h_
     have hji9y : (wrap64 (1 * 2 ^ min (ji7).toNat 64)) = ji9 := (i64_w _).symm.trans hji9_
     have hji9x : (ji7) ≤ 64 → (wrap64 (1 * 2 ^ (ji7).toNat)) = ji9 := fun h_ => (i64_w _).symm.trans (hji9z h_)
     have H' := Am H
     clear H
     go_wp2_with (first | (go_at_call 59; (with_reducible refine (impl_within.calls a1 1 7 true _ A5.out).mono ?_); rintro e w' ⟨rfl, ⟨nd, rfl⟩⟩))
     go_meet
     case rel => exact ⟨_, (decide (a0 ≥ (ji9))), (by first | rfl | (simp; done) | (simp only [← hji9] <;> (first | rfl | simp)) | (simp [*]; done)), H', ⟨by first | omega | exact Nat.le_refl _⟩, ⟨zB⟩⟩
    ·rw [if_neg c8] at H
     exact absurd H (by simp)
   ·replace c6 := Bool.eq_false_iff.mpr c6
    subst c6
    have H1 : (impl_NumText.j0 k a0 a1 true) = some r := by rw [if_neg (show ¬ (false = true) by decide)] at H; exact H
    clear H
    have H := H1
    clear H1
    have H' := Am H
    clear H
    go_wp2_with (first | (go_at_call 59; (with_reducible refine (impl_within.calls a1 1 7 false _ A5.out).mono ?_); rintro e w' ⟨rfl, ⟨nd, rfl⟩⟩))
    go_meet
    case rel => exact ⟨_, (true), (by first | rfl | (simp; done) | (simp [*]; done)), H', ⟨by first | omega | exact Nat.le_refl _⟩, ⟨zB⟩⟩
 case rest =>
  clear HC3
  try clear c1; try clear p2; try clear c4; try clear c4b0; try clear c6; try clear p6; try clear c8; try clear c8b0; try clear c8b1
  obtain ⟨kq, x20_2, rfl, HA, HJ2, HB⟩ := hcut
  cases kq with
  | zero => exact absurd HA.out (by simp [impl_NumText.j0])
  | succ kj2 =>
   have H := HA.out
   clear HA
   simp only [impl_NumText.j0] at H
   by_cases c10 : x20_2 = true
   ·subst c10
    have H1 : (some (⟨#[]⟩ : ByteArray)) = some r := by rw [if_pos rfl] at H; exact H
    clear H
    have H := H1
    clear H1
    obtain rfl := Option.some.inj H
    go_wp2
    go_ret
    exact ⟨zR, zB⟩
   ·replace c10 := Bool.eq_false_iff.mpr c10
    subst c10
    have H1 : (if 0 ≤ a1 then (if (a1 : Int).toNat ≤ 281474976710656 then ((some (List.replicate (a1 : Int).toNat 0 : List Int)).bind fun y278 => (impl_NumText.l0 kj2 a0 a1 y278 (y278.length : Int) 0)) else (none)) else (none)) = some r := by rw [if_neg (show ¬ (false = true) by decide)] at H; exact H
    clear H
    have H := H1
    clear H1
    by_cases c11 : 0 ≤ a1
    ·rw [if_pos c11] at H
     have c11b0 := eq_true c11
     have c11b1 : decide (0 ≤ a1) = true := decide_eq_true c11
     clear c11
     by_cases c12 : (a1 : Int).toNat ≤ 281474976710656
     ·rw [if_pos c12] at H
      have c12b0 := eq_true c12
      have c12b1 : decide ((a1 : Int).toNat ≤ 281474976710656) = true := decide_eq_true c12
      clear c12
      obtain ⟨y278, hy278⟩ : ∃ y_ : List Int, y_ = (List.replicate (a1 : Int).toNat 0) := ⟨_, rfl⟩
      replace H : (impl_NumText.l0 kj2 a0 a1 y278 (y278.length : Int) 0) = some r := by first | (rw [hy278]; with_reducible exact H) | (have H2_ := (Option.bind_some _ _).symm.trans H; rw [hy278]; with_reducible exact H2_) | (have H2_ := (Option.bind_some _ _).symm.trans H; with_reducible exact H2_) | with_reducible exact H | (rw [hy278]; exact H) | exact H
      have Ny278 := Am hy278
      clear hy278
      have H' := Am H
      clear H
      go_wp2_with (first | ((with_reducible refine gate_dst (N := 22) rfl ?_); refine Kd.R_make (Kd.int .u8) _ 5 rfl (N := 22) rfl 138 _ _ rfl a1 rfl rfl Try.underlying138 (.int .u8 0) 1 info5 rfl (by decide) (by omega) 0 (ok := fun _ => True) (okp := fun _ => True) rfl (fun _ hk => hk) trivial (of_decide_eq_true (by first | (with_reducible assumption) | assumption)) (Nat.le_trans (Nat.mul_le_mul_right _ (of_decide_eq_true (by first | (with_reducible assumption) | assumption) : a1.toNat ≤ 281474976710656)) (by omega)) (Below.refl _ _) (Nat.le_refl _) ?_; intro v279 w13 ho14 hb hg_ hnew_; clear hg_ hnew_; (first | rw [← Ny278.out] at ho14 | (simp only [Int.reduceToNat] at ho14; rw [← Ny278.out] at ho14)); have HO280 := Am (Kd.R_lower ho14 (bz zB)); replace HB := Am (bq zB hb); clear hb ho14; obtain ⟨Ao15, co15, eo15⟩ := Kd.R_slice HO280.out; subst eo15))
      go_loopg [25] kj2 (fun kq v25 w' => ∃ (x5_2 : List Int) (x25_2 : Int), v25 = .int .i64 x25_2 ∧ Aside0 (impl_NumText.l0 kq a0 a1 x5_2 (y278.length : Int) x25_2 = some r) ∧ Aside0 (kq ≤ kj2) ∧ Aside0 (Kd.R (Kd.int .u8) 5 w' w.heap.size (fun _ => True) (.slice Ao15 y278.length co15) x5_2) ∧ Aside0 (Below w.heap.size w w'))
      case atStart => exact ⟨(y278), (0), (by first | rfl | (simp; done) | (simp [*]; done)), H', ⟨Nat.le_refl _⟩, ⟨by (with_reducible repeat (first | apply ra | apply rn | apply re)); exact HO280.out⟩, ⟨zB⟩⟩
      case round =>
       clear H'
       try clear c1; try clear p2; try clear c4; try clear c4b0; try clear c6; try clear p6; try clear c8; try clear c8b0; try clear c8b1; try clear c10; try clear c11; try clear c11b0; try clear c11b1; try clear c12; try clear c12b0; try clear c12b1; try clear c15; try clear p2; try clear p6
       obtain ⟨x5_2, x25_2, rfl, HA, HK2, HO_5, HB⟩ := hrel
       have hl5_2 := (Kd.R_reads' HO_5.out).1
       rw [hl5_2] at HO_5
       (try simp only [hl5_2])
       cases gk with
       | zero => exact absurd HA.out (by simp [impl_NumText.l0])
       | succ k2 =>
        have H := HA.out
        clear HA
        simp only [impl_NumText.l0] at H
        by_cases c16 : x25_2 < (y278.length : Int)
        ·rw [if_pos c16] at H
         have c16b0 : decide (x25_2 < (y278.length : Int)) = true := decide_eq_true c16
         clear c16
         obtain ⟨ji17, hji17⟩ : ∃ j_ : Int, (wrap64 (8 * (wrap64 ((wrap64 (a1 - 1)) - x25_2)))) = j_ := ⟨_, rfl⟩
         replace H : (if 0 ≤ (ji17) then (if 0 ≤ x25_2 then (if x25_2 < (x5_2.length : Int) then (impl_NumText.l0 k2 a0 a1 (x5_2.set (x25_2 : Int).toNat ((shr .i64 a0 (ji17)) % 256)) (y278.length : Int) (wrap64 (x25_2 + 1))) else (none)) else (none)) else (none)) = some r := by first | (rw [hji17] at H; exact H) | (simp only [hji17] at H ⊢; exact H)
         have hji17w : (IntKind.i64.wrap (8 * (wrap64 ((wrap64 (a1 - 1)) - x25_2)))) = ji17 := (i64_w _).trans hji17
         by_cases c18 : 0 ≤ (ji17)
         ·rw [if_pos c18] at H
          have c18b0 := eq_true c18
          have c18b1 : decide (0 ≤ (ji17)) = true := decide_eq_true c18
          clear c18
          obtain ⟨ji19, hji19⟩ : ∃ j_ : Int, (shr .i64 a0 (ji17)) = j_ := ⟨_, rfl⟩
          replace H : (if 0 ≤ x25_2 then (if x25_2 < (x5_2.length : Int) then (impl_NumText.l0 k2 a0 a1 (x5_2.set (x25_2 : Int).toNat ((ji19) % 256)) (y278.length : Int) (wrap64 (x25_2 + 1))) else (none)) else (none)) = some r := by first | (rw [hji19] at H; exact H) | (simp only [hji19] at H ⊢; exact H)
          have hji19_ : (a0 / 2 ^ min (ji17).toNat 64) = ji19 := hji19
          have hji19z : (ji17) ≤ 64 → (a0 / 2 ^ (ji17).toNat) = ji19 := shr_small hji19
          by_cases c20 : 0 ≤ x25_2
          ·rw [if_pos c20] at H
           have c20b0 : decide (0 ≤ x25_2) = true := decide_eq_true c20
           clear c20
           by_cases c21 : x25_2 < (x5_2.length : Int)
           ·rw [if_pos c21] at H
            have c21b0 : decide (x25_2 < (x5_2.length : Int)) = true := decide_eq_true c21
            clear c21
            obtain ⟨y281, hy281⟩ : ∃ y_ : List Int, y_ = (x5_2.set (x25_2 : Int).toNat ((ji19) % 256)) := ⟨_, rfl⟩
            replace H : (impl_NumText.l0 k2 a0 a1 y281 (y278.length : Int) (wrap64 (x25_2 + 1))) = some r := by first | (rw [hy281]; with_reducible exact H) | (have H2_ := (Option.bind_some _ _).symm.trans H; rw [hy281]; with_reducible exact H2_) | (have H2_ := (Option.bind_some _ _).symm.trans H; with_reducible exact H2_) | with_reducible exact H | (rw [hy281]; exact H) | exact H
            have Ny281 := Am hy281
            clear hy281
            have H' := Am H
            clear H
            have p22 : 0 ≤ (x25_2 : Int) := of_decide_eq_true (by first | (with_reducible assumption) | assumption)
            have q22 : (x25_2 : Int) < ((x5_2.length : Int) : Int) := of_decide_eq_true (by first | (with_reducible assumption) | assumption)
            obtain ⟨go22, co22, eo22, gb22, gl22, cl22, HG22⟩ := Kd.R_form HO_5.out (by omega)
            (first | cases eo22 | (injection eo22 with ea_ en_ ec_; (first | subst ea_ | (injection ea_ with ea_; subst ea_)); subst ec_; clear en_))
            have GB22 := Am gb22
            have GG22 := Am HG22
            clear gb22 gl22 HG22
            obtain ⟨hx22_0, hf22_0⟩ := Kd.R_celln 0 HO_5.out (x25_2 : Int) p22 q22
            replace p22 := eq_true p22
            replace q22 := eq_true q22
            have HP23 := Kd.R_putg HO_5.out (x25_2 : Int) ((ji19) % 256)
            go_wp2_with (first | ((with_reducible refine gate_store (t := 5) (p := 38) rfl ?_); refine store_event (t := 5) (p := 38) (v := ?vo_w24) (w1 := (wr.setCell ⟨go22, (x25_2 : Int).toNat, none⟩ (.int .u8 ((ji19) % 256)))) ?hg ?ho ?hn ?hr ?_; (case ho => rfl); (case hg => rfl); (case hn => rfl); (case hr => first | (go_simp; done) | (go_simp; rfl)); intro w24 hw; have hg : wr.grownBy w24 (some go22) := (by rw [hw]; exact HP23.2); have hp_ : Kd.R (Kd.int .u8) 5 w24 w.heap.size (fun _ => True) (.slice (some ⟨go22, 0, none⟩) x5_2.length co15) y281 := (by rw [hw, Ny281.out]; exact HP23.1); clear HP23; replace HO_5 := Am (hp_); replace HB := Am ((by rw [hw]; exact bs (HB.out) GB22.out : Below w.heap.size w w24)); clear hg hw hp_))
            (try simp only [← hl5_2])
            go_roundg k2
            case measure => have := HJ2.out; have := HK2.out; omega
            case rel => exact ⟨(y281), (wrap64 (x25_2 + 1)), (by first | rfl | (simp; done) | (simp [*]; done)), H', ⟨by have := HJ2.out; have := HK2.out; omega⟩, ⟨by (try simp only [hl5_2]); (with_reducible repeat (first | apply ra | apply rn | apply re)); exact HO_5.out⟩, ⟨zB⟩⟩
           ·rw [if_neg c21] at H
            exact absurd H (by simp)
          ·rw [if_neg c20] at H
           exact absurd H (by simp)
         ·rw [if_neg c18] at H
          exact absurd H (by simp)
        ·rw [if_neg c16] at H
         have c16b0 : decide (x25_2 < (y278.length : Int)) = false := decide_eq_false c16
         (try simp only [hl5_2] at c16b0)
         clear c16
         obtain rfl := Option.some.inj H
         have hcv25 := own_string (P := Try.prog) Try.underlying138 Try.underlying5 Try.underlying9 (Kd.own_of_R HO_5.out)
         go_wp2
         go_ret
         exact ⟨zR, zB⟩
     ·rw [if_neg c12] at H
      exact absurd H (by simp)
    ·rw [if_neg c11] at H
     exact absurd H (by simp)

/-! ### impl_AddressWord: function 143 -/
def impl_AddressWord.f (k : Nat) (a0 : Int) : Option (ByteArray) := (impl_NumText.f k a0 4).bind fun t282 => (if t282.toList = ([] : List UInt8) then (some (⟨#[]⟩ : ByteArray)) else ((impl_WordText.f t282).bind fun t283 => (some t283)))
theorem impl_AddressWord.mono : ∀ a0 k, LeO (impl_AddressWord.f k a0) (impl_AddressWord.f (k + 1) a0) := by
 intro a0 k
 unfold impl_AddressWord.f
 repeat' first
   | (with_reducible exact impl_NumText.mono _ _ _)
   | (with_reducible exact LeO.refl _)
   | (with_reducible exact LeO.none _)
   | (with_reducible refine LeO.ite ?_ ?_)
   | (with_reducible refine LeO.bind ?_ (fun _ => ?_))
   | exact impl_NumText.mono _ _ _
   | exact LeO.none _
   | refine LeO.ite ?_ ?_
   | refine LeO.bind ?_ (fun _ => ?_)
set_option maxHeartbeats 8000000 in
set_option maxRecDepth 100000 in
theorem impl_AddressWord.calls (k : Nat) (a0 : Int) (r : ByteArray) (w : World) (h : impl_AddressWord.f k a0 = some r) :
  Calls Try.prog 143 #[.int .i64 a0] w fun e w' => e = .returned (.string r) ∧ Below w.heap.size w w' := by
 have HB := Am (Below.refl w.heap.size w)
 have H : ((impl_NumText.f k a0 4).bind fun t282 => (if t282.toList = ([] : List UInt8) then (some (⟨#[]⟩ : ByteArray)) else ((impl_WordText.f t282).bind fun t283 => (some t283)))) = some r := h
 clear h
 replace H := Option.bind_eq_some_iff.mp H
 obtain ⟨t282, A20, H⟩ := H
 replace H : (if t282.toList = ([] : List UInt8) then (some (⟨#[]⟩ : ByteArray)) else ((impl_WordText.f t282).bind fun t283 => (some t283))) = some r := H
 have A2 := Am A20
 clear A20
 by_cases c3 : t282.toList = ([] : List UInt8)
 ·rw [if_pos c3] at H
  have c3b0 : (t282.toList == ([] : List UInt8)) = true := beq_iff_eq.mpr c3
  have c3b1 : (t282.toList != ([] : List UInt8)) = false := bne_eq_false_iff_eq.mpr c3
  clear c3
  obtain rfl := Option.some.inj H
  go_enter Try.func143, Try.ntmps143
  go_wp2_with (first | ((with_reducible refine gate_callee (f := 153) rfl ?_); refine zC (some 5) rfl rfl Try.func153 rfl #[.int .i64 a0, .int .i64 4] rfl ?_; (with_reducible refine (impl_NumText.calls k a0 4 t282 _ A2.out).mono ?_); rintro e w4 ⟨rfl, hb⟩; refine ⟨_, rfl, ?_⟩; replace HB := Am (bq zB hb); (try clear hb)))
  go_ret
  exact ⟨zR, zB⟩
 ·rw [if_neg c3] at H
  have c3b0 : (t282.toList == ([] : List UInt8)) = false := beq_eq_false_iff_ne.mpr c3
  have c3b1 : (t282.toList != ([] : List UInt8)) = true := bne_iff_ne.mpr c3
  replace H := Option.bind_eq_some_iff.mp H
  obtain ⟨t283, A50, H⟩ := H
  replace H : (some t283) = some r := H
  have A5 := Am A50
  clear A50
  obtain rfl := Option.some.inj H
  go_enter Try.func143, Try.ntmps143
  go_wp2_with (first | ((with_reducible refine gate_callee (f := 153) rfl ?_); refine zC (some 5) rfl rfl Try.func153 rfl #[.int .i64 a0, .int .i64 4] rfl ?_; (with_reducible refine (impl_NumText.calls k a0 4 t282 _ A2.out).mono ?_); rintro e w6 ⟨rfl, hb⟩; refine ⟨_, rfl, ?_⟩; replace HB := Am (bq zB hb); (try clear hb)) | ((with_reducible refine gate_callee (f := 108) rfl ?_); refine zC (some 9) rfl rfl Try.func108 rfl #[.string t282] rfl ?_; (with_reducible refine (impl_WordText.calls t282 t283 _ A5.out).mono ?_); rintro e w7 ⟨rfl, hb⟩; refine ⟨_, rfl, ?_⟩; replace HB := Am (bq zB hb); (try clear hb)))
  go_ret
  exact ⟨zR, zB⟩

/-! ### impl_ReadAddress: function 112 -/
def impl_ReadAddress.f (k : Nat) (a0 : ByteArray) : Option (Int × Bool) := (impl_NumAt.f k a0 0 4).bind fun bt284 => (if bt284.2 = true then ((impl_AddressWord.f k bt284.1).bind fun t286 => (if t286.toList = a0.toList then (some (bt284.1, true)) else (some (0, false)))) else (some (0, false)))
theorem impl_ReadAddress.mono : ∀ a0 k, LeO (impl_ReadAddress.f k a0) (impl_ReadAddress.f (k + 1) a0) := by
 intro a0 k
 unfold impl_ReadAddress.f
 repeat' first
   | (with_reducible exact impl_AddressWord.mono _ _)
   | (with_reducible exact impl_NumAt.mono _ _ _ _)
   | (with_reducible exact LeO.refl _)
   | (with_reducible exact LeO.none _)
   | (with_reducible refine LeO.ite ?_ ?_)
   | (with_reducible refine LeO.bind ?_ (fun _ => ?_))
   | exact impl_AddressWord.mono _ _
   | exact impl_NumAt.mono _ _ _ _
   | exact LeO.none _
   | refine LeO.ite ?_ ?_
   | refine LeO.bind ?_ (fun _ => ?_)
set_option maxHeartbeats 8000000 in
set_option maxRecDepth 100000 in
theorem impl_ReadAddress.calls (k : Nat) (a0 : ByteArray) (r1 : Int) (r2 : Bool) (w : World) (h : impl_ReadAddress.f k a0 = some (r1, r2)) :
  Calls Try.prog 112 #[.string a0] w fun e w' => e = .returned (.tuple #[.int .i64 r1, .bool r2]) ∧ Below w.heap.size w w' := by
 have HB := Am (Below.refl w.heap.size w)
 have H : ((impl_NumAt.f k a0 0 4).bind fun bt284 => (if bt284.2 = true then ((impl_AddressWord.f k bt284.1).bind fun t286 => (if t286.toList = a0.toList then (some (bt284.1, true)) else (some (0, false)))) else (some (0, false)))) = some (r1, r2) := h
 clear h
 replace H := Option.bind_eq_some_iff.mp H
 obtain ⟨⟨t284, t285⟩, A20, H⟩ := H
 replace H : (if t285 = true then ((impl_AddressWord.f k t284).bind fun t286 => (if t286.toList = a0.toList then (some (t284, true)) else (some (0, false)))) else (some (0, false))) = some (r1, r2) := H
 have A2 := Am A20
 clear A20
 by_cases c3 : t285 = true
 ·subst c3
  have H1 : ((impl_AddressWord.f k t284).bind fun t286 => (if t286.toList = a0.toList then (some (t284, true)) else (some (0, false)))) = some (r1, r2) := by rw [if_pos rfl] at H; exact H
  clear H
  have H := H1
  clear H1
  replace H := Option.bind_eq_some_iff.mp H
  obtain ⟨t286, A40, H⟩ := H
  replace H : (if t286.toList = a0.toList then (some (t284, true)) else (some (0, false))) = some (r1, r2) := H
  have A4 := Am A40
  clear A40
  by_cases c5 : t286.toList = a0.toList
  ·rw [if_pos c5] at H
   have c5b0 : (t286.toList == a0.toList) = true := beq_iff_eq.mpr c5
   have c5b1 : (t286.toList != a0.toList) = false := bne_eq_false_iff_eq.mpr c5
   clear c5
   simp only [Option.some.injEq, Prod.mk.injEq] at H
   obtain ⟨rfl, rfl⟩ := H
   go_enter Try.func112, Try.ntmps112
   go_wp2_with (first | ((with_reducible refine gate_callee (f := 142) rfl ?_); refine zC (some 8) rfl rfl Try.func142 rfl #[.string a0, .int .i64 0, .int .i64 4] rfl ?_; (with_reducible refine (impl_NumAt.calls k a0 0 4 t284 true _ A2.out).mono ?_); rintro e w' ⟨rfl, ⟨nd, rfl⟩⟩; refine ⟨_, rfl, ?_⟩) | (go_at_call 143; (with_reducible refine (impl_AddressWord.calls k t284 t286 _ A4.out).mono ?_); rintro e w6 ⟨rfl, hb⟩; replace HB := Am (bq zB hb); (try clear hb)))
   go_ret2
   exact ⟨zR, zB⟩
  ·rw [if_neg c5] at H
   have c5b0 : (t286.toList == a0.toList) = false := beq_eq_false_iff_ne.mpr c5
   have c5b1 : (t286.toList != a0.toList) = true := bne_iff_ne.mpr c5
   simp only [Option.some.injEq, Prod.mk.injEq] at H
   obtain ⟨rfl, rfl⟩ := H
   go_enter Try.func112, Try.ntmps112
   go_wp2_with (first | ((with_reducible refine gate_callee (f := 142) rfl ?_); refine zC (some 8) rfl rfl Try.func142 rfl #[.string a0, .int .i64 0, .int .i64 4] rfl ?_; (with_reducible refine (impl_NumAt.calls k a0 0 4 t284 true _ A2.out).mono ?_); rintro e w' ⟨rfl, ⟨nd, rfl⟩⟩; refine ⟨_, rfl, ?_⟩) | (go_at_call 143; (with_reducible refine (impl_AddressWord.calls k t284 t286 _ A4.out).mono ?_); rintro e w7 ⟨rfl, hb⟩; replace HB := Am (bq zB hb); (try clear hb)))
   go_ret2
   exact ⟨zR, zB⟩
 ·replace c3 := Bool.eq_false_iff.mpr c3
  subst c3
  have H1 : (some (0, false)) = some (r1, r2) := by rw [if_neg (show ¬ (false = true) by decide)] at H; exact H
  clear H
  have H := H1
  clear H1
  simp only [Option.some.injEq, Prod.mk.injEq] at H
  obtain ⟨rfl, rfl⟩ := H
  go_enter Try.func112, Try.ntmps112
  go_wp2_with (first | ((with_reducible refine gate_callee (f := 142) rfl ?_); refine zC (some 8) rfl rfl Try.func142 rfl #[.string a0, .int .i64 0, .int .i64 4] rfl ?_; (with_reducible refine (impl_NumAt.calls k a0 0 4 t284 false _ A2.out).mono ?_); rintro e w' ⟨rfl, ⟨nd, rfl⟩⟩; refine ⟨_, rfl, ?_⟩))
  go_ret2
  exact ⟨zR, zB⟩

/-! ### impl_maskedWord: function 61 -/
def impl_maskedWord.f (k : Nat) (a0_0 : Int) (a0_1 : Int) (a0_2 : Int) (a0_3 : Int) (a1 : Int) (a2_0 : ByteArray) (l2_1 : List (S155)) : Option (ByteArray) := (impl_Memory_word.f k a2_0 l2_1 a1).bind fun t289 => ((impl_PartAt.f k a0_0 a0_1 a0_2 a0_3 a1).bind fun bt290 => (if bt290.2 = 1 then (if 0 ≤ 1 then (if 1 ≤ (t289.size : Int) then ((impl_WordText.f (t289.extract 0 1)).bind fun t292 => (some t292)) else (none)) else (none)) else (if bt290.2 = 5 then ((impl_isRecAt.f k a0_0 a0_1 a0_2 a0_3 a1).bind fun t293 => (if t293 = true then ((impl_MaskRec.f t289).bind fun t294 => (some t294)) else (some t289))) else (if bt290.2 = 6 then ((impl_zeroWord.f).bind fun t295 => (if t289.toList = t295.toList then (some t289) else (some (⟨#[255, 255, 255, 255, 255, 255, 255, 255]⟩ : ByteArray)))) else (if bt290.2 = 3 then ((impl_Geo_partWords.f a0_0 a0_1 a0_2 a0_3).bind fun t296 => (if t296 = 0 then (none) else (if (Int.tmod (wrap64 ((Int.tmod a1 t296) - 4)) 2) = 0 then (some t289) else ((impl_Memory_word.f k a2_0 l2_1 (wrap64 (a1 - 1))).bind fun t297 => ((impl_ReadAddress.f k t297).bind fun bt298 => (if bt298.2 = true then ((impl_isRecAt.f k a0_0 a0_1 a0_2 a0_3 bt298.1).bind fun t300 => (if t300 = true then ((impl_MaskRec.f t289).bind fun t301 => (some t301)) else (some t289))) else (some t289))))))) else (some t289))))))
theorem impl_maskedWord.mono : ∀ a0 a1 a2 a3 a4 a5 a6 k, LeO (impl_maskedWord.f k a0 a1 a2 a3 a4 a5 a6) (impl_maskedWord.f (k + 1) a0 a1 a2 a3 a4 a5 a6) := by
 intro a0 a1 a2 a3 a4 a5 a6 k
 unfold impl_maskedWord.f
 repeat' first
   | (with_reducible exact impl_Memory_word.mono _ _ _ _)
   | (with_reducible exact impl_PartAt.mono _ _ _ _ _ _)
   | (with_reducible exact impl_ReadAddress.mono _ _)
   | (with_reducible exact impl_isRecAt.mono _ _ _ _ _ _)
   | (with_reducible exact LeO.refl _)
   | (with_reducible exact LeO.none _)
   | (with_reducible refine LeO.ite ?_ ?_)
   | (with_reducible refine LeO.bind ?_ (fun _ => ?_))
   | exact impl_Memory_word.mono _ _ _ _
   | exact impl_PartAt.mono _ _ _ _ _ _
   | exact impl_ReadAddress.mono _ _
   | exact impl_isRecAt.mono _ _ _ _ _ _
   | exact LeO.none _
   | refine LeO.ite ?_ ?_
   | refine LeO.bind ?_ (fun _ => ?_)
set_option maxHeartbeats 8000000 in
set_option maxRecDepth 100000 in
theorem impl_maskedWord.calls (k : Nat) (a0_0 : Int) (a0_1 : Int) (a0_2 : Int) (a0_3 : Int) (a1 : Int) (a2_0 : ByteArray) (A2_1 : Option Addr) (c2_1 : Nat) (l2_1 : List (S155)) (r : ByteArray) (w : World) (hr2_1 : Kd.C k155 w A2_1 l2_1.length l2_1) (hc2_1 : l2_1.length ≤ c2_1) (h : impl_maskedWord.f k a0_0 a0_1 a0_2 a0_3 a1 a2_0 l2_1 = some r) :
  Calls Try.prog 61 #[.agg #[.int .i64 a0_0, .int .i64 a0_1, .int .i64 a0_2, .int .i64 a0_3], .int .i64 a1, .agg #[.string a2_0, .slice A2_1 l2_1.length c2_1]] w fun e w' => e = .returned (.string r) ∧ Below w.heap.size w w' := by
 have hu29 := Try.underlying29
 have hu33 := Try.underlying33
 have HR2_1 := Am hr2_1
 have HC2_1 := Am hc2_1
 clear hr2_1 hc2_1
 have HB := Am (Below.refl w.heap.size w)
 have H : ((impl_Memory_word.f k a2_0 l2_1 a1).bind fun t289 => ((impl_PartAt.f k a0_0 a0_1 a0_2 a0_3 a1).bind fun bt290 => (if bt290.2 = 1 then (if 0 ≤ 1 then (if 1 ≤ (t289.size : Int) then ((impl_WordText.f (t289.extract 0 1)).bind fun t292 => (some t292)) else (none)) else (none)) else (if bt290.2 = 5 then ((impl_isRecAt.f k a0_0 a0_1 a0_2 a0_3 a1).bind fun t293 => (if t293 = true then ((impl_MaskRec.f t289).bind fun t294 => (some t294)) else (some t289))) else (if bt290.2 = 6 then ((impl_zeroWord.f).bind fun t295 => (if t289.toList = t295.toList then (some t289) else (some (⟨#[255, 255, 255, 255, 255, 255, 255, 255]⟩ : ByteArray)))) else (if bt290.2 = 3 then ((impl_Geo_partWords.f a0_0 a0_1 a0_2 a0_3).bind fun t296 => (if t296 = 0 then (none) else (if (Int.tmod (wrap64 ((Int.tmod a1 t296) - 4)) 2) = 0 then (some t289) else ((impl_Memory_word.f k a2_0 l2_1 (wrap64 (a1 - 1))).bind fun t297 => ((impl_ReadAddress.f k t297).bind fun bt298 => (if bt298.2 = true then ((impl_isRecAt.f k a0_0 a0_1 a0_2 a0_3 bt298.1).bind fun t300 => (if t300 = true then ((impl_MaskRec.f t289).bind fun t301 => (some t301)) else (some t289))) else (some t289))))))) else (some t289))))))) = some r := h
 clear h
 replace H := Option.bind_eq_some_iff.mp H
 obtain ⟨t289, A40, H⟩ := H
 replace H : ((impl_PartAt.f k a0_0 a0_1 a0_2 a0_3 a1).bind fun bt290 => (if bt290.2 = 1 then (if 0 ≤ 1 then (if 1 ≤ (t289.size : Int) then ((impl_WordText.f (t289.extract 0 1)).bind fun t292 => (some t292)) else (none)) else (none)) else (if bt290.2 = 5 then ((impl_isRecAt.f k a0_0 a0_1 a0_2 a0_3 a1).bind fun t293 => (if t293 = true then ((impl_MaskRec.f t289).bind fun t294 => (some t294)) else (some t289))) else (if bt290.2 = 6 then ((impl_zeroWord.f).bind fun t295 => (if t289.toList = t295.toList then (some t289) else (some (⟨#[255, 255, 255, 255, 255, 255, 255, 255]⟩ : ByteArray)))) else (if bt290.2 = 3 then ((impl_Geo_partWords.f a0_0 a0_1 a0_2 a0_3).bind fun t296 => (if t296 = 0 then (none) else (if (Int.tmod (wrap64 ((Int.tmod a1 t296) - 4)) 2) = 0 then (some t289) else ((impl_Memory_word.f k a2_0 l2_1 (wrap64 (a1 - 1))).bind fun t297 => ((impl_ReadAddress.f k t297).bind fun bt298 => (if bt298.2 = true then ((impl_isRecAt.f k a0_0 a0_1 a0_2 a0_3 bt298.1).bind fun t300 => (if t300 = true then ((impl_MaskRec.f t289).bind fun t301 => (some t301)) else (some t289))) else (some t289))))))) else (some t289)))))) = some r := H
 have A4 := Am A40
 clear A40
 replace H := Option.bind_eq_some_iff.mp H
 obtain ⟨⟨t290, t291⟩, A50, H⟩ := H
 replace H : (if t291 = 1 then (if 0 ≤ 1 then (if 1 ≤ (t289.size : Int) then ((impl_WordText.f (t289.extract 0 1)).bind fun t292 => (some t292)) else (none)) else (none)) else (if t291 = 5 then ((impl_isRecAt.f k a0_0 a0_1 a0_2 a0_3 a1).bind fun t293 => (if t293 = true then ((impl_MaskRec.f t289).bind fun t294 => (some t294)) else (some t289))) else (if t291 = 6 then ((impl_zeroWord.f).bind fun t295 => (if t289.toList = t295.toList then (some t289) else (some (⟨#[255, 255, 255, 255, 255, 255, 255, 255]⟩ : ByteArray)))) else (if t291 = 3 then ((impl_Geo_partWords.f a0_0 a0_1 a0_2 a0_3).bind fun t296 => (if t296 = 0 then (none) else (if (Int.tmod (wrap64 ((Int.tmod a1 t296) - 4)) 2) = 0 then (some t289) else ((impl_Memory_word.f k a2_0 l2_1 (wrap64 (a1 - 1))).bind fun t297 => ((impl_ReadAddress.f k t297).bind fun bt298 => (if bt298.2 = true then ((impl_isRecAt.f k a0_0 a0_1 a0_2 a0_3 bt298.1).bind fun t300 => (if t300 = true then ((impl_MaskRec.f t289).bind fun t301 => (some t301)) else (some t289))) else (some t289))))))) else (some t289))))) = some r := H
 have A5 := Am A50
 clear A50
 by_cases c6 : t291 = 1
 ·rw [if_pos c6] at H
  have c6b0 : (t291 == 1) = true := beq_iff_eq.mpr c6
  have c6b1 : (t291 != 1) = false := bne_eq_false_iff_eq.mpr c6
  clear c6
  by_cases c7 : 0 ≤ 1
  ·rw [if_pos c7] at H
   have c7b0 := eq_true c7
   have c7b1 : decide (0 ≤ 1) = true := decide_eq_true c7
   clear c7
   by_cases c8 : 1 ≤ (t289.size : Int)
   ·rw [if_pos c8] at H
    have c8b0 := eq_true c8
    have c8b1 : decide (1 ≤ (t289.size : Int)) = true := decide_eq_true c8
    clear c8
    replace H := Option.bind_eq_some_iff.mp H
    obtain ⟨t292, A90, H⟩ := H
    replace H : (some t292) = some r := H
    have A9 := Am A90
    clear A90
    obtain rfl := Option.some.inj H
    go_enter Try.func61, Try.ntmps61
    go_wp2_with (first | ((with_reducible refine gate_dst (N := 3) rfl ?_); refine box_event ?hg (N := 3) ?hd (cs := #[.int .i64 a0_0, .int .i64 a0_1, .int .i64 a0_2, .int .i64 a0_3]) (t := 29) ?hr ?_; (case hd => rfl); (case hg => rfl); (case hr => first | (go_simp; done) | (go_simp; rfl)); intro gb287 hg w10 hbox hb; have BK287 := Am (hbox); have GW287 := Am ((by rw [hg]; exact (bz zB) : w.heap.size ≤ gb287)); have GE287 := Am ((by rw [hg]; exact (bz zB) : w.heap.size ≤ gb287)); replace HB := Am (bq zB hb); clear hb hbox hg) | ((with_reducible refine gate_dst (N := 5) rfl ?_); refine box_event ?hg (N := 5) ?hd (cs := #[.string a2_0, .slice A2_1 l2_1.length c2_1]) (t := 33) ?hr ?_; (case hd => rfl); (case hg => rfl); (case hr => first | (go_simp; done) | (go_simp; rfl)); intro gb288 hg w11 hbox hb; have n0_ := Am (zK BK287 hb); have n1_ := Am (bq zG hb); have n2_ := Am (hbox); have n3_ := Am ((by rw [hg]; exact (bz zG) : w.heap.size ≤ gb288)); have n4_ := Am ((by rw [hg]; exact (bz zG) : w.heap.size ≤ gb288)); have n5_ := Am ((by rw [hg]; exact Nat.ne_of_lt (zL BK287) : gb287 ≠ gb288)); have n6_ := Am ((by rw [hg]; exact Nat.ne_of_gt (zL BK287) : gb288 ≠ gb287)); clear BK287; clear HB; have BK287 := n0_; have HB := n1_; have BK288 := n2_; have GW288 := n3_; have GE288 := n4_; have NB287_288 := n5_; have NB288_287 := n6_; clear n0_ n1_ n2_ n3_ n4_ n5_ n6_; clear hb hbox hg; have hnb12 := NB288_287.out; have hnc12 := NB287_288.out; obtain ⟨hcz13_0, hcz13_1⟩ := kc2 (w := w11) BK288.out; have hfz13_0 := kf BK288.out) | ((with_reducible refine gate_callee (f := 106) rfl ?_); refine zC (some 14) rfl rfl Try.func106 rfl #[.agg #[.string a2_0, .slice A2_1 l2_1.length c2_1], .int .i64 a1] rfl ?_; (with_reducible refine (impl_Memory_word.calls k a2_0 _ _ l2_1 a1 t289 _ ?side1 ?side2 A4.out).mono ?_); (case side1 => repeat (first | exact (cb HR2_1.out HB.out) | (with_reducible first | refine ca ?_ _ | refine cn ?_ _ | refine ce ?_))); (case side2 => exact HC2_1.out); rintro e w14 ⟨rfl, hb⟩; refine ⟨_, rfl, ?_⟩; have n0_ := Am (zK BK287 hb); have n1_ := Am (zK BK288 hb); have n2_ := Am (bq zG hb); clear BK287; clear BK288; clear HB; have BK287 := n0_; have BK288 := n1_; have HB := n2_; clear n0_ n1_ n2_; (try clear hb); obtain ⟨hcz15_0, hcz15_1, hcz15_2, hcz15_3⟩ := kc4 (w := w14) BK287.out; have hfz15_0 := kf BK287.out) | ((with_reducible refine gate_callee (f := 107) rfl ?_); refine zC (some 18) rfl rfl Try.func107 rfl #[.agg #[.int .i64 a0_0, .int .i64 a0_1, .int .i64 a0_2, .int .i64 a0_3], .int .i64 a1] rfl ?_; (with_reducible refine (impl_PartAt.calls k a0_0 a0_1 a0_2 a0_3 a1 t290 t291 _ A5.out).mono ?_); rintro e w16 ⟨rfl, hb⟩; refine ⟨_, rfl, ?_⟩; have n0_ := Am (zK BK287 hb); have n1_ := Am (zK BK288 hb); have n2_ := Am (bq zG hb); clear BK287; clear BK288; clear HB; have BK287 := n0_; have BK288 := n1_; have HB := n2_; clear n0_ n1_ n2_; (try clear hb)) | ((with_reducible refine gate_callee (f := 108) rfl ?_); refine zC (some 26) rfl rfl Try.func108 rfl #[.string (t289.extract 0 1)] rfl ?_; (with_reducible refine (impl_WordText.calls (t289.extract 0 1) t292 _ A9.out).mono ?_); rintro e w17 ⟨rfl, hb⟩; refine ⟨_, rfl, ?_⟩; have n0_ := Am (zK BK287 hb); have n1_ := Am (zK BK288 hb); have n2_ := Am (bq zG hb); clear BK287; clear BK288; clear HB; have BK287 := n0_; have BK288 := n1_; have HB := n2_; clear n0_ n1_ n2_; (try clear hb)))
    go_ret
    exact ⟨zR, zG⟩
   ·rw [if_neg c8] at H
    exact absurd H (by simp)
  ·rw [if_neg c7] at H
   exact absurd H (by simp)
 ·rw [if_neg c6] at H
  have c6b0 : (t291 == 1) = false := beq_eq_false_iff_ne.mpr c6
  have c6b1 : (t291 != 1) = true := bne_iff_ne.mpr c6
  by_cases c18 : t291 = 5
  ·rw [if_pos c18] at H
   have c18b0 : (t291 == 5) = true := beq_iff_eq.mpr c18
   have c18b1 : (t291 != 5) = false := bne_eq_false_iff_eq.mpr c18
   clear c18
   replace H := Option.bind_eq_some_iff.mp H
   obtain ⟨t293, A190, H⟩ := H
   replace H : (if t293 = true then ((impl_MaskRec.f t289).bind fun t294 => (some t294)) else (some t289)) = some r := H
   have A19 := Am A190
   clear A190
   by_cases c20 : t293 = true
   ·subst c20
    have H1 : ((impl_MaskRec.f t289).bind fun t294 => (some t294)) = some r := by rw [if_pos rfl] at H; exact H
    clear H
    have H := H1
    clear H1
    replace H := Option.bind_eq_some_iff.mp H
    obtain ⟨t294, A210, H⟩ := H
    replace H : (some t294) = some r := H
    have A21 := Am A210
    clear A210
    obtain rfl := Option.some.inj H
    go_enter Try.func61, Try.ntmps61
    go_wp2_with (first | ((with_reducible refine gate_dst (N := 3) rfl ?_); refine box_event ?hg (N := 3) ?hd (cs := #[.int .i64 a0_0, .int .i64 a0_1, .int .i64 a0_2, .int .i64 a0_3]) (t := 29) ?hr ?_; (case hd => rfl); (case hg => rfl); (case hr => first | (go_simp; done) | (go_simp; rfl)); intro gb287 hg w22 hbox hb; have BK287 := Am (hbox); have GW287 := Am ((by rw [hg]; exact (bz zB) : w.heap.size ≤ gb287)); have GE287 := Am ((by rw [hg]; exact (bz zB) : w.heap.size ≤ gb287)); replace HB := Am (bq zB hb); clear hb hbox hg) | ((with_reducible refine gate_dst (N := 5) rfl ?_); refine box_event ?hg (N := 5) ?hd (cs := #[.string a2_0, .slice A2_1 l2_1.length c2_1]) (t := 33) ?hr ?_; (case hd => rfl); (case hg => rfl); (case hr => first | (go_simp; done) | (go_simp; rfl)); intro gb288 hg w23 hbox hb; have n0_ := Am (zK BK287 hb); have n1_ := Am (bq zG hb); have n2_ := Am (hbox); have n3_ := Am ((by rw [hg]; exact (bz zG) : w.heap.size ≤ gb288)); have n4_ := Am ((by rw [hg]; exact (bz zG) : w.heap.size ≤ gb288)); have n5_ := Am ((by rw [hg]; exact Nat.ne_of_lt (zL BK287) : gb287 ≠ gb288)); have n6_ := Am ((by rw [hg]; exact Nat.ne_of_gt (zL BK287) : gb288 ≠ gb287)); clear BK287; clear HB; have BK287 := n0_; have HB := n1_; have BK288 := n2_; have GW288 := n3_; have GE288 := n4_; have NB287_288 := n5_; have NB288_287 := n6_; clear n0_ n1_ n2_ n3_ n4_ n5_ n6_; clear hb hbox hg; have hnb24 := NB288_287.out; have hnc24 := NB287_288.out; obtain ⟨hcz25_0, hcz25_1⟩ := kc2 (w := w23) BK288.out; have hfz25_0 := kf BK288.out) | ((with_reducible refine gate_callee (f := 106) rfl ?_); refine zC (some 14) rfl rfl Try.func106 rfl #[.agg #[.string a2_0, .slice A2_1 l2_1.length c2_1], .int .i64 a1] rfl ?_; (with_reducible refine (impl_Memory_word.calls k a2_0 _ _ l2_1 a1 t289 _ ?side1 ?side2 A4.out).mono ?_); (case side1 => repeat (first | exact (cb HR2_1.out HB.out) | (with_reducible first | refine ca ?_ _ | refine cn ?_ _ | refine ce ?_))); (case side2 => exact HC2_1.out); rintro e w26 ⟨rfl, hb⟩; refine ⟨_, rfl, ?_⟩; have n0_ := Am (zK BK287 hb); have n1_ := Am (zK BK288 hb); have n2_ := Am (bq zG hb); clear BK287; clear BK288; clear HB; have BK287 := n0_; have BK288 := n1_; have HB := n2_; clear n0_ n1_ n2_; (try clear hb); obtain ⟨hcz27_0, hcz27_1, hcz27_2, hcz27_3⟩ := kc4 (w := w26) BK287.out; have hfz27_0 := kf BK287.out) | ((with_reducible refine gate_callee (f := 107) rfl ?_); refine zC (some 18) rfl rfl Try.func107 rfl #[.agg #[.int .i64 a0_0, .int .i64 a0_1, .int .i64 a0_2, .int .i64 a0_3], .int .i64 a1] rfl ?_; (with_reducible refine (impl_PartAt.calls k a0_0 a0_1 a0_2 a0_3 a1 t290 t291 _ A5.out).mono ?_); rintro e w28 ⟨rfl, hb⟩; refine ⟨_, rfl, ?_⟩; have n0_ := Am (zK BK287 hb); have n1_ := Am (zK BK288 hb); have n2_ := Am (bq zG hb); clear BK287; clear BK288; clear HB; have BK287 := n0_; have BK288 := n1_; have HB := n2_; clear n0_ n1_ n2_; (try clear hb); obtain ⟨hcz29_0, hcz29_1, hcz29_2, hcz29_3⟩ := kc4 (w := w28) BK287.out; have hfz29_0 := kf BK287.out) | ((with_reducible refine gate_callee (f := 109) rfl ?_); refine zC (some 31) rfl rfl Try.func109 rfl #[.agg #[.int .i64 a0_0, .int .i64 a0_1, .int .i64 a0_2, .int .i64 a0_3], .int .i64 a1] rfl ?_; (with_reducible refine (impl_isRecAt.calls k a0_0 a0_1 a0_2 a0_3 a1 true _ A19.out).mono ?_); rintro e w30 ⟨rfl, hb⟩; refine ⟨_, rfl, ?_⟩; have n0_ := Am (zK BK287 hb); have n1_ := Am (zK BK288 hb); have n2_ := Am (bq zG hb); clear BK287; clear BK288; clear HB; have BK287 := n0_; have BK288 := n1_; have HB := n2_; clear n0_ n1_ n2_; (try clear hb)) | ((with_reducible refine gate_callee (f := 110) rfl ?_); refine zC (some 33) rfl rfl Try.func110 rfl #[.string t289] rfl ?_; (with_reducible refine (impl_MaskRec.calls t289 t294 _ A21.out).mono ?_); rintro e w31 ⟨rfl, hb⟩; refine ⟨_, rfl, ?_⟩; have n0_ := Am (zK BK287 hb); have n1_ := Am (zK BK288 hb); have n2_ := Am (bq zG hb); clear BK287; clear BK288; clear HB; have BK287 := n0_; have BK288 := n1_; have HB := n2_; clear n0_ n1_ n2_; (try clear hb)))
    go_ret
    exact ⟨zR, zG⟩
   ·replace c20 := Bool.eq_false_iff.mpr c20
    subst c20
    have H1 : (some t289) = some r := by rw [if_neg (show ¬ (false = true) by decide)] at H; exact H
    clear H
    have H := H1
    clear H1
    obtain rfl := Option.some.inj H
    go_enter Try.func61, Try.ntmps61
    go_wp2_with (first | ((with_reducible refine gate_dst (N := 3) rfl ?_); refine box_event ?hg (N := 3) ?hd (cs := #[.int .i64 a0_0, .int .i64 a0_1, .int .i64 a0_2, .int .i64 a0_3]) (t := 29) ?hr ?_; (case hd => rfl); (case hg => rfl); (case hr => first | (go_simp; done) | (go_simp; rfl)); intro gb287 hg w32 hbox hb; have BK287 := Am (hbox); have GW287 := Am ((by rw [hg]; exact (bz zB) : w.heap.size ≤ gb287)); have GE287 := Am ((by rw [hg]; exact (bz zB) : w.heap.size ≤ gb287)); replace HB := Am (bq zB hb); clear hb hbox hg) | ((with_reducible refine gate_dst (N := 5) rfl ?_); refine box_event ?hg (N := 5) ?hd (cs := #[.string a2_0, .slice A2_1 l2_1.length c2_1]) (t := 33) ?hr ?_; (case hd => rfl); (case hg => rfl); (case hr => first | (go_simp; done) | (go_simp; rfl)); intro gb288 hg w33 hbox hb; have n0_ := Am (zK BK287 hb); have n1_ := Am (bq zG hb); have n2_ := Am (hbox); have n3_ := Am ((by rw [hg]; exact (bz zG) : w.heap.size ≤ gb288)); have n4_ := Am ((by rw [hg]; exact (bz zG) : w.heap.size ≤ gb288)); have n5_ := Am ((by rw [hg]; exact Nat.ne_of_lt (zL BK287) : gb287 ≠ gb288)); have n6_ := Am ((by rw [hg]; exact Nat.ne_of_gt (zL BK287) : gb288 ≠ gb287)); clear BK287; clear HB; have BK287 := n0_; have HB := n1_; have BK288 := n2_; have GW288 := n3_; have GE288 := n4_; have NB287_288 := n5_; have NB288_287 := n6_; clear n0_ n1_ n2_ n3_ n4_ n5_ n6_; clear hb hbox hg; have hnb34 := NB288_287.out; have hnc34 := NB287_288.out; obtain ⟨hcz35_0, hcz35_1⟩ := kc2 (w := w33) BK288.out; have hfz35_0 := kf BK288.out) | ((with_reducible refine gate_callee (f := 106) rfl ?_); refine zC (some 14) rfl rfl Try.func106 rfl #[.agg #[.string a2_0, .slice A2_1 l2_1.length c2_1], .int .i64 a1] rfl ?_; (with_reducible refine (impl_Memory_word.calls k a2_0 _ _ l2_1 a1 t289 _ ?side1 ?side2 A4.out).mono ?_); (case side1 => repeat (first | exact (cb HR2_1.out HB.out) | (with_reducible first | refine ca ?_ _ | refine cn ?_ _ | refine ce ?_))); (case side2 => exact HC2_1.out); rintro e w36 ⟨rfl, hb⟩; refine ⟨_, rfl, ?_⟩; have n0_ := Am (zK BK287 hb); have n1_ := Am (zK BK288 hb); have n2_ := Am (bq zG hb); clear BK287; clear BK288; clear HB; have BK287 := n0_; have BK288 := n1_; have HB := n2_; clear n0_ n1_ n2_; (try clear hb); obtain ⟨hcz37_0, hcz37_1, hcz37_2, hcz37_3⟩ := kc4 (w := w36) BK287.out; have hfz37_0 := kf BK287.out) | ((with_reducible refine gate_callee (f := 107) rfl ?_); refine zC (some 18) rfl rfl Try.func107 rfl #[.agg #[.int .i64 a0_0, .int .i64 a0_1, .int .i64 a0_2, .int .i64 a0_3], .int .i64 a1] rfl ?_; (with_reducible refine (impl_PartAt.calls k a0_0 a0_1 a0_2 a0_3 a1 t290 t291 _ A5.out).mono ?_); rintro e w38 ⟨rfl, hb⟩; refine ⟨_, rfl, ?_⟩; have n0_ := Am (zK BK287 hb); have n1_ := Am (zK BK288 hb); have n2_ := Am (bq zG hb); clear BK287; clear BK288; clear HB; have BK287 := n0_; have BK288 := n1_; have HB := n2_; clear n0_ n1_ n2_; (try clear hb); obtain ⟨hcz39_0, hcz39_1, hcz39_2, hcz39_3⟩ := kc4 (w := w38) BK287.out; have hfz39_0 := kf BK287.out) | ((with_reducible refine gate_callee (f := 109) rfl ?_); refine zC (some 31) rfl rfl Try.func109 rfl #[.agg #[.int .i64 a0_0, .int .i64 a0_1, .int .i64 a0_2, .int .i64 a0_3], .int .i64 a1] rfl ?_; (with_reducible refine (impl_isRecAt.calls k a0_0 a0_1 a0_2 a0_3 a1 false _ A19.out).mono ?_); rintro e w40 ⟨rfl, hb⟩; refine ⟨_, rfl, ?_⟩; have n0_ := Am (zK BK287 hb); have n1_ := Am (zK BK288 hb); have n2_ := Am (bq zG hb); clear BK287; clear BK288; clear HB; have BK287 := n0_; have BK288 := n1_; have HB := n2_; clear n0_ n1_ n2_; (try clear hb)))
    go_ret
    exact ⟨zR, zG⟩
  ·rw [if_neg c18] at H
   have c18b0 : (t291 == 5) = false := beq_eq_false_iff_ne.mpr c18
   have c18b1 : (t291 != 5) = true := bne_iff_ne.mpr c18
   by_cases c41 : t291 = 6
   ·rw [if_pos c41] at H
    have c41b0 : (t291 == 6) = true := beq_iff_eq.mpr c41
    have c41b1 : (t291 != 6) = false := bne_eq_false_iff_eq.mpr c41
    clear c41
    replace H := Option.bind_eq_some_iff.mp H
    obtain ⟨t295, A420, H⟩ := H
    replace H : (if t289.toList = t295.toList then (some t289) else (some (⟨#[255, 255, 255, 255, 255, 255, 255, 255]⟩ : ByteArray))) = some r := H
    have A42 := Am A420
    clear A420
    by_cases c43 : t289.toList = t295.toList
    ·rw [if_pos c43] at H
     have c43b0 : (t289.toList == t295.toList) = true := beq_iff_eq.mpr c43
     have c43b1 : (t289.toList != t295.toList) = false := bne_eq_false_iff_eq.mpr c43
     clear c43
     obtain rfl := Option.some.inj H
     go_enter Try.func61, Try.ntmps61
     go_wp2_with (first | ((with_reducible refine gate_dst (N := 3) rfl ?_); refine box_event ?hg (N := 3) ?hd (cs := #[.int .i64 a0_0, .int .i64 a0_1, .int .i64 a0_2, .int .i64 a0_3]) (t := 29) ?hr ?_; (case hd => rfl); (case hg => rfl); (case hr => first | (go_simp; done) | (go_simp; rfl)); intro gb287 hg w44 hbox hb; have BK287 := Am (hbox); have GW287 := Am ((by rw [hg]; exact (bz zB) : w.heap.size ≤ gb287)); have GE287 := Am ((by rw [hg]; exact (bz zB) : w.heap.size ≤ gb287)); replace HB := Am (bq zB hb); clear hb hbox hg) | ((with_reducible refine gate_dst (N := 5) rfl ?_); refine box_event ?hg (N := 5) ?hd (cs := #[.string a2_0, .slice A2_1 l2_1.length c2_1]) (t := 33) ?hr ?_; (case hd => rfl); (case hg => rfl); (case hr => first | (go_simp; done) | (go_simp; rfl)); intro gb288 hg w45 hbox hb; have n0_ := Am (zK BK287 hb); have n1_ := Am (bq zG hb); have n2_ := Am (hbox); have n3_ := Am ((by rw [hg]; exact (bz zG) : w.heap.size ≤ gb288)); have n4_ := Am ((by rw [hg]; exact (bz zG) : w.heap.size ≤ gb288)); have n5_ := Am ((by rw [hg]; exact Nat.ne_of_lt (zL BK287) : gb287 ≠ gb288)); have n6_ := Am ((by rw [hg]; exact Nat.ne_of_gt (zL BK287) : gb288 ≠ gb287)); clear BK287; clear HB; have BK287 := n0_; have HB := n1_; have BK288 := n2_; have GW288 := n3_; have GE288 := n4_; have NB287_288 := n5_; have NB288_287 := n6_; clear n0_ n1_ n2_ n3_ n4_ n5_ n6_; clear hb hbox hg; have hnb46 := NB288_287.out; have hnc46 := NB287_288.out; obtain ⟨hcz47_0, hcz47_1⟩ := kc2 (w := w45) BK288.out; have hfz47_0 := kf BK288.out) | ((with_reducible refine gate_callee (f := 106) rfl ?_); refine zC (some 14) rfl rfl Try.func106 rfl #[.agg #[.string a2_0, .slice A2_1 l2_1.length c2_1], .int .i64 a1] rfl ?_; (with_reducible refine (impl_Memory_word.calls k a2_0 _ _ l2_1 a1 t289 _ ?side1 ?side2 A4.out).mono ?_); (case side1 => repeat (first | exact (cb HR2_1.out HB.out) | (with_reducible first | refine ca ?_ _ | refine cn ?_ _ | refine ce ?_))); (case side2 => exact HC2_1.out); rintro e w48 ⟨rfl, hb⟩; refine ⟨_, rfl, ?_⟩; have n0_ := Am (zK BK287 hb); have n1_ := Am (zK BK288 hb); have n2_ := Am (bq zG hb); clear BK287; clear BK288; clear HB; have BK287 := n0_; have BK288 := n1_; have HB := n2_; clear n0_ n1_ n2_; (try clear hb); obtain ⟨hcz49_0, hcz49_1, hcz49_2, hcz49_3⟩ := kc4 (w := w48) BK287.out; have hfz49_0 := kf BK287.out) | ((with_reducible refine gate_callee (f := 107) rfl ?_); refine zC (some 18) rfl rfl Try.func107 rfl #[.agg #[.int .i64 a0_0, .int .i64 a0_1, .int .i64 a0_2, .int .i64 a0_3], .int .i64 a1] rfl ?_; (with_reducible refine (impl_PartAt.calls k a0_0 a0_1 a0_2 a0_3 a1 t290 t291 _ A5.out).mono ?_); rintro e w50 ⟨rfl, hb⟩; refine ⟨_, rfl, ?_⟩; have n0_ := Am (zK BK287 hb); have n1_ := Am (zK BK288 hb); have n2_ := Am (bq zG hb); clear BK287; clear BK288; clear HB; have BK287 := n0_; have BK288 := n1_; have HB := n2_; clear n0_ n1_ n2_; (try clear hb)) | ((with_reducible refine gate_callee (f := 111) rfl ?_); refine zC (some 37) rfl rfl Try.func111 rfl #[] rfl ?_; (with_reducible refine (impl_zeroWord.calls  t295 _ A42.out).mono ?_); rintro e w51 ⟨rfl, hb⟩; refine ⟨_, rfl, ?_⟩; have n0_ := Am (zK BK287 hb); have n1_ := Am (zK BK288 hb); have n2_ := Am (bq zG hb); clear BK287; clear BK288; clear HB; have BK287 := n0_; have BK288 := n1_; have HB := n2_; clear n0_ n1_ n2_; (try clear hb)))
     go_ret
     exact ⟨zR, zG⟩
    ·rw [if_neg c43] at H
     have c43b0 : (t289.toList == t295.toList) = false := beq_eq_false_iff_ne.mpr c43
     have c43b1 : (t289.toList != t295.toList) = true := bne_iff_ne.mpr c43
     obtain rfl := Option.some.inj H
     go_enter Try.func61, Try.ntmps61
     go_wp2_with (first | ((with_reducible refine gate_dst (N := 3) rfl ?_); refine box_event ?hg (N := 3) ?hd (cs := #[.int .i64 a0_0, .int .i64 a0_1, .int .i64 a0_2, .int .i64 a0_3]) (t := 29) ?hr ?_; (case hd => rfl); (case hg => rfl); (case hr => first | (go_simp; done) | (go_simp; rfl)); intro gb287 hg w52 hbox hb; have BK287 := Am (hbox); have GW287 := Am ((by rw [hg]; exact (bz zB) : w.heap.size ≤ gb287)); have GE287 := Am ((by rw [hg]; exact (bz zB) : w.heap.size ≤ gb287)); replace HB := Am (bq zB hb); clear hb hbox hg) | ((with_reducible refine gate_dst (N := 5) rfl ?_); refine box_event ?hg (N := 5) ?hd (cs := #[.string a2_0, .slice A2_1 l2_1.length c2_1]) (t := 33) ?hr ?_; (case hd => rfl); (case hg => rfl); (case hr => first | (go_simp; done) | (go_simp; rfl)); intro gb288 hg w53 hbox hb; have n0_ := Am (zK BK287 hb); have n1_ := Am (bq zG hb); have n2_ := Am (hbox); have n3_ := Am ((by rw [hg]; exact (bz zG) : w.heap.size ≤ gb288)); have n4_ := Am ((by rw [hg]; exact (bz zG) : w.heap.size ≤ gb288)); have n5_ := Am ((by rw [hg]; exact Nat.ne_of_lt (zL BK287) : gb287 ≠ gb288)); have n6_ := Am ((by rw [hg]; exact Nat.ne_of_gt (zL BK287) : gb288 ≠ gb287)); clear BK287; clear HB; have BK287 := n0_; have HB := n1_; have BK288 := n2_; have GW288 := n3_; have GE288 := n4_; have NB287_288 := n5_; have NB288_287 := n6_; clear n0_ n1_ n2_ n3_ n4_ n5_ n6_; clear hb hbox hg; have hnb54 := NB288_287.out; have hnc54 := NB287_288.out; obtain ⟨hcz55_0, hcz55_1⟩ := kc2 (w := w53) BK288.out; have hfz55_0 := kf BK288.out) | ((with_reducible refine gate_callee (f := 106) rfl ?_); refine zC (some 14) rfl rfl Try.func106 rfl #[.agg #[.string a2_0, .slice A2_1 l2_1.length c2_1], .int .i64 a1] rfl ?_; (with_reducible refine (impl_Memory_word.calls k a2_0 _ _ l2_1 a1 t289 _ ?side1 ?side2 A4.out).mono ?_); (case side1 => repeat (first | exact (cb HR2_1.out HB.out) | (with_reducible first | refine ca ?_ _ | refine cn ?_ _ | refine ce ?_))); (case side2 => exact HC2_1.out); rintro e w56 ⟨rfl, hb⟩; refine ⟨_, rfl, ?_⟩; have n0_ := Am (zK BK287 hb); have n1_ := Am (zK BK288 hb); have n2_ := Am (bq zG hb); clear BK287; clear BK288; clear HB; have BK287 := n0_; have BK288 := n1_; have HB := n2_; clear n0_ n1_ n2_; (try clear hb); obtain ⟨hcz57_0, hcz57_1, hcz57_2, hcz57_3⟩ := kc4 (w := w56) BK287.out; have hfz57_0 := kf BK287.out) | ((with_reducible refine gate_callee (f := 107) rfl ?_); refine zC (some 18) rfl rfl Try.func107 rfl #[.agg #[.int .i64 a0_0, .int .i64 a0_1, .int .i64 a0_2, .int .i64 a0_3], .int .i64 a1] rfl ?_; (with_reducible refine (impl_PartAt.calls k a0_0 a0_1 a0_2 a0_3 a1 t290 t291 _ A5.out).mono ?_); rintro e w58 ⟨rfl, hb⟩; refine ⟨_, rfl, ?_⟩; have n0_ := Am (zK BK287 hb); have n1_ := Am (zK BK288 hb); have n2_ := Am (bq zG hb); clear BK287; clear BK288; clear HB; have BK287 := n0_; have BK288 := n1_; have HB := n2_; clear n0_ n1_ n2_; (try clear hb)) | ((with_reducible refine gate_callee (f := 111) rfl ?_); refine zC (some 37) rfl rfl Try.func111 rfl #[] rfl ?_; (with_reducible refine (impl_zeroWord.calls  t295 _ A42.out).mono ?_); rintro e w59 ⟨rfl, hb⟩; refine ⟨_, rfl, ?_⟩; have n0_ := Am (zK BK287 hb); have n1_ := Am (zK BK288 hb); have n2_ := Am (bq zG hb); clear BK287; clear BK288; clear HB; have BK287 := n0_; have BK288 := n1_; have HB := n2_; clear n0_ n1_ n2_; (try clear hb)))
     go_ret
     exact ⟨zR, zG⟩
   ·rw [if_neg c41] at H
    have c41b0 : (t291 == 6) = false := beq_eq_false_iff_ne.mpr c41
    have c41b1 : (t291 != 6) = true := bne_iff_ne.mpr c41
    by_cases c60 : t291 = 3
    ·rw [if_pos c60] at H
     have c60b0 : (t291 == 3) = true := beq_iff_eq.mpr c60
     have c60b1 : (t291 != 3) = false := bne_eq_false_iff_eq.mpr c60
     clear c60
     replace H := Option.bind_eq_some_iff.mp H
     obtain ⟨t296, A610, H⟩ := H
     replace H : (if t296 = 0 then (none) else (if (Int.tmod (wrap64 ((Int.tmod a1 t296) - 4)) 2) = 0 then (some t289) else ((impl_Memory_word.f k a2_0 l2_1 (wrap64 (a1 - 1))).bind fun t297 => ((impl_ReadAddress.f k t297).bind fun bt298 => (if bt298.2 = true then ((impl_isRecAt.f k a0_0 a0_1 a0_2 a0_3 bt298.1).bind fun t300 => (if t300 = true then ((impl_MaskRec.f t289).bind fun t301 => (some t301)) else (some t289))) else (some t289)))))) = some r := H
     have A61 := Am A610
     clear A610
     by_cases c62 : t296 = 0
     ·rw [if_pos c62] at H
      exact absurd H (by simp)
     ·rw [if_neg c62] at H
      have c62b0 : (t296 == 0) = false := beq_eq_false_iff_ne.mpr c62
      have c62b1 : (t296 != 0) = true := bne_iff_ne.mpr c62
      by_cases c63 : (Int.tmod (wrap64 ((Int.tmod a1 t296) - 4)) 2) = 0
      ·rw [if_pos c63] at H
       have c63b0 : ((Int.tmod (wrap64 ((Int.tmod a1 t296) - 4)) 2) == 0) = true := beq_iff_eq.mpr c63
       have c63b1 : ((Int.tmod (wrap64 ((Int.tmod a1 t296) - 4)) 2) != 0) = false := bne_eq_false_iff_eq.mpr c63
       clear c63
       obtain rfl := Option.some.inj H
       go_enter Try.func61, Try.ntmps61
       go_wp2_with (first | ((with_reducible refine gate_dst (N := 3) rfl ?_); refine box_event ?hg (N := 3) ?hd (cs := #[.int .i64 a0_0, .int .i64 a0_1, .int .i64 a0_2, .int .i64 a0_3]) (t := 29) ?hr ?_; (case hd => rfl); (case hg => rfl); (case hr => first | (go_simp; done) | (go_simp; rfl)); intro gb287 hg w64 hbox hb; have BK287 := Am (hbox); have GW287 := Am ((by rw [hg]; exact (bz zB) : w.heap.size ≤ gb287)); have GE287 := Am ((by rw [hg]; exact (bz zB) : w.heap.size ≤ gb287)); replace HB := Am (bq zB hb); clear hb hbox hg) | ((with_reducible refine gate_dst (N := 5) rfl ?_); refine box_event ?hg (N := 5) ?hd (cs := #[.string a2_0, .slice A2_1 l2_1.length c2_1]) (t := 33) ?hr ?_; (case hd => rfl); (case hg => rfl); (case hr => first | (go_simp; done) | (go_simp; rfl)); intro gb288 hg w65 hbox hb; have n0_ := Am (zK BK287 hb); have n1_ := Am (bq zG hb); have n2_ := Am (hbox); have n3_ := Am ((by rw [hg]; exact (bz zG) : w.heap.size ≤ gb288)); have n4_ := Am ((by rw [hg]; exact (bz zG) : w.heap.size ≤ gb288)); have n5_ := Am ((by rw [hg]; exact Nat.ne_of_lt (zL BK287) : gb287 ≠ gb288)); have n6_ := Am ((by rw [hg]; exact Nat.ne_of_gt (zL BK287) : gb288 ≠ gb287)); clear BK287; clear HB; have BK287 := n0_; have HB := n1_; have BK288 := n2_; have GW288 := n3_; have GE288 := n4_; have NB287_288 := n5_; have NB288_287 := n6_; clear n0_ n1_ n2_ n3_ n4_ n5_ n6_; clear hb hbox hg; have hnb66 := NB288_287.out; have hnc66 := NB287_288.out; obtain ⟨hcz67_0, hcz67_1⟩ := kc2 (w := w65) BK288.out; have hfz67_0 := kf BK288.out) | ((with_reducible refine gate_callee (f := 106) rfl ?_); refine zC (some 14) rfl rfl Try.func106 rfl #[.agg #[.string a2_0, .slice A2_1 l2_1.length c2_1], .int .i64 a1] rfl ?_; (with_reducible refine (impl_Memory_word.calls k a2_0 _ _ l2_1 a1 t289 _ ?side1 ?side2 A4.out).mono ?_); (case side1 => repeat (first | exact (cb HR2_1.out HB.out) | (with_reducible first | refine ca ?_ _ | refine cn ?_ _ | refine ce ?_))); (case side2 => exact HC2_1.out); rintro e w68 ⟨rfl, hb⟩; refine ⟨_, rfl, ?_⟩; have n0_ := Am (zK BK287 hb); have n1_ := Am (zK BK288 hb); have n2_ := Am (bq zG hb); clear BK287; clear BK288; clear HB; have BK287 := n0_; have BK288 := n1_; have HB := n2_; clear n0_ n1_ n2_; (try clear hb); obtain ⟨hcz69_0, hcz69_1, hcz69_2, hcz69_3⟩ := kc4 (w := w68) BK287.out; have hfz69_0 := kf BK287.out) | ((with_reducible refine gate_callee (f := 107) rfl ?_); refine zC (some 18) rfl rfl Try.func107 rfl #[.agg #[.int .i64 a0_0, .int .i64 a0_1, .int .i64 a0_2, .int .i64 a0_3], .int .i64 a1] rfl ?_; (with_reducible refine (impl_PartAt.calls k a0_0 a0_1 a0_2 a0_3 a1 t290 t291 _ A5.out).mono ?_); rintro e w70 ⟨rfl, hb⟩; refine ⟨_, rfl, ?_⟩; have n0_ := Am (zK BK287 hb); have n1_ := Am (zK BK288 hb); have n2_ := Am (bq zG hb); clear BK287; clear BK288; clear HB; have BK287 := n0_; have BK288 := n1_; have HB := n2_; clear n0_ n1_ n2_; (try clear hb); obtain ⟨hcz71_0, hcz71_1, hcz71_2, hcz71_3⟩ := kc4 (w := w70) BK287.out; have hfz71_0 := kf BK287.out) | ((with_reducible refine gate_callee (f := 60) rfl ?_); refine zC (some 43) rfl rfl Try.func60 rfl #[.agg #[.int .i64 a0_0, .int .i64 a0_1, .int .i64 a0_2, .int .i64 a0_3]] rfl ?_; (with_reducible refine (impl_Geo_partWords.calls a0_0 a0_1 a0_2 a0_3 t296 _ A61.out).mono ?_); rintro e w72 ⟨rfl, hb⟩; refine ⟨_, rfl, ?_⟩; have n0_ := Am (zK BK287 hb); have n1_ := Am (zK BK288 hb); have n2_ := Am (bq zG hb); clear BK287; clear BK288; clear HB; have BK287 := n0_; have BK288 := n1_; have HB := n2_; clear n0_ n1_ n2_; (try clear hb)))
       go_ret
       exact ⟨zR, zG⟩
      ·rw [if_neg c63] at H
       have c63b0 : ((Int.tmod (wrap64 ((Int.tmod a1 t296) - 4)) 2) == 0) = false := beq_eq_false_iff_ne.mpr c63
       have c63b1 : ((Int.tmod (wrap64 ((Int.tmod a1 t296) - 4)) 2) != 0) = true := bne_iff_ne.mpr c63
       replace H := Option.bind_eq_some_iff.mp H
       obtain ⟨t297, A730, H⟩ := H
       replace H : ((impl_ReadAddress.f k t297).bind fun bt298 => (if bt298.2 = true then ((impl_isRecAt.f k a0_0 a0_1 a0_2 a0_3 bt298.1).bind fun t300 => (if t300 = true then ((impl_MaskRec.f t289).bind fun t301 => (some t301)) else (some t289))) else (some t289))) = some r := H
       have A73 := Am A730
       clear A730
       replace H := Option.bind_eq_some_iff.mp H
       obtain ⟨⟨t298, t299⟩, A740, H⟩ := H
       replace H : (if t299 = true then ((impl_isRecAt.f k a0_0 a0_1 a0_2 a0_3 t298).bind fun t300 => (if t300 = true then ((impl_MaskRec.f t289).bind fun t301 => (some t301)) else (some t289))) else (some t289)) = some r := H
       have A74 := Am A740
       clear A740
       by_cases c75 : t299 = true
       ·subst c75
        have H1 : ((impl_isRecAt.f k a0_0 a0_1 a0_2 a0_3 t298).bind fun t300 => (if t300 = true then ((impl_MaskRec.f t289).bind fun t301 => (some t301)) else (some t289))) = some r := by rw [if_pos rfl] at H; exact H
        clear H
        have H := H1
        clear H1
        replace H := Option.bind_eq_some_iff.mp H
        obtain ⟨t300, A760, H⟩ := H
        replace H : (if t300 = true then ((impl_MaskRec.f t289).bind fun t301 => (some t301)) else (some t289)) = some r := H
        have A76 := Am A760
        clear A760
        by_cases c77 : t300 = true
        ·subst c77
         have H1 : ((impl_MaskRec.f t289).bind fun t301 => (some t301)) = some r := by rw [if_pos rfl] at H; exact H
         clear H
         have H := H1
         clear H1
         replace H := Option.bind_eq_some_iff.mp H
         obtain ⟨t301, A780, H⟩ := H
         replace H : (some t301) = some r := H
         have A78 := Am A780
         clear A780
         obtain rfl := Option.some.inj H
         go_enter Try.func61, Try.ntmps61
         go_wp2_with (first | ((with_reducible refine gate_dst (N := 3) rfl ?_); refine box_event ?hg (N := 3) ?hd (cs := #[.int .i64 a0_0, .int .i64 a0_1, .int .i64 a0_2, .int .i64 a0_3]) (t := 29) ?hr ?_; (case hd => rfl); (case hg => rfl); (case hr => first | (go_simp; done) | (go_simp; rfl)); intro gb287 hg w79 hbox hb; have BK287 := Am (hbox); have GW287 := Am ((by rw [hg]; exact (bz zB) : w.heap.size ≤ gb287)); have GE287 := Am ((by rw [hg]; exact (bz zB) : w.heap.size ≤ gb287)); replace HB := Am (bq zB hb); clear hb hbox hg) | ((with_reducible refine gate_dst (N := 5) rfl ?_); refine box_event ?hg (N := 5) ?hd (cs := #[.string a2_0, .slice A2_1 l2_1.length c2_1]) (t := 33) ?hr ?_; (case hd => rfl); (case hg => rfl); (case hr => first | (go_simp; done) | (go_simp; rfl)); intro gb288 hg w80 hbox hb; have n0_ := Am (zK BK287 hb); have n1_ := Am (bq zG hb); have n2_ := Am (hbox); have n3_ := Am ((by rw [hg]; exact (bz zG) : w.heap.size ≤ gb288)); have n4_ := Am ((by rw [hg]; exact (bz zG) : w.heap.size ≤ gb288)); have n5_ := Am ((by rw [hg]; exact Nat.ne_of_lt (zL BK287) : gb287 ≠ gb288)); have n6_ := Am ((by rw [hg]; exact Nat.ne_of_gt (zL BK287) : gb288 ≠ gb287)); clear BK287; clear HB; have BK287 := n0_; have HB := n1_; have BK288 := n2_; have GW288 := n3_; have GE288 := n4_; have NB287_288 := n5_; have NB288_287 := n6_; clear n0_ n1_ n2_ n3_ n4_ n5_ n6_; clear hb hbox hg; have hnb81 := NB288_287.out; have hnc81 := NB287_288.out; obtain ⟨hcz82_0, hcz82_1⟩ := kc2 (w := w80) BK288.out; have hfz82_0 := kf BK288.out) | ((with_reducible refine gate_callee (f := 106) rfl ?_); refine zC (some 14) rfl rfl Try.func106 rfl #[.agg #[.string a2_0, .slice A2_1 l2_1.length c2_1], .int .i64 a1] rfl ?_; (with_reducible refine (impl_Memory_word.calls k a2_0 _ _ l2_1 a1 t289 _ ?side1 ?side2 A4.out).mono ?_); (case side1 => repeat (first | exact (cb HR2_1.out HB.out) | (with_reducible first | refine ca ?_ _ | refine cn ?_ _ | refine ce ?_))); (case side2 => exact HC2_1.out); rintro e w83 ⟨rfl, hb⟩; refine ⟨_, rfl, ?_⟩; have n0_ := Am (zK BK287 hb); have n1_ := Am (zK BK288 hb); have n2_ := Am (bq zG hb); clear BK287; clear BK288; clear HB; have BK287 := n0_; have BK288 := n1_; have HB := n2_; clear n0_ n1_ n2_; (try clear hb); obtain ⟨hcz84_0, hcz84_1, hcz84_2, hcz84_3⟩ := kc4 (w := w83) BK287.out; have hfz84_0 := kf BK287.out) | ((with_reducible refine gate_callee (f := 107) rfl ?_); refine zC (some 18) rfl rfl Try.func107 rfl #[.agg #[.int .i64 a0_0, .int .i64 a0_1, .int .i64 a0_2, .int .i64 a0_3], .int .i64 a1] rfl ?_; (with_reducible refine (impl_PartAt.calls k a0_0 a0_1 a0_2 a0_3 a1 t290 t291 _ A5.out).mono ?_); rintro e w85 ⟨rfl, hb⟩; refine ⟨_, rfl, ?_⟩; have n0_ := Am (zK BK287 hb); have n1_ := Am (zK BK288 hb); have n2_ := Am (bq zG hb); clear BK287; clear BK288; clear HB; have BK287 := n0_; have BK288 := n1_; have HB := n2_; clear n0_ n1_ n2_; (try clear hb); obtain ⟨hcz86_0, hcz86_1, hcz86_2, hcz86_3⟩ := kc4 (w := w85) BK287.out; have hfz86_0 := kf BK287.out) | ((with_reducible refine gate_callee (f := 60) rfl ?_); refine zC (some 43) rfl rfl Try.func60 rfl #[.agg #[.int .i64 a0_0, .int .i64 a0_1, .int .i64 a0_2, .int .i64 a0_3]] rfl ?_; (with_reducible refine (impl_Geo_partWords.calls a0_0 a0_1 a0_2 a0_3 t296 _ A61.out).mono ?_); rintro e w87 ⟨rfl, hb⟩; refine ⟨_, rfl, ?_⟩; have n0_ := Am (zK BK287 hb); have n1_ := Am (zK BK288 hb); have n2_ := Am (bq zG hb); clear BK287; clear BK288; clear HB; have BK287 := n0_; have BK288 := n1_; have HB := n2_; clear n0_ n1_ n2_; (try clear hb); obtain ⟨hcz88_0, hcz88_1⟩ := kc2 (w := w87) BK288.out; have hfz88_0 := kf BK288.out) | ((with_reducible refine gate_callee (f := 106) rfl ?_); refine zC (some 53) rfl rfl Try.func106 rfl #[.agg #[.string a2_0, .slice A2_1 l2_1.length c2_1], .int .i64 (wrap64 (a1 - 1))] rfl ?_; (with_reducible refine (impl_Memory_word.calls k a2_0 _ _ l2_1 (wrap64 (a1 - 1)) t297 _ ?side1 ?side2 A73.out).mono ?_); (case side1 => repeat (first | exact (cb HR2_1.out HB.out) | (with_reducible first | refine ca ?_ _ | refine cn ?_ _ | refine ce ?_))); (case side2 => exact HC2_1.out); rintro e w89 ⟨rfl, hb⟩; refine ⟨_, rfl, ?_⟩; have n0_ := Am (zK BK287 hb); have n1_ := Am (zK BK288 hb); have n2_ := Am (bq zG hb); clear BK287; clear BK288; clear HB; have BK287 := n0_; have BK288 := n1_; have HB := n2_; clear n0_ n1_ n2_; (try clear hb)) | ((with_reducible refine gate_callee (f := 112) rfl ?_); refine zC (some 54) rfl rfl Try.func112 rfl #[.string t297] rfl ?_; (with_reducible refine (impl_ReadAddress.calls k t297 t298 true _ A74.out).mono ?_); rintro e w90 ⟨rfl, hb⟩; refine ⟨_, rfl, ?_⟩; have n0_ := Am (zK BK287 hb); have n1_ := Am (zK BK288 hb); have n2_ := Am (bq zG hb); clear BK287; clear BK288; clear HB; have BK287 := n0_; have BK288 := n1_; have HB := n2_; clear n0_ n1_ n2_; (try clear hb); obtain ⟨hcz91_0, hcz91_1, hcz91_2, hcz91_3⟩ := kc4 (w := w90) BK287.out; have hfz91_0 := kf BK287.out) | (go_at_call 109; (with_reducible refine (impl_isRecAt.calls k a0_0 a0_1 a0_2 a0_3 t298 true _ A76.out).mono ?_); rintro e w92 ⟨rfl, hb⟩; have n0_ := Am (zK BK287 hb); have n1_ := Am (zK BK288 hb); have n2_ := Am (bq zG hb); clear BK287; clear BK288; clear HB; have BK287 := n0_; have BK288 := n1_; have HB := n2_; clear n0_ n1_ n2_; (try clear hb)) | ((with_reducible refine gate_callee (f := 110) rfl ?_); refine zC (some 64) rfl rfl Try.func110 rfl #[.string t289] rfl ?_; (with_reducible refine (impl_MaskRec.calls t289 t301 _ A78.out).mono ?_); rintro e w93 ⟨rfl, hb⟩; refine ⟨_, rfl, ?_⟩; have n0_ := Am (zK BK287 hb); have n1_ := Am (zK BK288 hb); have n2_ := Am (bq zG hb); clear BK287; clear BK288; clear HB; have BK287 := n0_; have BK288 := n1_; have HB := n2_; clear n0_ n1_ n2_; (try clear hb)))
         go_ret
         exact ⟨zR, zG⟩
        ·replace c77 := Bool.eq_false_iff.mpr c77
         subst c77
         have H1 : (some t289) = some r := by rw [if_neg (show ¬ (false = true) by decide)] at H; exact H
         clear H
         have H := H1
         clear H1
         obtain rfl := Option.some.inj H
         go_enter Try.func61, Try.ntmps61
         go_wp2_with (first | ((with_reducible refine gate_dst (N := 3) rfl ?_); refine box_event ?hg (N := 3) ?hd (cs := #[.int .i64 a0_0, .int .i64 a0_1, .int .i64 a0_2, .int .i64 a0_3]) (t := 29) ?hr ?_; (case hd => rfl); (case hg => rfl); (case hr => first | (go_simp; done) | (go_simp; rfl)); intro gb287 hg w94 hbox hb; have BK287 := Am (hbox); have GW287 := Am ((by rw [hg]; exact (bz zB) : w.heap.size ≤ gb287)); have GE287 := Am ((by rw [hg]; exact (bz zB) : w.heap.size ≤ gb287)); replace HB := Am (bq zB hb); clear hb hbox hg) | ((with_reducible refine gate_dst (N := 5) rfl ?_); refine box_event ?hg (N := 5) ?hd (cs := #[.string a2_0, .slice A2_1 l2_1.length c2_1]) (t := 33) ?hr ?_; (case hd => rfl); (case hg => rfl); (case hr => first | (go_simp; done) | (go_simp; rfl)); intro gb288 hg w95 hbox hb; have n0_ := Am (zK BK287 hb); have n1_ := Am (bq zG hb); have n2_ := Am (hbox); have n3_ := Am ((by rw [hg]; exact (bz zG) : w.heap.size ≤ gb288)); have n4_ := Am ((by rw [hg]; exact (bz zG) : w.heap.size ≤ gb288)); have n5_ := Am ((by rw [hg]; exact Nat.ne_of_lt (zL BK287) : gb287 ≠ gb288)); have n6_ := Am ((by rw [hg]; exact Nat.ne_of_gt (zL BK287) : gb288 ≠ gb287)); clear BK287; clear HB; have BK287 := n0_; have HB := n1_; have BK288 := n2_; have GW288 := n3_; have GE288 := n4_; have NB287_288 := n5_; have NB288_287 := n6_; clear n0_ n1_ n2_ n3_ n4_ n5_ n6_; clear hb hbox hg; have hnb96 := NB288_287.out; have hnc96 := NB287_288.out; obtain ⟨hcz97_0, hcz97_1⟩ := kc2 (w := w95) BK288.out; have hfz97_0 := kf BK288.out) | ((with_reducible refine gate_callee (f := 106) rfl ?_); refine zC (some 14) rfl rfl Try.func106 rfl #[.agg #[.string a2_0, .slice A2_1 l2_1.length c2_1], .int .i64 a1] rfl ?_; (with_reducible refine (impl_Memory_word.calls k a2_0 _ _ l2_1 a1 t289 _ ?side1 ?side2 A4.out).mono ?_); (case side1 => repeat (first | exact (cb HR2_1.out HB.out) | (with_reducible first | refine ca ?_ _ | refine cn ?_ _ | refine ce ?_))); (case side2 => exact HC2_1.out); rintro e w98 ⟨rfl, hb⟩; refine ⟨_, rfl, ?_⟩; have n0_ := Am (zK BK287 hb); have n1_ := Am (zK BK288 hb); have n2_ := Am (bq zG hb); clear BK287; clear BK288; clear HB; have BK287 := n0_; have BK288 := n1_; have HB := n2_; clear n0_ n1_ n2_; (try clear hb); obtain ⟨hcz99_0, hcz99_1, hcz99_2, hcz99_3⟩ := kc4 (w := w98) BK287.out; have hfz99_0 := kf BK287.out) | ((with_reducible refine gate_callee (f := 107) rfl ?_); refine zC (some 18) rfl rfl Try.func107 rfl #[.agg #[.int .i64 a0_0, .int .i64 a0_1, .int .i64 a0_2, .int .i64 a0_3], .int .i64 a1] rfl ?_; (with_reducible refine (impl_PartAt.calls k a0_0 a0_1 a0_2 a0_3 a1 t290 t291 _ A5.out).mono ?_); rintro e w100 ⟨rfl, hb⟩; refine ⟨_, rfl, ?_⟩; have n0_ := Am (zK BK287 hb); have n1_ := Am (zK BK288 hb); have n2_ := Am (bq zG hb); clear BK287; clear BK288; clear HB; have BK287 := n0_; have BK288 := n1_; have HB := n2_; clear n0_ n1_ n2_; (try clear hb); obtain ⟨hcz101_0, hcz101_1, hcz101_2, hcz101_3⟩ := kc4 (w := w100) BK287.out; have hfz101_0 := kf BK287.out) | ((with_reducible refine gate_callee (f := 60) rfl ?_); refine zC (some 43) rfl rfl Try.func60 rfl #[.agg #[.int .i64 a0_0, .int .i64 a0_1, .int .i64 a0_2, .int .i64 a0_3]] rfl ?_; (with_reducible refine (impl_Geo_partWords.calls a0_0 a0_1 a0_2 a0_3 t296 _ A61.out).mono ?_); rintro e w102 ⟨rfl, hb⟩; refine ⟨_, rfl, ?_⟩; have n0_ := Am (zK BK287 hb); have n1_ := Am (zK BK288 hb); have n2_ := Am (bq zG hb); clear BK287; clear BK288; clear HB; have BK287 := n0_; have BK288 := n1_; have HB := n2_; clear n0_ n1_ n2_; (try clear hb); obtain ⟨hcz103_0, hcz103_1⟩ := kc2 (w := w102) BK288.out; have hfz103_0 := kf BK288.out) | ((with_reducible refine gate_callee (f := 106) rfl ?_); refine zC (some 53) rfl rfl Try.func106 rfl #[.agg #[.string a2_0, .slice A2_1 l2_1.length c2_1], .int .i64 (wrap64 (a1 - 1))] rfl ?_; (with_reducible refine (impl_Memory_word.calls k a2_0 _ _ l2_1 (wrap64 (a1 - 1)) t297 _ ?side1 ?side2 A73.out).mono ?_); (case side1 => repeat (first | exact (cb HR2_1.out HB.out) | (with_reducible first | refine ca ?_ _ | refine cn ?_ _ | refine ce ?_))); (case side2 => exact HC2_1.out); rintro e w104 ⟨rfl, hb⟩; refine ⟨_, rfl, ?_⟩; have n0_ := Am (zK BK287 hb); have n1_ := Am (zK BK288 hb); have n2_ := Am (bq zG hb); clear BK287; clear BK288; clear HB; have BK287 := n0_; have BK288 := n1_; have HB := n2_; clear n0_ n1_ n2_; (try clear hb)) | ((with_reducible refine gate_callee (f := 112) rfl ?_); refine zC (some 54) rfl rfl Try.func112 rfl #[.string t297] rfl ?_; (with_reducible refine (impl_ReadAddress.calls k t297 t298 true _ A74.out).mono ?_); rintro e w105 ⟨rfl, hb⟩; refine ⟨_, rfl, ?_⟩; have n0_ := Am (zK BK287 hb); have n1_ := Am (zK BK288 hb); have n2_ := Am (bq zG hb); clear BK287; clear BK288; clear HB; have BK287 := n0_; have BK288 := n1_; have HB := n2_; clear n0_ n1_ n2_; (try clear hb); obtain ⟨hcz106_0, hcz106_1, hcz106_2, hcz106_3⟩ := kc4 (w := w105) BK287.out; have hfz106_0 := kf BK287.out) | (go_at_call 109; (with_reducible refine (impl_isRecAt.calls k a0_0 a0_1 a0_2 a0_3 t298 false _ A76.out).mono ?_); rintro e w107 ⟨rfl, hb⟩; have n0_ := Am (zK BK287 hb); have n1_ := Am (zK BK288 hb); have n2_ := Am (bq zG hb); clear BK287; clear BK288; clear HB; have BK287 := n0_; have BK288 := n1_; have HB := n2_; clear n0_ n1_ n2_; (try clear hb)))
         go_ret
         exact ⟨zR, zG⟩
       ·replace c75 := Bool.eq_false_iff.mpr c75
        subst c75
        have H1 : (some t289) = some r := by rw [if_neg (show ¬ (false = true) by decide)] at H; exact H
        clear H
        have H := H1
        clear H1
        obtain rfl := Option.some.inj H
        go_enter Try.func61, Try.ntmps61
        go_wp2_with (first | ((with_reducible refine gate_dst (N := 3) rfl ?_); refine box_event ?hg (N := 3) ?hd (cs := #[.int .i64 a0_0, .int .i64 a0_1, .int .i64 a0_2, .int .i64 a0_3]) (t := 29) ?hr ?_; (case hd => rfl); (case hg => rfl); (case hr => first | (go_simp; done) | (go_simp; rfl)); intro gb287 hg w108 hbox hb; have BK287 := Am (hbox); have GW287 := Am ((by rw [hg]; exact (bz zB) : w.heap.size ≤ gb287)); have GE287 := Am ((by rw [hg]; exact (bz zB) : w.heap.size ≤ gb287)); replace HB := Am (bq zB hb); clear hb hbox hg) | ((with_reducible refine gate_dst (N := 5) rfl ?_); refine box_event ?hg (N := 5) ?hd (cs := #[.string a2_0, .slice A2_1 l2_1.length c2_1]) (t := 33) ?hr ?_; (case hd => rfl); (case hg => rfl); (case hr => first | (go_simp; done) | (go_simp; rfl)); intro gb288 hg w109 hbox hb; have n0_ := Am (zK BK287 hb); have n1_ := Am (bq zG hb); have n2_ := Am (hbox); have n3_ := Am ((by rw [hg]; exact (bz zG) : w.heap.size ≤ gb288)); have n4_ := Am ((by rw [hg]; exact (bz zG) : w.heap.size ≤ gb288)); have n5_ := Am ((by rw [hg]; exact Nat.ne_of_lt (zL BK287) : gb287 ≠ gb288)); have n6_ := Am ((by rw [hg]; exact Nat.ne_of_gt (zL BK287) : gb288 ≠ gb287)); clear BK287; clear HB; have BK287 := n0_; have HB := n1_; have BK288 := n2_; have GW288 := n3_; have GE288 := n4_; have NB287_288 := n5_; have NB288_287 := n6_; clear n0_ n1_ n2_ n3_ n4_ n5_ n6_; clear hb hbox hg; have hnb110 := NB288_287.out; have hnc110 := NB287_288.out; obtain ⟨hcz111_0, hcz111_1⟩ := kc2 (w := w109) BK288.out; have hfz111_0 := kf BK288.out) | ((with_reducible refine gate_callee (f := 106) rfl ?_); refine zC (some 14) rfl rfl Try.func106 rfl #[.agg #[.string a2_0, .slice A2_1 l2_1.length c2_1], .int .i64 a1] rfl ?_; (with_reducible refine (impl_Memory_word.calls k a2_0 _ _ l2_1 a1 t289 _ ?side1 ?side2 A4.out).mono ?_); (case side1 => repeat (first | exact (cb HR2_1.out HB.out) | (with_reducible first | refine ca ?_ _ | refine cn ?_ _ | refine ce ?_))); (case side2 => exact HC2_1.out); rintro e w112 ⟨rfl, hb⟩; refine ⟨_, rfl, ?_⟩; have n0_ := Am (zK BK287 hb); have n1_ := Am (zK BK288 hb); have n2_ := Am (bq zG hb); clear BK287; clear BK288; clear HB; have BK287 := n0_; have BK288 := n1_; have HB := n2_; clear n0_ n1_ n2_; (try clear hb); obtain ⟨hcz113_0, hcz113_1, hcz113_2, hcz113_3⟩ := kc4 (w := w112) BK287.out; have hfz113_0 := kf BK287.out) | ((with_reducible refine gate_callee (f := 107) rfl ?_); refine zC (some 18) rfl rfl Try.func107 rfl #[.agg #[.int .i64 a0_0, .int .i64 a0_1, .int .i64 a0_2, .int .i64 a0_3], .int .i64 a1] rfl ?_; (with_reducible refine (impl_PartAt.calls k a0_0 a0_1 a0_2 a0_3 a1 t290 t291 _ A5.out).mono ?_); rintro e w114 ⟨rfl, hb⟩; refine ⟨_, rfl, ?_⟩; have n0_ := Am (zK BK287 hb); have n1_ := Am (zK BK288 hb); have n2_ := Am (bq zG hb); clear BK287; clear BK288; clear HB; have BK287 := n0_; have BK288 := n1_; have HB := n2_; clear n0_ n1_ n2_; (try clear hb); obtain ⟨hcz115_0, hcz115_1, hcz115_2, hcz115_3⟩ := kc4 (w := w114) BK287.out; have hfz115_0 := kf BK287.out) | ((with_reducible refine gate_callee (f := 60) rfl ?_); refine zC (some 43) rfl rfl Try.func60 rfl #[.agg #[.int .i64 a0_0, .int .i64 a0_1, .int .i64 a0_2, .int .i64 a0_3]] rfl ?_; (with_reducible refine (impl_Geo_partWords.calls a0_0 a0_1 a0_2 a0_3 t296 _ A61.out).mono ?_); rintro e w116 ⟨rfl, hb⟩; refine ⟨_, rfl, ?_⟩; have n0_ := Am (zK BK287 hb); have n1_ := Am (zK BK288 hb); have n2_ := Am (bq zG hb); clear BK287; clear BK288; clear HB; have BK287 := n0_; have BK288 := n1_; have HB := n2_; clear n0_ n1_ n2_; (try clear hb); obtain ⟨hcz117_0, hcz117_1⟩ := kc2 (w := w116) BK288.out; have hfz117_0 := kf BK288.out) | ((with_reducible refine gate_callee (f := 106) rfl ?_); refine zC (some 53) rfl rfl Try.func106 rfl #[.agg #[.string a2_0, .slice A2_1 l2_1.length c2_1], .int .i64 (wrap64 (a1 - 1))] rfl ?_; (with_reducible refine (impl_Memory_word.calls k a2_0 _ _ l2_1 (wrap64 (a1 - 1)) t297 _ ?side1 ?side2 A73.out).mono ?_); (case side1 => repeat (first | exact (cb HR2_1.out HB.out) | (with_reducible first | refine ca ?_ _ | refine cn ?_ _ | refine ce ?_))); (case side2 => exact HC2_1.out); rintro e w118 ⟨rfl, hb⟩; refine ⟨_, rfl, ?_⟩; have n0_ := Am (zK BK287 hb); have n1_ := Am (zK BK288 hb); have n2_ := Am (bq zG hb); clear BK287; clear BK288; clear HB; have BK287 := n0_; have BK288 := n1_; have HB := n2_; clear n0_ n1_ n2_; (try clear hb)) | ((with_reducible refine gate_callee (f := 112) rfl ?_); refine zC (some 54) rfl rfl Try.func112 rfl #[.string t297] rfl ?_; (with_reducible refine (impl_ReadAddress.calls k t297 t298 false _ A74.out).mono ?_); rintro e w119 ⟨rfl, hb⟩; refine ⟨_, rfl, ?_⟩; have n0_ := Am (zK BK287 hb); have n1_ := Am (zK BK288 hb); have n2_ := Am (bq zG hb); clear BK287; clear BK288; clear HB; have BK287 := n0_; have BK288 := n1_; have HB := n2_; clear n0_ n1_ n2_; (try clear hb)))
        go_ret
        exact ⟨zR, zG⟩
    ·rw [if_neg c60] at H
     have c60b0 : (t291 == 3) = false := beq_eq_false_iff_ne.mpr c60
     have c60b1 : (t291 != 3) = true := bne_iff_ne.mpr c60
     obtain rfl := Option.some.inj H
     go_enter Try.func61, Try.ntmps61
     go_wp2_with (first | ((with_reducible refine gate_dst (N := 3) rfl ?_); refine box_event ?hg (N := 3) ?hd (cs := #[.int .i64 a0_0, .int .i64 a0_1, .int .i64 a0_2, .int .i64 a0_3]) (t := 29) ?hr ?_; (case hd => rfl); (case hg => rfl); (case hr => first | (go_simp; done) | (go_simp; rfl)); intro gb287 hg w120 hbox hb; have BK287 := Am (hbox); have GW287 := Am ((by rw [hg]; exact (bz zB) : w.heap.size ≤ gb287)); have GE287 := Am ((by rw [hg]; exact (bz zB) : w.heap.size ≤ gb287)); replace HB := Am (bq zB hb); clear hb hbox hg) | ((with_reducible refine gate_dst (N := 5) rfl ?_); refine box_event ?hg (N := 5) ?hd (cs := #[.string a2_0, .slice A2_1 l2_1.length c2_1]) (t := 33) ?hr ?_; (case hd => rfl); (case hg => rfl); (case hr => first | (go_simp; done) | (go_simp; rfl)); intro gb288 hg w121 hbox hb; have n0_ := Am (zK BK287 hb); have n1_ := Am (bq zG hb); have n2_ := Am (hbox); have n3_ := Am ((by rw [hg]; exact (bz zG) : w.heap.size ≤ gb288)); have n4_ := Am ((by rw [hg]; exact (bz zG) : w.heap.size ≤ gb288)); have n5_ := Am ((by rw [hg]; exact Nat.ne_of_lt (zL BK287) : gb287 ≠ gb288)); have n6_ := Am ((by rw [hg]; exact Nat.ne_of_gt (zL BK287) : gb288 ≠ gb287)); clear BK287; clear HB; have BK287 := n0_; have HB := n1_; have BK288 := n2_; have GW288 := n3_; have GE288 := n4_; have NB287_288 := n5_; have NB288_287 := n6_; clear n0_ n1_ n2_ n3_ n4_ n5_ n6_; clear hb hbox hg; have hnb122 := NB288_287.out; have hnc122 := NB287_288.out; obtain ⟨hcz123_0, hcz123_1⟩ := kc2 (w := w121) BK288.out; have hfz123_0 := kf BK288.out) | ((with_reducible refine gate_callee (f := 106) rfl ?_); refine zC (some 14) rfl rfl Try.func106 rfl #[.agg #[.string a2_0, .slice A2_1 l2_1.length c2_1], .int .i64 a1] rfl ?_; (with_reducible refine (impl_Memory_word.calls k a2_0 _ _ l2_1 a1 t289 _ ?side1 ?side2 A4.out).mono ?_); (case side1 => repeat (first | exact (cb HR2_1.out HB.out) | (with_reducible first | refine ca ?_ _ | refine cn ?_ _ | refine ce ?_))); (case side2 => exact HC2_1.out); rintro e w124 ⟨rfl, hb⟩; refine ⟨_, rfl, ?_⟩; have n0_ := Am (zK BK287 hb); have n1_ := Am (zK BK288 hb); have n2_ := Am (bq zG hb); clear BK287; clear BK288; clear HB; have BK287 := n0_; have BK288 := n1_; have HB := n2_; clear n0_ n1_ n2_; (try clear hb); obtain ⟨hcz125_0, hcz125_1, hcz125_2, hcz125_3⟩ := kc4 (w := w124) BK287.out; have hfz125_0 := kf BK287.out) | ((with_reducible refine gate_callee (f := 107) rfl ?_); refine zC (some 18) rfl rfl Try.func107 rfl #[.agg #[.int .i64 a0_0, .int .i64 a0_1, .int .i64 a0_2, .int .i64 a0_3], .int .i64 a1] rfl ?_; (with_reducible refine (impl_PartAt.calls k a0_0 a0_1 a0_2 a0_3 a1 t290 t291 _ A5.out).mono ?_); rintro e w126 ⟨rfl, hb⟩; refine ⟨_, rfl, ?_⟩; have n0_ := Am (zK BK287 hb); have n1_ := Am (zK BK288 hb); have n2_ := Am (bq zG hb); clear BK287; clear BK288; clear HB; have BK287 := n0_; have BK288 := n1_; have HB := n2_; clear n0_ n1_ n2_; (try clear hb)))
     go_ret
     exact ⟨zR, zG⟩

end Go.Proofs.Ytconffflmbakgaa.QFnExactMaskedImage
