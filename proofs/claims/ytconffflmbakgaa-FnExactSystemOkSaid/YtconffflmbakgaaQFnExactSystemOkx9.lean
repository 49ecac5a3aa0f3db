/- Go functions as Lean functions, and their contracts. Own text: written by wip/gen/pr.py (a turned copy of the print). -/
import Derived.Test.YtconffflmbakgaaQFnExactSystemOkx0
import Derived.Test.YtconffflmbakgaaQFnExactSystemOkx8
namespace Go.Proofs.Ytconffflmbakgaa.QFnExactSystemOk
open Go.RowKit Go.Proofs.YtconffflmbakgaaW.PrintWords Go.Proofs.YtconffflmbakgaaW.PrintLast Go.Proofs.YtconffflmbakgaaW.PrintMore
attribute [local go_sem] max2_int min2_int max_two min_two max_three min_three max_four min_four   -- for this text's walks alone
open Go.Proofs.YtconffflmbakgaaW.PrintWords renaming below_alloc → ba, pw_below_drewN → bn, below_drew1 → be, below_set → bs, blk_drewN → kn, blk_drew → ke, blk_alloc → ka, blk_below → kb, blk_frozen → kf, blk_cell → kc, below_step → bq, below_size → bz, blk_lt → kl
open Go.Proofs.YtconffflmbakgaaW.PrintWords.Kd renaming C_alloc → ca, C_drewN → cn, C_drew → ce, C_below → cb
open Go.Proofs.YtconffflmbakgaaW.PrintWords.Aside0 renaming mk → Am
set_option linter.unusedVariables false
set_option linter.unusedSimpArgs false

theorem cl9 {w w2 : World} {a : Addr} {v : Value} (h : Aside0 (Below w.heap.size w w2)) (e : w.cell? a = some v) : w2.cell? a = some v := (h.out.cell (World.block_lt_of_cell? w _ e)).trans e
def o9b0 (p0 : Int) (p1 : Int) (p2 : Int) (p3 : Int) : Obj := .cells #[.int .i64 p0, .int .i64 p1, .int .i64 p2, .int .i64 p3] 29 (0, 0)
def o9b1 (p0 : Int) (p1 : ByteArray) (p2 : Bool) : Obj := .cells #[.int .i64 p0, .string p1, .bool p2] 155 (0, 0)
def o9b2 (p0 : ByteArray) (p1 : Option Addr) (p2 p3 : Nat) : Obj := .cells #[.string p0, .slice p1 p2 p3] 33 (0, 0)
def o9b3 (p0 : Int) (p1 : Int) (p2 : Int) (p3 : Int) (p4 : ByteArray) (p5 : Option Addr) (p6 p7 : Nat) (p8 : Option Addr) (p9 p10 : Nat) (p11 : Option Addr) (p12 p13 : Nat) : Obj := .cells #[.int .i64 p0, .int .i64 p1, .int .i64 p2, .int .i64 p3, .string p4, .slice p5 p6 p7, .slice p8 p9 p10, .slice p11 p12 p13] 46 (0, 0)
/-! ### impl_Job_118: function 118 -/
def impl_Job_118.l0 : Nat → List (S105) → Int → Int → Option (Int)
 | 0, _, _, _ => none
 | k + 1, x0, x7, x8 => if x8 < x7 then (if 0 ≤ x8 then (if x8 < (x0.length : Int) then ((impl_SystemOk_1.f ((rd_T105 x0 x8).f0.f0) ((rd_T105 x0 x8).f0.f1) ((rd_T105 x0 x8).f0.f2) ((rd_T105 x0 x8).f0.f3) ((rd_T105 x0 x8).f0.f4) ((rd_T105 x0 x8).f0.f5) ((rd_T105 x0 x8).f1.f0) ((rd_T105 x0 x8).f1.f1) ((rd_T105 x0 x8).f1.f2) ((rd_T105 x0 x8).f1.f3) ((rd_T105 x0 x8).f1.f4) ((rd_T105 x0 x8).f2) ((rd_T105 x0 x8).f3) ((rd_T105 x0 x8).f4) ((rd_T105 x0 x8).f5) ((rd_T105 x0 x8).f6)).bind fun t300 => (if t300 = true then (some x8) else (impl_Job_118.l0 k x0 x7 (wrap64 (x8 + 1))))) else (none)) else (none)) else (some (-1))
def impl_Job_118.f (k : Nat) (l0 : List (S105)) (a1 : Int) : Option (Int) := impl_Job_118.l0 k l0 (l0.length : Int) 0
theorem impl_Job_118.mono_l : ∀ k, (∀ y0 y1 y2, LeO (impl_Job_118.l0 k y0 y1 y2) (impl_Job_118.l0 (k + 1) y0 y1 y2))
 | 0 => fun _ _ _ r h => by simp [impl_Job_118.l0] at h
 | k + 1 => by
  have ih0 := impl_Job_118.mono_l k
  ·intro y0 y1 y2
   unfold impl_Job_118.l0
   repeat' first
   | (with_reducible exact ih0 _ _ _)
   | (with_reducible exact LeO.refl _)
   | (with_reducible exact LeO.none _)
   | (with_reducible refine LeO.ite ?_ ?_)
   | (with_reducible refine LeO.bind ?_ (fun _ => ?_))
   | exact ih0 _ _ _
   | exact LeO.none _
   | refine LeO.ite ?_ ?_
   | refine LeO.bind ?_ (fun _ => ?_)
theorem impl_Job_118.mono : ∀ a0 a1 k, LeO (impl_Job_118.f k a0 a1) (impl_Job_118.f (k + 1) a0 a1) := by
 intro a0 a1 k
 have ih0 := impl_Job_118.mono_l k
 unfold impl_Job_118.f
 repeat' first
   | (with_reducible exact ih0 _ _ _)
   | (with_reducible exact LeO.refl _)
   | (with_reducible exact LeO.none _)
   | (with_reducible refine LeO.ite ?_ ?_)
   | (with_reducible refine LeO.bind ?_ (fun _ => ?_))
   | exact ih0 _ _ _
   | exact LeO.none _
   | refine LeO.ite ?_ ?_
   | refine LeO.bind ?_ (fun _ => ?_)
set_option maxHeartbeats 8000000 in
set_option maxRecDepth 100000 in
theorem impl_Job_118.calls (k : Nat) (A0 : Option Addr) (c0 : Nat) (l0 : List (S105)) (a1 : Int) (r : Int) (w : World) (hr0 : Kd.C k105 w A0 l0.length l0) (hc0 : l0.length ≤ c0) (h : impl_Job_118.f k l0 a1 = some r) :
  Calls Try.prog 118 #[.slice A0 l0.length c0, (.func (.func 68) #[] #[])] w fun e w' => e = .returned (.int .i64 r) ∧ Below w.heap.size w w' := by
 have hu105 := Try.underlying105
 have HR0 := Am hr0
 have HC0 := Am hc0
 clear hr0 hc0
 have HB := Am (Below.refl w.heap.size w)
 have H : (impl_Job_118.l0 k l0 (l0.length : Int) 0) = some r := h
 clear h
 have H' := Am H
 clear H
 go_enter Try.func118, Try.ntmps118
 go_wp2
 go_loopg [8] k (fun kq v8 w' => ∃ (x8_1 : Int), v8 = .int .i64 x8_1 ∧ Aside0 (impl_Job_118.l0 kq l0 (l0.length : Int) x8_1 = some r) ∧ Aside0 (kq ≤ k) ∧ Aside0 (Below w.heap.size w w'))
 case atStart => exact ⟨(0), (by first | rfl | (simp; done) | (simp [*]; done)), H', ⟨Nat.le_refl _⟩, ⟨zB⟩⟩
 case round =>
  clear H'
  try clear c1; try clear p2
  obtain ⟨x8_1, rfl, HA, HK1, HB⟩ := hrel
  cases gk with
  | zero => exact absurd HA.out (by simp [impl_Job_118.l0])
  | succ k1 =>
   have H := HA.out
   clear HA
   simp only [impl_Job_118.l0] at H
   by_cases c3 : x8_1 < (l0.length : Int)
   ·rw [if_pos c3] at H
    have c3b0 : decide (x8_1 < (l0.length : Int)) = true := decide_eq_true c3
    clear c3
    by_cases c4 : 0 ≤ x8_1
    ·rw [if_pos c4] at H
     have c4b0 : decide (0 ≤ x8_1) = true := decide_eq_true c4
     clear c4
     by_cases c5 : x8_1 < (l0.length : Int)
     ·rw [if_pos c5] at H
      have c5b0 : decide (x8_1 < (l0.length : Int)) = true := decide_eq_true c5
      clear c5
      replace H := Option.bind_eq_some_iff.mp H
      obtain ⟨t300, A60, H⟩ := H
      replace H : (if t300 = true then (some x8_1) else (impl_Job_118.l0 k1 l0 (l0.length : Int) (wrap64 (x8_1 + 1)))) = some r := H
      have A6 := Am A60
      clear A60
      by_cases c7 : t300 = true
      ·subst c7
       have H1 : (some x8_1) = some r := by rw [if_pos rfl] at H; exact H
       clear H
       have H := H1
       clear H1
       obtain rfl := Option.some.inj H
       have p299 : 0 ≤ (x8_1 : Int) := of_decide_eq_true (by first | (with_reducible assumption) | assumption)
       have q299 : x8_1 < (l0.length : Int) := of_decide_eq_true (by first | (with_reducible assumption) | assumption)
       obtain ⟨ad299, A299_10, c299_10, A299_11, c299_11, A299_12, c299_12, e299, hx299_0, hx299_1, hx299_2, hx299_3, hx299_4, hx299_5, hx299_6, hx299_7, hx299_8, hx299_9, hx299_10, hx299_11, hx299_12, hx299_13, hx299_14, hx299_15, hl299_10, hi299_10, hl299_11, hi299_11, hl299_12, hi299_12⟩ := at_T105 HR0.out x8_1 p299 q299
       cases e299
       replace hx299_0 := cl9 HB hx299_0
       replace hx299_1 := cl9 HB hx299_1
       replace hx299_2 := cl9 HB hx299_2
       replace hx299_3 := cl9 HB hx299_3
       replace hx299_4 := cl9 HB hx299_4
       replace hx299_5 := cl9 HB hx299_5
       replace hx299_6 := cl9 HB hx299_6
       replace hx299_7 := cl9 HB hx299_7
       replace hx299_8 := cl9 HB hx299_8
       replace hx299_9 := cl9 HB hx299_9
       replace hx299_10 := cl9 HB hx299_10
       replace hx299_11 := cl9 HB hx299_11
       replace hx299_12 := cl9 HB hx299_12
       replace hx299_13 := cl9 HB hx299_13
       replace hx299_14 := cl9 HB hx299_14
       replace hx299_15 := cl9 HB hx299_15
       have HR299_10 := Am hi299_10
       have HC299_10 := Am hl299_10
       clear hi299_10 hl299_10
       have HR299_11 := Am hi299_11
       have HC299_11 := Am hl299_11
       clear hi299_11 hl299_11
       have HR299_12 := Am hi299_12
       have HC299_12 := Am hl299_12
       clear hi299_12 hl299_12
       replace p299 := eq_true p299
       replace q299 := eq_true q299
       go_wp2_with (first | (go_at_call 68; (with_reducible refine (impl_SystemOk_1.calls ((rd_T105 l0 x8_1).f0.f0) ((rd_T105 l0 x8_1).f0.f1) ((rd_T105 l0 x8_1).f0.f2) ((rd_T105 l0 x8_1).f0.f3) ((rd_T105 l0 x8_1).f0.f4) ((rd_T105 l0 x8_1).f0.f5) ((rd_T105 l0 x8_1).f1.f0) ((rd_T105 l0 x8_1).f1.f1) ((rd_T105 l0 x8_1).f1.f2) ((rd_T105 l0 x8_1).f1.f3) _ _ ((rd_T105 l0 x8_1).f1.f4) _ _ ((rd_T105 l0 x8_1).f2) _ _ ((rd_T105 l0 x8_1).f3) ((rd_T105 l0 x8_1).f4) ((rd_T105 l0 x8_1).f5) ((rd_T105 l0 x8_1).f6) true _ ?side1 ?side2 ?side3 ?side4 ?side5 ?side6 A6.out).mono ?_); (case side1 => repeat (first | exact (cb HR299_10.out HB.out) | (with_reducible first | refine ca ?_ _ | refine cn ?_ _ | refine ce ?_))); (case side2 => exact HC299_10.out); (case side3 => repeat (first | exact (cb HR299_11.out HB.out) | (with_reducible first | refine ca ?_ _ | refine cn ?_ _ | refine ce ?_))); (case side4 => exact HC299_11.out); (case side5 => repeat (first | exact (cb HR299_12.out HB.out) | (with_reducible first | refine ca ?_ _ | refine cn ?_ _ | refine ce ?_))); (case side6 => exact HC299_12.out); rintro e w8 ⟨rfl, hb⟩; replace HB := Am (bq zB hb); (try clear hb)))
       go_ret
       exact ⟨zR, zB⟩
      ·replace c7 := Bool.eq_false_iff.mpr c7
       subst c7
       have H1 : (impl_Job_118.l0 k1 l0 (l0.length : Int) (wrap64 (x8_1 + 1))) = some r := by rw [if_neg (show ¬ (false = true) by decide)] at H; exact H
       clear H
       have H := H1
       clear H1
       have H' := Am H
       clear H
       have p299 : 0 ≤ (x8_1 : Int) := of_decide_eq_true (by first | (with_reducible assumption) | assumption)
       have q299 : x8_1 < (l0.length : Int) := of_decide_eq_true (by first | (with_reducible assumption) | assumption)
       obtain ⟨ad299, A299_10, c299_10, A299_11, c299_11, A299_12, c299_12, e299, hx299_0, hx299_1, hx299_2, hx299_3, hx299_4, hx299_5, hx299_6, hx299_7, hx299_8, hx299_9, hx299_10, hx299_11, hx299_12, hx299_13, hx299_14, hx299_15, hl299_10, hi299_10, hl299_11, hi299_11, hl299_12, hi299_12⟩ := at_T105 HR0.out x8_1 p299 q299
       cases e299
       replace hx299_0 := cl9 HB hx299_0
       replace hx299_1 := cl9 HB hx299_1
       replace hx299_2 := cl9 HB hx299_2
       replace hx299_3 := cl9 HB hx299_3
       replace hx299_4 := cl9 HB hx299_4
       replace hx299_5 := cl9 HB hx299_5
       replace hx299_6 := cl9 HB hx299_6
       replace hx299_7 := cl9 HB hx299_7
       replace hx299_8 := cl9 HB hx299_8
       replace hx299_9 := cl9 HB hx299_9
       replace hx299_10 := cl9 HB hx299_10
       replace hx299_11 := cl9 HB hx299_11
       replace hx299_12 := cl9 HB hx299_12
       replace hx299_13 := cl9 HB hx299_13
       replace hx299_14 := cl9 HB hx299_14
       replace hx299_15 := cl9 HB hx299_15
       have HR299_10 := Am hi299_10
       have HC299_10 := Am hl299_10
       clear hi299_10 hl299_10
       have HR299_11 := Am hi299_11
       have HC299_11 := Am hl299_11
       clear hi299_11 hl299_11
       have HR299_12 := Am hi299_12
       have HC299_12 := Am hl299_12
       clear hi299_12 hl299_12
       replace p299 := eq_true p299
       replace q299 := eq_true q299
       go_wp2_with (first | (go_at_call 68; (with_reducible refine (impl_SystemOk_1.calls ((rd_T105 l0 x8_1).f0.f0) ((rd_T105 l0 x8_1).f0.f1) ((rd_T105 l0 x8_1).f0.f2) ((rd_T105 l0 x8_1).f0.f3) ((rd_T105 l0 x8_1).f0.f4) ((rd_T105 l0 x8_1).f0.f5) ((rd_T105 l0 x8_1).f1.f0) ((rd_T105 l0 x8_1).f1.f1) ((rd_T105 l0 x8_1).f1.f2) ((rd_T105 l0 x8_1).f1.f3) _ _ ((rd_T105 l0 x8_1).f1.f4) _ _ ((rd_T105 l0 x8_1).f2) _ _ ((rd_T105 l0 x8_1).f3) ((rd_T105 l0 x8_1).f4) ((rd_T105 l0 x8_1).f5) ((rd_T105 l0 x8_1).f6) false _ ?side1 ?side2 ?side3 ?side4 ?side5 ?side6 A6.out).mono ?_); (case side1 => repeat (first | exact (cb HR299_10.out HB.out) | (with_reducible first | refine ca ?_ _ | refine cn ?_ _ | refine ce ?_))); (case side2 => exact HC299_10.out); (case side3 => repeat (first | exact (cb HR299_11.out HB.out) | (with_reducible first | refine ca ?_ _ | refine cn ?_ _ | refine ce ?_))); (case side4 => exact HC299_11.out); (case side5 => repeat (first | exact (cb HR299_12.out HB.out) | (with_reducible first | refine ca ?_ _ | refine cn ?_ _ | refine ce ?_))); (case side6 => exact HC299_12.out); rintro e w9 ⟨rfl, hb⟩; replace HB := Am (bq zB hb); (try clear hb)))
       go_roundg k1
       case measure => have := HK1.out; omega
       case rel => exact ⟨(wrap64 (x8_1 + 1)), (by first | rfl | (simp; done) | (simp [*]; done)), H', ⟨by have := HK1.out; omega⟩, ⟨zB⟩⟩
     ·rw [if_neg c5] at H
      exact absurd H (by simp)
    ·rw [if_neg c4] at H
     exact absurd H (by simp)
   ·rw [if_neg c3] at H
    have c3b0 : decide (x8_1 < (l0.length : Int)) = false := decide_eq_false c3
    clear c3
    obtain rfl := Option.some.inj H
    go_wp2
    go_ret
    exact ⟨zR, zB⟩

/-! ### impl_Job_67: function 67 -/
def impl_Job_67.f (k : Nat) (l0 : List (S105)) (a1 : Int) : Option (Bool) := (impl_Job_118.f k l0 a1).bind fun t301 => (some (decide (t301 ≥ 0)))
theorem impl_Job_67.mono : ∀ a0 a1 k, LeO (impl_Job_67.f k a0 a1) (impl_Job_67.f (k + 1) a0 a1) := by
 intro a0 a1 k
 unfold impl_Job_67.f
 repeat' first
   | (with_reducible exact impl_Job_118.mono _ _ _)
   | (with_reducible exact LeO.refl _)
   | (with_reducible exact LeO.none _)
   | (with_reducible refine LeO.ite ?_ ?_)
   | (with_reducible refine LeO.bind ?_ (fun _ => ?_))
   | exact impl_Job_118.mono _ _ _
   | exact LeO.none _
   | refine LeO.ite ?_ ?_
   | refine LeO.bind ?_ (fun _ => ?_)
set_option maxHeartbeats 8000000 in
set_option maxRecDepth 100000 in
theorem impl_Job_67.calls (k : Nat) (A0 : Option Addr) (c0 : Nat) (l0 : List (S105)) (a1 : Int) (r : Bool) (w : World) (hr0 : Kd.C k105 w A0 l0.length l0) (hc0 : l0.length ≤ c0) (h : impl_Job_67.f k l0 a1 = some r) :
  Calls Try.prog 67 #[.slice A0 l0.length c0, (.func (.func 68) #[] #[])] w fun e w' => e = .returned (.bool r) ∧ Below w.heap.size w w' := by
 have HR0 := Am hr0
 have HC0 := Am hc0
 clear hr0 hc0
 have HB := Am (Below.refl w.heap.size w)
 have H : ((impl_Job_118.f k l0 a1).bind fun t301 => (some (decide (t301 ≥ 0)))) = some r := h
 clear h
 replace H := Option.bind_eq_some_iff.mp H
 obtain ⟨t301, A30, H⟩ := H
 replace H : (some (decide (t301 ≥ 0))) = some r := H
 have A3 := Am A30
 clear A30
 obtain rfl := Option.some.inj H
 go_enter Try.func67, Try.ntmps67
 go_wp2_with (first | ((with_reducible refine gate_callee (f := 118) rfl ?_); refine zC (some 7) rfl rfl Try.func118 rfl #[.slice A0 l0.length c0, (.func (.func 68) #[] #[])] rfl ?_; (with_reducible refine (impl_Job_118.calls k _ _ l0 a1 t301 _ ?side1 ?side2 A3.out).mono ?_); (case side1 => repeat (first | exact HR0.out | (with_reducible first | refine ca ?_ _ | refine cn ?_ _ | refine ce ?_))); (case side2 => exact HC0.out); rintro e w4 ⟨rfl, hb⟩; refine ⟨_, rfl, ?_⟩; replace HB := Am (bq zB hb); (try clear hb)))
 go_ret
 exact ⟨zR, zB⟩

/-! ### impl_SystemOk: function 19 -/
def impl_SystemOk.f (k : Nat) (a0_0 : Int) (a0_1 : Int) (a0_2 : Int) (a0_3 : Int) (a0_4 : ByteArray) (l0_5 : List (S155)) (l0_6 : List (S105)) (l0_7 : List (S166)) : Option (Bool) := (impl_isPlaced.f k a0_4 l0_5 a0_0 a0_1 a0_2 a0_3).bind fun t303 => (if t303 = true then (if (l0_6.length : Int) = a0_0 then ((impl_Job_67.f k l0_6 68).bind fun t304 => (some (!t304))) else (some false)) else (some false))
theorem impl_SystemOk.mono : ∀ a0 a1 a2 a3 a4 a5 a6 a7 k, LeO (impl_SystemOk.f k a0 a1 a2 a3 a4 a5 a6 a7) (impl_SystemOk.f (k + 1) a0 a1 a2 a3 a4 a5 a6 a7) := by
 intro a0 a1 a2 a3 a4 a5 a6 a7 k
 unfold impl_SystemOk.f
 repeat' first
   | (with_reducible exact impl_Job_67.mono _ _ _)
   | (with_reducible exact impl_isPlaced.mono _ _ _ _ _ _ _)
   | (with_reducible exact LeO.refl _)
   | (with_reducible exact LeO.none _)
   | (with_reducible refine LeO.ite ?_ ?_)
   | (with_reducible refine LeO.bind ?_ (fun _ => ?_))
   | exact impl_Job_67.mono _ _ _
   | exact impl_isPlaced.mono _ _ _ _ _ _ _
   | exact LeO.none _
   | refine LeO.ite ?_ ?_
   | refine LeO.bind ?_ (fun _ => ?_)
set_option maxHeartbeats 8000000 in
set_option maxRecDepth 100000 in
theorem impl_SystemOk.calls (k : Nat) (a0_0 : Int) (a0_1 : Int) (a0_2 : Int) (a0_3 : Int) (a0_4 : ByteArray) (A0_5 : Option Addr) (c0_5 : Nat) (l0_5 : List (S155)) (A0_6 : Option Addr) (c0_6 : Nat) (l0_6 : List (S105)) (A0_7 : Option Addr) (c0_7 : Nat) (l0_7 : List (S166)) (r : Bool) (w : World) (hr0_5 : Kd.C k155 w A0_5 l0_5.length l0_5) (hc0_5 : l0_5.length ≤ c0_5) (hr0_6 : Kd.C k105 w A0_6 l0_6.length l0_6) (hc0_6 : l0_6.length ≤ c0_6) (hr0_7 : Kd.C k166 w A0_7 l0_7.length l0_7) (hc0_7 : l0_7.length ≤ c0_7) (h : impl_SystemOk.f k a0_0 a0_1 a0_2 a0_3 a0_4 l0_5 l0_6 l0_7 = some r) :
  Calls Try.prog 19 #[.agg #[.int .i64 a0_0, .int .i64 a0_1, .int .i64 a0_2, .int .i64 a0_3, .string a0_4, .slice A0_5 l0_5.length c0_5, .slice A0_6 l0_6.length c0_6, .slice A0_7 l0_7.length c0_7]] w fun e w' => e = .returned (.bool r) ∧ Below w.heap.size w w' := by
 have hu46 := Try.underlying46
 have hu33 := Try.underlying33
 have hu29 := Try.underlying29
 have HR0_5 := Am hr0_5
 have HC0_5 := Am hc0_5
 clear hr0_5 hc0_5
 have HR0_6 := Am hr0_6
 have HC0_6 := Am hc0_6
 clear hr0_6 hc0_6
 have HR0_7 := Am hr0_7
 have HC0_7 := Am hc0_7
 clear hr0_7 hc0_7
 have HB := Am (Below.refl w.heap.size w)
 have H : ((impl_isPlaced.f k a0_4 l0_5 a0_0 a0_1 a0_2 a0_3).bind fun t303 => (if t303 = true then (if (l0_6.length : Int) = a0_0 then ((impl_Job_67.f k l0_6 68).bind fun t304 => (some (!t304))) else (some false)) else (some false))) = some r := h
 clear h
 replace H := Option.bind_eq_some_iff.mp H
 obtain ⟨t303, A20, H⟩ := H
 replace H : (if t303 = true then (if (l0_6.length : Int) = a0_0 then ((impl_Job_67.f k l0_6 68).bind fun t304 => (some (!t304))) else (some false)) else (some false)) = some r := H
 have A2 := Am A20
 clear A20
 by_cases c3 : t303 = true
 ·subst c3
  have H1 : (if (l0_6.length : Int) = a0_0 then ((impl_Job_67.f k l0_6 68).bind fun t304 => (some (!t304))) else (some false)) = some r := by rw [if_pos rfl] at H; exact H
  clear H
  have H := H1
  clear H1
  by_cases c4 : (l0_6.length : Int) = a0_0
  ·rw [if_pos c4] at H
   have c4b0 : ((l0_6.length : Int) == a0_0) = true := beq_iff_eq.mpr c4
   have c4b1 : ((l0_6.length : Int) != a0_0) = false := bne_eq_false_iff_eq.mpr c4
   clear c4
   replace H := Option.bind_eq_some_iff.mp H
   obtain ⟨t304, A50, H⟩ := H
   replace H : (some (!t304)) = some r := H
   have A5 := Am A50
   clear A50
   obtain rfl := Option.some.inj H
   go_enter Try.func19, Try.ntmps19
   go_wp2_with (first | ((with_reducible refine gate_dst (N := 1) rfl ?_); (try (refine gate_guard (by rfl) ?_; dsimp only)); refine box_event ?hg (N := 1) ?hd (cs := #[.int .i64 a0_0, .int .i64 a0_1, .int .i64 a0_2, .int .i64 a0_3, .string a0_4, .slice A0_5 l0_5.length c0_5, .slice A0_6 l0_6.length c0_6, .slice A0_7 l0_7.length c0_7]) (t := 46) ?hr ?_; (case hd => rfl); (case hg => rfl); (case hr => first | (go_simp; done) | (go_simp; rfl)); intro gb302 hg w6 hbox hb; have BK302 := Am (hbox); have GW302 := Am ((by rw [hg]; exact (bz zB) : w.heap.size ≤ gb302)); have GE302 := Am ((by rw [hg]; exact (bz zB) : w.heap.size ≤ gb302)); replace HB := Am (bq zB hb); clear hb hbox hg; obtain ⟨hcz7_0, hcz7_1, hcz7_2, hcz7_3, hcz7_4, hcz7_5, hcz7_6, hcz7_7⟩ := kc8 (w := w6) BK302.out; have hfz7_0 := kf BK302.out) | ((with_reducible refine gate_callee (f := 58) rfl ?_); refine zC (some 7) rfl rfl Try.func58 rfl #[.agg #[.string a0_4, .slice A0_5 l0_5.length c0_5], .agg #[.int .i64 a0_0, .int .i64 a0_1, .int .i64 a0_2, .int .i64 a0_3]] rfl ?_; (with_reducible refine (impl_isPlaced.calls k a0_4 _ _ l0_5 a0_0 a0_1 a0_2 a0_3 true _ ?side1 ?side2 A2.out).mono ?_); (case side1 => repeat (first | exact (cb HR0_5.out HB.out) | (with_reducible first | refine ca ?_ _ | refine cn ?_ _ | refine ce ?_))); (case side2 => exact HC0_5.out); rintro e w8 ⟨rfl, hb⟩; refine ⟨_, rfl, ?_⟩; have n0_ := Am (zK BK302 hb); have n1_ := Am (bq zG hb); clear BK302; clear HB; have BK302 := n0_; have HB := n1_; clear n0_ n1_; (try clear hb); obtain ⟨hcz9_0, hcz9_1, hcz9_2, hcz9_3, hcz9_4, hcz9_5, hcz9_6, hcz9_7⟩ := kc8 (w := w8) BK302.out; have hfz9_0 := kf BK302.out) | (go_at_call 67; (with_reducible refine (impl_Job_67.calls k _ _ l0_6 68 t304 _ ?side1 ?side2 A5.out).mono ?_); (case side1 => repeat (first | exact (cb HR0_6.out HB.out) | (with_reducible first | refine ca ?_ _ | refine cn ?_ _ | refine ce ?_))); (case side2 => exact HC0_6.out); rintro e w10 ⟨rfl, hb⟩; have n0_ := Am (zK BK302 hb); have n1_ := Am (bq zG hb); clear BK302; clear HB; have BK302 := n0_; have HB := n1_; clear n0_ n1_; (try clear hb)))
   go_ret
   exact ⟨zR, zG⟩
  ·rw [if_neg c4] at H
   have c4b0 : ((l0_6.length : Int) == a0_0) = false := beq_eq_false_iff_ne.mpr c4
   have c4b1 : ((l0_6.length : Int) != a0_0) = true := bne_iff_ne.mpr c4
   obtain rfl := Option.some.inj H
   go_enter Try.func19, Try.ntmps19
   go_wp2_with (first | ((with_reducible refine gate_dst (N := 1) rfl ?_); (try (refine gate_guard (by rfl) ?_; dsimp only)); refine box_event ?hg (N := 1) ?hd (cs := #[.int .i64 a0_0, .int .i64 a0_1, .int .i64 a0_2, .int .i64 a0_3, .string a0_4, .slice A0_5 l0_5.length c0_5, .slice A0_6 l0_6.length c0_6, .slice A0_7 l0_7.length c0_7]) (t := 46) ?hr ?_; (case hd => rfl); (case hg => rfl); (case hr => first | (go_simp; done) | (go_simp; rfl)); intro gb302 hg w11 hbox hb; have BK302 := Am (hbox); have GW302 := Am ((by rw [hg]; exact (bz zB) : w.heap.size ≤ gb302)); have GE302 := Am ((by rw [hg]; exact (bz zB) : w.heap.size ≤ gb302)); replace HB := Am (bq zB hb); clear hb hbox hg; obtain ⟨hcz12_0, hcz12_1, hcz12_2, hcz12_3, hcz12_4, hcz12_5, hcz12_6, hcz12_7⟩ := kc8 (w := w11) BK302.out; have hfz12_0 := kf BK302.out) | ((with_reducible refine gate_callee (f := 58) rfl ?_); refine zC (some 7) rfl rfl Try.func58 rfl #[.agg #[.string a0_4, .slice A0_5 l0_5.length c0_5], .agg #[.int .i64 a0_0, .int .i64 a0_1, .int .i64 a0_2, .int .i64 a0_3]] rfl ?_; (with_reducible refine (impl_isPlaced.calls k a0_4 _ _ l0_5 a0_0 a0_1 a0_2 a0_3 true _ ?side1 ?side2 A2.out).mono ?_); (case side1 => repeat (first | exact (cb HR0_5.out HB.out) | (with_reducible first | refine ca ?_ _ | refine cn ?_ _ | refine ce ?_))); (case side2 => exact HC0_5.out); rintro e w13 ⟨rfl, hb⟩; refine ⟨_, rfl, ?_⟩; have n0_ := Am (zK BK302 hb); have n1_ := Am (bq zG hb); clear BK302; clear HB; have BK302 := n0_; have HB := n1_; clear n0_ n1_; (try clear hb); obtain ⟨hcz14_0, hcz14_1, hcz14_2, hcz14_3, hcz14_4, hcz14_5, hcz14_6, hcz14_7⟩ := kc8 (w := w13) BK302.out; have hfz14_0 := kf BK302.out))
   go_ret
   exact ⟨zR, zG⟩
 ·replace c3 := Bool.eq_false_iff.mpr c3
  subst c3
  have H1 : (some false) = some r := by rw [if_neg (show ¬ (false = true) by decide)] at H; exact H
  clear H
  have H := H1
  clear H1
  obtain rfl := Option.some.inj H
  go_enter Try.func19, Try.ntmps19
  go_wp2_with (first | ((with_reducible refine gate_dst (N := 1) rfl ?_); (try (refine gate_guard (by rfl) ?_; dsimp only)); refine box_event ?hg (N := 1) ?hd (cs := #[.int .i64 a0_0, .int .i64 a0_1, .int .i64 a0_2, .int .i64 a0_3, .string a0_4, .slice A0_5 l0_5.length c0_5, .slice A0_6 l0_6.length c0_6, .slice A0_7 l0_7.length c0_7]) (t := 46) ?hr ?_; (case hd => rfl); (case hg => rfl); (case hr => first | (go_simp; done) | (go_simp; rfl)); intro gb302 hg w15 hbox hb; have BK302 := Am (hbox); have GW302 := Am ((by rw [hg]; exact (bz zB) : w.heap.size ≤ gb302)); have GE302 := Am ((by rw [hg]; exact (bz zB) : w.heap.size ≤ gb302)); replace HB := Am (bq zB hb); clear hb hbox hg; obtain ⟨hcz16_0, hcz16_1, hcz16_2, hcz16_3, hcz16_4, hcz16_5, hcz16_6, hcz16_7⟩ := kc8 (w := w15) BK302.out; have hfz16_0 := kf BK302.out) | ((with_reducible refine gate_callee (f := 58) rfl ?_); refine zC (some 7) rfl rfl Try.func58 rfl #[.agg #[.string a0_4, .slice A0_5 l0_5.length c0_5], .agg #[.int .i64 a0_0, .int .i64 a0_1, .int .i64 a0_2, .int .i64 a0_3]] rfl ?_; (with_reducible refine (impl_isPlaced.calls k a0_4 _ _ l0_5 a0_0 a0_1 a0_2 a0_3 false _ ?side1 ?side2 A2.out).mono ?_); (case side1 => repeat (first | exact (cb HR0_5.out HB.out) | (with_reducible first | refine ca ?_ _ | refine cn ?_ _ | refine ce ?_))); (case side2 => exact HC0_5.out); rintro e w17 ⟨rfl, hb⟩; refine ⟨_, rfl, ?_⟩; have n0_ := Am (zK BK302 hb); have n1_ := Am (bq zG hb); clear BK302; clear HB; have BK302 := n0_; have HB := n1_; clear n0_ n1_; (try clear hb)))
  go_ret
  exact ⟨zR, zG⟩

/-! ### laws_eqCell: function 113 -/
def laws_eqCell.f (a0_0 : Int) (a0_1 : ByteArray) (a0_2 : Bool) (a1_0 : Int) (a1_1 : ByteArray) (a1_2 : Bool) : Option (Bool) := if a0_0 = a1_0 then (if a0_1.toList = a1_1.toList then (if (a0_2 != a1_2) = true then (some false) else (some true)) else (some false)) else (some false)
set_option maxHeartbeats 8000000 in
set_option maxRecDepth 100000 in
theorem laws_eqCell.calls (a0_0 : Int) (a0_1 : ByteArray) (a0_2 : Bool) (a1_0 : Int) (a1_1 : ByteArray) (a1_2 : Bool) (r : Bool) (w : World) (h : laws_eqCell.f a0_0 a0_1 a0_2 a1_0 a1_1 a1_2 = some r) :
  Calls Try.prog 113 #[.agg #[.int .i64 a0_0, .string a0_1, .bool a0_2], .agg #[.int .i64 a1_0, .string a1_1, .bool a1_2]] w fun e w' => e = .returned (.bool r) ∧ Below w.heap.size w w' := by
 have hu155 := Try.underlying155
 have HB := Am (Below.refl w.heap.size w)
 have H : (if a0_0 = a1_0 then (if a0_1.toList = a1_1.toList then (if (a0_2 != a1_2) = true then (some false) else (some true)) else (some false)) else (some false)) = some r := h
 clear h
 by_cases c3 : a0_0 = a1_0
 ·rw [if_pos c3] at H
  have c3b0 : (a0_0 == a1_0) = true := beq_iff_eq.mpr c3
  have c3b1 : (a0_0 != a1_0) = false := bne_eq_false_iff_eq.mpr c3
  clear c3
  by_cases c4 : a0_1.toList = a1_1.toList
  ·rw [if_pos c4] at H
   have c4b0 : (a0_1.toList == a1_1.toList) = true := beq_iff_eq.mpr c4
   have c4b1 : (a0_1.toList != a1_1.toList) = false := bne_eq_false_iff_eq.mpr c4
   clear c4
   by_cases c5 : (a0_2 != a1_2) = true
   ·rw [if_pos c5] at H
    have c5b0 : (a0_2 != a1_2) = true := c5
    (try (have c5b1 : decide (a0_2 = a1_2) = false := by simpa using c5))
    (try (have c5b2 : (a0_2 == a1_2) = false := by simpa using c5))
    (try (have c5b3 : ¬ (a0_2 = a1_2) := by simpa using c5))
    clear c5
    obtain rfl := Option.some.inj H
    go_enter Try.func113, Try.ntmps113
    go_wp2_with (first | ((with_reducible refine gate_dst (N := 2) rfl ?_); refine box_event ?hg (N := 2) ?hd (cs := #[.int .i64 a0_0, .string a0_1, .bool a0_2]) (t := 155) ?hr ?_; (case hd => rfl); (case hg => rfl); (case hr => first | (go_simp; done) | (go_simp; rfl)); intro gb305 hg w6 hbox hb; have BK305 := Am (hbox); have GW305 := Am ((by rw [hg]; exact (bz zB) : w.heap.size ≤ gb305)); have GE305 := Am ((by rw [hg]; exact (bz zB) : w.heap.size ≤ gb305)); replace HB := Am (bq zB hb); clear hb hbox hg) | ((with_reducible refine gate_dst (N := 3) rfl ?_); refine box_event ?hg (N := 3) ?hd (cs := #[.int .i64 a1_0, .string a1_1, .bool a1_2]) (t := 155) ?hr ?_; (case hd => rfl); (case hg => rfl); (case hr => first | (go_simp; done) | (go_simp; rfl)); intro gb306 hg w7 hbox hb; have n0_ := Am (zK BK305 hb); have n1_ := Am (bq zG hb); have n2_ := Am (hbox); have n3_ := Am ((by rw [hg]; exact (bz zG) : w.heap.size ≤ gb306)); have n4_ := Am ((by rw [hg]; exact (bz zG) : w.heap.size ≤ gb306)); have n5_ := Am ((by rw [hg]; exact Nat.ne_of_lt (zL BK305) : gb305 ≠ gb306)); have n6_ := Am ((by rw [hg]; exact Nat.ne_of_gt (zL BK305) : gb306 ≠ gb305)); clear BK305; clear HB; have BK305 := n0_; have HB := n1_; have BK306 := n2_; have GW306 := n3_; have GE306 := n4_; have NB305_306 := n5_; have NB306_305 := n6_; clear n0_ n1_ n2_ n3_ n4_ n5_ n6_; clear hb hbox hg; have hnb8 := NB305_306.out; have hnc8 := NB306_305.out; obtain ⟨hcz9_0, hcz9_1, hcz9_2⟩ := kc3 (w := w7) BK305.out; have hfz9_0 := kf BK305.out; obtain ⟨hcz10_0, hcz10_1, hcz10_2⟩ := kc3 (w := w7) BK306.out; have hfz10_0 := kf BK306.out))
    go_ret
    exact ⟨zR, zG⟩
   ·rw [if_neg c5] at H
    have c5b0 : (a0_2 != a1_2) = false := by simpa using c5
    (try (have c5b1 : decide (a0_2 = a1_2) = true := by simpa using c5))
    (try (have c5b2 : (a0_2 == a1_2) = true := by simpa using c5))
    clear c5
    obtain rfl := Option.some.inj H
    go_enter Try.func113, Try.ntmps113
    go_wp2_with (first | ((with_reducible refine gate_dst (N := 2) rfl ?_); refine box_event ?hg (N := 2) ?hd (cs := #[.int .i64 a0_0, .string a0_1, .bool a0_2]) (t := 155) ?hr ?_; (case hd => rfl); (case hg => rfl); (case hr => first | (go_simp; done) | (go_simp; rfl)); intro gb305 hg w11 hbox hb; have BK305 := Am (hbox); have GW305 := Am ((by rw [hg]; exact (bz zB) : w.heap.size ≤ gb305)); have GE305 := Am ((by rw [hg]; exact (bz zB) : w.heap.size ≤ gb305)); replace HB := Am (bq zB hb); clear hb hbox hg) | ((with_reducible refine gate_dst (N := 3) rfl ?_); refine box_event ?hg (N := 3) ?hd (cs := #[.int .i64 a1_0, .string a1_1, .bool a1_2]) (t := 155) ?hr ?_; (case hd => rfl); (case hg => rfl); (case hr => first | (go_simp; done) | (go_simp; rfl)); intro gb306 hg w12 hbox hb; have n0_ := Am (zK BK305 hb); have n1_ := Am (bq zG hb); have n2_ := Am (hbox); have n3_ := Am ((by rw [hg]; exact (bz zG) : w.heap.size ≤ gb306)); have n4_ := Am ((by rw [hg]; exact (bz zG) : w.heap.size ≤ gb306)); have n5_ := Am ((by rw [hg]; exact Nat.ne_of_lt (zL BK305) : gb305 ≠ gb306)); have n6_ := Am ((by rw [hg]; exact Nat.ne_of_gt (zL BK305) : gb306 ≠ gb305)); clear BK305; clear HB; have BK305 := n0_; have HB := n1_; have BK306 := n2_; have GW306 := n3_; have GE306 := n4_; have NB305_306 := n5_; have NB306_305 := n6_; clear n0_ n1_ n2_ n3_ n4_ n5_ n6_; clear hb hbox hg; have hnb13 := NB305_306.out; have hnc13 := NB306_305.out; obtain ⟨hcz14_0, hcz14_1, hcz14_2⟩ := kc3 (w := w12) BK305.out; have hfz14_0 := kf BK305.out; obtain ⟨hcz15_0, hcz15_1, hcz15_2⟩ := kc3 (w := w12) BK306.out; have hfz15_0 := kf BK306.out))
    go_ret
    exact ⟨zR, zG⟩
  ·rw [if_neg c4] at H
   have c4b0 : (a0_1.toList == a1_1.toList) = false := beq_eq_false_iff_ne.mpr c4
   have c4b1 : (a0_1.toList != a1_1.toList) = true := bne_iff_ne.mpr c4
   obtain rfl := Option.some.inj H
   go_enter Try.func113, Try.ntmps113
   go_wp2_with (first | ((with_reducible refine gate_dst (N := 2) rfl ?_); refine box_event ?hg (N := 2) ?hd (cs := #[.int .i64 a0_0, .string a0_1, .bool a0_2]) (t := 155) ?hr ?_; (case hd => rfl); (case hg => rfl); (case hr => first | (go_simp; done) | (go_simp; rfl)); intro gb305 hg w16 hbox hb; have BK305 := Am (hbox); have GW305 := Am ((by rw [hg]; exact (bz zB) : w.heap.size ≤ gb305)); have GE305 := Am ((by rw [hg]; exact (bz zB) : w.heap.size ≤ gb305)); replace HB := Am (bq zB hb); clear hb hbox hg) | ((with_reducible refine gate_dst (N := 3) rfl ?_); refine box_event ?hg (N := 3) ?hd (cs := #[.int .i64 a1_0, .string a1_1, .bool a1_2]) (t := 155) ?hr ?_; (case hd => rfl); (case hg => rfl); (case hr => first | (go_simp; done) | (go_simp; rfl)); intro gb306 hg w17 hbox hb; have n0_ := Am (zK BK305 hb); have n1_ := Am (bq zG hb); have n2_ := Am (hbox); have n3_ := Am ((by rw [hg]; exact (bz zG) : w.heap.size ≤ gb306)); have n4_ := Am ((by rw [hg]; exact (bz zG) : w.heap.size ≤ gb306)); have n5_ := Am ((by rw [hg]; exact Nat.ne_of_lt (zL BK305) : gb305 ≠ gb306)); have n6_ := Am ((by rw [hg]; exact Nat.ne_of_gt (zL BK305) : gb306 ≠ gb305)); clear BK305; clear HB; have BK305 := n0_; have HB := n1_; have BK306 := n2_; have GW306 := n3_; have GE306 := n4_; have NB305_306 := n5_; have NB306_305 := n6_; clear n0_ n1_ n2_ n3_ n4_ n5_ n6_; clear hb hbox hg; have hnb18 := NB305_306.out; have hnc18 := NB306_305.out; obtain ⟨hcz19_0, hcz19_1, hcz19_2⟩ := kc3 (w := w17) BK305.out; have hfz19_0 := kf BK305.out; obtain ⟨hcz20_0, hcz20_1, hcz20_2⟩ := kc3 (w := w17) BK306.out; have hfz20_0 := kf BK306.out))
   go_ret
   exact ⟨zR, zG⟩
 ·rw [if_neg c3] at H
  have c3b0 : (a0_0 == a1_0) = false := beq_eq_false_iff_ne.mpr c3
  have c3b1 : (a0_0 != a1_0) = true := bne_iff_ne.mpr c3
  obtain rfl := Option.some.inj H
  go_enter Try.func113, Try.ntmps113
  go_wp2_with (first | ((with_reducible refine gate_dst (N := 2) rfl ?_); refine box_event ?hg (N := 2) ?hd (cs := #[.int .i64 a0_0, .string a0_1, .bool a0_2]) (t := 155) ?hr ?_; (case hd => rfl); (case hg => rfl); (case hr => first | (go_simp; done) | (go_simp; rfl)); intro gb305 hg w21 hbox hb; have BK305 := Am (hbox); have GW305 := Am ((by rw [hg]; exact (bz zB) : w.heap.size ≤ gb305)); have GE305 := Am ((by rw [hg]; exact (bz zB) : w.heap.size ≤ gb305)); replace HB := Am (bq zB hb); clear hb hbox hg) | ((with_reducible refine gate_dst (N := 3) rfl ?_); refine box_event ?hg (N := 3) ?hd (cs := #[.int .i64 a1_0, .string a1_1, .bool a1_2]) (t := 155) ?hr ?_; (case hd => rfl); (case hg => rfl); (case hr => first | (go_simp; done) | (go_simp; rfl)); intro gb306 hg w22 hbox hb; have n0_ := Am (zK BK305 hb); have n1_ := Am (bq zG hb); have n2_ := Am (hbox); have n3_ := Am ((by rw [hg]; exact (bz zG) : w.heap.size ≤ gb306)); have n4_ := Am ((by rw [hg]; exact (bz zG) : w.heap.size ≤ gb306)); have n5_ := Am ((by rw [hg]; exact Nat.ne_of_lt (zL BK305) : gb305 ≠ gb306)); have n6_ := Am ((by rw [hg]; exact Nat.ne_of_gt (zL BK305) : gb306 ≠ gb305)); clear BK305; clear HB; have BK305 := n0_; have HB := n1_; have BK306 := n2_; have GW306 := n3_; have GE306 := n4_; have NB305_306 := n5_; have NB306_305 := n6_; clear n0_ n1_ n2_ n3_ n4_ n5_ n6_; clear hb hbox hg; have hnb23 := NB305_306.out; have hnc23 := NB306_305.out; obtain ⟨hcz24_0, hcz24_1, hcz24_2⟩ := kc3 (w := w22) BK305.out; have hfz24_0 := kf BK305.out; obtain ⟨hcz25_0, hcz25_1, hcz25_2⟩ := kc3 (w := w22) BK306.out; have hfz25_0 := kf BK306.out))
  go_ret
  exact ⟨zR, zG⟩

/-! ### laws_eqCellS: function 62 -/
def laws_eqCellS.l0 : Nat → List (S155) → List (S155) → Int → Option (Bool)
 | 0, _, _, _ => none
 | k + 1, x0, x1, x5 => if x5 < (x0.length : Int) then (if 0 ≤ x5 then (if x5 < (x1.length : Int) then ((laws_eqCell.f ((rd_T155 x0 x5).f0) ((rd_T155 x0 x5).f1) ((rd_T155 x0 x5).f2) ((rd_T155 x1 x5).f0) ((rd_T155 x1 x5).f1) ((rd_T155 x1 x5).f2)).bind fun t309 => (if t309 = true then (laws_eqCellS.l0 k x0 x1 (wrap64 (x5 + 1))) else (some false))) else (none)) else (none)) else (some true)
def laws_eqCellS.f (k : Nat) (l0 : List (S155)) (l1 : List (S155)) : Option (Bool) := if (l0.length : Int) = (l1.length : Int) then (laws_eqCellS.l0 k l0 l1 0) else (some false)
theorem laws_eqCellS.mono_l : ∀ k, (∀ y0 y1 y2, LeO (laws_eqCellS.l0 k y0 y1 y2) (laws_eqCellS.l0 (k + 1) y0 y1 y2))
 | 0 => fun _ _ _ r h => by simp [laws_eqCellS.l0] at h
 | k + 1 => by
  have ih0 := laws_eqCellS.mono_l k
  ·intro y0 y1 y2
   unfold laws_eqCellS.l0
   repeat' first
   | (with_reducible exact ih0 _ _ _)
   | (with_reducible exact LeO.refl _)
   | (with_reducible exact LeO.none _)
   | (with_reducible refine LeO.ite ?_ ?_)
   | (with_reducible refine LeO.bind ?_ (fun _ => ?_))
   | exact ih0 _ _ _
   | exact LeO.none _
   | refine LeO.ite ?_ ?_
   | refine LeO.bind ?_ (fun _ => ?_)
theorem laws_eqCellS.mono : ∀ a0 a1 k, LeO (laws_eqCellS.f k a0 a1) (laws_eqCellS.f (k + 1) a0 a1) := by
 intro a0 a1 k
 have ih0 := laws_eqCellS.mono_l k
 unfold laws_eqCellS.f
 repeat' first
   | (with_reducible exact ih0 _ _ _)
   | (with_reducible exact LeO.refl _)
   | (with_reducible exact LeO.none _)
   | (with_reducible refine LeO.ite ?_ ?_)
   | (with_reducible refine LeO.bind ?_ (fun _ => ?_))
   | exact ih0 _ _ _
   | exact LeO.none _
   | refine LeO.ite ?_ ?_
   | refine LeO.bind ?_ (fun _ => ?_)
def laws_eqCellS.T6 : Bool × List (List Nat × List Nat) := (true, [([], []), ([], []), ([0, 1], [0, 1]), ([2], [2]), ([], []), ([], []), ([4, 5], [4, 5]), ([6], [6]), ([3, 7], [3, 7]), ([8], [8])])
def laws_eqCellS.B6 : List Nat := [0, 0, 3, 7, 0, 0, 48, 112, 255, 511]
theorem laws_eqCellS.tab6 : rtab .any (opsOf Try.f62 6) = laws_eqCellS.T6 := by kernel_rfl
theorem laws_eqCellS.bits6 : waitsOk laws_eqCellS.T6.2 laws_eqCellS.B6 = true := by kernel_rfl
set_option maxHeartbeats 8000000 in
set_option maxRecDepth 100000 in
theorem laws_eqCellS.calls (k : Nat) (A0 : Option Addr) (c0 : Nat) (l0 : List (S155)) (A1 : Option Addr) (c1 : Nat) (l1 : List (S155)) (r : Bool) (w : World) (hr0 : Kd.C k155 w A0 l0.length l0) (hc0 : l0.length ≤ c0) (hr1 : Kd.C k155 w A1 l1.length l1) (hc1 : l1.length ≤ c1) (h : laws_eqCellS.f k l0 l1 = some r) :
  Calls Try.prog 62 #[.slice A0 l0.length c0, .slice A1 l1.length c1] w fun e w' => e = .returned (.bool r) ∧ Below w.heap.size w w' := by
 have hu155 := Try.underlying155
 have HR0 := Am hr0
 have HC0 := Am hc0
 clear hr0 hc0
 have HR1 := Am hr1
 have HC1 := Am hc1
 clear hr1 hc1
 have HB := Am (Below.refl w.heap.size w)
 have H : (if (l0.length : Int) = (l1.length : Int) then (laws_eqCellS.l0 k l0 l1 0) else (some false)) = some r := h
 clear h
 by_cases c3 : (l0.length : Int) = (l1.length : Int)
 ·rw [if_pos c3] at H
  have c3b0 : ((l0.length : Int) == (l1.length : Int)) = true := beq_iff_eq.mpr c3
  have c3b1 : ((l0.length : Int) != (l1.length : Int)) = false := bne_eq_false_iff_eq.mpr c3
  have c3b2 : (l0.length == l1.length) = true := by first | simpa using c3 | (simp at c3 ⊢; omega)
  clear c3
  have H' := Am H
  clear H
  go_enter Try.func62, Try.ntmps62
  go_wp2
  go_loopg [5] k (fun kq v5 w' => ∃ (x5_1 : Int), v5 = .int .i64 x5_1 ∧ Aside0 (laws_eqCellS.l0 kq l0 l1 x5_1 = some r) ∧ Aside0 (kq ≤ k) ∧ Aside0 (Below w.heap.size w w'))
  case atStart => exact ⟨(0), (by first | rfl | (simp; done) | (simp [*]; done)), H', ⟨Nat.le_refl _⟩, ⟨zB⟩⟩
  case round =>
   clear H'
   try clear c1; try clear p2; try clear c3; try clear c3b0; try clear c3b1; try clear c3b2
   obtain ⟨x5_1, rfl, HA, HK1, HB⟩ := hrel
   cases gk with
   | zero => exact absurd HA.out (by simp [laws_eqCellS.l0])
   | succ k1 =>
    have H := HA.out
    clear HA
    simp only [laws_eqCellS.l0] at H
    by_cases c4 : x5_1 < (l0.length : Int)
    ·rw [if_pos c4] at H
     have c4b0 : decide (x5_1 < (l0.length : Int)) = true := decide_eq_true c4
     clear c4
     by_cases c5 : 0 ≤ x5_1
     ·rw [if_pos c5] at H
      have c5b0 : decide (0 ≤ x5_1) = true := decide_eq_true c5
      clear c5
      by_cases c6 : x5_1 < (l1.length : Int)
      ·rw [if_pos c6] at H
       have c6b0 : decide (x5_1 < (l1.length : Int)) = true := decide_eq_true c6
       clear c6
       replace H := Option.bind_eq_some_iff.mp H
       obtain ⟨t309, A70, H⟩ := H
       replace H : (if t309 = true then (laws_eqCellS.l0 k1 l0 l1 (wrap64 (x5_1 + 1))) else (some false)) = some r := H
       have A7 := Am A70
       clear A70
       by_cases c8 : t309 = true
       ·subst c8
        have H1 : (laws_eqCellS.l0 k1 l0 l1 (wrap64 (x5_1 + 1))) = some r := by rw [if_pos rfl] at H; exact H
        clear H
        have H := H1
        clear H1
        have H' := Am H
        clear H
        try go_wp2
        have n0_ := Am (be HB.out)
        clear HB
        have HB := n0_
        clear n0_
        have p307 : 0 ≤ (x5_1 : Int) := of_decide_eq_true (by first | (with_reducible assumption) | assumption)
        have q307 : x5_1 < (l0.length : Int) := of_decide_eq_true (by first | (with_reducible assumption) | assumption)
        obtain ⟨ad307, e307, hx307_0, hx307_1, hx307_2⟩ := at_T155 HR0.out x5_1 p307 q307
        have hw307_2 := hx307_2
        have hw307_1 := hx307_1
        have hw307_0 := hx307_0
        cases e307
        replace hx307_0 := cl9 HB hx307_0
        replace hx307_1 := cl9 HB hx307_1
        replace hx307_2 := cl9 HB hx307_2
        replace p307 := eq_true p307
        replace q307 := eq_true q307
        have p308 : 0 ≤ (x5_1 : Int) := of_decide_eq_true (by first | (with_reducible assumption) | assumption)
        have q308 : x5_1 < (l1.length : Int) := of_decide_eq_true (by first | (with_reducible assumption) | assumption)
        obtain ⟨ad308, e308, hx308_0, hx308_1, hx308_2⟩ := at_T155 HR1.out x5_1 p308 q308
        have hw308_2 := hx308_2
        have hw308_1 := hx308_1
        have hw308_0 := hx308_0
        cases e308
        replace hx308_0 := cl9 HB hx308_0
        replace hx308_1 := cl9 HB hx308_1
        replace hx308_2 := cl9 HB hx308_2
        replace p308 := eq_true p308
        replace q308 := eq_true q308
        refine start_ (n := 10) (S := fun w' => w'.cell? (ad307.add ((x5_1).toNat * 3)) = some (.int .i64 ((rd_T155 l0 x5_1).f0)) ∧ w'.cell? ⟨(ad307.add ((x5_1).toNat * 3)).block, (ad307.add ((x5_1).toNat * 3)).off + 1, none⟩ = some (.string ((rd_T155 l0 x5_1).f1)) ∧ w'.cell? ⟨(ad307.add ((x5_1).toNat * 3)).block, (ad307.add ((x5_1).toNat * 3)).off + 2, none⟩ = some (.bool ((rd_T155 l0 x5_1).f2)) ∧ w'.cell? (ad308.add ((x5_1).toNat * 3)) = some (.int .i64 ((rd_T155 l1 x5_1).f0)) ∧ w'.cell? ⟨(ad308.add ((x5_1).toNat * 3)).block, (ad308.add ((x5_1).toNat * 3)).off + 1, none⟩ = some (.string ((rd_T155 l1 x5_1).f1)) ∧ w'.cell? ⟨(ad308.add ((x5_1).toNat * 3)).block, (ad308.add ((x5_1).toNat * 3)).off + 2, none⟩ = some (.bool ((rd_T155 l1 x5_1).f2))) (ds := []) #[false, false, false, false, false, false, false, false, false, false] (by kernel_rfl) rfl rfl ⟨(cl9 HB hw307_0), (cl9 HB hw307_1), (cl9 HB hw307_2), (cl9 HB hw308_0), (cl9 HB hw308_1), (cl9 HB hw308_2)⟩ (fun hHeld => ?_); refine with_tabW laws_eqCellS.tab6 laws_eqCellS.bits6 (fun HT_ HW_ => ?_)
        generalize wr.drew = w9 at HB hx307_0 hx307_1 hx307_2 hx308_0 hx308_1 hx308_2 hHeld ⊢
        refine zA 0 (some 17) HT_.out rfl rfl ?_
        refine zA 1 (some 18) HT_.out rfl rfl ?_
        refine zA 2 (some 19) HT_.out rfl rfl ?_
        refine zA 4 (some 21) HT_.out rfl rfl ?_
        refine zA 5 (some 22) HT_.out rfl rfl ?_
        refine zA 6 (some 23) HT_.out rfl rfl ?_
        refine zT 3 (some 20) HT_.out HW_.out rfl rfl hHeld ?_
        refine zT 7 (some 24) HT_.out HW_.out rfl rfl hHeld ?_
        refine zO 8 (some 25) HT_.out rfl rfl (fun K hK => ?_)
        refine goes_ Try.func113 (by kernel_rfl) rfl #[.agg #[.int .i64 ((rd_T155 l0 x5_1).f0), .string ((rd_T155 l0 x5_1).f1), .bool ((rd_T155 l0 x5_1).f2)], .agg #[.int .i64 ((rd_T155 l1 x5_1).f0), .string ((rd_T155 l1 x5_1).f1), .bool ((rd_T155 l1 x5_1).f2)]] (by rfl) rfl rfl (by (try simp only [List.map_toArray, List.map_cons, List.map_nil]); first | done | rfl | (simp only [List.length_drop, List.length_take]; rfl)) ?_
        with_reducible refine (laws_eqCell.calls ((rd_T155 l0 x5_1).f0) ((rd_T155 l0 x5_1).f1) ((rd_T155 l0 x5_1).f2) ((rd_T155 l1 x5_1).f0) ((rd_T155 l1 x5_1).f1) ((rd_T155 l1 x5_1).f2) true _ A7.out).mono ?_
        rintro e w10 ⟨rfl, hb⟩
        refine ⟨_, rfl, ?_⟩
        have n0_ := Am (bq zB hb)
        clear HB
        have HB := n0_
        clear n0_
        (try clear hb)
        (try clear hb2)
        (try clear hk)
        (try clear hi)
        refine hK.out _ _ ⟨(cl9 HB hw307_0 :), (cl9 HB hw307_1 :), (cl9 HB hw307_2 :), (cl9 HB hw308_0 :), (cl9 HB hw308_1 :), (cl9 HB hw308_2 :)⟩ (fun hHeld => ?_)
        clear hK K
        refine zN (some 25) ?_
        refine zA 9 (some 26) HT_.out rfl rfl ?_
        refine done_ (done_of HT_.out (by kernel_rfl)) ?_
        try go_wp2
        go_roundg k1
        case measure => have := HK1.out; omega
        case rel => exact ⟨(wrap64 (x5_1 + 1)), (by first | rfl | (simp; done) | (simp [*]; done)), H', ⟨by have := HK1.out; omega⟩, ⟨zB⟩⟩
       ·replace c8 := Bool.eq_false_iff.mpr c8
        subst c8
        have H1 : (some false) = some r := by rw [if_neg (show ¬ (false = true) by decide)] at H; exact H
        clear H
        have H := H1
        clear H1
        obtain rfl := Option.some.inj H
        try go_wp2
        have n0_ := Am (be HB.out)
        clear HB
        have HB := n0_
        clear n0_
        have p307 : 0 ≤ (x5_1 : Int) := of_decide_eq_true (by first | (with_reducible assumption) | assumption)
        have q307 : x5_1 < (l0.length : Int) := of_decide_eq_true (by first | (with_reducible assumption) | assumption)
        obtain ⟨ad307, e307, hx307_0, hx307_1, hx307_2⟩ := at_T155 HR0.out x5_1 p307 q307
        have hw307_2 := hx307_2
        have hw307_1 := hx307_1
        have hw307_0 := hx307_0
        cases e307
        replace hx307_0 := cl9 HB hx307_0
        replace hx307_1 := cl9 HB hx307_1
        replace hx307_2 := cl9 HB hx307_2
        replace p307 := eq_true p307
        replace q307 := eq_true q307
        have p308 : 0 ≤ (x5_1 : Int) := of_decide_eq_true (by first | (with_reducible assumption) | assumption)
        have q308 : x5_1 < (l1.length : Int) := of_decide_eq_true (by first | (with_reducible assumption) | assumption)
        obtain ⟨ad308, e308, hx308_0, hx308_1, hx308_2⟩ := at_T155 HR1.out x5_1 p308 q308
        have hw308_2 := hx308_2
        have hw308_1 := hx308_1
        have hw308_0 := hx308_0
        cases e308
        replace hx308_0 := cl9 HB hx308_0
        replace hx308_1 := cl9 HB hx308_1
        replace hx308_2 := cl9 HB hx308_2
        replace p308 := eq_true p308
        replace q308 := eq_true q308
        refine start_ (n := 10) (S := fun w' => w'.cell? (ad307.add ((x5_1).toNat * 3)) = some (.int .i64 ((rd_T155 l0 x5_1).f0)) ∧ w'.cell? ⟨(ad307.add ((x5_1).toNat * 3)).block, (ad307.add ((x5_1).toNat * 3)).off + 1, none⟩ = some (.string ((rd_T155 l0 x5_1).f1)) ∧ w'.cell? ⟨(ad307.add ((x5_1).toNat * 3)).block, (ad307.add ((x5_1).toNat * 3)).off + 2, none⟩ = some (.bool ((rd_T155 l0 x5_1).f2)) ∧ w'.cell? (ad308.add ((x5_1).toNat * 3)) = some (.int .i64 ((rd_T155 l1 x5_1).f0)) ∧ w'.cell? ⟨(ad308.add ((x5_1).toNat * 3)).block, (ad308.add ((x5_1).toNat * 3)).off + 1, none⟩ = some (.string ((rd_T155 l1 x5_1).f1)) ∧ w'.cell? ⟨(ad308.add ((x5_1).toNat * 3)).block, (ad308.add ((x5_1).toNat * 3)).off + 2, none⟩ = some (.bool ((rd_T155 l1 x5_1).f2))) (ds := []) #[false, false, false, false, false, false, false, false, false, false] (by kernel_rfl) rfl rfl ⟨(cl9 HB hw307_0), (cl9 HB hw307_1), (cl9 HB hw307_2), (cl9 HB hw308_0), (cl9 HB hw308_1), (cl9 HB hw308_2)⟩ (fun hHeld => ?_); refine with_tabW laws_eqCellS.tab6 laws_eqCellS.bits6 (fun HT_ HW_ => ?_)
        generalize wr.drew = w11 at HB hx307_0 hx307_1 hx307_2 hx308_0 hx308_1 hx308_2 hHeld ⊢
        refine zA 0 (some 17) HT_.out rfl rfl ?_
        refine zA 1 (some 18) HT_.out rfl rfl ?_
        refine zA 2 (some 19) HT_.out rfl rfl ?_
        refine zA 4 (some 21) HT_.out rfl rfl ?_
        refine zA 5 (some 22) HT_.out rfl rfl ?_
        refine zA 6 (some 23) HT_.out rfl rfl ?_
        refine zT 3 (some 20) HT_.out HW_.out rfl rfl hHeld ?_
        refine zT 7 (some 24) HT_.out HW_.out rfl rfl hHeld ?_
        refine zO 8 (some 25) HT_.out rfl rfl (fun K hK => ?_)
        refine goes_ Try.func113 (by kernel_rfl) rfl #[.agg #[.int .i64 ((rd_T155 l0 x5_1).f0), .string ((rd_T155 l0 x5_1).f1), .bool ((rd_T155 l0 x5_1).f2)], .agg #[.int .i64 ((rd_T155 l1 x5_1).f0), .string ((rd_T155 l1 x5_1).f1), .bool ((rd_T155 l1 x5_1).f2)]] (by rfl) rfl rfl (by (try simp only [List.map_toArray, List.map_cons, List.map_nil]); first | done | rfl | (simp only [List.length_drop, List.length_take]; rfl)) ?_
        with_reducible refine (laws_eqCell.calls ((rd_T155 l0 x5_1).f0) ((rd_T155 l0 x5_1).f1) ((rd_T155 l0 x5_1).f2) ((rd_T155 l1 x5_1).f0) ((rd_T155 l1 x5_1).f1) ((rd_T155 l1 x5_1).f2) false _ A7.out).mono ?_
        rintro e w12 ⟨rfl, hb⟩
        refine ⟨_, rfl, ?_⟩
        have n0_ := Am (bq zB hb)
        clear HB
        have HB := n0_
        clear n0_
        (try clear hb)
        (try clear hb2)
        (try clear hk)
        (try clear hi)
        refine hK.out _ _ ⟨(cl9 HB hw307_0 :), (cl9 HB hw307_1 :), (cl9 HB hw307_2 :), (cl9 HB hw308_0 :), (cl9 HB hw308_1 :), (cl9 HB hw308_2 :)⟩ (fun hHeld => ?_)
        clear hK K
        refine zN (some 25) ?_
        refine zA 9 (some 26) HT_.out rfl rfl ?_
        refine done_ (done_of HT_.out (by kernel_rfl)) ?_
        try go_wp2
        go_ret
        exact ⟨zR, zB⟩
      ·rw [if_neg c6] at H
       exact absurd H (by simp)
     ·rw [if_neg c5] at H
      exact absurd H (by simp)
    ·rw [if_neg c4] at H
     have c4b0 : decide (x5_1 < (l0.length : Int)) = false := decide_eq_false c4
     clear c4
     obtain rfl := Option.some.inj H
     go_wp2
     go_ret
     exact ⟨zR, zB⟩
 ·rw [if_neg c3] at H
  have c3b0 : ((l0.length : Int) == (l1.length : Int)) = false := beq_eq_false_iff_ne.mpr c3
  have c3b1 : ((l0.length : Int) != (l1.length : Int)) = true := bne_iff_ne.mpr c3
  have c3b2 : (l0.length == l1.length) = false := by first | simpa using c3 | (simp at c3 ⊢; omega)
  obtain rfl := Option.some.inj H
  go_enter Try.func62, Try.ntmps62
  go_wp2
  go_ret
  exact ⟨zR, zB⟩

/-! ### laws_eqMemory: function 15 -/
def laws_eqMemory.f (k : Nat) (a0_0 : ByteArray) (l0_1 : List (S155)) (a1_0 : ByteArray) (l1_1 : List (S155)) : Option (Bool) := if a0_0.toList = a1_0.toList then ((laws_eqCellS.f k l0_1 l1_1).bind fun t312 => (if t312 = true then (some true) else (some false))) else (some false)
theorem laws_eqMemory.mono : ∀ a0 a1 a2 a3 k, LeO (laws_eqMemory.f k a0 a1 a2 a3) (laws_eqMemory.f (k + 1) a0 a1 a2 a3) := by
 intro a0 a1 a2 a3 k
 unfold laws_eqMemory.f
 repeat' first
   | (with_reducible exact laws_eqCellS.mono _ _ _)
   | (with_reducible exact LeO.refl _)
   | (with_reducible exact LeO.none _)
   | (with_reducible refine LeO.ite ?_ ?_)
   | (with_reducible refine LeO.bind ?_ (fun _ => ?_))
   | exact laws_eqCellS.mono _ _ _
   | exact LeO.none _
   | refine LeO.ite ?_ ?_
   | refine LeO.bind ?_ (fun _ => ?_)
set_option maxHeartbeats 8000000 in
set_option maxRecDepth 100000 in
theorem laws_eqMemory.calls (k : Nat) (a0_0 : ByteArray) (A0_1 : Option Addr) (c0_1 : Nat) (l0_1 : List (S155)) (a1_0 : ByteArray) (A1_1 : Option Addr) (c1_1 : Nat) (l1_1 : List (S155)) (r : Bool) (w : World) (hr0_1 : Kd.C k155 w A0_1 l0_1.length l0_1) (hc0_1 : l0_1.length ≤ c0_1) (hr1_1 : Kd.C k155 w A1_1 l1_1.length l1_1) (hc1_1 : l1_1.length ≤ c1_1) (h : laws_eqMemory.f k a0_0 l0_1 a1_0 l1_1 = some r) :
  Calls Try.prog 15 #[.agg #[.string a0_0, .slice A0_1 l0_1.length c0_1], .agg #[.string a1_0, .slice A1_1 l1_1.length c1_1]] w fun e w' => e = .returned (.bool r) ∧ Below w.heap.size w w' := by
 have hu33 := Try.underlying33
 have HR0_1 := Am hr0_1
 have HC0_1 := Am hc0_1
 clear hr0_1 hc0_1
 have HR1_1 := Am hr1_1
 have HC1_1 := Am hc1_1
 clear hr1_1 hc1_1
 have HB := Am (Below.refl w.heap.size w)
 have H : (if a0_0.toList = a1_0.toList then ((laws_eqCellS.f k l0_1 l1_1).bind fun t312 => (if t312 = true then (some true) else (some false))) else (some false)) = some r := h
 clear h
 by_cases c3 : a0_0.toList = a1_0.toList
 ·rw [if_pos c3] at H
  have c3b0 : (a0_0.toList == a1_0.toList) = true := beq_iff_eq.mpr c3
  have c3b1 : (a0_0.toList != a1_0.toList) = false := bne_eq_false_iff_eq.mpr c3
  clear c3
  replace H := Option.bind_eq_some_iff.mp H
  obtain ⟨t312, A40, H⟩ := H
  replace H : (if t312 = true then (some true) else (some false)) = some r := H
  have A4 := Am A40
  clear A40
  by_cases c5 : t312 = true
  ·subst c5
   have H1 : (some true) = some r := by rw [if_pos rfl] at H; exact H
   clear H
   have H := H1
   clear H1
   obtain rfl := Option.some.inj H
   go_enter Try.func15, Try.ntmps15
   go_wp2_with (first | ((with_reducible refine gate_dst (N := 2) rfl ?_); refine box_event ?hg (N := 2) ?hd (cs := #[.string a0_0, .slice A0_1 l0_1.length c0_1]) (t := 33) ?hr ?_; (case hd => rfl); (case hg => rfl); (case hr => first | (go_simp; done) | (go_simp; rfl)); intro gb310 hg w6 hbox hb; have BK310 := Am (hbox); have GW310 := Am ((by rw [hg]; exact (bz zB) : w.heap.size ≤ gb310)); have GE310 := Am ((by rw [hg]; exact (bz zB) : w.heap.size ≤ gb310)); replace HB := Am (bq zB hb); clear hb hbox hg) | ((with_reducible refine gate_dst (N := 3) rfl ?_); refine box_event ?hg (N := 3) ?hd (cs := #[.string a1_0, .slice A1_1 l1_1.length c1_1]) (t := 33) ?hr ?_; (case hd => rfl); (case hg => rfl); (case hr => first | (go_simp; done) | (go_simp; rfl)); intro gb311 hg w7 hbox hb; have n0_ := Am (zK BK310 hb); have n1_ := Am (bq zG hb); have n2_ := Am (hbox); have n3_ := Am ((by rw [hg]; exact (bz zG) : w.heap.size ≤ gb311)); have n4_ := Am ((by rw [hg]; exact (bz zG) : w.heap.size ≤ gb311)); have n5_ := Am ((by rw [hg]; exact Nat.ne_of_lt (zL BK310) : gb310 ≠ gb311)); have n6_ := Am ((by rw [hg]; exact Nat.ne_of_gt (zL BK310) : gb311 ≠ gb310)); clear BK310; clear HB; have BK310 := n0_; have HB := n1_; have BK311 := n2_; have GW311 := n3_; have GE311 := n4_; have NB310_311 := n5_; have NB311_310 := n6_; clear n0_ n1_ n2_ n3_ n4_ n5_ n6_; clear hb hbox hg; have hnb8 := NB310_311.out; have hnc8 := NB311_310.out; obtain ⟨hcz9_0, hcz9_1⟩ := kc2 (w := w7) BK310.out; have hfz9_0 := kf BK310.out; obtain ⟨hcz10_0, hcz10_1⟩ := kc2 (w := w7) BK311.out; have hfz10_0 := kf BK311.out) | ((with_reducible refine gate_callee (f := 62) rfl ?_); refine zC (some 14) rfl rfl Try.func62 rfl #[.slice A0_1 l0_1.length c0_1, .slice A1_1 l1_1.length c1_1] rfl ?_; (with_reducible refine (laws_eqCellS.calls k _ _ l0_1 _ _ l1_1 true _ ?side1 ?side2 ?side3 ?side4 A4.out).mono ?_); (case side1 => repeat (first | exact (cb HR0_1.out HB.out) | (with_reducible first | refine ca ?_ _ | refine cn ?_ _ | refine ce ?_))); (case side2 => exact HC0_1.out); (case side3 => repeat (first | exact (cb HR1_1.out HB.out) | (with_reducible first | refine ca ?_ _ | refine cn ?_ _ | refine ce ?_))); (case side4 => exact HC1_1.out); rintro e w11 ⟨rfl, hb⟩; refine ⟨_, rfl, ?_⟩; have n0_ := Am (zK BK310 hb); have n1_ := Am (zK BK311 hb); have n2_ := Am (bq zG hb); clear BK310; clear BK311; clear HB; have BK310 := n0_; have BK311 := n1_; have HB := n2_; clear n0_ n1_ n2_; (try clear hb)))
   go_ret
   exact ⟨zR, zG⟩
  ·replace c5 := Bool.eq_false_iff.mpr c5
   subst c5
   have H1 : (some false) = some r := by rw [if_neg (show ¬ (false = true) by decide)] at H; exact H
   clear H
   have H := H1
   clear H1
   obtain rfl := Option.some.inj H
   go_enter Try.func15, Try.ntmps15
   go_wp2_with (first | ((with_reducible refine gate_dst (N := 2) rfl ?_); refine box_event ?hg (N := 2) ?hd (cs := #[.string a0_0, .slice A0_1 l0_1.length c0_1]) (t := 33) ?hr ?_; (case hd => rfl); (case hg => rfl); (case hr => first | (go_simp; done) | (go_simp; rfl)); intro gb310 hg w12 hbox hb; have BK310 := Am (hbox); have GW310 := Am ((by rw [hg]; exact (bz zB) : w.heap.size ≤ gb310)); have GE310 := Am ((by rw [hg]; exact (bz zB) : w.heap.size ≤ gb310)); replace HB := Am (bq zB hb); clear hb hbox hg) | ((with_reducible refine gate_dst (N := 3) rfl ?_); refine box_event ?hg (N := 3) ?hd (cs := #[.string a1_0, .slice A1_1 l1_1.length c1_1]) (t := 33) ?hr ?_; (case hd => rfl); (case hg => rfl); (case hr => first | (go_simp; done) | (go_simp; rfl)); intro gb311 hg w13 hbox hb; have n0_ := Am (zK BK310 hb); have n1_ := Am (bq zG hb); have n2_ := Am (hbox); have n3_ := Am ((by rw [hg]; exact (bz zG) : w.heap.size ≤ gb311)); have n4_ := Am ((by rw [hg]; exact (bz zG) : w.heap.size ≤ gb311)); have n5_ := Am ((by rw [hg]; exact Nat.ne_of_lt (zL BK310) : gb310 ≠ gb311)); have n6_ := Am ((by rw [hg]; exact Nat.ne_of_gt (zL BK310) : gb311 ≠ gb310)); clear BK310; clear HB; have BK310 := n0_; have HB := n1_; have BK311 := n2_; have GW311 := n3_; have GE311 := n4_; have NB310_311 := n5_; have NB311_310 := n6_; clear n0_ n1_ n2_ n3_ n4_ n5_ n6_; clear hb hbox hg; have hnb14 := NB310_311.out; have hnc14 := NB311_310.out; obtain ⟨hcz15_0, hcz15_1⟩ := kc2 (w := w13) BK310.out; have hfz15_0 := kf BK310.out; obtain ⟨hcz16_0, hcz16_1⟩ := kc2 (w := w13) BK311.out; have hfz16_0 := kf BK311.out) | ((with_reducible refine gate_callee (f := 62) rfl ?_); refine zC (some 14) rfl rfl Try.func62 rfl #[.slice A0_1 l0_1.length c0_1, .slice A1_1 l1_1.length c1_1] rfl ?_; (with_reducible refine (laws_eqCellS.calls k _ _ l0_1 _ _ l1_1 false _ ?side1 ?side2 ?side3 ?side4 A4.out).mono ?_); (case side1 => repeat (first | exact (cb HR0_1.out HB.out) | (with_reducible first | refine ca ?_ _ | refine cn ?_ _ | refine ce ?_))); (case side2 => exact HC0_1.out); (case side3 => repeat (first | exact (cb HR1_1.out HB.out) | (with_reducible first | refine ca ?_ _ | refine cn ?_ _ | refine ce ?_))); (case side4 => exact HC1_1.out); rintro e w17 ⟨rfl, hb⟩; refine ⟨_, rfl, ?_⟩; have n0_ := Am (zK BK310 hb); have n1_ := Am (zK BK311 hb); have n2_ := Am (bq zG hb); clear BK310; clear BK311; clear HB; have BK310 := n0_; have BK311 := n1_; have HB := n2_; clear n0_ n1_ n2_; (try clear hb)))
   go_ret
   exact ⟨zR, zG⟩
 ·rw [if_neg c3] at H
  have c3b0 : (a0_0.toList == a1_0.toList) = false := beq_eq_false_iff_ne.mpr c3
  have c3b1 : (a0_0.toList != a1_0.toList) = true := bne_iff_ne.mpr c3
  obtain rfl := Option.some.inj H
  go_enter Try.func15, Try.ntmps15
  go_wp2_with (first | ((with_reducible refine gate_dst (N := 2) rfl ?_); refine box_event ?hg (N := 2) ?hd (cs := #[.string a0_0, .slice A0_1 l0_1.length c0_1]) (t := 33) ?hr ?_; (case hd => rfl); (case hg => rfl); (case hr => first | (go_simp; done) | (go_simp; rfl)); intro gb310 hg w18 hbox hb; have BK310 := Am (hbox); have GW310 := Am ((by rw [hg]; exact (bz zB) : w.heap.size ≤ gb310)); have GE310 := Am ((by rw [hg]; exact (bz zB) : w.heap.size ≤ gb310)); replace HB := Am (bq zB hb); clear hb hbox hg) | ((with_reducible refine gate_dst (N := 3) rfl ?_); refine box_event ?hg (N := 3) ?hd (cs := #[.string a1_0, .slice A1_1 l1_1.length c1_1]) (t := 33) ?hr ?_; (case hd => rfl); (case hg => rfl); (case hr => first | (go_simp; done) | (go_simp; rfl)); intro gb311 hg w19 hbox hb; have n0_ := Am (zK BK310 hb); have n1_ := Am (bq zG hb); have n2_ := Am (hbox); have n3_ := Am ((by rw [hg]; exact (bz zG) : w.heap.size ≤ gb311)); have n4_ := Am ((by rw [hg]; exact (bz zG) : w.heap.size ≤ gb311)); have n5_ := Am ((by rw [hg]; exact Nat.ne_of_lt (zL BK310) : gb310 ≠ gb311)); have n6_ := Am ((by rw [hg]; exact Nat.ne_of_gt (zL BK310) : gb311 ≠ gb310)); clear BK310; clear HB; have BK310 := n0_; have HB := n1_; have BK311 := n2_; have GW311 := n3_; have GE311 := n4_; have NB310_311 := n5_; have NB311_310 := n6_; clear n0_ n1_ n2_ n3_ n4_ n5_ n6_; clear hb hbox hg; have hnb20 := NB310_311.out; have hnc20 := NB311_310.out; obtain ⟨hcz21_0, hcz21_1⟩ := kc2 (w := w19) BK310.out; have hfz21_0 := kf BK310.out; obtain ⟨hcz22_0, hcz22_1⟩ := kc2 (w := w19) BK311.out; have hfz22_0 := kf BK311.out))
  go_ret
  exact ⟨zR, zG⟩

/-! ### laws_eqGeo: function 69 -/
def laws_eqGeo.f (a0_0 : Int) (a0_1 : Int) (a0_2 : Int) (a0_3 : Int) (a1_0 : Int) (a1_1 : Int) (a1_2 : Int) (a1_3 : Int) : Option (Bool) := if a0_0 = a1_0 then (if a0_1 = a1_1 then (if a0_2 = a1_2 then (if a0_3 = a1_3 then (some true) else (some false)) else (some false)) else (some false)) else (some false)
set_option maxHeartbeats 8000000 in
set_option maxRecDepth 100000 in
theorem laws_eqGeo.calls (a0_0 : Int) (a0_1 : Int) (a0_2 : Int) (a0_3 : Int) (a1_0 : Int) (a1_1 : Int) (a1_2 : Int) (a1_3 : Int) (r : Bool) (w : World) (h : laws_eqGeo.f a0_0 a0_1 a0_2 a0_3 a1_0 a1_1 a1_2 a1_3 = some r) :
  Calls Try.prog 69 #[.agg #[.int .i64 a0_0, .int .i64 a0_1, .int .i64 a0_2, .int .i64 a0_3], .agg #[.int .i64 a1_0, .int .i64 a1_1, .int .i64 a1_2, .int .i64 a1_3]] w fun e w' => e = .returned (.bool r) ∧ Below w.heap.size w w' := by
 have hu29 := Try.underlying29
 have HB := Am (Below.refl w.heap.size w)
 have H : (if a0_0 = a1_0 then (if a0_1 = a1_1 then (if a0_2 = a1_2 then (if a0_3 = a1_3 then (some true) else (some false)) else (some false)) else (some false)) else (some false)) = some r := h
 clear h
 by_cases c3 : a0_0 = a1_0
 ·rw [if_pos c3] at H
  have c3b0 : (a0_0 == a1_0) = true := beq_iff_eq.mpr c3
  have c3b1 : (a0_0 != a1_0) = false := bne_eq_false_iff_eq.mpr c3
  clear c3
  by_cases c4 : a0_1 = a1_1
  ·rw [if_pos c4] at H
   have c4b0 : (a0_1 == a1_1) = true := beq_iff_eq.mpr c4
   have c4b1 : (a0_1 != a1_1) = false := bne_eq_false_iff_eq.mpr c4
   clear c4
   by_cases c5 : a0_2 = a1_2
   ·rw [if_pos c5] at H
    have c5b0 : (a0_2 == a1_2) = true := beq_iff_eq.mpr c5
    have c5b1 : (a0_2 != a1_2) = false := bne_eq_false_iff_eq.mpr c5
    clear c5
    by_cases c6 : a0_3 = a1_3
    ·rw [if_pos c6] at H
     have c6b0 : (a0_3 == a1_3) = true := beq_iff_eq.mpr c6
     have c6b1 : (a0_3 != a1_3) = false := bne_eq_false_iff_eq.mpr c6
     clear c6
     obtain rfl := Option.some.inj H
     go_enter Try.func69, Try.ntmps69
     go_wp2_with (first | ((with_reducible refine gate_dst (N := 2) rfl ?_); refine box_event ?hg (N := 2) ?hd (cs := #[.int .i64 a0_0, .int .i64 a0_1, .int .i64 a0_2, .int .i64 a0_3]) (t := 29) ?hr ?_; (case hd => rfl); (case hg => rfl); (case hr => first | (go_simp; done) | (go_simp; rfl)); intro gb313 hg w7 hbox hb; have BK313 := Am (hbox); have GW313 := Am ((by rw [hg]; exact (bz zB) : w.heap.size ≤ gb313)); have GE313 := Am ((by rw [hg]; exact (bz zB) : w.heap.size ≤ gb313)); replace HB := Am (bq zB hb); clear hb hbox hg) | ((with_reducible refine gate_dst (N := 3) rfl ?_); refine box_event ?hg (N := 3) ?hd (cs := #[.int .i64 a1_0, .int .i64 a1_1, .int .i64 a1_2, .int .i64 a1_3]) (t := 29) ?hr ?_; (case hd => rfl); (case hg => rfl); (case hr => first | (go_simp; done) | (go_simp; rfl)); intro gb314 hg w8 hbox hb; have n0_ := Am (zK BK313 hb); have n1_ := Am (bq zG hb); have n2_ := Am (hbox); have n3_ := Am ((by rw [hg]; exact (bz zG) : w.heap.size ≤ gb314)); have n4_ := Am ((by rw [hg]; exact (bz zG) : w.heap.size ≤ gb314)); have n5_ := Am ((by rw [hg]; exact Nat.ne_of_lt (zL BK313) : gb313 ≠ gb314)); have n6_ := Am ((by rw [hg]; exact Nat.ne_of_gt (zL BK313) : gb314 ≠ gb313)); clear BK313; clear HB; have BK313 := n0_; have HB := n1_; have BK314 := n2_; have GW314 := n3_; have GE314 := n4_; have NB313_314 := n5_; have NB314_313 := n6_; clear n0_ n1_ n2_ n3_ n4_ n5_ n6_; clear hb hbox hg; have hnb9 := NB313_314.out; have hnc9 := NB314_313.out; obtain ⟨hcz10_0, hcz10_1, hcz10_2, hcz10_3⟩ := kc4 (w := w8) BK313.out; have hfz10_0 := kf BK313.out; obtain ⟨hcz11_0, hcz11_1, hcz11_2, hcz11_3⟩ := kc4 (w := w8) BK314.out; have hfz11_0 := kf BK314.out))
     go_ret
     exact ⟨zR, zG⟩
    ·rw [if_neg c6] at H
     have c6b0 : (a0_3 == a1_3) = false := beq_eq_false_iff_ne.mpr c6
     have c6b1 : (a0_3 != a1_3) = true := bne_iff_ne.mpr c6
     obtain rfl := Option.some.inj H
     go_enter Try.func69, Try.ntmps69
     go_wp2_with (first | ((with_reducible refine gate_dst (N := 2) rfl ?_); refine box_event ?hg (N := 2) ?hd (cs := #[.int .i64 a0_0, .int .i64 a0_1, .int .i64 a0_2, .int .i64 a0_3]) (t := 29) ?hr ?_; (case hd => rfl); (case hg => rfl); (case hr => first | (go_simp; done) | (go_simp; rfl)); intro gb313 hg w12 hbox hb; have BK313 := Am (hbox); have GW313 := Am ((by rw [hg]; exact (bz zB) : w.heap.size ≤ gb313)); have GE313 := Am ((by rw [hg]; exact (bz zB) : w.heap.size ≤ gb313)); replace HB := Am (bq zB hb); clear hb hbox hg) | ((with_reducible refine gate_dst (N := 3) rfl ?_); refine box_event ?hg (N := 3) ?hd (cs := #[.int .i64 a1_0, .int .i64 a1_1, .int .i64 a1_2, .int .i64 a1_3]) (t := 29) ?hr ?_; (case hd => rfl); (case hg => rfl); (case hr => first | (go_simp; done) | (go_simp; rfl)); intro gb314 hg w13 hbox hb; have n0_ := Am (zK BK313 hb); have n1_ := Am (bq zG hb); have n2_ := Am (hbox); have n3_ := Am ((by rw [hg]; exact (bz zG) : w.heap.size ≤ gb314)); have n4_ := Am ((by rw [hg]; exact (bz zG) : w.heap.size ≤ gb314)); have n5_ := Am ((by rw [hg]; exact Nat.ne_of_lt (zL BK313) : gb313 ≠ gb314)); have n6_ := Am ((by rw [hg]; exact Nat.ne_of_gt (zL BK313) : gb314 ≠ gb313)); clear BK313; clear HB; have BK313 := n0_; have HB := n1_; have BK314 := n2_; have GW314 := n3_; have GE314 := n4_; have NB313_314 := n5_; have NB314_313 := n6_; clear n0_ n1_ n2_ n3_ n4_ n5_ n6_; clear hb hbox hg; have hnb14 := NB313_314.out; have hnc14 := NB314_313.out; obtain ⟨hcz15_0, hcz15_1, hcz15_2, hcz15_3⟩ := kc4 (w := w13) BK313.out; have hfz15_0 := kf BK313.out; obtain ⟨hcz16_0, hcz16_1, hcz16_2, hcz16_3⟩ := kc4 (w := w13) BK314.out; have hfz16_0 := kf BK314.out))
     go_ret
     exact ⟨zR, zG⟩
   ·rw [if_neg c5] at H
    have c5b0 : (a0_2 == a1_2) = false := beq_eq_false_iff_ne.mpr c5
    have c5b1 : (a0_2 != a1_2) = true := bne_iff_ne.mpr c5
    obtain rfl := Option.some.inj H
    go_enter Try.func69, Try.ntmps69
    go_wp2_with (first | ((with_reducible refine gate_dst (N := 2) rfl ?_); refine box_event ?hg (N := 2) ?hd (cs := #[.int .i64 a0_0, .int .i64 a0_1, .int .i64 a0_2, .int .i64 a0_3]) (t := 29) ?hr ?_; (case hd => rfl); (case hg => rfl); (case hr => first | (go_simp; done) | (go_simp; rfl)); intro gb313 hg w17 hbox hb; have BK313 := Am (hbox); have GW313 := Am ((by rw [hg]; exact (bz zB) : w.heap.size ≤ gb313)); have GE313 := Am ((by rw [hg]; exact (bz zB) : w.heap.size ≤ gb313)); replace HB := Am (bq zB hb); clear hb hbox hg) | ((with_reducible refine gate_dst (N := 3) rfl ?_); refine box_event ?hg (N := 3) ?hd (cs := #[.int .i64 a1_0, .int .i64 a1_1, .int .i64 a1_2, .int .i64 a1_3]) (t := 29) ?hr ?_; (case hd => rfl); (case hg => rfl); (case hr => first | (go_simp; done) | (go_simp; rfl)); intro gb314 hg w18 hbox hb; have n0_ := Am (zK BK313 hb); have n1_ := Am (bq zG hb); have n2_ := Am (hbox); have n3_ := Am ((by rw [hg]; exact (bz zG) : w.heap.size ≤ gb314)); have n4_ := Am ((by rw [hg]; exact (bz zG) : w.heap.size ≤ gb314)); have n5_ := Am ((by rw [hg]; exact Nat.ne_of_lt (zL BK313) : gb313 ≠ gb314)); have n6_ := Am ((by rw [hg]; exact Nat.ne_of_gt (zL BK313) : gb314 ≠ gb313)); clear BK313; clear HB; have BK313 := n0_; have HB := n1_; have BK314 := n2_; have GW314 := n3_; have GE314 := n4_; have NB313_314 := n5_; have NB314_313 := n6_; clear n0_ n1_ n2_ n3_ n4_ n5_ n6_; clear hb hbox hg; have hnb19 := NB313_314.out; have hnc19 := NB314_313.out; obtain ⟨hcz20_0, hcz20_1, hcz20_2, hcz20_3⟩ := kc4 (w := w18) BK313.out; have hfz20_0 := kf BK313.out; obtain ⟨hcz21_0, hcz21_1, hcz21_2, hcz21_3⟩ := kc4 (w := w18) BK314.out; have hfz21_0 := kf BK314.out))
    go_ret
    exact ⟨zR, zG⟩
  ·rw [if_neg c4] at H
   have c4b0 : (a0_1 == a1_1) = false := beq_eq_false_iff_ne.mpr c4
   have c4b1 : (a0_1 != a1_1) = true := bne_iff_ne.mpr c4
   obtain rfl := Option.some.inj H
   go_enter Try.func69, Try.ntmps69
   go_wp2_with (first | ((with_reducible refine gate_dst (N := 2) rfl ?_); refine box_event ?hg (N := 2) ?hd (cs := #[.int .i64 a0_0, .int .i64 a0_1, .int .i64 a0_2, .int .i64 a0_3]) (t := 29) ?hr ?_; (case hd => rfl); (case hg => rfl); (case hr => first | (go_simp; done) | (go_simp; rfl)); intro gb313 hg w22 hbox hb; have BK313 := Am (hbox); have GW313 := Am ((by rw [hg]; exact (bz zB) : w.heap.size ≤ gb313)); have GE313 := Am ((by rw [hg]; exact (bz zB) : w.heap.size ≤ gb313)); replace HB := Am (bq zB hb); clear hb hbox hg) | ((with_reducible refine gate_dst (N := 3) rfl ?_); refine box_event ?hg (N := 3) ?hd (cs := #[.int .i64 a1_0, .int .i64 a1_1, .int .i64 a1_2, .int .i64 a1_3]) (t := 29) ?hr ?_; (case hd => rfl); (case hg => rfl); (case hr => first | (go_simp; done) | (go_simp; rfl)); intro gb314 hg w23 hbox hb; have n0_ := Am (zK BK313 hb); have n1_ := Am (bq zG hb); have n2_ := Am (hbox); have n3_ := Am ((by rw [hg]; exact (bz zG) : w.heap.size ≤ gb314)); have n4_ := Am ((by rw [hg]; exact (bz zG) : w.heap.size ≤ gb314)); have n5_ := Am ((by rw [hg]; exact Nat.ne_of_lt (zL BK313) : gb313 ≠ gb314)); have n6_ := Am ((by rw [hg]; exact Nat.ne_of_gt (zL BK313) : gb314 ≠ gb313)); clear BK313; clear HB; have BK313 := n0_; have HB := n1_; have BK314 := n2_; have GW314 := n3_; have GE314 := n4_; have NB313_314 := n5_; have NB314_313 := n6_; clear n0_ n1_ n2_ n3_ n4_ n5_ n6_; clear hb hbox hg; have hnb24 := NB313_314.out; have hnc24 := NB314_313.out; obtain ⟨hcz25_0, hcz25_1, hcz25_2, hcz25_3⟩ := kc4 (w := w23) BK313.out; have hfz25_0 := kf BK313.out; obtain ⟨hcz26_0, hcz26_1, hcz26_2, hcz26_3⟩ := kc4 (w := w23) BK314.out; have hfz26_0 := kf BK314.out))
   go_ret
   exact ⟨zR, zG⟩
 ·rw [if_neg c3] at H
  have c3b0 : (a0_0 == a1_0) = false := beq_eq_false_iff_ne.mpr c3
  have c3b1 : (a0_0 != a1_0) = true := bne_iff_ne.mpr c3
  obtain rfl := Option.some.inj H
  go_enter Try.func69, Try.ntmps69
  go_wp2_with (first | ((with_reducible refine gate_dst (N := 2) rfl ?_); refine box_event ?hg (N := 2) ?hd (cs := #[.int .i64 a0_0, .int .i64 a0_1, .int .i64 a0_2, .int .i64 a0_3]) (t := 29) ?hr ?_; (case hd => rfl); (case hg => rfl); (case hr => first | (go_simp; done) | (go_simp; rfl)); intro gb313 hg w27 hbox hb; have BK313 := Am (hbox); have GW313 := Am ((by rw [hg]; exact (bz zB) : w.heap.size ≤ gb313)); have GE313 := Am ((by rw [hg]; exact (bz zB) : w.heap.size ≤ gb313)); replace HB := Am (bq zB hb); clear hb hbox hg) | ((with_reducible refine gate_dst (N := 3) rfl ?_); refine box_event ?hg (N := 3) ?hd (cs := #[.int .i64 a1_0, .int .i64 a1_1, .int .i64 a1_2, .int .i64 a1_3]) (t := 29) ?hr ?_; (case hd => rfl); (case hg => rfl); (case hr => first | (go_simp; done) | (go_simp; rfl)); intro gb314 hg w28 hbox hb; have n0_ := Am (zK BK313 hb); have n1_ := Am (bq zG hb); have n2_ := Am (hbox); have n3_ := Am ((by rw [hg]; exact (bz zG) : w.heap.size ≤ gb314)); have n4_ := Am ((by rw [hg]; exact (bz zG) : w.heap.size ≤ gb314)); have n5_ := Am ((by rw [hg]; exact Nat.ne_of_lt (zL BK313) : gb313 ≠ gb314)); have n6_ := Am ((by rw [hg]; exact Nat.ne_of_gt (zL BK313) : gb314 ≠ gb313)); clear BK313; clear HB; have BK313 := n0_; have HB := n1_; have BK314 := n2_; have GW314 := n3_; have GE314 := n4_; have NB313_314 := n5_; have NB314_313 := n6_; clear n0_ n1_ n2_ n3_ n4_ n5_ n6_; clear hb hbox hg; have hnb29 := NB313_314.out; have hnc29 := NB314_313.out; obtain ⟨hcz30_0, hcz30_1, hcz30_2, hcz30_3⟩ := kc4 (w := w28) BK313.out; have hfz30_0 := kf BK313.out; obtain ⟨hcz31_0, hcz31_1, hcz31_2, hcz31_3⟩ := kc4 (w := w28) BK314.out; have hfz31_0 := kf BK314.out))
  go_ret
  exact ⟨zR, zG⟩

end Go.Proofs.Ytconffflmbakgaa.QFnExactSystemOk
