/- Go functions as Lean functions, and their contracts. Own text: written by wip/gen/pr.py (a turned copy of the print). -/
import Derived.Test.YtconffflmbakgaaQFnExactMaskedImagex0
import Derived.Test.YtconffflmbakgaaQFnExactMaskedImagex8
namespace Go.Proofs.Ytconffflmbakgaa.QFnExactMaskedImage
open Go.RowKit Go.Proofs.YtconffflmbakgaaW.PrintWords Go.Proofs.YtconffflmbakgaaW.PrintLast Go.Proofs.YtconffflmbakgaaW.PrintMore
attribute [local go_sem] max2_int min2_int max_two min_two max_three min_three max_four min_four   -- for this text's walks alone
open Go.Proofs.YtconffflmbakgaaW.PrintWords renaming below_alloc → ba, pw_below_drewN → bn, below_drew1 → be, below_set → bs, blk_drewN → kn, blk_drew → ke, blk_alloc → ka, blk_below → kb, blk_frozen → kf, blk_cell → kc, below_step → bq, below_size → bz
open Go.Proofs.YtconffflmbakgaaW.PrintWords.Kd renaming C_alloc → ca, C_drewN → cn, C_drew → ce, C_below → cb
open Go.Proofs.YtconffflmbakgaaW.PrintWords.Aside0 renaming mk → Am
set_option linter.unusedVariables false
set_option linter.unusedSimpArgs false

theorem cl9 {w w2 : World} {a : Addr} {v : Value} (h : Aside0 (Below w.heap.size w w2)) (e : w.cell? a = some v) : w2.cell? a = some v := (h.out.cell (World.block_lt_of_cell? w _ e)).trans e
def o9b0 (p0 : ByteArray) (p1 : Option Addr) (p2 p3 : Nat) : Obj := .cells #[.string p0, .slice p1 p2 p3] 33 (0, 0)
/-! ### impl_Cell_int: function 160 -/
def impl_Cell_int.l0 : Nat → List (S155) → Int → Int → Int → Int → Option (Int × Bool)
 | 0, _, _, _, _, _ => none
 | k + 1, x0, x1, x8, x9, x10 => if x9 < x10 then (if 0 ≤ (wrap64 ((IntKind.u64.wrap (wrap64 (x9 + x10))) / 2)) then (if (wrap64 ((IntKind.u64.wrap (wrap64 (x9 + x10))) / 2)) < (x0.length : Int) then ((impl_Memory_findCell_1.f ((rd_T155 x0 (wrap64 ((IntKind.u64.wrap (wrap64 (x9 + x10))) / 2))).f0) ((rd_T155 x0 (wrap64 ((IntKind.u64.wrap (wrap64 (x9 + x10))) / 2))).f1) ((rd_T155 x0 (wrap64 ((IntKind.u64.wrap (wrap64 (x9 + x10))) / 2))).f2) x1).bind fun t244 => (if t244 < 0 then (impl_Cell_int.l0 k x0 x1 x8 (wrap64 ((wrap64 ((IntKind.u64.wrap (wrap64 (x9 + x10))) / 2)) + 1)) x10) else (impl_Cell_int.l0 k x0 x1 x8 x9 (wrap64 ((IntKind.u64.wrap (wrap64 (x9 + x10))) / 2))))) else (none)) else (none)) else (if x9 < x8 then (if 0 ≤ x9 then (if x9 < (x0.length : Int) then ((impl_Memory_findCell_1.f ((rd_T155 x0 x9).f0) ((rd_T155 x0 x9).f1) ((rd_T155 x0 x9).f2) x1).bind fun t246 => (some (x9, (t246 == 0)))) else (none)) else (none)) else (some (x9, false)))
def impl_Cell_int.f (k : Nat) (l0 : List (S155)) (a1 : Int) (a2 : Int) : Option (Int × Bool) := impl_Cell_int.l0 k l0 a1 (l0.length : Int) 0 (l0.length : Int)
theorem impl_Cell_int.mono_l : ∀ k, (∀ y0 y1 y2 y3 y4, LeO (impl_Cell_int.l0 k y0 y1 y2 y3 y4) (impl_Cell_int.l0 (k + 1) y0 y1 y2 y3 y4))
 | 0 => fun _ _ _ _ _ r h => by simp [impl_Cell_int.l0] at h
 | k + 1 => by
  have ih0 := impl_Cell_int.mono_l k
  ·intro y0 y1 y2 y3 y4
   unfold impl_Cell_int.l0
   repeat' first
   | (with_reducible exact ih0 _ _ _ _ _)
   | (with_reducible exact LeO.refl _)
   | (with_reducible exact LeO.none _)
   | (with_reducible refine LeO.ite ?_ ?_)
   | (with_reducible refine LeO.bind ?_ (fun _ => ?_))
   | exact ih0 _ _ _ _ _
   | exact LeO.none _
   | refine LeO.ite ?_ ?_
   | refine LeO.bind ?_ (fun _ => ?_)
theorem impl_Cell_int.mono : ∀ a0 a1 a2 k, LeO (impl_Cell_int.f k a0 a1 a2) (impl_Cell_int.f (k + 1) a0 a1 a2) := by
 intro a0 a1 a2 k
 have ih0 := impl_Cell_int.mono_l k
 unfold impl_Cell_int.f
 repeat' first
   | (with_reducible exact ih0 _ _ _ _ _)
   | (with_reducible exact LeO.refl _)
   | (with_reducible exact LeO.none _)
   | (with_reducible refine LeO.ite ?_ ?_)
   | (with_reducible refine LeO.bind ?_ (fun _ => ?_))
   | exact ih0 _ _ _ _ _
   | exact LeO.none _
   | refine LeO.ite ?_ ?_
   | refine LeO.bind ?_ (fun _ => ?_)
set_option maxHeartbeats 8000000 in
set_option maxRecDepth 100000 in
theorem impl_Cell_int.calls (k : Nat) (A0 : Option Addr) (c0 : Nat) (l0 : List (S155)) (a1 : Int) (a2 : Int) (r1 : Int) (r2 : Bool) (w : World) (hr0 : Kd.C k155 w A0 l0.length l0) (hc0 : l0.length ≤ c0) (h : impl_Cell_int.f k l0 a1 a2 = some (r1, r2)) :
  Calls Try.prog 160 #[.slice A0 l0.length c0, .int .i64 a1, (.func (.func 161) #[] #[])] w fun e w' => e = .returned (.tuple #[.int .i64 r1, .bool r2]) ∧ Below w.heap.size w w' := by
 have hu155 := Try.underlying155
 have HR0 := Am hr0
 have HC0 := Am hc0
 clear hr0 hc0
 have HB := Am (Below.refl w.heap.size w)
 have H : (impl_Cell_int.l0 k l0 a1 (l0.length : Int) 0 (l0.length : Int)) = some (r1, r2) := h
 clear h
 have H' := Am H
 clear H
 go_enter Try.func160, Try.ntmps160
 go_wp2
 go_loopg [9, 10] k (fun kq v9 v10 w' => ∃ (x9_1 : Int) (x10_1 : Int), v9 = .int .i64 x9_1 ∧ v10 = .int .i64 x10_1 ∧ Aside0 (impl_Cell_int.l0 kq l0 a1 (l0.length : Int) x9_1 x10_1 = some (r1, r2)) ∧ Aside0 (kq ≤ k) ∧ Aside0 (Below w.heap.size w w'))
 case atStart => exact ⟨(0), ((l0.length : Int)), (by first | rfl | (simp; done) | (simp [*]; done)), (by first | rfl | (simp; done) | (simp [*]; done)), H', ⟨Nat.le_refl _⟩, ⟨zB⟩⟩
 case round =>
  clear H'
  try clear c1; try clear p2
  obtain ⟨x9_1, x10_1, rfl, rfl, HA, HK1, HB⟩ := hrel
  cases gk with
  | zero => exact absurd HA.out (by simp [impl_Cell_int.l0])
  | succ k1 =>
   have H := HA.out
   clear HA
   simp only [impl_Cell_int.l0] at H
   by_cases c4 : x9_1 < x10_1
   ·rw [if_pos c4] at H
    have c4b0 : decide (x9_1 < x10_1) = true := decide_eq_true c4
    clear c4
    obtain ⟨ji5, hji5⟩ : ∃ j_ : Int, (wrap64 ((IntKind.u64.wrap (wrap64 (x9_1 + x10_1))) / 2)) = j_ := ⟨_, rfl⟩
    replace H : (if 0 ≤ (ji5) then (if (ji5) < (l0.length : Int) then ((impl_Memory_findCell_1.f ((rd_T155 l0 (ji5)).f0) ((rd_T155 l0 (ji5)).f1) ((rd_T155 l0 (ji5)).f2) a1).bind fun t244 => (if t244 < 0 then (impl_Cell_int.l0 k1 l0 a1 (l0.length : Int) (wrap64 ((ji5) + 1)) x10_1) else (impl_Cell_int.l0 k1 l0 a1 (l0.length : Int) x9_1 ji5))) else (none)) else (none)) = some (r1, r2) := by first | (rw [hji5] at H; exact H) | (simp only [hji5] at H ⊢; exact H)
    have hji5w : (IntKind.i64.wrap ((IntKind.u64.wrap (wrap64 (x9_1 + x10_1))) / 2)) = ji5 := (i64_w _).trans hji5
    by_cases c6 : 0 ≤ (ji5)
    ·rw [if_pos c6] at H
     have c6b0 : decide (0 ≤ (ji5)) = true := decide_eq_true c6
     clear c6
     by_cases c7 : (ji5) < (l0.length : Int)
     ·rw [if_pos c7] at H
      have c7b0 : decide ((ji5) < (l0.length : Int)) = true := decide_eq_true c7
      clear c7
      replace H := Option.bind_eq_some_iff.mp H
      obtain ⟨t244, A80, H⟩ := H
      replace H : (if t244 < 0 then (impl_Cell_int.l0 k1 l0 a1 (l0.length : Int) (wrap64 ((ji5) + 1)) x10_1) else (impl_Cell_int.l0 k1 l0 a1 (l0.length : Int) x9_1 ji5)) = some (r1, r2) := H
      have A8 := Am A80
      clear A80
      by_cases c9 : t244 < 0
      ·rw [if_pos c9] at H
       have c9b0 : decide (t244 < 0) = true := decide_eq_true c9
       clear c9
       have H' := Am H
       clear H
       have p243 : 0 ≤ ((ji5) : Int) := of_decide_eq_true (by first | (with_reducible assumption) | assumption)
       have q243 : (ji5) < (l0.length : Int) := of_decide_eq_true (by first | (with_reducible assumption) | assumption)
       obtain ⟨ad243, e243, hx243_0, hx243_1, hx243_2⟩ := at_T155 HR0.out (ji5) p243 q243
       cases e243
       replace hx243_0 := cl9 HB hx243_0
       replace hx243_1 := cl9 HB hx243_1
       replace hx243_2 := cl9 HB hx243_2
       replace p243 := eq_true p243
       replace q243 := eq_true q243
       go_wp2_with (first | (go_at_call 161; (with_reducible refine (impl_Memory_findCell_1.calls ((rd_T155 l0 (ji5)).f0) ((rd_T155 l0 (ji5)).f1) ((rd_T155 l0 (ji5)).f2) a1 t244 _ A8.out).mono ?_); rintro e w10 ⟨rfl, hb⟩; replace HB := Am (bq zB hb); (try clear hb)))
       go_roundg k1
       case measure => have := HK1.out; omega
       case rel => exact ⟨(wrap64 ((ji5) + 1)), (x10_1), (by first | rfl | (simp; done) | (simp only [← hji5] <;> (first | rfl | simp)) | (simp [*]; done)), (by first | rfl | (simp; done) | (simp [*]; done)), H', ⟨by have := HK1.out; omega⟩, ⟨zB⟩⟩
      ·rw [if_neg c9] at H
       have c9b0 : decide (t244 < 0) = false := decide_eq_false c9
       clear c9
       have H' := Am H
       clear H
       have p243 : 0 ≤ ((ji5) : Int) := of_decide_eq_true (by first | (with_reducible assumption) | assumption)
       have q243 : (ji5) < (l0.length : Int) := of_decide_eq_true (by first | (with_reducible assumption) | assumption)
       obtain ⟨ad243, e243, hx243_0, hx243_1, hx243_2⟩ := at_T155 HR0.out (ji5) p243 q243
       cases e243
       replace hx243_0 := cl9 HB hx243_0
       replace hx243_1 := cl9 HB hx243_1
       replace hx243_2 := cl9 HB hx243_2
       replace p243 := eq_true p243
       replace q243 := eq_true q243
       go_wp2_with (first | (go_at_call 161; (with_reducible refine (impl_Memory_findCell_1.calls ((rd_T155 l0 (ji5)).f0) ((rd_T155 l0 (ji5)).f1) ((rd_T155 l0 (ji5)).f2) a1 t244 _ A8.out).mono ?_); rintro e w11 ⟨rfl, hb⟩; replace HB := Am (bq zB hb); (try clear hb)))
       go_roundg k1
       case measure => have := HK1.out; omega
       case rel => exact ⟨(x9_1), (ji5), (by first | rfl | (simp; done) | (simp [*]; done)), (by first | rfl | (simp; done) | (simp only [← hji5] <;> (first | rfl | simp)) | (simp [*]; done)), H', ⟨by have := HK1.out; omega⟩, ⟨zB⟩⟩
     ·rw [if_neg c7] at H
      exact absurd H (by simp)
    ·rw [if_neg c6] at H
     exact absurd H (by simp)
   ·rw [if_neg c4] at H
    have c4b0 : decide (x9_1 < x10_1) = false := decide_eq_false c4
    clear c4
    by_cases c12 : x9_1 < (l0.length : Int)
    ·rw [if_pos c12] at H
     have c12b0 : decide (x9_1 < (l0.length : Int)) = true := decide_eq_true c12
     clear c12
     by_cases c13 : 0 ≤ x9_1
     ·rw [if_pos c13] at H
      have c13b0 : decide (0 ≤ x9_1) = true := decide_eq_true c13
      clear c13
      by_cases c14 : x9_1 < (l0.length : Int)
      ·rw [if_pos c14] at H
       have c14b0 : decide (x9_1 < (l0.length : Int)) = true := decide_eq_true c14
       clear c14
       replace H := Option.bind_eq_some_iff.mp H
       obtain ⟨t246, A150, H⟩ := H
       replace H : (some (x9_1, (t246 == 0))) = some (r1, r2) := H
       have A15 := Am A150
       clear A150
       simp only [Option.some.injEq, Prod.mk.injEq] at H
       obtain ⟨rfl, rfl⟩ := H
       have p245 : 0 ≤ (x9_1 : Int) := of_decide_eq_true (by first | (with_reducible assumption) | assumption)
       have q245 : x9_1 < (l0.length : Int) := of_decide_eq_true (by first | (with_reducible assumption) | assumption)
       obtain ⟨ad245, e245, hx245_0, hx245_1, hx245_2⟩ := at_T155 HR0.out x9_1 p245 q245
       cases e245
       replace hx245_0 := cl9 HB hx245_0
       replace hx245_1 := cl9 HB hx245_1
       replace hx245_2 := cl9 HB hx245_2
       replace p245 := eq_true p245
       replace q245 := eq_true q245
       go_wp2_with (first | (go_at_call 161; (with_reducible refine (impl_Memory_findCell_1.calls ((rd_T155 l0 x9_1).f0) ((rd_T155 l0 x9_1).f1) ((rd_T155 l0 x9_1).f2) a1 t246 _ A15.out).mono ?_); rintro e w16 ⟨rfl, hb⟩; replace HB := Am (bq zB hb); (try clear hb)))
       go_ret2
       exact ⟨zR, zB⟩
      ·rw [if_neg c14] at H
       exact absurd H (by simp)
     ·rw [if_neg c13] at H
      exact absurd H (by simp)
    ·rw [if_neg c12] at H
     have c12b0 : decide (x9_1 < (l0.length : Int)) = false := decide_eq_false c12
     clear c12
     simp only [Option.some.injEq, Prod.mk.injEq] at H
     obtain ⟨rfl, rfl⟩ := H
     go_wp2
     go_ret2
     exact ⟨zR, zB⟩

/-! ### impl_Memory_findCell: function 151 -/
def impl_Memory_findCell.f (k : Nat) (a0_0 : ByteArray) (l0_1 : List (S155)) (a1 : Int) : Option (Int × Bool) := (impl_Cell_int.f k l0_1 a1 161).bind fun bt248 => (some (bt248.1, bt248.2))
theorem impl_Memory_findCell.mono : ∀ a0 a1 a2 k, LeO (impl_Memory_findCell.f k a0 a1 a2) (impl_Memory_findCell.f (k + 1) a0 a1 a2) := by
 intro a0 a1 a2 k
 unfold impl_Memory_findCell.f
 repeat' first
   | (with_reducible exact impl_Cell_int.mono _ _ _ _)
   | (with_reducible exact LeO.refl _)
   | (with_reducible exact LeO.none _)
   | (with_reducible refine LeO.ite ?_ ?_)
   | (with_reducible refine LeO.bind ?_ (fun _ => ?_))
   | exact impl_Cell_int.mono _ _ _ _
   | exact LeO.none _
   | refine LeO.ite ?_ ?_
   | refine LeO.bind ?_ (fun _ => ?_)
set_option maxHeartbeats 8000000 in
set_option maxRecDepth 100000 in
theorem impl_Memory_findCell.calls (k : Nat) (a0_0 : ByteArray) (A0_1 : Option Addr) (c0_1 : Nat) (l0_1 : List (S155)) (a1 : Int) (r1 : Int) (r2 : Bool) (w : World) (hr0_1 : Kd.C k155 w A0_1 l0_1.length l0_1) (hc0_1 : l0_1.length ≤ c0_1) (h : impl_Memory_findCell.f k a0_0 l0_1 a1 = some (r1, r2)) :
  Calls Try.prog 151 #[.agg #[.string a0_0, .slice A0_1 l0_1.length c0_1], .int .i64 a1] w fun e w' => e = .returned (.tuple #[.int .i64 r1, .bool r2]) ∧ Below w.heap.size w w' := by
 have hu33 := Try.underlying33
 have HR0_1 := Am hr0_1
 have HC0_1 := Am hc0_1
 clear hr0_1 hc0_1
 have HB := Am (Below.refl w.heap.size w)
 have H : ((impl_Cell_int.f k l0_1 a1 161).bind fun bt248 => (some (bt248.1, bt248.2))) = some (r1, r2) := h
 clear h
 replace H := Option.bind_eq_some_iff.mp H
 obtain ⟨⟨t248, t249⟩, A30, H⟩ := H
 replace H : (some (t248, t249)) = some (r1, r2) := H
 have A3 := Am A30
 clear A30
 simp only [Option.some.injEq, Prod.mk.injEq] at H
 obtain ⟨rfl, rfl⟩ := H
 go_enter Try.func151, Try.ntmps151
 go_wp2_with (first | ((with_reducible refine gate_dst (N := 2) rfl ?_); refine box_event ?hg (N := 2) ?hd (cs := #[.string a0_0, .slice A0_1 l0_1.length c0_1]) (t := 33) ?hr ?_; (case hd => rfl); (case hg => rfl); (case hr => first | (go_simp; done) | (go_simp; rfl)); intro gb247 hg w4 hbox hb; have BK247 := Am (hbox); have GW247 := Am ((by rw [hg]; exact (bz zB) : w.heap.size ≤ gb247)); have GE247 := Am ((by rw [hg]; exact (bz zB) : w.heap.size ≤ gb247)); replace HB := Am (bq zB hb); clear hb hbox hg; obtain ⟨hcz5_0, hcz5_1⟩ := kc2 (w := w4) BK247.out; have hfz5_0 := kf BK247.out) | ((with_reducible refine gate_callee (f := 160) rfl ?_); refine zC (some 9) rfl rfl Try.func160 rfl #[.slice A0_1 l0_1.length c0_1, .int .i64 a1, (.func (.func 161) #[] #[])] rfl ?_; (with_reducible refine (impl_Cell_int.calls k _ _ l0_1 a1 161 t248 t249 _ ?side1 ?side2 A3.out).mono ?_); (case side1 => repeat (first | exact (cb HR0_1.out HB.out) | (with_reducible first | refine ca ?_ _ | refine cn ?_ _ | refine ce ?_))); (case side2 => exact HC0_1.out); rintro e w6 ⟨rfl, hb⟩; refine ⟨_, rfl, ?_⟩; have n0_ := Am (zK BK247 hb); have n1_ := Am (bq zG hb); clear BK247; clear HB; have BK247 := n0_; have HB := n1_; clear n0_ n1_; (try clear hb)))
 go_ret2
 exact ⟨zR, zG⟩

/-! ### impl_Memory_line: function 140 -/
def impl_Memory_line.f (k : Nat) (a0_0 : ByteArray) (l0_1 : List (S155)) (a1 : Int) : Option (ByteArray) := (impl_Memory_findCell.f k a0_0 l0_1 a1).bind fun bt251 => (if bt251.2 = true then (if 0 ≤ bt251.1 then (if bt251.1 < (l0_1.length : Int) then (some ((rd_T155 l0_1 bt251.1).f1)) else (none)) else (none)) else (if 0 ≤ (wrap64 (a1 * 16)) then (if (wrap64 (a1 * 16)) ≤ (wrap64 ((wrap64 (a1 + 1)) * 16)) then (if (wrap64 ((wrap64 (a1 + 1)) * 16)) ≤ (a0_0.size : Int) then (some (a0_0.extract ((wrap64 (a1 * 16)) : Int).toNat ((wrap64 ((wrap64 (a1 + 1)) * 16)) : Int).toNat)) else (none)) else (none)) else (none)))
theorem impl_Memory_line.mono : ∀ a0 a1 a2 k, LeO (impl_Memory_line.f k a0 a1 a2) (impl_Memory_line.f (k + 1) a0 a1 a2) := by
 intro a0 a1 a2 k
 unfold impl_Memory_line.f
 repeat' first
   | (with_reducible exact impl_Memory_findCell.mono _ _ _ _)
   | (with_reducible exact LeO.refl _)
   | (with_reducible exact LeO.none _)
   | (with_reducible refine LeO.ite ?_ ?_)
   | (with_reducible refine LeO.bind ?_ (fun _ => ?_))
   | exact impl_Memory_findCell.mono _ _ _ _
   | exact LeO.none _
   | refine LeO.ite ?_ ?_
   | refine LeO.bind ?_ (fun _ => ?_)
set_option maxHeartbeats 8000000 in
set_option maxRecDepth 100000 in
theorem impl_Memory_line.calls (k : Nat) (a0_0 : ByteArray) (A0_1 : Option Addr) (c0_1 : Nat) (l0_1 : List (S155)) (a1 : Int) (r : ByteArray) (w : World) (hr0_1 : Kd.C k155 w A0_1 l0_1.length l0_1) (hc0_1 : l0_1.length ≤ c0_1) (h : impl_Memory_line.f k a0_0 l0_1 a1 = some r) :
  Calls Try.prog 140 #[.agg #[.string a0_0, .slice A0_1 l0_1.length c0_1], .int .i64 a1] w fun e w' => e = .returned (.string r) ∧ Below w.heap.size w w' := by
 have hu33 := Try.underlying33
 have HR0_1 := Am hr0_1
 have HC0_1 := Am hc0_1
 clear hr0_1 hc0_1
 have HB := Am (Below.refl w.heap.size w)
 have H : ((impl_Memory_findCell.f k a0_0 l0_1 a1).bind fun bt251 => (if bt251.2 = true then (if 0 ≤ bt251.1 then (if bt251.1 < (l0_1.length : Int) then (some ((rd_T155 l0_1 bt251.1).f1)) else (none)) else (none)) else (if 0 ≤ (wrap64 (a1 * 16)) then (if (wrap64 (a1 * 16)) ≤ (wrap64 ((wrap64 (a1 + 1)) * 16)) then (if (wrap64 ((wrap64 (a1 + 1)) * 16)) ≤ (a0_0.size : Int) then (some (a0_0.extract ((wrap64 (a1 * 16)) : Int).toNat ((wrap64 ((wrap64 (a1 + 1)) * 16)) : Int).toNat)) else (none)) else (none)) else (none)))) = some r := h
 clear h
 replace H := Option.bind_eq_some_iff.mp H
 obtain ⟨⟨t251, t252⟩, A30, H⟩ := H
 replace H : (if t252 = true then (if 0 ≤ t251 then (if t251 < (l0_1.length : Int) then (some ((rd_T155 l0_1 t251).f1)) else (none)) else (none)) else (if 0 ≤ (wrap64 (a1 * 16)) then (if (wrap64 (a1 * 16)) ≤ (wrap64 ((wrap64 (a1 + 1)) * 16)) then (if (wrap64 ((wrap64 (a1 + 1)) * 16)) ≤ (a0_0.size : Int) then (some (a0_0.extract ((wrap64 (a1 * 16)) : Int).toNat ((wrap64 ((wrap64 (a1 + 1)) * 16)) : Int).toNat)) else (none)) else (none)) else (none))) = some r := H
 have A3 := Am A30
 clear A30
 by_cases c4 : t252 = true
 ·subst c4
  have H1 : (if 0 ≤ t251 then (if t251 < (l0_1.length : Int) then (some ((rd_T155 l0_1 t251).f1)) else (none)) else (none)) = some r := by rw [if_pos rfl] at H; exact H
  clear H
  have H := H1
  clear H1
  by_cases c5 : 0 ≤ t251
  ·rw [if_pos c5] at H
   have c5b0 : decide (0 ≤ t251) = true := decide_eq_true c5
   clear c5
   by_cases c6 : t251 < (l0_1.length : Int)
   ·rw [if_pos c6] at H
    have c6b0 : decide (t251 < (l0_1.length : Int)) = true := decide_eq_true c6
    clear c6
    obtain rfl := Option.some.inj H
    go_enter Try.func140, Try.ntmps140
    go_wp2_with (first | ((with_reducible refine gate_dst (N := 2) rfl ?_); refine box_event ?hg (N := 2) ?hd (cs := #[.string a0_0, .slice A0_1 l0_1.length c0_1]) (t := 33) ?hr ?_; (case hd => rfl); (case hg => rfl); (case hr => first | (go_simp; done) | (go_simp; rfl)); intro gb250 hg w7 hbox hb; have BK250 := Am (hbox); have GW250 := Am ((by rw [hg]; exact (bz zB) : w.heap.size ≤ gb250)); have GE250 := Am ((by rw [hg]; exact (bz zB) : w.heap.size ≤ gb250)); replace HB := Am (bq zB hb); clear hb hbox hg; obtain ⟨hcz8_0, hcz8_1⟩ := kc2 (w := w7) BK250.out; have hfz8_0 := kf BK250.out) | ((with_reducible refine gate_callee (f := 151) rfl ?_); refine zC (some 10) rfl rfl Try.func151 rfl #[.agg #[.string a0_0, .slice A0_1 l0_1.length c0_1], .int .i64 a1] rfl ?_; (with_reducible refine (impl_Memory_findCell.calls k a0_0 _ _ l0_1 a1 t251 true _ ?side1 ?side2 A3.out).mono ?_); (case side1 => repeat (first | exact (cb HR0_1.out HB.out) | (with_reducible first | refine ca ?_ _ | refine cn ?_ _ | refine ce ?_))); (case side2 => exact HC0_1.out); rintro e w9 ⟨rfl, hb⟩; refine ⟨_, rfl, ?_⟩; have n0_ := Am (zK BK250 hb); have n1_ := Am (bq zG hb); clear BK250; clear HB; have BK250 := n0_; have HB := n1_; clear n0_ n1_; (try clear hb); obtain ⟨hcz10_0, hcz10_1⟩ := kc2 (w := w9) BK250.out; have hfz10_0 := kf BK250.out; have p253 : 0 ≤ (t251 : Int) := of_decide_eq_true (by first | (with_reducible assumption) | assumption); have q253 : t251 < (l0_1.length : Int) := of_decide_eq_true (by first | (with_reducible assumption) | assumption); obtain ⟨ad253, e253, hx253_0, hx253_1, hx253_2⟩ := at_T155 HR0_1.out t251 p253 q253; cases e253; replace hx253_0 := cl9 HB hx253_0; replace hx253_1 := cl9 HB hx253_1; replace hx253_2 := cl9 HB hx253_2; replace p253 := eq_true p253; replace q253 := eq_true q253))
    go_ret
    exact ⟨zR, zG⟩
   ·rw [if_neg c6] at H
    exact absurd H (by simp)
  ·rw [if_neg c5] at H
   exact absurd H (by simp)
 ·replace c4 := Bool.eq_false_iff.mpr c4
  subst c4
  have H1 : (if 0 ≤ (wrap64 (a1 * 16)) then (if (wrap64 (a1 * 16)) ≤ (wrap64 ((wrap64 (a1 + 1)) * 16)) then (if (wrap64 ((wrap64 (a1 + 1)) * 16)) ≤ (a0_0.size : Int) then (some (a0_0.extract ((wrap64 (a1 * 16)) : Int).toNat ((wrap64 ((wrap64 (a1 + 1)) * 16)) : Int).toNat)) else (none)) else (none)) else (none)) = some r := by rw [if_neg (show ¬ (false = true) by decide)] at H; exact H
  clear H
  have H := H1
  clear H1
  obtain ⟨ji11, hji11⟩ : ∃ j_ : Int, (wrap64 (a1 * 16)) = j_ := ⟨_, rfl⟩
  replace H : (if 0 ≤ (ji11) then (if (ji11) ≤ (wrap64 ((wrap64 (a1 + 1)) * 16)) then (if (wrap64 ((wrap64 (a1 + 1)) * 16)) ≤ (a0_0.size : Int) then (some (a0_0.extract ((ji11) : Int).toNat ((wrap64 ((wrap64 (a1 + 1)) * 16)) : Int).toNat)) else (none)) else (none)) else (none)) = some r := by first | (rw [hji11] at H; exact H) | (simp only [hji11] at H ⊢; exact H)
  (try rw [hji11] at A3)
  have hji11w : (IntKind.i64.wrap (a1 * 16)) = ji11 := (i64_w _).trans hji11
  by_cases c12 : 0 ≤ (ji11)
  ·rw [if_pos c12] at H
   have c12b0 := eq_true c12
   have c12b1 : decide (0 ≤ (ji11)) = true := decide_eq_true c12
   clear c12
   by_cases c13 : (ji11) ≤ (wrap64 ((wrap64 (a1 + 1)) * 16))
   ·rw [if_pos c13] at H
    have c13b0 := eq_true c13
    have c13b1 : decide ((ji11) ≤ (wrap64 ((wrap64 (a1 + 1)) * 16))) = true := decide_eq_true c13
    by_cases c14 : (wrap64 ((wrap64 (a1 + 1)) * 16)) ≤ (a0_0.size : Int)
    ·rw [if_pos c14] at H
     have c14b0 := eq_true c14
     have c14b1 : decide ((wrap64 ((wrap64 (a1 + 1)) * 16)) ≤ (a0_0.size : Int)) = true := decide_eq_true c14
     obtain rfl := Option.some.inj H
     go_enter Try.func140, Try.ntmps140
     go_wp2_with (first | ((with_reducible refine gate_dst (N := 2) rfl ?_); refine box_event ?hg (N := 2) ?hd (cs := #[.string a0_0, .slice A0_1 l0_1.length c0_1]) (t := 33) ?hr ?_; (case hd => rfl); (case hg => rfl); (case hr => first | (go_simp; done) | (go_simp; rfl)); intro gb250 hg w15 hbox hb; have BK250 := Am (hbox); have GW250 := Am ((by rw [hg]; exact (bz zB) : w.heap.size ≤ gb250)); have GE250 := Am ((by rw [hg]; exact (bz zB) : w.heap.size ≤ gb250)); replace HB := Am (bq zB hb); clear hb hbox hg; obtain ⟨hcz16_0, hcz16_1⟩ := kc2 (w := w15) BK250.out; have hfz16_0 := kf BK250.out) | ((with_reducible refine gate_callee (f := 151) rfl ?_); refine zC (some 10) rfl rfl Try.func151 rfl #[.agg #[.string a0_0, .slice A0_1 l0_1.length c0_1], .int .i64 a1] rfl ?_; (with_reducible refine (impl_Memory_findCell.calls k a0_0 _ _ l0_1 a1 t251 false _ ?side1 ?side2 A3.out).mono ?_); (case side1 => repeat (first | exact (cb HR0_1.out HB.out) | (with_reducible first | refine ca ?_ _ | refine cn ?_ _ | refine ce ?_))); (case side2 => exact HC0_1.out); rintro e w17 ⟨rfl, hb⟩; refine ⟨_, rfl, ?_⟩; have n0_ := Am (zK BK250 hb); have n1_ := Am (bq zG hb); clear BK250; clear HB; have BK250 := n0_; have HB := n1_; clear n0_ n1_; (try clear hb); obtain ⟨hcz18_0, hcz18_1⟩ := kc2 (w := w17) BK250.out; have hfz18_0 := kf BK250.out))
     go_ret
     exact ⟨by first | rfl | (simp [errW_none, errW_some] <;> rfl) | (simp only [← hji11]; first | rfl | (simp [errW_none, errW_some] <;> rfl)) | (simp [*, errW_none, errW_some] <;> rfl), zG⟩
    ·rw [if_neg c14] at H
     exact absurd H (by simp)
   ·rw [if_neg c13] at H
    exact absurd H (by simp)
  ·rw [if_neg c12] at H
   exact absurd H (by simp)

/-! ### impl_Memory_word: function 106 -/
def impl_Memory_word.f (k : Nat) (a0_0 : ByteArray) (l0_1 : List (S155)) (a1 : Int) : Option (ByteArray) := (impl_Memory_line.f k a0_0 l0_1 (wrap64 (Int.tdiv a1 2))).bind fun t255 => (if 0 ≤ (wrap64 ((Int.tmod a1 2) * 8)) then (if (wrap64 ((Int.tmod a1 2) * 8)) ≤ (wrap64 ((wrap64 ((Int.tmod a1 2) * 8)) + 8)) then (if (wrap64 ((wrap64 ((Int.tmod a1 2) * 8)) + 8)) ≤ (t255.size : Int) then (some (t255.extract ((wrap64 ((Int.tmod a1 2) * 8)) : Int).toNat ((wrap64 ((wrap64 ((Int.tmod a1 2) * 8)) + 8)) : Int).toNat)) else (none)) else (none)) else (none))
theorem impl_Memory_word.mono : ∀ a0 a1 a2 k, LeO (impl_Memory_word.f k a0 a1 a2) (impl_Memory_word.f (k + 1) a0 a1 a2) := by
 intro a0 a1 a2 k
 unfold impl_Memory_word.f
 repeat' first
   | (with_reducible exact impl_Memory_line.mono _ _ _ _)
   | (with_reducible exact LeO.refl _)
   | (with_reducible exact LeO.none _)
   | (with_reducible refine LeO.ite ?_ ?_)
   | (with_reducible refine LeO.bind ?_ (fun _ => ?_))
   | exact impl_Memory_line.mono _ _ _ _
   | exact LeO.none _
   | refine LeO.ite ?_ ?_
   | refine LeO.bind ?_ (fun _ => ?_)
set_option maxHeartbeats 8000000 in
set_option maxRecDepth 100000 in
theorem impl_Memory_word.calls (k : Nat) (a0_0 : ByteArray) (A0_1 : Option Addr) (c0_1 : Nat) (l0_1 : List (S155)) (a1 : Int) (r : ByteArray) (w : World) (hr0_1 : Kd.C k155 w A0_1 l0_1.length l0_1) (hc0_1 : l0_1.length ≤ c0_1) (h : impl_Memory_word.f k a0_0 l0_1 a1 = some r) :
  Calls Try.prog 106 #[.agg #[.string a0_0, .slice A0_1 l0_1.length c0_1], .int .i64 a1] w fun e w' => e = .returned (.string r) ∧ Below w.heap.size w w' := by
 have hu33 := Try.underlying33
 have HR0_1 := Am hr0_1
 have HC0_1 := Am hc0_1
 clear hr0_1 hc0_1
 have HB := Am (Below.refl w.heap.size w)
 have H : ((impl_Memory_line.f k a0_0 l0_1 (wrap64 (Int.tdiv a1 2))).bind fun t255 => (if 0 ≤ (wrap64 ((Int.tmod a1 2) * 8)) then (if (wrap64 ((Int.tmod a1 2) * 8)) ≤ (wrap64 ((wrap64 ((Int.tmod a1 2) * 8)) + 8)) then (if (wrap64 ((wrap64 ((Int.tmod a1 2) * 8)) + 8)) ≤ (t255.size : Int) then (some (t255.extract ((wrap64 ((Int.tmod a1 2) * 8)) : Int).toNat ((wrap64 ((wrap64 ((Int.tmod a1 2) * 8)) + 8)) : Int).toNat)) else (none)) else (none)) else (none))) = some r := h
 clear h
 replace H := Option.bind_eq_some_iff.mp H
 obtain ⟨t255, A30, H⟩ := H
 replace H : (if 0 ≤ (wrap64 ((Int.tmod a1 2) * 8)) then (if (wrap64 ((Int.tmod a1 2) * 8)) ≤ (wrap64 ((wrap64 ((Int.tmod a1 2) * 8)) + 8)) then (if (wrap64 ((wrap64 ((Int.tmod a1 2) * 8)) + 8)) ≤ (t255.size : Int) then (some (t255.extract ((wrap64 ((Int.tmod a1 2) * 8)) : Int).toNat ((wrap64 ((wrap64 ((Int.tmod a1 2) * 8)) + 8)) : Int).toNat)) else (none)) else (none)) else (none)) = some r := H
 have A3 := Am A30
 clear A30
 obtain ⟨ji4, hji4⟩ : ∃ j_ : Int, (wrap64 ((Int.tmod a1 2) * 8)) = j_ := ⟨_, rfl⟩
 replace H : (if 0 ≤ (ji4) then (if (ji4) ≤ (wrap64 ((ji4) + 8)) then (if (wrap64 ((ji4) + 8)) ≤ (t255.size : Int) then (some (t255.extract ((ji4) : Int).toNat ((wrap64 ((ji4) + 8)) : Int).toNat)) else (none)) else (none)) else (none)) = some r := by first | (rw [hji4] at H; exact H) | (simp only [hji4] at H ⊢; exact H)
 (try rw [hji4] at A3)
 have hji4w : (IntKind.i64.wrap ((Int.tmod a1 2) * 8)) = ji4 := (i64_w _).trans hji4
 by_cases c5 : 0 ≤ (ji4)
 ·rw [if_pos c5] at H
  have c5b0 := eq_true c5
  have c5b1 : decide (0 ≤ (ji4)) = true := decide_eq_true c5
  clear c5
  by_cases c6 : (ji4) ≤ (wrap64 ((ji4) + 8))
  ·rw [if_pos c6] at H
   have c6b0 := eq_true c6
   have c6b1 : decide ((ji4) ≤ (wrap64 ((ji4) + 8))) = true := decide_eq_true c6
   by_cases c7 : (wrap64 ((ji4) + 8)) ≤ (t255.size : Int)
   ·rw [if_pos c7] at H
    have c7b0 := eq_true c7
    have c7b1 : decide ((wrap64 ((ji4) + 8)) ≤ (t255.size : Int)) = true := decide_eq_true c7
    obtain rfl := Option.some.inj H
    go_enter Try.func106, Try.ntmps106
    go_wp2_with (first | ((with_reducible refine gate_dst (N := 2) rfl ?_); refine box_event ?hg (N := 2) ?hd (cs := #[.string a0_0, .slice A0_1 l0_1.length c0_1]) (t := 33) ?hr ?_; (case hd => rfl); (case hg => rfl); (case hr => first | (go_simp; done) | (go_simp; rfl)); intro gb254 hg w8 hbox hb; have BK254 := Am (hbox); have GW254 := Am ((by rw [hg]; exact (bz zB) : w.heap.size ≤ gb254)); have GE254 := Am ((by rw [hg]; exact (bz zB) : w.heap.size ≤ gb254)); replace HB := Am (bq zB hb); clear hb hbox hg; obtain ⟨hcz9_0, hcz9_1⟩ := kc2 (w := w8) BK254.out; have hfz9_0 := kf BK254.out) | ((with_reducible refine gate_callee (f := 140) rfl ?_); refine zC (some 12) rfl rfl Try.func140 rfl #[.agg #[.string a0_0, .slice A0_1 l0_1.length c0_1], .int .i64 (wrap64 (Int.tdiv a1 2))] rfl ?_; (with_reducible refine (impl_Memory_line.calls k a0_0 _ _ l0_1 (wrap64 (Int.tdiv a1 2)) t255 _ ?side1 ?side2 A3.out).mono ?_); (case side1 => repeat (first | exact (cb HR0_1.out HB.out) | (with_reducible first | refine ca ?_ _ | refine cn ?_ _ | refine ce ?_))); (case side2 => exact HC0_1.out); rintro e w10 ⟨rfl, hb⟩; refine ⟨_, rfl, ?_⟩; have n0_ := Am (zK BK254 hb); have n1_ := Am (bq zG hb); clear BK254; clear HB; have BK254 := n0_; have HB := n1_; clear n0_ n1_; (try clear hb)))
    go_ret
    exact ⟨by first | rfl | (simp [errW_none, errW_some] <;> rfl) | (simp only [← hji4]; first | rfl | (simp [errW_none, errW_some] <;> rfl)) | (simp [*, errW_none, errW_some] <;> rfl), zG⟩
   ·rw [if_neg c7] at H
    exact absurd H (by simp)
  ·rw [if_neg c6] at H
   exact absurd H (by simp)
 ·rw [if_neg c5] at H
  exact absurd H (by simp)

end Go.Proofs.Ytconffflmbakgaa.QFnExactMaskedImage
