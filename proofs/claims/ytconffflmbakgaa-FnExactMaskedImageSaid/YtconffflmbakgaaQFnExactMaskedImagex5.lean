/- Go functions as Lean functions, and their contracts. Own text: written by wip/gen/pr.py (a turned copy of the print). -/
import Derived.Test.YtconffflmbakgaaQFnExactMaskedImagex0
import Derived.Test.YtconffflmbakgaaQFnExactMaskedImagex2
import Derived.Test.YtconffflmbakgaaQFnExactMaskedImagex4
namespace Go.Proofs.Ytconffflmbakgaa.QFnExactMaskedImage
open Go.RowKit Go.Proofs.YtconffflmbakgaaW.PrintWords Go.Proofs.YtconffflmbakgaaW.PrintLast Go.Proofs.YtconffflmbakgaaW.PrintMore
attribute [local go_sem] max2_int min2_int max_two min_two max_three min_three max_four min_four   -- for this text's walks alone
open Go.Proofs.YtconffflmbakgaaW.PrintWords renaming below_alloc → ba, pw_below_drewN → bn, below_drew1 → be, below_set → bs, blk_drewN → kn, blk_drew → ke, blk_alloc → ka, blk_below → kb, blk_frozen → kf, blk_cell → kc, below_step → bq, below_size → bz
open Go.Proofs.YtconffflmbakgaaW.PrintWords.Kd renaming R_alloc → ra, R_drewN → rn, R_drew → re
open Go.Proofs.YtconffflmbakgaaW.PrintWords.Aside0 renaming mk → Am
set_option linter.unusedVariables false
set_option linter.unusedSimpArgs false

/-! ### spec_l26Rec: function 51 -/
def spec_l26Rec.f (k : Nat) (a0_0 : Int) (a0_1 : Int) (a0_2 : Int) (a0_3 : Int) (a1 : Int) : Option (Bool) := (spec_PartAt.f k a0_0 a0_1 a0_2 a0_3 a1).bind fun bt171 => (if bt171.2 = 5 then ((spec_PartWords.f a0_0 a0_1 a0_2 a0_3).bind fun t173 => (if t173 = 0 then (none) else ((spec_l01In.f (Int.tmod (wrap64 ((Int.tmod a1 t173) - 38)) 8) 2 5).bind fun t174 => (some t174)))) else (some false))
theorem spec_l26Rec.mono : ∀ a0 a1 a2 a3 a4 k, LeO (spec_l26Rec.f k a0 a1 a2 a3 a4) (spec_l26Rec.f (k + 1) a0 a1 a2 a3 a4) := by
 intro a0 a1 a2 a3 a4 k
 unfold spec_l26Rec.f
 repeat' first
   | (with_reducible exact spec_PartAt.mono _ _ _ _ _ _)
   | (with_reducible exact LeO.refl _)
   | (with_reducible exact LeO.none _)
   | (with_reducible refine LeO.ite ?_ ?_)
   | (with_reducible refine LeO.bind ?_ (fun _ => ?_))
   | exact spec_PartAt.mono _ _ _ _ _ _
   | exact LeO.none _
   | refine LeO.ite ?_ ?_
   | refine LeO.bind ?_ (fun _ => ?_)
set_option maxHeartbeats 8000000 in
set_option maxRecDepth 100000 in
theorem spec_l26Rec.calls (k : Nat) (a0_0 : Int) (a0_1 : Int) (a0_2 : Int) (a0_3 : Int) (a1 : Int) (r : Bool) (w : World) (h : spec_l26Rec.f k a0_0 a0_1 a0_2 a0_3 a1 = some r) :
  Calls Try.prog 51 #[.agg #[.int .i64 a0_0, .int .i64 a0_1, .int .i64 a0_2, .int .i64 a0_3], .int .i64 a1] w fun e w' => e = .returned (.bool r) ∧ Below w.heap.size w w' := by
 have hu29 := Try.underlying29
 have HB := Am (Below.refl w.heap.size w)
 have H : ((spec_PartAt.f k a0_0 a0_1 a0_2 a0_3 a1).bind fun bt171 => (if bt171.2 = 5 then ((spec_PartWords.f a0_0 a0_1 a0_2 a0_3).bind fun t173 => (if t173 = 0 then (none) else ((spec_l01In.f (Int.tmod (wrap64 ((Int.tmod a1 t173) - 38)) 8) 2 5).bind fun t174 => (some t174)))) else (some false))) = some r := h
 clear h
 replace H := Option.bind_eq_some_iff.mp H
 obtain ⟨⟨t171, t172⟩, A30, H⟩ := H
 replace H : (if t172 = 5 then ((spec_PartWords.f a0_0 a0_1 a0_2 a0_3).bind fun t173 => (if t173 = 0 then (none) else ((spec_l01In.f (Int.tmod (wrap64 ((Int.tmod a1 t173) - 38)) 8) 2 5).bind fun t174 => (some t174)))) else (some false)) = some r := H
 have A3 := Am A30
 clear A30
 by_cases c4 : t172 = 5
 ·rw [if_pos c4] at H
  have c4b0 : (t172 == 5) = true := beq_iff_eq.mpr c4
  have c4b1 : (t172 != 5) = false := bne_eq_false_iff_eq.mpr c4
  clear c4
  replace H := Option.bind_eq_some_iff.mp H
  obtain ⟨t173, A50, H⟩ := H
  replace H : (if t173 = 0 then (none) else ((spec_l01In.f (Int.tmod (wrap64 ((Int.tmod a1 t173) - 38)) 8) 2 5).bind fun t174 => (some t174))) = some r := H
  have A5 := Am A50
  clear A50
  by_cases c6 : t173 = 0
  ·rw [if_pos c6] at H
   exact absurd H (by simp)
  ·rw [if_neg c6] at H
   have c6b0 : (t173 == 0) = false := beq_eq_false_iff_ne.mpr c6
   have c6b1 : (t173 != 0) = true := bne_iff_ne.mpr c6
   replace H := Option.bind_eq_some_iff.mp H
   obtain ⟨t174, A70, H⟩ := H
   replace H : (some t174) = some r := H
   have A7 := Am A70
   clear A70
   obtain rfl := Option.some.inj H
   go_enter Try.func51, Try.ntmps51
   go_wp2_with (first | ((with_reducible refine gate_dst (N := 2) rfl ?_); refine box_event ?hg (N := 2) ?hd (cs := #[.int .i64 a0_0, .int .i64 a0_1, .int .i64 a0_2, .int .i64 a0_3]) (t := 29) ?hr ?_; (case hd => rfl); (case hg => rfl); (case hr => first | (go_simp; done) | (go_simp; rfl)); intro gb170 hg w8 hbox hb; have BK170 := Am (hbox); have GW170 := Am ((by rw [hg]; exact (bz zB) : w.heap.size ≤ gb170)); have GE170 := Am ((by rw [hg]; exact (bz zB) : w.heap.size ≤ gb170)); replace HB := Am (bq zB hb); clear hb hbox hg; obtain ⟨hcz9_0, hcz9_1, hcz9_2, hcz9_3⟩ := kc4 (w := w8) BK170.out; have hfz9_0 := kf BK170.out) | ((with_reducible refine gate_callee (f := 45) rfl ?_); refine zC (some 10) rfl rfl Try.func45 rfl #[.agg #[.int .i64 a0_0, .int .i64 a0_1, .int .i64 a0_2, .int .i64 a0_3], .int .i64 a1] rfl ?_; (with_reducible refine (spec_PartAt.calls k a0_0 a0_1 a0_2 a0_3 a1 t171 t172 _ A3.out).mono ?_); rintro e w10 ⟨rfl, hb⟩; refine ⟨_, rfl, ?_⟩; have n0_ := Am (zK BK170 hb); have n1_ := Am (bq zG hb); clear BK170; clear HB; have BK170 := n0_; have HB := n1_; clear n0_ n1_; (try clear hb); obtain ⟨hcz11_0, hcz11_1, hcz11_2, hcz11_3⟩ := kc4 (w := w10) BK170.out; have hfz11_0 := kf BK170.out) | ((with_reducible refine gate_callee (f := 55) rfl ?_); refine zC (some 17) rfl rfl Try.func55 rfl #[.agg #[.int .i64 a0_0, .int .i64 a0_1, .int .i64 a0_2, .int .i64 a0_3]] rfl ?_; (with_reducible refine (spec_PartWords.calls a0_0 a0_1 a0_2 a0_3 t173 _ A5.out).mono ?_); rintro e w12 ⟨rfl, hb⟩; refine ⟨_, rfl, ?_⟩; have n0_ := Am (zK BK170 hb); have n1_ := Am (bq zG hb); clear BK170; clear HB; have BK170 := n0_; have HB := n1_; clear n0_ n1_; (try clear hb)) | ((with_reducible refine gate_callee (f := 47) rfl ?_); refine zC (some 21) rfl rfl Try.func47 rfl #[.int .i64 (Int.tmod (wrap64 ((Int.tmod a1 t173) - 38)) 8), .int .i64 2, .int .i64 5] rfl ?_; (with_reducible refine (spec_l01In.calls (Int.tmod (wrap64 ((Int.tmod a1 t173) - 38)) 8) 2 5 t174 _ A7.out).mono ?_); rintro e w' ⟨rfl, ⟨nd, rfl⟩⟩; refine ⟨_, rfl, ?_⟩))
   go_ret
   exact ⟨zR, zG⟩
 ·rw [if_neg c4] at H
  have c4b0 : (t172 == 5) = false := beq_eq_false_iff_ne.mpr c4
  have c4b1 : (t172 != 5) = true := bne_iff_ne.mpr c4
  obtain rfl := Option.some.inj H
  go_enter Try.func51, Try.ntmps51
  go_wp2_with (first | ((with_reducible refine gate_dst (N := 2) rfl ?_); refine box_event ?hg (N := 2) ?hd (cs := #[.int .i64 a0_0, .int .i64 a0_1, .int .i64 a0_2, .int .i64 a0_3]) (t := 29) ?hr ?_; (case hd => rfl); (case hg => rfl); (case hr => first | (go_simp; done) | (go_simp; rfl)); intro gb170 hg w13 hbox hb; have BK170 := Am (hbox); have GW170 := Am ((by rw [hg]; exact (bz zB) : w.heap.size ≤ gb170)); have GE170 := Am ((by rw [hg]; exact (bz zB) : w.heap.size ≤ gb170)); replace HB := Am (bq zB hb); clear hb hbox hg; obtain ⟨hcz14_0, hcz14_1, hcz14_2, hcz14_3⟩ := kc4 (w := w13) BK170.out; have hfz14_0 := kf BK170.out) | ((with_reducible refine gate_callee (f := 45) rfl ?_); refine zC (some 10) rfl rfl Try.func45 rfl #[.agg #[.int .i64 a0_0, .int .i64 a0_1, .int .i64 a0_2, .int .i64 a0_3], .int .i64 a1] rfl ?_; (with_reducible refine (spec_PartAt.calls k a0_0 a0_1 a0_2 a0_3 a1 t171 t172 _ A3.out).mono ?_); rintro e w15 ⟨rfl, hb⟩; refine ⟨_, rfl, ?_⟩; have n0_ := Am (zK BK170 hb); have n1_ := Am (bq zG hb); clear BK170; clear HB; have BK170 := n0_; have HB := n1_; clear n0_ n1_; (try clear hb)))
  go_ret
  exact ⟨zR, zG⟩

/-! ### spec_l26All: function 53 -/
def spec_l26All.l0 : Nat → ByteArray → Int → Int → Option (Bool)
 | 0, _, _, _ => none
 | k + 1, x0, x1, x5 => if x5 < (x0.size : Int) then (if 0 ≤ x5 then (if (bt x0 x5) = x1 then (spec_l26All.l0 k x0 x1 (wrap64 (x5 + 1))) else (some false)) else (none)) else (some true)
def spec_l26All.f (k : Nat) (a0 : ByteArray) (a1 : Int) : Option (Bool) := spec_l26All.l0 k a0 a1 0
theorem spec_l26All.mono_l : ∀ k, (∀ y0 y1 y2, LeO (spec_l26All.l0 k y0 y1 y2) (spec_l26All.l0 (k + 1) y0 y1 y2))
 | 0 => fun _ _ _ r h => by simp [spec_l26All.l0] at h
 | k + 1 => by
  have ih0 := spec_l26All.mono_l k
  ·intro y0 y1 y2
   unfold spec_l26All.l0
   repeat' first
   | (with_reducible exact ih0 _ _ _)
   | (with_reducible exact LeO.refl _)
   | (with_reducible exact LeO.none _)
   | (with_reducible refine LeO.ite ?_ ?_)
   | (with_reducible refine LeO.bind ?_ (fun _ => ?_))
   | exact ih0 _ _ _
   | exact LeO.none _
   | refine LeO.ite ?_ ?_
   | refine LeO.bind ?_ (fun _ => ?_)
theorem spec_l26All.mono : ∀ a0 a1 k, LeO (spec_l26All.f k a0 a1) (spec_l26All.f (k + 1) a0 a1) := by
 intro a0 a1 k
 have ih0 := spec_l26All.mono_l k
 unfold spec_l26All.f
 repeat' first
   | (with_reducible exact ih0 _ _ _)
   | (with_reducible exact LeO.refl _)
   | (with_reducible exact LeO.none _)
   | (with_reducible refine LeO.ite ?_ ?_)
   | (with_reducible refine LeO.bind ?_ (fun _ => ?_))
   | exact ih0 _ _ _
   | exact LeO.none _
   | refine LeO.ite ?_ ?_
   | refine LeO.bind ?_ (fun _ => ?_)
set_option maxHeartbeats 8000000 in
set_option maxRecDepth 100000 in
theorem spec_l26All.calls (k : Nat) (a0 : ByteArray) (a1 : Int) (r : Bool) (w : World) (h : spec_l26All.f k a0 a1 = some r) :
  Calls Try.prog 53 #[.string a0, .int .u8 a1] w fun e w' => e = .returned (.bool r) ∧ Drawn0 w w' := by
 have H : (spec_l26All.l0 k a0 a1 0) = some r := h
 clear h
 have H' := Am H
 clear H
 go_enter Try.func53, Try.ntmps53
 go_wp2
 go_loopg [5] k (fun kq v5 w' => ∃ (x5_1 : Int), v5 = .int .i64 x5_1 ∧ Aside0 (spec_l26All.l0 kq a0 a1 x5_1 = some r) ∧ Aside0 (kq ≤ k) ∧ Drawn0 w w')
 case atStart => exact ⟨(0), (by first | rfl | (simp; done) | (simp [*]; done)), H', ⟨Nat.le_refl _⟩, by repeat (first | exact Drawn0.refl _ | apply Drawn0.step)⟩
 case round =>
  clear H'
  try clear p2
  obtain ⟨x5_1, rfl, HA, HK1, ⟨m1, rfl⟩⟩ := hrel
  cases gk with
  | zero => exact absurd HA.out (by simp [spec_l26All.l0])
  | succ k1 =>
   have H := HA.out
   clear HA
   simp only [spec_l26All.l0] at H
   by_cases c3 : x5_1 < (a0.size : Int)
   ·rw [if_pos c3] at H
    have c3b0 : decide (x5_1 < (a0.size : Int)) = true := decide_eq_true c3
    clear c3
    by_cases c4 : 0 ≤ x5_1
    ·rw [if_pos c4] at H
     have c4b0 : decide (0 ≤ x5_1) = true := decide_eq_true c4
     clear c4
     by_cases c6 : (bt a0 x5_1) = a1
     ·rw [if_pos c6] at H
      have c6b0 : ((bt a0 x5_1) == a1) = true := beq_iff_eq.mpr c6
      have c6b1 : ((bt a0 x5_1) != a1) = false := bne_eq_false_iff_eq.mpr c6
      clear c6
      have H' := Am H
      clear H
      have p5 : 0 ≤ (x5_1 : Int) := of_decide_eq_true (by first | (with_reducible assumption) | assumption)
      have q5 : x5_1 < (a0.size : Int) := of_decide_eq_true (by first | (with_reducible assumption) | assumption)
      have hx5 := bt_at a0 x5_1
      replace p5 := eq_true p5
      replace q5 := eq_true q5
      go_wp2
      go_roundg k1
      case measure => have := HK1.out; omega
      case rel => exact ⟨(wrap64 (x5_1 + 1)), (by first | rfl | (simp; done) | (simp [*]; done)), H', ⟨by have := HK1.out; omega⟩, by repeat (first | exact Drawn0.refl _ | apply Drawn0.step)⟩
     ·rw [if_neg c6] at H
      have c6b0 : ((bt a0 x5_1) == a1) = false := beq_eq_false_iff_ne.mpr c6
      have c6b1 : ((bt a0 x5_1) != a1) = true := bne_iff_ne.mpr c6
      obtain rfl := Option.some.inj H
      have p5 : 0 ≤ (x5_1 : Int) := of_decide_eq_true (by first | (with_reducible assumption) | assumption)
      have q5 : x5_1 < (a0.size : Int) := of_decide_eq_true (by first | (with_reducible assumption) | assumption)
      have hx5 := bt_at a0 x5_1
      replace p5 := eq_true p5
      replace q5 := eq_true q5
      go_wp2
      go_ret
      exact ⟨by first | rfl | (simp; done) | (simp [*]; done), by repeat (first | exact Drawn0.refl _ | apply Drawn0.step)⟩
    ·rw [if_neg c4] at H
     exact absurd H (by simp)
   ·rw [if_neg c3] at H
    have c3b0 : decide (x5_1 < (a0.size : Int)) = false := decide_eq_false c3
    clear c3
    obtain rfl := Option.some.inj H
    go_wp2
    go_ret
    exact ⟨by first | rfl | (simp; done) | (simp [*]; done), by repeat (first | exact Drawn0.refl _ | apply Drawn0.step)⟩

/-! ### spec_MaskRec: function 52 -/
def spec_MaskRec.f (k : Nat) (a0 : ByteArray) : Option (ByteArray) := if (a0.size : Int) = 8 then ((spec_l26All.f k a0 0).bind fun t175 => (if t175 = true then (some a0) else (if 0 ≤ 4 then (if 4 ≤ (a0.size : Int) then ((spec_l01Long.f k 4 255).bind fun t176 => (if (a0.extract 0 4).size + t176.size ≤ 9223372036854775807 then (some ((a0.extract 0 4) ++ t176)) else (none))) else (none)) else (none)))) else (some a0)
theorem spec_MaskRec.mono : ∀ a0 k, LeO (spec_MaskRec.f k a0) (spec_MaskRec.f (k + 1) a0) := by
 intro a0 k
 unfold spec_MaskRec.f
 repeat' first
   | (with_reducible exact spec_l01Long.mono _ _ _)
   | (with_reducible exact spec_l26All.mono _ _ _)
   | (with_reducible exact LeO.refl _)
   | (with_reducible exact LeO.none _)
   | (with_reducible refine LeO.ite ?_ ?_)
   | (with_reducible refine LeO.bind ?_ (fun _ => ?_))
   | exact spec_l01Long.mono _ _ _
   | exact spec_l26All.mono _ _ _
   | exact LeO.none _
   | refine LeO.ite ?_ ?_
   | refine LeO.bind ?_ (fun _ => ?_)
set_option maxHeartbeats 8000000 in
set_option maxRecDepth 100000 in
theorem spec_MaskRec.calls (k : Nat) (a0 : ByteArray) (r : ByteArray) (w : World) (h : spec_MaskRec.f k a0 = some r) :
  Calls Try.prog 52 #[.string a0] w fun e w' => e = .returned (.string r) ∧ Below w.heap.size w w' := by
 have HB := Am (Below.refl w.heap.size w)
 have H : (if (a0.size : Int) = 8 then ((spec_l26All.f k a0 0).bind fun t175 => (if t175 = true then (some a0) else (if 0 ≤ 4 then (if 4 ≤ (a0.size : Int) then ((spec_l01Long.f k 4 255).bind fun t176 => (if (a0.extract 0 4).size + t176.size ≤ 9223372036854775807 then (some ((a0.extract 0 4) ++ t176)) else (none))) else (none)) else (none)))) else (some a0)) = some r := h
 clear h
 by_cases c2 : (a0.size : Int) = 8
 ·rw [if_pos c2] at H
  have c2b0 : ((a0.size : Int) == 8) = true := beq_iff_eq.mpr c2
  have c2b1 : ((a0.size : Int) != 8) = false := bne_eq_false_iff_eq.mpr c2
  clear c2
  replace H := Option.bind_eq_some_iff.mp H
  obtain ⟨t175, A30, H⟩ := H
  replace H : (if t175 = true then (some a0) else (if 0 ≤ 4 then (if 4 ≤ (a0.size : Int) then ((spec_l01Long.f k 4 255).bind fun t176 => (if (a0.extract 0 4).size + t176.size ≤ 9223372036854775807 then (some ((a0.extract 0 4) ++ t176)) else (none))) else (none)) else (none))) = some r := H
  have A3 := Am A30
  clear A30
  by_cases c4 : t175 = true
  ·subst c4
   have H1 : (some a0) = some r := by rw [if_pos rfl] at H; exact H
   clear H
   have H := H1
   clear H1
   obtain rfl := Option.some.inj H
   go_enter Try.func52, Try.ntmps52
   go_wp2_with (first | (go_at_call 53; (with_reducible refine (spec_l26All.calls k a0 0 true _ A3.out).mono ?_); rintro e w' ⟨rfl, ⟨nd, rfl⟩⟩))
   go_ret
   exact ⟨zR, zB⟩
  ·replace c4 := Bool.eq_false_iff.mpr c4
   subst c4
   have H1 : (if 0 ≤ 4 then (if 4 ≤ (a0.size : Int) then ((spec_l01Long.f k 4 255).bind fun t176 => (if (a0.extract 0 4).size + t176.size ≤ 9223372036854775807 then (some ((a0.extract 0 4) ++ t176)) else (none))) else (none)) else (none)) = some r := by rw [if_neg (show ¬ (false = true) by decide)] at H; exact H
   clear H
   have H := H1
   clear H1
   by_cases c5 : 0 ≤ 4
   ·rw [if_pos c5] at H
    have c5b0 := eq_true c5
    have c5b1 : decide (0 ≤ 4) = true := decide_eq_true c5
    clear c5
    by_cases c6 : 4 ≤ (a0.size : Int)
    ·rw [if_pos c6] at H
     have c6b0 := eq_true c6
     have c6b1 : decide (4 ≤ (a0.size : Int)) = true := decide_eq_true c6
     clear c6
     replace H := Option.bind_eq_some_iff.mp H
     obtain ⟨t176, A70, H⟩ := H
     replace H : (if (a0.extract 0 4).size + t176.size ≤ 9223372036854775807 then (some ((a0.extract 0 4) ++ t176)) else (none)) = some r := H
     have A7 := Am A70
     clear A70
     by_cases c8 : (a0.extract 0 4).size + t176.size ≤ 9223372036854775807
     ·rw [if_pos c8] at H
      have c8b0 := eq_true c8
      have c8b1 : decide ((a0.extract 0 4).size + t176.size ≤ 9223372036854775807) = true := decide_eq_true c8
      try have c8b2 : (9223372036854775807 < (a0.extract 0 4).size + t176.size) = False := eq_false (Nat.not_lt.2 c8)
      try (have c8b3 := c8b2; simp only [ByteArray.size_extract, Nat.sub_zero] at c8b3)
      try clear c8
      obtain rfl := Option.some.inj H
      go_enter Try.func52, Try.ntmps52
      try go_wp2_with (first | (go_at_call 53; (with_reducible refine (spec_l26All.calls k a0 0 false _ A3.out).mono ?_); rintro e w' ⟨rfl, ⟨nd, rfl⟩⟩))
      have n0_ := Am (be (bn HB.out nd))
      clear HB
      have HB := n0_
      clear n0_
      refine start_ (n := 5) (S := fun w' => True) (ds := []) #[false, false, false, false, false] (by kernel_rfl) rfl rfl trivial (fun hHeld => ?_)
      generalize w.drew = w9 at HB hHeld ⊢
      refine yA 0 (some 11) rfl rfl ?_
      refine yA 1 (some 12) rfl rfl ?_
      refine yO 2 (some 13) rfl rfl (fun K hK => ?_)
      refine goes_ Try.func54 (by kernel_rfl) rfl #[.int .i64 4, .int .u8 255] (by rfl) rfl rfl (by (try simp only [List.map_toArray, List.map_cons, List.map_nil]); first | done | rfl | (simp only [List.length_drop, List.length_take]; rfl)) ?_
      with_reducible refine (spec_l01Long.calls k 4 255 t176 _ A7.out).mono ?_
      rintro e w10 ⟨rfl, hb⟩
      refine ⟨_, rfl, ?_⟩
      have n0_ := Am (bq zB hb)
      clear HB
      have HB := n0_
      clear n0_
      (try clear hb)
      (try clear hb2)
      (try clear hk)
      (try clear hi)
      refine hK.out _ _ trivial (fun hHeld => ?_)
      clear hK K
      refine zN (some 13) ?_
      refine yA 3 (some 14) rfl rfl ?_
      refine yA 4 (some 2) rfl rfl ?_
      refine done_ (by kernel_rfl) ?_
      try go_wp2
      go_ret
      exact ⟨zR, zB⟩
     ·rw [if_neg c8] at H
      exact absurd H (by simp)
    ·rw [if_neg c6] at H
     exact absurd H (by simp)
   ·rw [if_neg c5] at H
    exact absurd H (by simp)
 ·rw [if_neg c2] at H
  have c2b0 : ((a0.size : Int) == 8) = false := beq_eq_false_iff_ne.mpr c2
  have c2b1 : ((a0.size : Int) != 8) = true := bne_iff_ne.mpr c2
  obtain rfl := Option.some.inj H
  go_enter Try.func52, Try.ntmps52
  go_wp2
  go_ret
  exact ⟨zR, zB⟩

/-! ### spec_NumAt: function 100 -/
mutual
def spec_NumAt.j0 : Nat → ByteArray → Int → Int → Bool → Option (Int × Bool)
 | 0, _, _, _, _ => none
 | k + 1, x0, x1, x2, x21 => if x21 = true then (some (0, false)) else (spec_NumAt.l0 k x0 x1 x2 0 x1)
def spec_NumAt.l0 : Nat → ByteArray → Int → Int → Int → Int → Option (Int × Bool)
 | 0, _, _, _, _, _ => none
 | k + 1, x0, x1, x2, x8, x9 => if x9 < (wrap64 (x1 + x2)) then (if 0 ≤ x9 then (if x9 < (x0.size : Int) then (spec_NumAt.l0 k x0 x1 x2 (wrap64 ((wrap64 (256 * x8)) + (wrap64 (bt x0 x9)))) (wrap64 (x9 + 1))) else (none)) else (none)) else (some (x8, true))
end
def spec_NumAt.f (k : Nat) (a0 : ByteArray) (a1 : Int) (a2 : Int) : Option (Int × Bool) := (spec_l01In.f a2 1 7).bind fun t177 => (if t177 = true then ((spec_l01In.f a1 0 (wrap64 ((a0.size : Int) - a2))).bind fun t178 => (spec_NumAt.j0 k a0 a1 a2 (!t178))) else (spec_NumAt.j0 k a0 a1 a2 true))
theorem spec_NumAt.mono_l : ∀ k, (∀ y0 y1 y2 y3, LeO (spec_NumAt.j0 k y0 y1 y2 y3) (spec_NumAt.j0 (k + 1) y0 y1 y2 y3)) ∧ (∀ y0 y1 y2 y3 y4, LeO (spec_NumAt.l0 k y0 y1 y2 y3 y4) (spec_NumAt.l0 (k + 1) y0 y1 y2 y3 y4))
 | 0 => ⟨fun _ _ _ _ r h => by simp [spec_NumAt.j0] at h, fun _ _ _ _ _ r h => by simp [spec_NumAt.l0] at h⟩
 | k + 1 => by
  obtain ⟨ih0, ih1⟩ := spec_NumAt.mono_l k
  refine ⟨?_, ?_⟩
  ·intro y0 y1 y2 y3
   unfold spec_NumAt.j0
   repeat' first
   | (with_reducible exact ih0 _ _ _ _)
   | (with_reducible exact ih1 _ _ _ _ _)
   | (with_reducible exact LeO.refl _)
   | (with_reducible exact LeO.none _)
   | (with_reducible refine LeO.ite ?_ ?_)
   | (with_reducible refine LeO.bind ?_ (fun _ => ?_))
   | exact ih0 _ _ _ _
   | exact ih1 _ _ _ _ _
   | exact LeO.none _
   | refine LeO.ite ?_ ?_
   | refine LeO.bind ?_ (fun _ => ?_)
  ·intro y0 y1 y2 y3 y4
   unfold spec_NumAt.l0
   repeat' first
   | (with_reducible exact ih0 _ _ _ _)
   | (with_reducible exact ih1 _ _ _ _ _)
   | (with_reducible exact LeO.refl _)
   | (with_reducible exact LeO.none _)
   | (with_reducible refine LeO.ite ?_ ?_)
   | (with_reducible refine LeO.bind ?_ (fun _ => ?_))
   | exact ih0 _ _ _ _
   | exact ih1 _ _ _ _ _
   | exact LeO.none _
   | refine LeO.ite ?_ ?_
   | refine LeO.bind ?_ (fun _ => ?_)
theorem spec_NumAt.mono : ∀ a0 a1 a2 k, LeO (spec_NumAt.f k a0 a1 a2) (spec_NumAt.f (k + 1) a0 a1 a2) := by
 intro a0 a1 a2 k
 obtain ⟨ih0, ih1⟩ := spec_NumAt.mono_l k
 unfold spec_NumAt.f
 repeat' first
   | (with_reducible exact ih0 _ _ _ _)
   | (with_reducible exact ih1 _ _ _ _ _)
   | (with_reducible exact LeO.refl _)
   | (with_reducible exact LeO.none _)
   | (with_reducible refine LeO.ite ?_ ?_)
   | (with_reducible refine LeO.bind ?_ (fun _ => ?_))
   | exact ih0 _ _ _ _
   | exact ih1 _ _ _ _ _
   | exact LeO.none _
   | refine LeO.ite ?_ ?_
   | refine LeO.bind ?_ (fun _ => ?_)
set_option maxHeartbeats 8000000 in
set_option maxRecDepth 100000 in
theorem spec_NumAt.calls (k : Nat) (a0 : ByteArray) (a1 : Int) (a2 : Int) (r1 : Int) (r2 : Bool) (w : World) (h : spec_NumAt.f k a0 a1 a2 = some (r1, r2)) :
  Calls Try.prog 100 #[.string a0, .int .i64 a1, .int .i64 a2] w fun e w' => e = .returned (.tuple #[.int .i64 r1, .bool r2]) ∧ Drawn0 w w' := by
 have H : ((spec_l01In.f a2 1 7).bind fun t177 => (if t177 = true then ((spec_l01In.f a1 0 (wrap64 ((a0.size : Int) - a2))).bind fun t178 => (spec_NumAt.j0 k a0 a1 a2 (!t178))) else (spec_NumAt.j0 k a0 a1 a2 true))) = some (r1, r2) := h
 clear h
 have HC4 := Am H
 clear H
 go_enter Try.func100, Try.ntmps100
 go_upto_region 1 with (fail)
 go_cut [21] (fun v21 wc => ∃ (kq : Nat) (x21_3 : Bool), v21 = .bool x21_3 ∧ Aside0 (spec_NumAt.j0 kq a0 a1 a2 x21_3 = some (r1, r2)) ∧ Aside0 (kq ≤ k) ∧ Drawn0 w wc)
 case first =>
  have H := HC4.out
  clear HC4
  replace H := Option.bind_eq_some_iff.mp H
  obtain ⟨t177, A50, H⟩ := H
  replace H : (if t177 = true then ((spec_l01In.f a1 0 (wrap64 ((a0.size : Int) - a2))).bind fun t178 => (spec_NumAt.j0 k a0 a1 a2 (!t178))) else (spec_NumAt.j0 k a0 a1 a2 true)) = some (r1, r2) := H
  have A5 := Am A50
  clear A50
  by_cases c6 : t177 = true
  ·subst c6
   have H1 : ((spec_l01In.f a1 0 (wrap64 ((a0.size : Int) - a2))).bind fun t178 => (spec_NumAt.j0 k a0 a1 a2 (!t178))) = some (r1, r2) := by rw [if_pos rfl] at H; exact H
   clear H
   have H := H1
   clear H1
   replace H := Option.bind_eq_some_iff.mp H
   obtain ⟨t178, A70, H⟩ := H
   replace H : (spec_NumAt.j0 k a0 a1 a2 (!t178)) = some (r1, r2) := H
   have A7 := Am A70
   clear A70
   have H' := Am H
   clear H
   go_wp2_with (first | ((with_reducible refine gate_callee (f := 47) rfl ?_); refine zC (some 11) rfl rfl Try.func47 rfl #[.int .i64 a2, .int .i64 1, .int .i64 7] rfl ?_; (with_reducible refine (spec_l01In.calls a2 1 7 true _ A5.out).mono ?_); rintro e w' ⟨rfl, ⟨nd, rfl⟩⟩; refine ⟨_, rfl, ?_⟩) | (go_at_call 47; (with_reducible refine (spec_l01In.calls a1 0 (wrap64 ((a0.size : Int) - a2)) t178 _ A7.out).mono ?_); rintro e w' ⟨rfl, ⟨nd, rfl⟩⟩))
   go_meet
   case rel => exact ⟨_, (!t178), (by first | rfl | (simp; done) | (simp [*]; done)), H', ⟨by first | omega | exact Nat.le_refl _⟩, by repeat (first | exact Drawn0.refl _ | apply Drawn0.step)⟩
  ·replace c6 := Bool.eq_false_iff.mpr c6
   subst c6
   have H1 : (spec_NumAt.j0 k a0 a1 a2 true) = some (r1, r2) := by rw [if_neg (show ¬ (false = true) by decide)] at H; exact H
   clear H
   have H := H1
   clear H1
   have H' := Am H
   clear H
   go_wp2_with (first | ((with_reducible refine gate_callee (f := 47) rfl ?_); refine zC (some 11) rfl rfl Try.func47 rfl #[.int .i64 a2, .int .i64 1, .int .i64 7] rfl ?_; (with_reducible refine (spec_l01In.calls a2 1 7 false _ A5.out).mono ?_); rintro e w' ⟨rfl, ⟨nd, rfl⟩⟩; refine ⟨_, rfl, ?_⟩))
   go_meet
   case rel => exact ⟨_, (true), (by first | rfl | (simp; done) | (simp [*]; done)), H', ⟨by first | omega | exact Nat.le_refl _⟩, by repeat (first | exact Drawn0.refl _ | apply Drawn0.step)⟩
 case rest =>
  clear HC4
  try clear c1; try clear p2; try clear c4; try clear c6; try clear p6
  obtain ⟨kq, x21_3, rfl, HA, HJ3, ⟨mc3, rfl⟩⟩ := hcut
  cases kq with
  | zero => exact absurd HA.out (by simp [spec_NumAt.j0])
  | succ kj3 =>
   have H := HA.out
   clear HA
   simp only [spec_NumAt.j0] at H
   by_cases c8 : x21_3 = true
   ·subst c8
    have H1 : (some (0, false)) = some (r1, r2) := by rw [if_pos rfl] at H; exact H
    clear H
    have H := H1
    clear H1
    simp only [Option.some.injEq, Prod.mk.injEq] at H
    obtain ⟨rfl, rfl⟩ := H
    go_wp2
    go_ret2
    exact ⟨by first | rfl | (simp; done) | (simp [*]; done), by repeat (first | exact Drawn0.refl _ | apply Drawn0.step)⟩
   ·replace c8 := Bool.eq_false_iff.mpr c8
    subst c8
    have H1 : (spec_NumAt.l0 kj3 a0 a1 a2 0 a1) = some (r1, r2) := by rw [if_neg (show ¬ (false = true) by decide)] at H; exact H
    clear H
    have H := H1
    clear H1
    have H' := Am H
    clear H
    go_wp2
    go_loopg [8, 9] kj3 (fun kq v8 v9 w' => ∃ (x8_2 : Int) (x9_2 : Int), v8 = .int .i64 x8_2 ∧ v9 = .int .i64 x9_2 ∧ Aside0 (spec_NumAt.l0 kq a0 a1 a2 x8_2 x9_2 = some (r1, r2)) ∧ Aside0 (kq ≤ kj3) ∧ Drawn0 w w')
    case atStart => exact ⟨(0), (a1), (by first | rfl | (simp; done) | (simp [*]; done)), (by first | rfl | (simp; done) | (simp [*]; done)), H', ⟨Nat.le_refl _⟩, by repeat (first | exact Drawn0.refl _ | apply Drawn0.step)⟩
    case round =>
     clear H'
     try clear c1; try clear p2; try clear c3; try clear c4; try clear c6; try clear p6; try clear c8; try clear p2; try clear p6
     obtain ⟨x8_2, x9_2, rfl, rfl, HA, HK2, ⟨m2, rfl⟩⟩ := hrel
     cases gk with
     | zero => exact absurd HA.out (by simp [spec_NumAt.l0])
     | succ k2 =>
      have H := HA.out
      clear HA
      simp only [spec_NumAt.l0] at H
      by_cases c9 : x9_2 < (wrap64 (a1 + a2))
      ·rw [if_pos c9] at H
       have c9b0 : decide (x9_2 < (wrap64 (a1 + a2))) = true := decide_eq_true c9
       clear c9
       by_cases c10 : 0 ≤ x9_2
       ·rw [if_pos c10] at H
        have c10b0 : decide (0 ≤ x9_2) = true := decide_eq_true c10
        clear c10
        by_cases c11 : x9_2 < (a0.size : Int)
        ·rw [if_pos c11] at H
         have c11b0 : decide (x9_2 < (a0.size : Int)) = true := decide_eq_true c11
         clear c11
         have H' := Am H
         clear H
         have p12 : 0 ≤ (x9_2 : Int) := of_decide_eq_true (by first | (with_reducible assumption) | assumption)
         have q12 : x9_2 < (a0.size : Int) := of_decide_eq_true (by first | (with_reducible assumption) | assumption)
         have hx12 := bt_at a0 x9_2
         replace p12 := eq_true p12
         replace q12 := eq_true q12
         go_wp2
         go_roundg k2
         case measure => have := HJ3.out; have := HK2.out; omega
         case rel => exact ⟨(wrap64 ((wrap64 (256 * x8_2)) + (wrap64 (bt a0 x9_2)))), (wrap64 (x9_2 + 1)), (by first | rfl | (simp; done) | (simp [*]; done)), (by first | rfl | (simp; done) | (simp [*]; done)), H', ⟨by have := HJ3.out; have := HK2.out; omega⟩, by repeat (first | exact Drawn0.refl _ | apply Drawn0.step)⟩
        ·rw [if_neg c11] at H
         exact absurd H (by simp)
       ·rw [if_neg c10] at H
        exact absurd H (by simp)
      ·rw [if_neg c9] at H
       have c9b0 : decide (x9_2 < (wrap64 (a1 + a2))) = false := decide_eq_false c9
       clear c9
       simp only [Option.some.injEq, Prod.mk.injEq] at H
       obtain ⟨rfl, rfl⟩ := H
       go_wp2
       go_ret2
       exact ⟨by first | rfl | (simp; done) | (simp [*]; done), by repeat (first | exact Drawn0.refl _ | apply Drawn0.step)⟩

/-! ### spec_NumText: function 139 -/
mutual
def spec_NumText.j0 : Nat → Int → Int → Bool → Option (ByteArray)
 | 0, _, _, _ => none
 | k + 1, x0, x1, x21 => if x21 = true then (some (⟨#[]⟩ : ByteArray)) else (spec_NumText.l0 k x0 (([] : List Int)) (wrap64 (x1 - 1)))
def spec_NumText.l0 : Nat → Int → List Int → Int → Option (ByteArray)
 | 0, _, _, _ => none
 | k + 1, x0, x5, x6 => if x6 ≥ 0 then (if 0 ≤ (IntKind.u64.wrap (8 * (IntKind.u64.wrap (x6)))) then (if x5.length < 140737488355328 then (spec_NumText.l0 k x0 (x5 ++ [(shr .i64 x0 (IntKind.u64.wrap (8 * (IntKind.u64.wrap (x6))))) % 256]) (wrap64 (x6 - 1))) else (none)) else (none)) else (some (strOfNums x5))
end
def spec_NumText.f (k : Nat) (a0 : Int) (a1 : Int) : Option (ByteArray) := if a0 < 0 then (spec_NumText.j0 k a0 a1 true) else ((spec_l01In.f a1 1 7).bind fun t179 => (if t179 = true then (if 0 ≤ (IntKind.u64.wrap (8 * (IntKind.u64.wrap (a1)))) then (spec_NumText.j0 k a0 a1 (decide ((shr .i64 a0 (IntKind.u64.wrap (8 * (IntKind.u64.wrap (a1))))) > 0))) else (none)) else (spec_NumText.j0 k a0 a1 true)))
theorem spec_NumText.mono_l : ∀ k, (∀ y0 y1 y2, LeO (spec_NumText.j0 k y0 y1 y2) (spec_NumText.j0 (k + 1) y0 y1 y2)) ∧ (∀ y0 y1 y2, LeO (spec_NumText.l0 k y0 y1 y2) (spec_NumText.l0 (k + 1) y0 y1 y2))
 | 0 => ⟨fun _ _ _ r h => by simp [spec_NumText.j0] at h, fun _ _ _ r h => by simp [spec_NumText.l0] at h⟩
 | k + 1 => by
  obtain ⟨ih0, ih1⟩ := spec_NumText.mono_l k
  refine ⟨?_, ?_⟩
  ·intro y0 y1 y2
   unfold spec_NumText.j0
   repeat' first
   | (with_reducible exact ih0 _ _ _)
   | (with_reducible exact ih1 _ _ _)
   | (with_reducible exact LeO.refl _)
   | (with_reducible exact LeO.none _)
   | (with_reducible refine LeO.ite ?_ ?_)
   | (with_reducible refine LeO.bind ?_ (fun _ => ?_))
   | exact ih0 _ _ _
   | exact ih1 _ _ _
   | exact LeO.none _
   | refine LeO.ite ?_ ?_
   | refine LeO.bind ?_ (fun _ => ?_)
  ·intro y0 y1 y2
   unfold spec_NumText.l0
   repeat' first
   | (with_reducible exact ih0 _ _ _)
   | (with_reducible exact ih1 _ _ _)
   | (with_reducible exact LeO.refl _)
   | (with_reducible exact LeO.none _)
   | (with_reducible refine LeO.ite ?_ ?_)
   | (with_reducible refine LeO.bind ?_ (fun _ => ?_))
   | exact ih0 _ _ _
   | exact ih1 _ _ _
   | exact LeO.none _
   | refine LeO.ite ?_ ?_
   | refine LeO.bind ?_ (fun _ => ?_)
theorem spec_NumText.mono : ∀ a0 a1 k, LeO (spec_NumText.f k a0 a1) (spec_NumText.f (k + 1) a0 a1) := by
 intro a0 a1 k
 obtain ⟨ih0, ih1⟩ := spec_NumText.mono_l k
 unfold spec_NumText.f
 repeat' first
   | (with_reducible exact ih0 _ _ _)
   | (with_reducible exact ih1 _ _ _)
   | (with_reducible exact LeO.refl _)
   | (with_reducible exact LeO.none _)
   | (with_reducible refine LeO.ite ?_ ?_)
   | (with_reducible refine LeO.bind ?_ (fun _ => ?_))
   | exact ih0 _ _ _
   | exact ih1 _ _ _
   | exact LeO.none _
   | refine LeO.ite ?_ ?_
   | refine LeO.bind ?_ (fun _ => ?_)
set_option maxHeartbeats 8000000 in
set_option maxRecDepth 100000 in
theorem spec_NumText.calls (k : Nat) (a0 : Int) (a1 : Int) (r : ByteArray) (w : World) (h : spec_NumText.f k a0 a1 = some r) :
  Calls Try.prog 139 #[.int .i64 a0, .int .i64 a1] w fun e w' => e = .returned (.string r) ∧ Below w.heap.size w w' := by
 have HB := Am (Below.refl w.heap.size w)
 have H : (if a0 < 0 then (spec_NumText.j0 k a0 a1 true) else ((spec_l01In.f a1 1 7).bind fun t179 => (if t179 = true then (if 0 ≤ (IntKind.u64.wrap (8 * (IntKind.u64.wrap (a1)))) then (spec_NumText.j0 k a0 a1 (decide ((shr .i64 a0 (IntKind.u64.wrap (8 * (IntKind.u64.wrap (a1))))) > 0))) else (none)) else (spec_NumText.j0 k a0 a1 true)))) = some r := h
 clear h
 have HC3 := Am H
 clear H
 go_enter Try.func139, Try.ntmps139
 go_upto_region 1 with (fail)
 go_cut [21] (fun v21 wc => ∃ (kq : Nat) (x21_2 : Bool), v21 = .bool x21_2 ∧ Aside0 (spec_NumText.j0 kq a0 a1 x21_2 = some r) ∧ Aside0 (kq ≤ k) ∧ Aside0 (Below w.heap.size w wc))
 case first =>
  have H := HC3.out
  clear HC3
  by_cases c4 : a0 < 0
  ·rw [if_pos c4] at H
   have c4b0 : decide (a0 < 0) = true := decide_eq_true c4
   clear c4
   (first | rw [c4b0] | (simp only [i64_w, i32_w]; rw [c4b0]) | skip)
   have H' := Am H
   clear H
   go_wp2
   go_meet
   case rel => exact ⟨_, (true), (by first | rfl | (simp; done) | (simp [*]; done)), H', ⟨by first | omega | exact Nat.le_refl _⟩, ⟨zB⟩⟩
  ·rw [if_neg c4] at H
   have c4b0 : decide (a0 < 0) = false := decide_eq_false c4
   clear c4
   (first | rw [c4b0] | (simp only [i64_w, i32_w]; rw [c4b0]) | skip)
   replace H := Option.bind_eq_some_iff.mp H
   obtain ⟨t179, A50, H⟩ := H
   replace H : (if t179 = true then (if 0 ≤ (IntKind.u64.wrap (8 * (IntKind.u64.wrap (a1)))) then (spec_NumText.j0 k a0 a1 (decide ((shr .i64 a0 (IntKind.u64.wrap (8 * (IntKind.u64.wrap (a1))))) > 0))) else (none)) else (spec_NumText.j0 k a0 a1 true)) = some r := H
   have A5 := Am A50
   clear A50
   by_cases c6 : t179 = true
   ·subst c6
    have H1 : (if 0 ≤ (IntKind.u64.wrap (8 * (IntKind.u64.wrap (a1)))) then (spec_NumText.j0 k a0 a1 (decide ((shr .i64 a0 (IntKind.u64.wrap (8 * (IntKind.u64.wrap (a1))))) > 0))) else (none)) = some r := by rw [if_pos rfl] at H; exact H
    clear H
    have H := H1
    clear H1
    obtain ⟨ji7, hji7⟩ : ∃ j_ : Int, (IntKind.u64.wrap (8 * (IntKind.u64.wrap (a1)))) = j_ := ⟨_, rfl⟩
    replace H : (if 0 ≤ (ji7) then (spec_NumText.j0 k a0 a1 (decide ((shr .i64 a0 (ji7)) > 0))) else (none)) = some r := by first | (rw [hji7] at H; exact H) | (simp only [hji7] at H ⊢; exact H)
    (try rw [hji7] at A5)
    by_cases c8 : 0 ≤ (ji7)
    ·rw [if_pos c8] at H
     have c8b0 := eq_true c8
     have c8b1 : decide (0 ≤ (ji7)) = true := decide_eq_true c8
     clear c8
     obtain ⟨ji9, hji9⟩ : ∃ j_ : Int, (shr .i64 a0 (ji7)) = j_ := ⟨_, rfl⟩
     replace H : (spec_NumText.j0 k a0 a1 (decide ((ji9) > 0))) = some r := by first | (rw [hji9] at H; exact H) | (simp only [hji9] at H ⊢; exact H)
     (try rw [hji9] at A5)
     have hji9_ : (a0 / 2 ^ min (ji7).toNat 64) = ji9 := hji9
     have hji9z : (ji7) ≤ 64 → (a0 / 2 ^ (ji7).toNat) = ji9 := shr_small hji9
     have H' := Am H
     clear H
     go_wp2_with (first | (go_at_call 47; (with_reducible refine (spec_l01In.calls a1 1 7 true _ A5.out).mono ?_); rintro e w' ⟨rfl, ⟨nd, rfl⟩⟩))
     go_meet
     case rel => exact ⟨_, (decide ((ji9) > 0)), (by first | rfl | (simp; done) | (simp only [← hji9] <;> (first | rfl | simp)) | (simp [*]; done)), H', ⟨by first | omega | exact Nat.le_refl _⟩, ⟨zB⟩⟩
    ·rw [if_neg c8] at H
     exact absurd H (by simp)
   ·replace c6 := Bool.eq_false_iff.mpr c6
    subst c6
    have H1 : (spec_NumText.j0 k a0 a1 true) = some r := by rw [if_neg (show ¬ (false = true) by decide)] at H; exact H
    clear H
    have H := H1
    clear H1
    have H' := Am H
    clear H
    go_wp2_with (first | (go_at_call 47; (with_reducible refine (spec_l01In.calls a1 1 7 false _ A5.out).mono ?_); rintro e w' ⟨rfl, ⟨nd, rfl⟩⟩))
    go_meet
    case rel => exact ⟨_, (true), (by first | rfl | (simp; done) | (simp [*]; done)), H', ⟨by first | omega | exact Nat.le_refl _⟩, ⟨zB⟩⟩
 case rest =>
  clear HC3
  try clear c1; try clear p2; try clear c4; try clear c4b0; try clear c6; try clear c8; try clear c8b0; try clear c8b1
  obtain ⟨kq, x21_2, rfl, HA, HJ2, HB⟩ := hcut
  cases kq with
  | zero => exact absurd HA.out (by simp [spec_NumText.j0])
  | succ kj2 =>
   have H := HA.out
   clear HA
   simp only [spec_NumText.j0] at H
   by_cases c10 : x21_2 = true
   ·subst c10
    have H1 : (some (⟨#[]⟩ : ByteArray)) = some r := by rw [if_pos rfl] at H; exact H
    clear H
    have H := H1
    clear H1
    obtain rfl := Option.some.inj H
    go_wp2
    go_ret
    exact ⟨zR, zB⟩
   ·replace c10 := Bool.eq_false_iff.mpr c10
    subst c10
    have H1 : (spec_NumText.l0 kj2 a0 (([] : List Int)) (wrap64 (a1 - 1))) = some r := by rw [if_neg (show ¬ (false = true) by decide)] at H; exact H
    clear H
    have H := H1
    clear H1
    obtain ⟨y180, hy180⟩ : ∃ y_ : List Int, y_ = (([] : List Int)) := ⟨_, rfl⟩
    replace H : (spec_NumText.l0 kj2 a0 y180 (wrap64 (a1 - 1))) = some r := by first | (rw [hy180]; with_reducible exact H) | (have H2_ := (Option.bind_some _ _).symm.trans H; rw [hy180]; with_reducible exact H2_) | (have H2_ := (Option.bind_some _ _).symm.trans H; with_reducible exact H2_) | with_reducible exact H | (rw [hy180]; exact H) | exact H
    have Ny180 := Am hy180
    clear hy180
    have H' := Am H
    clear H
    go_wp2_with (first | ((with_reducible refine gate_dst (N := 22) rfl ?_); refine Kd.R_lit (Kd.int .u8) _ 5 ?hg (N := 22) ?hd (xs := ([] : List Int)) (inner := []) (ok := fun _ => True) (okp := fun _ => True) ?hr ?hp (fun _ hk => hk) trivial (Below.refl _ _) (Nat.le_refl _) (by simp) ?_; (case hd => rfl); (case hg => rfl); (case hr => first | (go_simp; done) | (go_simp; rfl)); (case hp => exact (Reps.none _ _)); intro v181 w11 ho12 hb hg_ hnew_; clear hg_ hnew_; (first | rw [← Ny180.out] at ho12 | (simp only [Int.reduceToNat] at ho12; rw [← Ny180.out] at ho12)); have HO182 := Am (Kd.R_lower ho12 (bz zB)); replace HB := Am (bq zB hb); clear hb ho12))
    go_loopg [5, 6] kj2 (fun kq v5 v6 w' => ∃ (x5_2 : List Int) (x6_2 : Int), v6 = .int .i64 x6_2 ∧ Aside0 (spec_NumText.l0 kq a0 x5_2 x6_2 = some r) ∧ Aside0 (kq ≤ kj2) ∧ Aside0 (Kd.R (Kd.int .u8) 5 w' w.heap.size (fun _ => True) v5 x5_2) ∧ Aside0 (Below w.heap.size w w'))
    case atStart => exact ⟨(y180), (wrap64 (a1 - 1)), (by first | rfl | (simp; done) | (simp [*]; done)), H', ⟨Nat.le_refl _⟩, ⟨by (with_reducible repeat (first | apply ra | apply rn | apply re)); exact HO182.out⟩, ⟨zB⟩⟩
    case round =>
     clear H'
     try clear c1; try clear p2; try clear c4; try clear c4b0; try clear c6; try clear p6; try clear c8; try clear c8b0; try clear c8b1; try clear c10; try clear p2
     obtain ⟨x5_2, x6_2, rfl, HA, HK2, HO_5, HB⟩ := hrel
     cases gk with
     | zero => exact absurd HA.out (by simp [spec_NumText.l0])
     | succ k2 =>
      have H := HA.out
      clear HA
      simp only [spec_NumText.l0] at H
      by_cases c13 : x6_2 ≥ 0
      ·rw [if_pos c13] at H
       have c13b0 : decide (0 ≤ x6_2) = true := decide_eq_true c13
       clear c13
       obtain ⟨ji14, hji14⟩ : ∃ j_ : Int, (IntKind.u64.wrap (8 * (IntKind.u64.wrap (x6_2)))) = j_ := ⟨_, rfl⟩
       replace H : (if 0 ≤ (ji14) then (if x5_2.length < 140737488355328 then (spec_NumText.l0 k2 a0 (x5_2 ++ [(shr .i64 a0 (ji14)) % 256]) (wrap64 (x6_2 - 1))) else (none)) else (none)) = some r := by first | (rw [hji14] at H; exact H) | (simp only [hji14] at H ⊢; exact H)
       by_cases c15 : 0 ≤ (ji14)
       ·rw [if_pos c15] at H
        have c15b0 := eq_true c15
        have c15b1 : decide (0 ≤ (ji14)) = true := decide_eq_true c15
        clear c15
        obtain ⟨ji16, hji16⟩ : ∃ j_ : Int, (shr .i64 a0 (ji14)) = j_ := ⟨_, rfl⟩
        replace H : (if x5_2.length < 140737488355328 then (spec_NumText.l0 k2 a0 (x5_2 ++ [(ji16) % 256]) (wrap64 (x6_2 - 1))) else (none)) = some r := by first | (rw [hji16] at H; exact H) | (simp only [hji16] at H ⊢; exact H)
        have hji16_ : (a0 / 2 ^ min (ji14).toNat 64) = ji16 := hji16
        have hji16z : (ji14) ≤ 64 → (a0 / 2 ^ (ji14).toNat) = ji16 := shr_small hji16
        by_cases c17 : x5_2.length < 140737488355328
        ·rw [if_pos c17] at H
         have LMc17 := Am c17
         clear c17
         obtain ⟨y183, hy183⟩ : ∃ y_ : List Int, y_ = (x5_2 ++ [(ji16) % 256]) := ⟨_, rfl⟩
         replace H : (spec_NumText.l0 k2 a0 y183 (wrap64 (x6_2 - 1))) = some r := by first | (rw [hy183]; with_reducible exact H) | (have H2_ := (Option.bind_some _ _).symm.trans H; rw [hy183]; with_reducible exact H2_) | (have H2_ := (Option.bind_some _ _).symm.trans H; with_reducible exact H2_) | with_reducible exact H | (rw [hy183]; exact H) | exact H
         have Ny183 := Am hy183
         clear hy183
         have H' := Am H
         clear H
         go_wp2_with (first | ((with_reducible refine gate_builtin (b := .append) (xs := #[.tmp 29, .tmp 36]) rfl ?_); at_builtin; refine Kd.R_append (Kd.int .u8) (w0 := w) w.heap.size rfl (.tmp 29) (.tmp 36) 138 5 (.int .u8 0) 1 rfl Try.underlying138 info5 rfl (by decide) (by omega) u5 x5_2 ((ji16) % 256) [.int .u8 ((ji16) % 256)] (fun _ => True) (fun _ => False) rfl rfl ?aP (fun _ hk => hk.elim) ?aF ?aO ?aB ?aS ?aL ?_; (case aP => exact rfl); (case aB => exact zB); (case aF => exact (fun _ _ => trivial)); (case aO => exact (by (with_reducible repeat (first | apply ra | apply rn | apply re)); exact HO_5.out)); (case aS => exact (bz zB)); (case aL => have := LMc17.out; omega); intro v184 w18 ho hb hg hat; rw [← Ny183.out] at ho; have n0_ := Am (hb); have n1_ := Am (ho); clear HB; clear HO_5; have HB := n0_; have HO185 := n1_; clear n0_ n1_; clear ho hb hg hat))
         go_roundg k2
         case measure => have := HJ2.out; have := HK2.out; omega
         case rel => exact ⟨(y183), (wrap64 (x6_2 - 1)), (by first | rfl | (simp; done) | (simp [*]; done)), H', ⟨by have := HJ2.out; have := HK2.out; omega⟩, ⟨by (with_reducible repeat (first | apply ra | apply rn | apply re)); exact HO185.out⟩, ⟨zB⟩⟩
        ·rw [if_neg c17] at H
         exact absurd H (by simp)
       ·rw [if_neg c15] at H
        exact absurd H (by simp)
      ·rw [if_neg c13] at H
       have c13b0 : decide (0 ≤ x6_2) = false := decide_eq_false c13
       clear c13
       obtain rfl := Option.some.inj H
       have hcv19 := own_string (P := Try.prog) Try.underlying138 Try.underlying5 Try.underlying9 (Kd.own_of_R HO_5.out)
       go_wp2
       go_ret
       exact ⟨zR, zB⟩

/-! ### spec_AddressWord: function 101 -/
def spec_AddressWord.f (k : Nat) (a0 : Int) : Option (ByteArray) := (spec_NumText.f k a0 4).bind fun t186 => (if t186.toList = ([] : List UInt8) then (some (⟨#[]⟩ : ByteArray)) else ((spec_WordText.f k t186).bind fun t187 => (some t187)))
theorem spec_AddressWord.mono : ∀ a0 k, LeO (spec_AddressWord.f k a0) (spec_AddressWord.f (k + 1) a0) := by
 intro a0 k
 unfold spec_AddressWord.f
 repeat' first
   | (with_reducible exact spec_NumText.mono _ _ _)
   | (with_reducible exact spec_WordText.mono _ _)
   | (with_reducible exact LeO.refl _)
   | (with_reducible exact LeO.none _)
   | (with_reducible refine LeO.ite ?_ ?_)
   | (with_reducible refine LeO.bind ?_ (fun _ => ?_))
   | exact spec_NumText.mono _ _ _
   | exact spec_WordText.mono _ _
   | exact LeO.none _
   | refine LeO.ite ?_ ?_
   | refine LeO.bind ?_ (fun _ => ?_)
set_option maxHeartbeats 8000000 in
set_option maxRecDepth 100000 in
theorem spec_AddressWord.calls (k : Nat) (a0 : Int) (r : ByteArray) (w : World) (h : spec_AddressWord.f k a0 = some r) :
  Calls Try.prog 101 #[.int .i64 a0] w fun e w' => e = .returned (.string r) ∧ Below w.heap.size w w' := by
 have HB := Am (Below.refl w.heap.size w)
 have H : ((spec_NumText.f k a0 4).bind fun t186 => (if t186.toList = ([] : List UInt8) then (some (⟨#[]⟩ : ByteArray)) else ((spec_WordText.f k t186).bind fun t187 => (some t187)))) = some r := h
 clear h
 replace H := Option.bind_eq_some_iff.mp H
 obtain ⟨t186, A20, H⟩ := H
 replace H : (if t186.toList = ([] : List UInt8) then (some (⟨#[]⟩ : ByteArray)) else ((spec_WordText.f k t186).bind fun t187 => (some t187))) = some r := H
 have A2 := Am A20
 clear A20
 by_cases c3 : t186.toList = ([] : List UInt8)
 ·rw [if_pos c3] at H
  have c3b0 : (t186.toList == ([] : List UInt8)) = true := beq_iff_eq.mpr c3
  have c3b1 : (t186.toList != ([] : List UInt8)) = false := bne_eq_false_iff_eq.mpr c3
  clear c3
  obtain rfl := Option.some.inj H
  go_enter Try.func101, Try.ntmps101
  go_wp2_with (first | ((with_reducible refine gate_callee (f := 139) rfl ?_); refine zC (some 5) rfl rfl Try.func139 rfl #[.int .i64 a0, .int .i64 4] rfl ?_; (with_reducible refine (spec_NumText.calls k a0 4 t186 _ A2.out).mono ?_); rintro e w4 ⟨rfl, hb⟩; refine ⟨_, rfl, ?_⟩; replace HB := Am (bq zB hb); (try clear hb)))
  go_ret
  exact ⟨zR, zB⟩
 ·rw [if_neg c3] at H
  have c3b0 : (t186.toList == ([] : List UInt8)) = false := beq_eq_false_iff_ne.mpr c3
  have c3b1 : (t186.toList != ([] : List UInt8)) = true := bne_iff_ne.mpr c3
  replace H := Option.bind_eq_some_iff.mp H
  obtain ⟨t187, A50, H⟩ := H
  replace H : (some t187) = some r := H
  have A5 := Am A50
  clear A50
  obtain rfl := Option.some.inj H
  go_enter Try.func101, Try.ntmps101
  go_wp2_with (first | ((with_reducible refine gate_callee (f := 139) rfl ?_); refine zC (some 5) rfl rfl Try.func139 rfl #[.int .i64 a0, .int .i64 4] rfl ?_; (with_reducible refine (spec_NumText.calls k a0 4 t186 _ A2.out).mono ?_); rintro e w6 ⟨rfl, hb⟩; refine ⟨_, rfl, ?_⟩; replace HB := Am (bq zB hb); (try clear hb)) | ((with_reducible refine gate_callee (f := 50) rfl ?_); refine zC (some 9) rfl rfl Try.func50 rfl #[.string t186] rfl ?_; (with_reducible refine (spec_WordText.calls k t186 t187 _ A5.out).mono ?_); rintro e w7 ⟨rfl, hb⟩; refine ⟨_, rfl, ?_⟩; replace HB := Am (bq zB hb); (try clear hb)))
  go_ret
  exact ⟨zR, zB⟩

/-! ### spec_ReadAddress: function 56 -/
def spec_ReadAddress.f (k : Nat) (a0 : ByteArray) : Option (Int × Bool) := (spec_NumAt.f k a0 0 4).bind fun bt188 => (if bt188.2 = true then ((spec_AddressWord.f k bt188.1).bind fun t190 => (if t190.toList = a0.toList then (some (bt188.1, true)) else (some (0, false)))) else (some (0, false)))
theorem spec_ReadAddress.mono : ∀ a0 k, LeO (spec_ReadAddress.f k a0) (spec_ReadAddress.f (k + 1) a0) := by
 intro a0 k
 unfold spec_ReadAddress.f
 repeat' first
   | (with_reducible exact spec_AddressWord.mono _ _)
   | (with_reducible exact spec_NumAt.mono _ _ _ _)
   | (with_reducible exact LeO.refl _)
   | (with_reducible exact LeO.none _)
   | (with_reducible refine LeO.ite ?_ ?_)
   | (with_reducible refine LeO.bind ?_ (fun _ => ?_))
   | exact spec_AddressWord.mono _ _
   | exact spec_NumAt.mono _ _ _ _
   | exact LeO.none _
   | refine LeO.ite ?_ ?_
   | refine LeO.bind ?_ (fun _ => ?_)
set_option maxHeartbeats 8000000 in
set_option maxRecDepth 100000 in
theorem spec_ReadAddress.calls (k : Nat) (a0 : ByteArray) (r1 : Int) (r2 : Bool) (w : World) (h : spec_ReadAddress.f k a0 = some (r1, r2)) :
  Calls Try.prog 56 #[.string a0] w fun e w' => e = .returned (.tuple #[.int .i64 r1, .bool r2]) ∧ Below w.heap.size w w' := by
 have HB := Am (Below.refl w.heap.size w)
 have H : ((spec_NumAt.f k a0 0 4).bind fun bt188 => (if bt188.2 = true then ((spec_AddressWord.f k bt188.1).bind fun t190 => (if t190.toList = a0.toList then (some (bt188.1, true)) else (some (0, false)))) else (some (0, false)))) = some (r1, r2) := h
 clear h
 replace H := Option.bind_eq_some_iff.mp H
 obtain ⟨⟨t188, t189⟩, A20, H⟩ := H
 replace H : (if t189 = true then ((spec_AddressWord.f k t188).bind fun t190 => (if t190.toList = a0.toList then (some (t188, true)) else (some (0, false)))) else (some (0, false))) = some (r1, r2) := H
 have A2 := Am A20
 clear A20
 by_cases c3 : t189 = true
 ·subst c3
  have H1 : ((spec_AddressWord.f k t188).bind fun t190 => (if t190.toList = a0.toList then (some (t188, true)) else (some (0, false)))) = some (r1, r2) := by rw [if_pos rfl] at H; exact H
  clear H
  have H := H1
  clear H1
  replace H := Option.bind_eq_some_iff.mp H
  obtain ⟨t190, A40, H⟩ := H
  replace H : (if t190.toList = a0.toList then (some (t188, true)) else (some (0, false))) = some (r1, r2) := H
  have A4 := Am A40
  clear A40
  by_cases c5 : t190.toList = a0.toList
  ·rw [if_pos c5] at H
   have c5b0 : (t190.toList == a0.toList) = true := beq_iff_eq.mpr c5
   have c5b1 : (t190.toList != a0.toList) = false := bne_eq_false_iff_eq.mpr c5
   clear c5
   simp only [Option.some.injEq, Prod.mk.injEq] at H
   obtain ⟨rfl, rfl⟩ := H
   go_enter Try.func56, Try.ntmps56
   go_wp2_with (first | ((with_reducible refine gate_callee (f := 100) rfl ?_); refine zC (some 8) rfl rfl Try.func100 rfl #[.string a0, .int .i64 0, .int .i64 4] rfl ?_; (with_reducible refine (spec_NumAt.calls k a0 0 4 t188 true _ A2.out).mono ?_); rintro e w' ⟨rfl, ⟨nd, rfl⟩⟩; refine ⟨_, rfl, ?_⟩) | (go_at_call 101; (with_reducible refine (spec_AddressWord.calls k t188 t190 _ A4.out).mono ?_); rintro e w6 ⟨rfl, hb⟩; replace HB := Am (bq zB hb); (try clear hb)))
   go_ret2
   exact ⟨zR, zB⟩
  ·rw [if_neg c5] at H
   have c5b0 : (t190.toList == a0.toList) = false := beq_eq_false_iff_ne.mpr c5
   have c5b1 : (t190.toList != a0.toList) = true := bne_iff_ne.mpr c5
   simp only [Option.some.injEq, Prod.mk.injEq] at H
   obtain ⟨rfl, rfl⟩ := H
   go_enter Try.func56, Try.ntmps56
   go_wp2_with (first | ((with_reducible refine gate_callee (f := 100) rfl ?_); refine zC (some 8) rfl rfl Try.func100 rfl #[.string a0, .int .i64 0, .int .i64 4] rfl ?_; (with_reducible refine (spec_NumAt.calls k a0 0 4 t188 true _ A2.out).mono ?_); rintro e w' ⟨rfl, ⟨nd, rfl⟩⟩; refine ⟨_, rfl, ?_⟩) | (go_at_call 101; (with_reducible refine (spec_AddressWord.calls k t188 t190 _ A4.out).mono ?_); rintro e w7 ⟨rfl, hb⟩; replace HB := Am (bq zB hb); (try clear hb)))
   go_ret2
   exact ⟨zR, zB⟩
 ·replace c3 := Bool.eq_false_iff.mpr c3
  subst c3
  have H1 : (some (0, false)) = some (r1, r2) := by rw [if_neg (show ¬ (false = true) by decide)] at H; exact H
  clear H
  have H := H1
  clear H1
  simp only [Option.some.injEq, Prod.mk.injEq] at H
  obtain ⟨rfl, rfl⟩ := H
  go_enter Try.func56, Try.ntmps56
  go_wp2_with (first | ((with_reducible refine gate_callee (f := 100) rfl ?_); refine zC (some 8) rfl rfl Try.func100 rfl #[.string a0, .int .i64 0, .int .i64 4] rfl ?_; (with_reducible refine (spec_NumAt.calls k a0 0 4 t188 false _ A2.out).mono ?_); rintro e w' ⟨rfl, ⟨nd, rfl⟩⟩; refine ⟨_, rfl, ?_⟩))
  go_ret2
  exact ⟨zR, zB⟩

end Go.Proofs.Ytconffflmbakgaa.QFnExactMaskedImage
