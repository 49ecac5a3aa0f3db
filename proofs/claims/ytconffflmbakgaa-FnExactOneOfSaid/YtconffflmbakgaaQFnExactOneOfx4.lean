/- Go functions as Lean functions, and their contracts. Own text: written by wip/gen/pr.py (a turned copy of the print). -/
import Derived.Test.YtconffflmbakgaaQFnExactOneOfx0
import Derived.Test.YtconffflmbakgaaQFnExactOneOfx1
namespace Go.Proofs.Ytconffflmbakgaa.QFnExactOneOf
open Go.RowKit Go.Proofs.YtconffflmbakgaaW.PrintWords Go.Proofs.YtconffflmbakgaaW.PrintLast Go.Proofs.YtconffflmbakgaaW.PrintMore
attribute [local go_sem] max2_int min2_int max_two min_two max_three min_three max_four min_four   -- for this text's walks alone
open Go.Proofs.YtconffflmbakgaaW.PrintWords renaming below_alloc → ba, pw_below_drewN → bn, below_drew1 → be, below_set → bs, blk_drewN → kn, blk_drew → ke, blk_alloc → ka, blk_below → kb, blk_frozen → kf, blk_cell → kc, below_step → bq, below_size → bz, blk_lt → kl
open Go.Proofs.YtconffflmbakgaaW.PrintWords.Aside0 renaming mk → Am
set_option linter.unusedVariables false
set_option linter.unusedSimpArgs false

attribute [local go_sem high] eqA176
theorem cl4 {w w2 : World} {a : Addr} {v : Value} (h : Aside0 (Below w.heap.size w w2)) (e : w.cell? a = some v) : w2.cell? a = some v := (h.out.cell (World.block_lt_of_cell? w _ e)).trans e
def o4b0 (p0 : Option Addr) (p1 p2 : Nat) : Obj := .cells #[.slice p0 p1 p2] 117 (0, 0)
/-! ### spec_SameView: function 73 -/
def spec_SameView.l0 : Nat → Int → List (S176) → List (S176) → Option (Bool)
 | 0, _, _, _ => none
 | k + 1, x5, x139000, x140000 => if x5 < (x139000.length : Int) then (if 0 ≤ x5 then (if x5 < (x140000.length : Int) then (if (!((((rd_T176 x139000 x5).f0).toList) == (((rd_T176 x140000 x5).f0).toList)) || (!(((rd_T176 x139000 x5).f1) == ((rd_T176 x140000 x5).f1)) || (!((((rd_T176 x139000 x5).f2).toList) == (((rd_T176 x140000 x5).f2).toList))))) = true then (some false) else (spec_SameView.l0 k (wrap64 (x5 + 1)) x139000 x140000)) else (none)) else (none)) else (some true)
def spec_SameView.f (k : Nat) (l0_0 : List (S176)) (l1_0 : List (S176)) : Option (Bool) := if (l0_0.length : Int) = (l1_0.length : Int) then (spec_SameView.l0 k 0 l0_0 l1_0) else (some false)
theorem spec_SameView.mono_l : ∀ k, (∀ y0 y1 y2, LeO (spec_SameView.l0 k y0 y1 y2) (spec_SameView.l0 (k + 1) y0 y1 y2))
 | 0 => fun _ _ _ r h => by simp [spec_SameView.l0] at h
 | k + 1 => by
  have ih0 := spec_SameView.mono_l k
  ·intro y0 y1 y2
   unfold spec_SameView.l0
   repeat' first
   | (with_reducible exact ih0 _ _ _)
   | (with_reducible exact LeO.refl _)
   | (with_reducible exact LeO.none _)
   | (with_reducible refine LeO.ite ?_ ?_)
   | (with_reducible refine LeO.bind ?_ (fun _ => ?_))
   | exact ih0 _ _ _
   | exact LeO.none _
   | refine LeO.ite ?_ ?_
   | refine LeO.bind ?_ (fun _ => ?_)
theorem spec_SameView.mono : ∀ a0 a1 k, LeO (spec_SameView.f k a0 a1) (spec_SameView.f (k + 1) a0 a1) := by
 intro a0 a1 k
 have ih0 := spec_SameView.mono_l k
 unfold spec_SameView.f
 repeat' first
   | (with_reducible exact ih0 _ _ _)
   | (with_reducible exact LeO.refl _)
   | (with_reducible exact LeO.none _)
   | (with_reducible refine LeO.ite ?_ ?_)
   | (with_reducible refine LeO.bind ?_ (fun _ => ?_))
   | exact ih0 _ _ _
   | exact LeO.none _
   | refine LeO.ite ?_ ?_
   | refine LeO.bind ?_ (fun _ => ?_)
set_option maxHeartbeats 8000000 in
set_option maxRecDepth 100000 in
theorem spec_SameView.calls (k : Nat) (A0_0 : Option Addr) (c0_0 : Nat) (l0_0 : List (S176)) (A1_0 : Option Addr) (c1_0 : Nat) (l1_0 : List (S176)) (r : Bool) (w : World) (hr0_0 : Kd.C k176 w A0_0 l0_0.length l0_0) (hc0_0 : l0_0.length ≤ c0_0) (hr1_0 : Kd.C k176 w A1_0 l1_0.length l1_0) (hc1_0 : l1_0.length ≤ c1_0) (h : spec_SameView.f k l0_0 l1_0 = some r) :
  Calls Try.prog 73 #[.agg #[.slice A0_0 l0_0.length c0_0], .agg #[.slice A1_0 l1_0.length c1_0]] w fun e w' => e = .returned (.bool r) ∧ Below w.heap.size w w' := by
 have hu117 := Try.underlying117
 have hu176 := Try.underlying176
 have HR0_0 := Am hr0_0
 have HC0_0 := Am hc0_0
 clear hr0_0 hc0_0
 have HR1_0 := Am hr1_0
 have HC1_0 := Am hc1_0
 clear hr1_0 hc1_0
 have HB := Am (Below.refl w.heap.size w)
 have H : (if (l0_0.length : Int) = (l1_0.length : Int) then (spec_SameView.l0 k 0 l0_0 l1_0) else (some false)) = some r := h
 clear h
 by_cases c3 : (l0_0.length : Int) = (l1_0.length : Int)
 ·rw [if_pos c3] at H
  have c3b0 : ((l0_0.length : Int) == (l1_0.length : Int)) = true := beq_iff_eq.mpr c3
  have c3b1 : ((l0_0.length : Int) != (l1_0.length : Int)) = false := bne_eq_false_iff_eq.mpr c3
  have c3b2 : (l0_0.length == l1_0.length) = true := by first | simpa using c3 | (simp at c3 ⊢; omega)
  clear c3
  have H' := Am H
  clear H
  go_enter Try.func73, Try.ntmps73
  go_wp2_with (first | ((with_reducible refine gate_dst (N := 2) rfl ?_); refine box_event ?hg (N := 2) ?hd (cs := #[.slice A0_0 l0_0.length c0_0]) (t := 117) ?hr ?_; (case hd => rfl); (case hg => rfl); (case hr => first | (go_simp; done) | (go_simp; rfl)); intro gb138 hg w4 hbox hb; have BK138 := Am (hbox); have GW138 := Am ((by rw [hg]; exact (bz zB) : w.heap.size ≤ gb138)); have GE138 := Am ((by rw [hg]; exact (bz zB) : w.heap.size ≤ gb138)); replace HB := Am (bq zB hb); clear hb hbox hg) | ((with_reducible refine gate_dst (N := 3) rfl ?_); refine box_event ?hg (N := 3) ?hd (cs := #[.slice A1_0 l1_0.length c1_0]) (t := 117) ?hr ?_; (case hd => rfl); (case hg => rfl); (case hr => first | (go_simp; done) | (go_simp; rfl)); intro gb139 hg w5 hbox hb; have n0_ := Am (zK BK138 hb); have n1_ := Am (bq zG hb); have n2_ := Am (hbox); have n3_ := Am ((by rw [hg]; exact (bz zG) : w.heap.size ≤ gb139)); have n4_ := Am ((by rw [hg]; exact (bz zG) : w.heap.size ≤ gb139)); have n5_ := Am ((by rw [hg]; exact Nat.ne_of_lt (zL BK138) : gb138 ≠ gb139)); have n6_ := Am ((by rw [hg]; exact Nat.ne_of_gt (zL BK138) : gb139 ≠ gb138)); clear BK138; clear HB; have BK138 := n0_; have HB := n1_; have BK139 := n2_; have GW139 := n3_; have GE139 := n4_; have NB138_139 := n5_; have NB139_138 := n6_; clear n0_ n1_ n2_ n3_ n4_ n5_ n6_; clear hb hbox hg; have hnb6 := NB138_139.out; have hnc6 := NB139_138.out; have hcz7_0 : w5.cell? ⟨gb138, 0, none⟩ = some (.slice A0_0 l0_0.length c0_0) := (kc BK138.out 0).trans rfl; have hfz7_0 := kf BK138.out; have hcz8_0 : w5.cell? ⟨gb139, 0, none⟩ = some (.slice A1_0 l1_0.length c1_0) := (kc BK139.out 0).trans rfl; have hfz8_0 := kf BK139.out))
  repeat (go_quiet (first | ((with_reducible refine gate_dst (N := 2) rfl ?_); refine box_event ?hg (N := 2) ?hd (cs := #[.slice A0_0 l0_0.length c0_0]) (t := 117) ?hr ?_; (case hd => rfl); (case hg => rfl); (case hr => first | (go_simp; done) | (go_simp; rfl)); intro gb138 hg w4 hbox hb; have BK138 := Am (hbox); have GW138 := Am ((by rw [hg]; exact (bz zB) : w.heap.size ≤ gb138)); have GE138 := Am ((by rw [hg]; exact (bz zB) : w.heap.size ≤ gb138)); replace HB := Am (bq zB hb); clear hb hbox hg) | ((with_reducible refine gate_dst (N := 3) rfl ?_); refine box_event ?hg (N := 3) ?hd (cs := #[.slice A1_0 l1_0.length c1_0]) (t := 117) ?hr ?_; (case hd => rfl); (case hg => rfl); (case hr => first | (go_simp; done) | (go_simp; rfl)); intro gb139 hg w5 hbox hb; have n0_ := Am (zK BK138 hb); have n1_ := Am (bq zG hb); have n2_ := Am (hbox); have n3_ := Am ((by rw [hg]; exact (bz zG) : w.heap.size ≤ gb139)); have n4_ := Am ((by rw [hg]; exact (bz zG) : w.heap.size ≤ gb139)); have n5_ := Am ((by rw [hg]; exact Nat.ne_of_lt (zL BK138) : gb138 ≠ gb139)); have n6_ := Am ((by rw [hg]; exact Nat.ne_of_gt (zL BK138) : gb139 ≠ gb138)); clear BK138; clear HB; have BK138 := n0_; have HB := n1_; have BK139 := n2_; have GW139 := n3_; have GE139 := n4_; have NB138_139 := n5_; have NB139_138 := n6_; clear n0_ n1_ n2_ n3_ n4_ n5_ n6_; clear hb hbox hg; have hnb6 := NB138_139.out; have hnc6 := NB139_138.out; have hcz7_0 : w5.cell? ⟨gb138, 0, none⟩ = some (.slice A0_0 l0_0.length c0_0) := (kc BK138.out 0).trans rfl; have hfz7_0 := kf BK138.out; have hcz8_0 : w5.cell? ⟨gb139, 0, none⟩ = some (.slice A1_0 l1_0.length c1_0) := (kc BK139.out 0).trans rfl; have hfz8_0 := kf BK139.out)); try go_wp2_with (first | ((with_reducible refine gate_dst (N := 2) rfl ?_); refine box_event ?hg (N := 2) ?hd (cs := #[.slice A0_0 l0_0.length c0_0]) (t := 117) ?hr ?_; (case hd => rfl); (case hg => rfl); (case hr => first | (go_simp; done) | (go_simp; rfl)); intro gb138 hg w4 hbox hb; have BK138 := Am (hbox); have GW138 := Am ((by rw [hg]; exact (bz zB) : w.heap.size ≤ gb138)); have GE138 := Am ((by rw [hg]; exact (bz zB) : w.heap.size ≤ gb138)); replace HB := Am (bq zB hb); clear hb hbox hg) | ((with_reducible refine gate_dst (N := 3) rfl ?_); refine box_event ?hg (N := 3) ?hd (cs := #[.slice A1_0 l1_0.length c1_0]) (t := 117) ?hr ?_; (case hd => rfl); (case hg => rfl); (case hr => first | (go_simp; done) | (go_simp; rfl)); intro gb139 hg w5 hbox hb; have n0_ := Am (zK BK138 hb); have n1_ := Am (bq zG hb); have n2_ := Am (hbox); have n3_ := Am ((by rw [hg]; exact (bz zG) : w.heap.size ≤ gb139)); have n4_ := Am ((by rw [hg]; exact (bz zG) : w.heap.size ≤ gb139)); have n5_ := Am ((by rw [hg]; exact Nat.ne_of_lt (zL BK138) : gb138 ≠ gb139)); have n6_ := Am ((by rw [hg]; exact Nat.ne_of_gt (zL BK138) : gb139 ≠ gb138)); clear BK138; clear HB; have BK138 := n0_; have HB := n1_; have BK139 := n2_; have GW139 := n3_; have GE139 := n4_; have NB138_139 := n5_; have NB139_138 := n6_; clear n0_ n1_ n2_ n3_ n4_ n5_ n6_; clear hb hbox hg; have hnb6 := NB138_139.out; have hnc6 := NB139_138.out; have hcz7_0 : w5.cell? ⟨gb138, 0, none⟩ = some (.slice A0_0 l0_0.length c0_0) := (kc BK138.out 0).trans rfl; have hfz7_0 := kf BK138.out; have hcz8_0 : w5.cell? ⟨gb139, 0, none⟩ = some (.slice A1_0 l1_0.length c1_0) := (kc BK139.out 0).trans rfl; have hfz8_0 := kf BK139.out)))
  go_loopg [5] k (fun kq v5 w' => ∃ (x5_1 : Int), v5 = .int .i64 x5_1 ∧ Aside0 (spec_SameView.l0 kq x5_1 l0_0 l1_0 = some r) ∧ Aside0 (kq ≤ k) ∧ Aside0 (w'.heap[gb138]? = some (.cells #[(.slice A0_0 l0_0.length c0_0)] 117 (0, 0))) ∧ Aside0 (w'.heap[gb139]? = some (.cells #[(.slice A1_0 l1_0.length c1_0)] 117 (0, 0))) ∧ Aside0 (Below w.heap.size w w'))
  case atStart => exact ⟨(0), (by first | rfl | (simp; done) | (simp [*]; done)), H', ⟨Nat.le_refl _⟩, ⟨by (with_reducible repeat (first | refine kn ?_ _ | refine ke ?_ | refine ka ?_ _)); exact BK138.out⟩, ⟨by (with_reducible repeat (first | refine kn ?_ _ | refine ke ?_ | refine ka ?_ _)); exact BK139.out⟩, ⟨zG⟩⟩
  case round =>
   clear H'
   try clear c1; try clear p2; try clear c3; try clear c3b0; try clear c3b1; try clear c3b2; try clear c6; try clear c7; try clear hcz7_0; try clear hcz8_0; try clear hfz7_0; try clear hfz8_0
   obtain ⟨x5_1, rfl, HA, HK1, BK138, BK139, HB⟩ := hrel
   cases gk with
   | zero => exact absurd HA.out (by simp [spec_SameView.l0])
   | succ k1 =>
    have H := HA.out
    clear HA
    simp only [spec_SameView.l0] at H
    by_cases c9 : x5_1 < (l0_0.length : Int)
    ·rw [if_pos c9] at H
     have c9b0 : decide (x5_1 < (l0_0.length : Int)) = true := decide_eq_true c9
     clear c9
     by_cases c10 : 0 ≤ x5_1
     ·rw [if_pos c10] at H
      have c10b0 : decide (0 ≤ x5_1) = true := decide_eq_true c10
      clear c10
      by_cases c11 : x5_1 < (l1_0.length : Int)
      ·rw [if_pos c11] at H
       have c11b0 : decide (x5_1 < (l1_0.length : Int)) = true := decide_eq_true c11
       clear c11
       by_cases c12 : (!((((rd_T176 l0_0 x5_1).f0).toList) == (((rd_T176 l1_0 x5_1).f0).toList)) || (!(((rd_T176 l0_0 x5_1).f1) == ((rd_T176 l1_0 x5_1).f1)) || (!((((rd_T176 l0_0 x5_1).f2).toList) == (((rd_T176 l1_0 x5_1).f2).toList))))) = true
       ·rw [if_pos c12] at H
        have c12b0 : (!((((rd_T176 l0_0 x5_1).f0).toList) == (((rd_T176 l1_0 x5_1).f0).toList)) || (!(((rd_T176 l0_0 x5_1).f1) == ((rd_T176 l1_0 x5_1).f1)) || (!((((rd_T176 l0_0 x5_1).f2).toList) == (((rd_T176 l1_0 x5_1).f2).toList))))) = true := c12
        clear c12
        obtain rfl := Option.some.inj H
        have hnb13 := NB138_139.out
        have hnc13 := NB139_138.out
        have hcz14_0 : wr.cell? ⟨gb138, 0, none⟩ = some (.slice A0_0 l0_0.length c0_0) := (kc BK138.out 0).trans rfl
        have hfz14_0 := kf BK138.out
        have p140 : 0 ≤ (x5_1 : Int) := of_decide_eq_true (by first | (with_reducible assumption) | assumption)
        have q140 : x5_1 < (l0_0.length : Int) := of_decide_eq_true (by first | (with_reducible assumption) | assumption)
        obtain ⟨ad140, e140, hx140_0, hx140_1, hx140_2⟩ := at_T176 HR0_0.out x5_1 p140 q140
        cases e140
        replace hx140_0 := cl4 HB hx140_0
        replace hx140_1 := cl4 HB hx140_1
        replace hx140_2 := cl4 HB hx140_2
        replace p140 := eq_true p140
        replace q140 := eq_true q140
        have hcz15_0 : wr.cell? ⟨gb139, 0, none⟩ = some (.slice A1_0 l1_0.length c1_0) := (kc BK139.out 0).trans rfl
        have hfz15_0 := kf BK139.out
        have p141 : 0 ≤ (x5_1 : Int) := of_decide_eq_true (by first | (with_reducible assumption) | assumption)
        have q141 : x5_1 < (l1_0.length : Int) := of_decide_eq_true (by first | (with_reducible assumption) | assumption)
        obtain ⟨ad141, e141, hx141_0, hx141_1, hx141_2⟩ := at_T176 HR1_0.out x5_1 p141 q141
        cases e141
        replace hx141_0 := cl4 HB hx141_0
        replace hx141_1 := cl4 HB hx141_1
        replace hx141_2 := cl4 HB hx141_2
        replace p141 := eq_true p141
        replace q141 := eq_true q141
        go_wp2
        repeat (go_quiet (fail); try go_wp2)
        go_ret
        exact ⟨zR, zG⟩
       ·rw [if_neg c12] at H
        have c12b0 : (!((((rd_T176 l0_0 x5_1).f0).toList) == (((rd_T176 l1_0 x5_1).f0).toList)) || (!(((rd_T176 l0_0 x5_1).f1) == ((rd_T176 l1_0 x5_1).f1)) || (!((((rd_T176 l0_0 x5_1).f2).toList) == (((rd_T176 l1_0 x5_1).f2).toList))))) = false := by simpa using c12
        clear c12
        have H' := Am H
        clear H
        have hnb16 := NB138_139.out
        have hnc16 := NB139_138.out
        have hcz17_0 : wr.cell? ⟨gb138, 0, none⟩ = some (.slice A0_0 l0_0.length c0_0) := (kc BK138.out 0).trans rfl
        have hfz17_0 := kf BK138.out
        have p140 : 0 ≤ (x5_1 : Int) := of_decide_eq_true (by first | (with_reducible assumption) | assumption)
        have q140 : x5_1 < (l0_0.length : Int) := of_decide_eq_true (by first | (with_reducible assumption) | assumption)
        obtain ⟨ad140, e140, hx140_0, hx140_1, hx140_2⟩ := at_T176 HR0_0.out x5_1 p140 q140
        cases e140
        replace hx140_0 := cl4 HB hx140_0
        replace hx140_1 := cl4 HB hx140_1
        replace hx140_2 := cl4 HB hx140_2
        replace p140 := eq_true p140
        replace q140 := eq_true q140
        have hcz18_0 : wr.cell? ⟨gb139, 0, none⟩ = some (.slice A1_0 l1_0.length c1_0) := (kc BK139.out 0).trans rfl
        have hfz18_0 := kf BK139.out
        have p141 : 0 ≤ (x5_1 : Int) := of_decide_eq_true (by first | (with_reducible assumption) | assumption)
        have q141 : x5_1 < (l1_0.length : Int) := of_decide_eq_true (by first | (with_reducible assumption) | assumption)
        obtain ⟨ad141, e141, hx141_0, hx141_1, hx141_2⟩ := at_T176 HR1_0.out x5_1 p141 q141
        cases e141
        replace hx141_0 := cl4 HB hx141_0
        replace hx141_1 := cl4 HB hx141_1
        replace hx141_2 := cl4 HB hx141_2
        replace p141 := eq_true p141
        replace q141 := eq_true q141
        go_wp2
        repeat (go_quiet (fail); try go_wp2)
        go_roundg k1
        case measure => have := HK1.out; omega
        case rel => exact ⟨(wrap64 (x5_1 + 1)), (by first | rfl | (simp; done) | (simp [*]; done)), H', ⟨by have := HK1.out; omega⟩, ⟨by (with_reducible repeat (first | refine kn ?_ _ | refine ke ?_ | refine ka ?_ _)); exact BK138.out⟩, ⟨by (with_reducible repeat (first | refine kn ?_ _ | refine ke ?_ | refine ka ?_ _)); exact BK139.out⟩, ⟨zG⟩⟩
      ·rw [if_neg c11] at H
       exact absurd H (by simp)
     ·rw [if_neg c10] at H
      exact absurd H (by simp)
    ·rw [if_neg c9] at H
     have c9b0 : decide (x5_1 < (l0_0.length : Int)) = false := decide_eq_false c9
     clear c9
     obtain rfl := Option.some.inj H
     have hnb19 := NB138_139.out
     have hnc19 := NB139_138.out
     have hcz20_0 : wr.cell? ⟨gb138, 0, none⟩ = some (.slice A0_0 l0_0.length c0_0) := (kc BK138.out 0).trans rfl
     have hfz20_0 := kf BK138.out
     go_wp2
     repeat (go_quiet (fail); try go_wp2)
     go_ret
     exact ⟨zR, zG⟩
 ·rw [if_neg c3] at H
  have c3b0 : ((l0_0.length : Int) == (l1_0.length : Int)) = false := beq_eq_false_iff_ne.mpr c3
  have c3b1 : ((l0_0.length : Int) != (l1_0.length : Int)) = true := bne_iff_ne.mpr c3
  have c3b2 : (l0_0.length == l1_0.length) = false := by first | simpa using c3 | (simp at c3 ⊢; omega)
  obtain rfl := Option.some.inj H
  go_enter Try.func73, Try.ntmps73
  go_wp2_with (first | ((with_reducible refine gate_dst (N := 2) rfl ?_); refine box_event ?hg (N := 2) ?hd (cs := #[.slice A0_0 l0_0.length c0_0]) (t := 117) ?hr ?_; (case hd => rfl); (case hg => rfl); (case hr => first | (go_simp; done) | (go_simp; rfl)); intro gb138 hg w21 hbox hb; have BK138 := Am (hbox); have GW138 := Am ((by rw [hg]; exact (bz zB) : w.heap.size ≤ gb138)); have GE138 := Am ((by rw [hg]; exact (bz zB) : w.heap.size ≤ gb138)); replace HB := Am (bq zB hb); clear hb hbox hg) | ((with_reducible refine gate_dst (N := 3) rfl ?_); refine box_event ?hg (N := 3) ?hd (cs := #[.slice A1_0 l1_0.length c1_0]) (t := 117) ?hr ?_; (case hd => rfl); (case hg => rfl); (case hr => first | (go_simp; done) | (go_simp; rfl)); intro gb139 hg w22 hbox hb; have n0_ := Am (zK BK138 hb); have n1_ := Am (bq zG hb); have n2_ := Am (hbox); have n3_ := Am ((by rw [hg]; exact (bz zG) : w.heap.size ≤ gb139)); have n4_ := Am ((by rw [hg]; exact (bz zG) : w.heap.size ≤ gb139)); have n5_ := Am ((by rw [hg]; exact Nat.ne_of_lt (zL BK138) : gb138 ≠ gb139)); have n6_ := Am ((by rw [hg]; exact Nat.ne_of_gt (zL BK138) : gb139 ≠ gb138)); clear BK138; clear HB; have BK138 := n0_; have HB := n1_; have BK139 := n2_; have GW139 := n3_; have GE139 := n4_; have NB138_139 := n5_; have NB139_138 := n6_; clear n0_ n1_ n2_ n3_ n4_ n5_ n6_; clear hb hbox hg; have hnb23 := NB138_139.out; have hnc23 := NB139_138.out; have hcz24_0 : w22.cell? ⟨gb138, 0, none⟩ = some (.slice A0_0 l0_0.length c0_0) := (kc BK138.out 0).trans rfl; have hfz24_0 := kf BK138.out; have hcz25_0 : w22.cell? ⟨gb139, 0, none⟩ = some (.slice A1_0 l1_0.length c1_0) := (kc BK139.out 0).trans rfl; have hfz25_0 := kf BK139.out))
  repeat (go_quiet (first | ((with_reducible refine gate_dst (N := 2) rfl ?_); refine box_event ?hg (N := 2) ?hd (cs := #[.slice A0_0 l0_0.length c0_0]) (t := 117) ?hr ?_; (case hd => rfl); (case hg => rfl); (case hr => first | (go_simp; done) | (go_simp; rfl)); intro gb138 hg w21 hbox hb; have BK138 := Am (hbox); have GW138 := Am ((by rw [hg]; exact (bz zB) : w.heap.size ≤ gb138)); have GE138 := Am ((by rw [hg]; exact (bz zB) : w.heap.size ≤ gb138)); replace HB := Am (bq zB hb); clear hb hbox hg) | ((with_reducible refine gate_dst (N := 3) rfl ?_); refine box_event ?hg (N := 3) ?hd (cs := #[.slice A1_0 l1_0.length c1_0]) (t := 117) ?hr ?_; (case hd => rfl); (case hg => rfl); (case hr => first | (go_simp; done) | (go_simp; rfl)); intro gb139 hg w22 hbox hb; have n0_ := Am (zK BK138 hb); have n1_ := Am (bq zG hb); have n2_ := Am (hbox); have n3_ := Am ((by rw [hg]; exact (bz zG) : w.heap.size ≤ gb139)); have n4_ := Am ((by rw [hg]; exact (bz zG) : w.heap.size ≤ gb139)); have n5_ := Am ((by rw [hg]; exact Nat.ne_of_lt (zL BK138) : gb138 ≠ gb139)); have n6_ := Am ((by rw [hg]; exact Nat.ne_of_gt (zL BK138) : gb139 ≠ gb138)); clear BK138; clear HB; have BK138 := n0_; have HB := n1_; have BK139 := n2_; have GW139 := n3_; have GE139 := n4_; have NB138_139 := n5_; have NB139_138 := n6_; clear n0_ n1_ n2_ n3_ n4_ n5_ n6_; clear hb hbox hg; have hnb23 := NB138_139.out; have hnc23 := NB139_138.out; have hcz24_0 : w22.cell? ⟨gb138, 0, none⟩ = some (.slice A0_0 l0_0.length c0_0) := (kc BK138.out 0).trans rfl; have hfz24_0 := kf BK138.out; have hcz25_0 : w22.cell? ⟨gb139, 0, none⟩ = some (.slice A1_0 l1_0.length c1_0) := (kc BK139.out 0).trans rfl; have hfz25_0 := kf BK139.out)); try go_wp2_with (first | ((with_reducible refine gate_dst (N := 2) rfl ?_); refine box_event ?hg (N := 2) ?hd (cs := #[.slice A0_0 l0_0.length c0_0]) (t := 117) ?hr ?_; (case hd => rfl); (case hg => rfl); (case hr => first | (go_simp; done) | (go_simp; rfl)); intro gb138 hg w21 hbox hb; have BK138 := Am (hbox); have GW138 := Am ((by rw [hg]; exact (bz zB) : w.heap.size ≤ gb138)); have GE138 := Am ((by rw [hg]; exact (bz zB) : w.heap.size ≤ gb138)); replace HB := Am (bq zB hb); clear hb hbox hg) | ((with_reducible refine gate_dst (N := 3) rfl ?_); refine box_event ?hg (N := 3) ?hd (cs := #[.slice A1_0 l1_0.length c1_0]) (t := 117) ?hr ?_; (case hd => rfl); (case hg => rfl); (case hr => first | (go_simp; done) | (go_simp; rfl)); intro gb139 hg w22 hbox hb; have n0_ := Am (zK BK138 hb); have n1_ := Am (bq zG hb); have n2_ := Am (hbox); have n3_ := Am ((by rw [hg]; exact (bz zG) : w.heap.size ≤ gb139)); have n4_ := Am ((by rw [hg]; exact (bz zG) : w.heap.size ≤ gb139)); have n5_ := Am ((by rw [hg]; exact Nat.ne_of_lt (zL BK138) : gb138 ≠ gb139)); have n6_ := Am ((by rw [hg]; exact Nat.ne_of_gt (zL BK138) : gb139 ≠ gb138)); clear BK138; clear HB; have BK138 := n0_; have HB := n1_; have BK139 := n2_; have GW139 := n3_; have GE139 := n4_; have NB138_139 := n5_; have NB139_138 := n6_; clear n0_ n1_ n2_ n3_ n4_ n5_ n6_; clear hb hbox hg; have hnb23 := NB138_139.out; have hnc23 := NB139_138.out; have hcz24_0 : w22.cell? ⟨gb138, 0, none⟩ = some (.slice A0_0 l0_0.length c0_0) := (kc BK138.out 0).trans rfl; have hfz24_0 := kf BK138.out; have hcz25_0 : w22.cell? ⟨gb139, 0, none⟩ = some (.slice A1_0 l1_0.length c1_0) := (kc BK139.out 0).trans rfl; have hfz25_0 := kf BK139.out)))
  go_ret
  exact ⟨zR, zG⟩

end Go.Proofs.Ytconffflmbakgaa.QFnExactOneOf
