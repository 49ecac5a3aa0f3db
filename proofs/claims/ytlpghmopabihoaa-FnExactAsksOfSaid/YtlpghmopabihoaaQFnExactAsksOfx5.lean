/- Go functions as Lean functions, and their contracts. Own text: written by wip/gen/pr.py (a turned copy of the print). -/
import Derived.Test.YtlpghmopabihoaaQFnExactAsksOfx0
namespace Go.Proofs.Ytlpghmopabihoaa.QFnExactAsksOf
open Go.RowKit Go.Proofs.YtlpghmopabihoaaW.PrintWords Go.Proofs.YtlpghmopabihoaaW.PrintLast Go.Proofs.YtlpghmopabihoaaW.PrintMore
attribute [local go_sem] max2_int min2_int max_two min_two max_three min_three max_four min_four   -- for this text's walks alone
open Go.Proofs.YtlpghmopabihoaaW.PrintWords renaming below_alloc → ba, pw_below_drewN → bn, below_drew1 → be, below_set → bs, blk_drewN → kn, blk_drew → ke, blk_alloc → ka, blk_below → kb, blk_frozen → kf, blk_cell → kc, below_step → bq, below_size → bz, blk_lt → kl
open Go.Proofs.YtlpghmopabihoaaW.PrintWords.Aside0 renaming mk → Am
set_option linter.unusedVariables false
set_option linter.unusedSimpArgs false

theorem cl5 {w w2 : World} {a : Addr} {v : Value} (h : Aside0 (Below w.heap.size w w2)) (e : w.cell? a = some v) : w2.cell? a = some v := (h.out.cell (World.block_lt_of_cell? w _ e)).trans e
def o5b0 (p0 : Int) (p1 : ByteArray) (p2 : ByteArray) (p3 : Int) (p4 : Int) (p5 : ByteArray) : Obj := .cells #[.int .i64 p0, .string p1, .string p2, .int .i64 p3, .int .i64 p4, .string p5] 42 (0, 0)
def o5b1 (p0 : Int) (p1 : Int) (p2 : Int) (p3 : ByteArray) (p4 : ByteArray) (p5 : Int) (p6 : Int) (p7 : ByteArray) (p8 : Int) : Obj := .cells #[.int .i64 p0, .int .i64 p1, .int .i64 p2, .string p3, .string p4, .int .i64 p5, .int .i64 p6, .string p7, .int .i64 p8] 123 (0, 0)
/-! ### laws_eqAsk: function 84 -/
def laws_eqAsk.f (a0_0 : Int) (a0_1 : ByteArray) (a0_2 : ByteArray) (a0_3 : Int) (a0_4 : Int) (a0_5 : ByteArray) (a1_0 : Int) (a1_1 : ByteArray) (a1_2 : ByteArray) (a1_3 : Int) (a1_4 : Int) (a1_5 : ByteArray) : Option (Bool) := if a0_0 = a1_0 then (if a0_1.toList = a1_1.toList then (if a0_2.toList = a1_2.toList then (if a0_3 = a1_3 then (if a0_4 = a1_4 then (if a0_5.toList = a1_5.toList then (some true) else (some false)) else (some false)) else (some false)) else (some false)) else (some false)) else (some false)
set_option maxHeartbeats 8000000 in
set_option maxRecDepth 100000 in
theorem laws_eqAsk.calls (a0_0 : Int) (a0_1 : ByteArray) (a0_2 : ByteArray) (a0_3 : Int) (a0_4 : Int) (a0_5 : ByteArray) (a1_0 : Int) (a1_1 : ByteArray) (a1_2 : ByteArray) (a1_3 : Int) (a1_4 : Int) (a1_5 : ByteArray) (r : Bool) (w : World) (h : laws_eqAsk.f a0_0 a0_1 a0_2 a0_3 a0_4 a0_5 a1_0 a1_1 a1_2 a1_3 a1_4 a1_5 = some r) :
  Calls Try.prog 84 #[.agg #[.int .i64 a0_0, .string a0_1, .string a0_2, .int .i64 a0_3, .int .i64 a0_4, .string a0_5], .agg #[.int .i64 a1_0, .string a1_1, .string a1_2, .int .i64 a1_3, .int .i64 a1_4, .string a1_5]] w fun e w' => e = .returned (.bool r) ∧ Below w.heap.size w w' := by
 have hu42 := Try.underlying42
 have HB := Am (Below.refl w.heap.size w)
 have H : (if a0_0 = a1_0 then (if a0_1.toList = a1_1.toList then (if a0_2.toList = a1_2.toList then (if a0_3 = a1_3 then (if a0_4 = a1_4 then (if a0_5.toList = a1_5.toList then (some true) else (some false)) else (some false)) else (some false)) else (some false)) else (some false)) else (some false)) = some r := h
 clear h
 by_cases c3 : a0_0 = a1_0
 ·rw [if_pos c3] at H
  have c3b0 : (a0_0 == a1_0) = true := beq_iff_eq.mpr c3
  have c3b1 : (a0_0 != a1_0) = false := bne_eq_false_iff_eq.mpr c3
  clear c3
  by_cases c4 : a0_1.toList = a1_1.toList
  ·rw [if_pos c4] at H
   have c4b0 : (a0_1.toList == a1_1.toList) = true := beq_iff_eq.mpr c4
   have c4b1 : (a0_1.toList != a1_1.toList) = false := bne_eq_false_iff_eq.mpr c4
   clear c4
   by_cases c5 : a0_2.toList = a1_2.toList
   ·rw [if_pos c5] at H
    have c5b0 : (a0_2.toList == a1_2.toList) = true := beq_iff_eq.mpr c5
    have c5b1 : (a0_2.toList != a1_2.toList) = false := bne_eq_false_iff_eq.mpr c5
    clear c5
    by_cases c6 : a0_3 = a1_3
    ·rw [if_pos c6] at H
     have c6b0 : (a0_3 == a1_3) = true := beq_iff_eq.mpr c6
     have c6b1 : (a0_3 != a1_3) = false := bne_eq_false_iff_eq.mpr c6
     clear c6
     by_cases c7 : a0_4 = a1_4
     ·rw [if_pos c7] at H
      have c7b0 : (a0_4 == a1_4) = true := beq_iff_eq.mpr c7
      have c7b1 : (a0_4 != a1_4) = false := bne_eq_false_iff_eq.mpr c7
      clear c7
      by_cases c8 : a0_5.toList = a1_5.toList
      ·rw [if_pos c8] at H
       have c8b0 : (a0_5.toList == a1_5.toList) = true := beq_iff_eq.mpr c8
       have c8b1 : (a0_5.toList != a1_5.toList) = false := bne_eq_false_iff_eq.mpr c8
       clear c8
       obtain rfl := Option.some.inj H
       go_enter Try.func84, Try.ntmps84
       go_wp2_with (first | ((with_reducible refine gate_dst (N := 2) rfl ?_); refine box_event ?hg (N := 2) ?hd (cs := #[.int .i64 a0_0, .string a0_1, .string a0_2, .int .i64 a0_3, .int .i64 a0_4, .string a0_5]) (t := 42) ?hr ?_; (case hd => rfl); (case hg => rfl); (case hr => first | (go_simp; done) | (go_simp; rfl)); intro gb210 hg w9 hbox hb; have BK210 := Am (hbox); have GW210 := Am ((by rw [hg]; exact (bz (by repeat (first | (with_reducible first | exact HB.out | apply ba | apply bn | apply be) | exact HB.out))) : w.heap.size ≤ gb210)); have GE210 := Am ((by rw [hg]; exact (bz (by repeat (first | (with_reducible first | exact HB.out | apply ba | apply bn | apply be) | exact HB.out))) : w.heap.size ≤ gb210)); replace HB := Am (bq (by repeat (first | (with_reducible first | exact HB.out | apply ba | apply bn | apply be) | exact HB.out)) hb); clear hb hbox hg) | ((with_reducible refine gate_dst (N := 3) rfl ?_); refine box_event ?hg (N := 3) ?hd (cs := #[.int .i64 a1_0, .string a1_1, .string a1_2, .int .i64 a1_3, .int .i64 a1_4, .string a1_5]) (t := 42) ?hr ?_; (case hd => rfl); (case hg => rfl); (case hr => first | (go_simp; done) | (go_simp; rfl)); intro gb211 hg w10 hbox hb; have n0_ := Am (kb (g := gb210) (o := o5b0 a0_0 a0_1 a0_2 a0_3 a0_4 a0_5) (by (with_reducible repeat (first | refine kn ?_ _ | refine ke ?_ | refine ka ?_ _)); exact BK210.out) hb); have n1_ := Am (bq (by repeat (first | (with_reducible first | exact HB.out | apply ba | apply bn | apply be | refine bs ?_ GE210.out) | exact HB.out)) hb); have n2_ := Am (hbox); have n3_ := Am ((by rw [hg]; exact (bz (by repeat (first | (with_reducible first | exact HB.out | apply ba | apply bn | apply be | refine bs ?_ GE210.out) | exact HB.out))) : w.heap.size ≤ gb211)); have n4_ := Am ((by rw [hg]; exact (bz (by repeat (first | (with_reducible first | exact HB.out | apply ba | apply bn | apply be | refine bs ?_ GE210.out) | exact HB.out))) : w.heap.size ≤ gb211)); have n5_ := Am ((by rw [hg]; exact Nat.ne_of_lt (kl (g := gb210) (o := o5b0 a0_0 a0_1 a0_2 a0_3 a0_4 a0_5) (by (with_reducible repeat (first | refine kn ?_ _ | refine ke ?_ | refine ka ?_ _)); exact BK210.out)) : gb210 ≠ gb211)); have n6_ := Am ((by rw [hg]; exact Nat.ne_of_gt (kl (g := gb210) (o := o5b0 a0_0 a0_1 a0_2 a0_3 a0_4 a0_5) (by (with_reducible repeat (first | refine kn ?_ _ | refine ke ?_ | refine ka ?_ _)); exact BK210.out)) : gb211 ≠ gb210)); clear BK210; clear HB; have BK210 := n0_; have HB := n1_; have BK211 := n2_; have GW211 := n3_; have GE211 := n4_; have NB210_211 := n5_; have NB211_210 := n6_; clear n0_ n1_ n2_ n3_ n4_ n5_ n6_; clear hb hbox hg; have hnb11 := NB210_211.out; have hnc11 := NB211_210.out; have hcz12_0 : w10.cell? ⟨gb210, 0, none⟩ = some (.int .i64 a0_0) := (kc BK210.out 0).trans rfl; have hcz12_1 : w10.cell? ⟨gb210, 1, none⟩ = some (.string a0_1) := (kc BK210.out 1).trans rfl; have hcz12_2 : w10.cell? ⟨gb210, 2, none⟩ = some (.string a0_2) := (kc BK210.out 2).trans rfl; have hcz12_3 : w10.cell? ⟨gb210, 3, none⟩ = some (.int .i64 a0_3) := (kc BK210.out 3).trans rfl; have hcz12_4 : w10.cell? ⟨gb210, 4, none⟩ = some (.int .i64 a0_4) := (kc BK210.out 4).trans rfl; have hcz12_5 : w10.cell? ⟨gb210, 5, none⟩ = some (.string a0_5) := (kc BK210.out 5).trans rfl; have hfz12_0 := kf BK210.out 0; have hfz12_1 := kf BK210.out 1; have hfz12_2 := kf BK210.out 2; have hfz12_3 := kf BK210.out 3; have hfz12_4 := kf BK210.out 4; have hfz12_5 := kf BK210.out 5; have hcz13_0 : w10.cell? ⟨gb211, 0, none⟩ = some (.int .i64 a1_0) := (kc BK211.out 0).trans rfl; have hcz13_1 : w10.cell? ⟨gb211, 1, none⟩ = some (.string a1_1) := (kc BK211.out 1).trans rfl; have hcz13_2 : w10.cell? ⟨gb211, 2, none⟩ = some (.string a1_2) := (kc BK211.out 2).trans rfl; have hcz13_3 : w10.cell? ⟨gb211, 3, none⟩ = some (.int .i64 a1_3) := (kc BK211.out 3).trans rfl; have hcz13_4 : w10.cell? ⟨gb211, 4, none⟩ = some (.int .i64 a1_4) := (kc BK211.out 4).trans rfl; have hcz13_5 : w10.cell? ⟨gb211, 5, none⟩ = some (.string a1_5) := (kc BK211.out 5).trans rfl; have hfz13_0 := kf BK211.out 0; have hfz13_1 := kf BK211.out 1; have hfz13_2 := kf BK211.out 2; have hfz13_3 := kf BK211.out 3; have hfz13_4 := kf BK211.out 4; have hfz13_5 := kf BK211.out 5))
       go_ret
       exact ⟨by first | rfl | (simp [errW_none, errW_some] <;> rfl) | (simp [*, errW_none, errW_some] <;> rfl), by repeat (first | (with_reducible first | exact HB.out | apply ba | apply bn | apply be | refine bs ?_ GE210.out | refine bs ?_ GE211.out) | exact HB.out)⟩
      ·rw [if_neg c8] at H
       have c8b0 : (a0_5.toList == a1_5.toList) = false := beq_eq_false_iff_ne.mpr c8
       have c8b1 : (a0_5.toList != a1_5.toList) = true := bne_iff_ne.mpr c8
       obtain rfl := Option.some.inj H
       go_enter Try.func84, Try.ntmps84
       go_wp2_with (first | ((with_reducible refine gate_dst (N := 2) rfl ?_); refine box_event ?hg (N := 2) ?hd (cs := #[.int .i64 a0_0, .string a0_1, .string a0_2, .int .i64 a0_3, .int .i64 a0_4, .string a0_5]) (t := 42) ?hr ?_; (case hd => rfl); (case hg => rfl); (case hr => first | (go_simp; done) | (go_simp; rfl)); intro gb210 hg w14 hbox hb; have BK210 := Am (hbox); have GW210 := Am ((by rw [hg]; exact (bz (by repeat (first | (with_reducible first | exact HB.out | apply ba | apply bn | apply be) | exact HB.out))) : w.heap.size ≤ gb210)); have GE210 := Am ((by rw [hg]; exact (bz (by repeat (first | (with_reducible first | exact HB.out | apply ba | apply bn | apply be) | exact HB.out))) : w.heap.size ≤ gb210)); replace HB := Am (bq (by repeat (first | (with_reducible first | exact HB.out | apply ba | apply bn | apply be) | exact HB.out)) hb); clear hb hbox hg) | ((with_reducible refine gate_dst (N := 3) rfl ?_); refine box_event ?hg (N := 3) ?hd (cs := #[.int .i64 a1_0, .string a1_1, .string a1_2, .int .i64 a1_3, .int .i64 a1_4, .string a1_5]) (t := 42) ?hr ?_; (case hd => rfl); (case hg => rfl); (case hr => first | (go_simp; done) | (go_simp; rfl)); intro gb211 hg w15 hbox hb; have n0_ := Am (kb (g := gb210) (o := o5b0 a0_0 a0_1 a0_2 a0_3 a0_4 a0_5) (by (with_reducible repeat (first | refine kn ?_ _ | refine ke ?_ | refine ka ?_ _)); exact BK210.out) hb); have n1_ := Am (bq (by repeat (first | (with_reducible first | exact HB.out | apply ba | apply bn | apply be | refine bs ?_ GE210.out) | exact HB.out)) hb); have n2_ := Am (hbox); have n3_ := Am ((by rw [hg]; exact (bz (by repeat (first | (with_reducible first | exact HB.out | apply ba | apply bn | apply be | refine bs ?_ GE210.out) | exact HB.out))) : w.heap.size ≤ gb211)); have n4_ := Am ((by rw [hg]; exact (bz (by repeat (first | (with_reducible first | exact HB.out | apply ba | apply bn | apply be | refine bs ?_ GE210.out) | exact HB.out))) : w.heap.size ≤ gb211)); have n5_ := Am ((by rw [hg]; exact Nat.ne_of_lt (kl (g := gb210) (o := o5b0 a0_0 a0_1 a0_2 a0_3 a0_4 a0_5) (by (with_reducible repeat (first | refine kn ?_ _ | refine ke ?_ | refine ka ?_ _)); exact BK210.out)) : gb210 ≠ gb211)); have n6_ := Am ((by rw [hg]; exact Nat.ne_of_gt (kl (g := gb210) (o := o5b0 a0_0 a0_1 a0_2 a0_3 a0_4 a0_5) (by (with_reducible repeat (first | refine kn ?_ _ | refine ke ?_ | refine ka ?_ _)); exact BK210.out)) : gb211 ≠ gb210)); clear BK210; clear HB; have BK210 := n0_; have HB := n1_; have BK211 := n2_; have GW211 := n3_; have GE211 := n4_; have NB210_211 := n5_; have NB211_210 := n6_; clear n0_ n1_ n2_ n3_ n4_ n5_ n6_; clear hb hbox hg; have hnb16 := NB210_211.out; have hnc16 := NB211_210.out; have hcz17_0 : w15.cell? ⟨gb210, 0, none⟩ = some (.int .i64 a0_0) := (kc BK210.out 0).trans rfl; have hcz17_1 : w15.cell? ⟨gb210, 1, none⟩ = some (.string a0_1) := (kc BK210.out 1).trans rfl; have hcz17_2 : w15.cell? ⟨gb210, 2, none⟩ = some (.string a0_2) := (kc BK210.out 2).trans rfl; have hcz17_3 : w15.cell? ⟨gb210, 3, none⟩ = some (.int .i64 a0_3) := (kc BK210.out 3).trans rfl; have hcz17_4 : w15.cell? ⟨gb210, 4, none⟩ = some (.int .i64 a0_4) := (kc BK210.out 4).trans rfl; have hcz17_5 : w15.cell? ⟨gb210, 5, none⟩ = some (.string a0_5) := (kc BK210.out 5).trans rfl; have hfz17_0 := kf BK210.out 0; have hfz17_1 := kf BK210.out 1; have hfz17_2 := kf BK210.out 2; have hfz17_3 := kf BK210.out 3; have hfz17_4 := kf BK210.out 4; have hfz17_5 := kf BK210.out 5; have hcz18_0 : w15.cell? ⟨gb211, 0, none⟩ = some (.int .i64 a1_0) := (kc BK211.out 0).trans rfl; have hcz18_1 : w15.cell? ⟨gb211, 1, none⟩ = some (.string a1_1) := (kc BK211.out 1).trans rfl; have hcz18_2 : w15.cell? ⟨gb211, 2, none⟩ = some (.string a1_2) := (kc BK211.out 2).trans rfl; have hcz18_3 : w15.cell? ⟨gb211, 3, none⟩ = some (.int .i64 a1_3) := (kc BK211.out 3).trans rfl; have hcz18_4 : w15.cell? ⟨gb211, 4, none⟩ = some (.int .i64 a1_4) := (kc BK211.out 4).trans rfl; have hcz18_5 : w15.cell? ⟨gb211, 5, none⟩ = some (.string a1_5) := (kc BK211.out 5).trans rfl; have hfz18_0 := kf BK211.out 0; have hfz18_1 := kf BK211.out 1; have hfz18_2 := kf BK211.out 2; have hfz18_3 := kf BK211.out 3; have hfz18_4 := kf BK211.out 4; have hfz18_5 := kf BK211.out 5))
       go_ret
       exact ⟨by first | rfl | (simp [errW_none, errW_some] <;> rfl) | (simp [*, errW_none, errW_some] <;> rfl), by repeat (first | (with_reducible first | exact HB.out | apply ba | apply bn | apply be | refine bs ?_ GE210.out | refine bs ?_ GE211.out) | exact HB.out)⟩
     ·rw [if_neg c7] at H
      have c7b0 : (a0_4 == a1_4) = false := beq_eq_false_iff_ne.mpr c7
      have c7b1 : (a0_4 != a1_4) = true := bne_iff_ne.mpr c7
      obtain rfl := Option.some.inj H
      go_enter Try.func84, Try.ntmps84
      go_wp2_with (first | ((with_reducible refine gate_dst (N := 2) rfl ?_); refine box_event ?hg (N := 2) ?hd (cs := #[.int .i64 a0_0, .string a0_1, .string a0_2, .int .i64 a0_3, .int .i64 a0_4, .string a0_5]) (t := 42) ?hr ?_; (case hd => rfl); (case hg => rfl); (case hr => first | (go_simp; done) | (go_simp; rfl)); intro gb210 hg w19 hbox hb; have BK210 := Am (hbox); have GW210 := Am ((by rw [hg]; exact (bz (by repeat (first | (with_reducible first | exact HB.out | apply ba | apply bn | apply be) | exact HB.out))) : w.heap.size ≤ gb210)); have GE210 := Am ((by rw [hg]; exact (bz (by repeat (first | (with_reducible first | exact HB.out | apply ba | apply bn | apply be) | exact HB.out))) : w.heap.size ≤ gb210)); replace HB := Am (bq (by repeat (first | (with_reducible first | exact HB.out | apply ba | apply bn | apply be) | exact HB.out)) hb); clear hb hbox hg) | ((with_reducible refine gate_dst (N := 3) rfl ?_); refine box_event ?hg (N := 3) ?hd (cs := #[.int .i64 a1_0, .string a1_1, .string a1_2, .int .i64 a1_3, .int .i64 a1_4, .string a1_5]) (t := 42) ?hr ?_; (case hd => rfl); (case hg => rfl); (case hr => first | (go_simp; done) | (go_simp; rfl)); intro gb211 hg w20 hbox hb; have n0_ := Am (kb (g := gb210) (o := o5b0 a0_0 a0_1 a0_2 a0_3 a0_4 a0_5) (by (with_reducible repeat (first | refine kn ?_ _ | refine ke ?_ | refine ka ?_ _)); exact BK210.out) hb); have n1_ := Am (bq (by repeat (first | (with_reducible first | exact HB.out | apply ba | apply bn | apply be | refine bs ?_ GE210.out) | exact HB.out)) hb); have n2_ := Am (hbox); have n3_ := Am ((by rw [hg]; exact (bz (by repeat (first | (with_reducible first | exact HB.out | apply ba | apply bn | apply be | refine bs ?_ GE210.out) | exact HB.out))) : w.heap.size ≤ gb211)); have n4_ := Am ((by rw [hg]; exact (bz (by repeat (first | (with_reducible first | exact HB.out | apply ba | apply bn | apply be | refine bs ?_ GE210.out) | exact HB.out))) : w.heap.size ≤ gb211)); have n5_ := Am ((by rw [hg]; exact Nat.ne_of_lt (kl (g := gb210) (o := o5b0 a0_0 a0_1 a0_2 a0_3 a0_4 a0_5) (by (with_reducible repeat (first | refine kn ?_ _ | refine ke ?_ | refine ka ?_ _)); exact BK210.out)) : gb210 ≠ gb211)); have n6_ := Am ((by rw [hg]; exact Nat.ne_of_gt (kl (g := gb210) (o := o5b0 a0_0 a0_1 a0_2 a0_3 a0_4 a0_5) (by (with_reducible repeat (first | refine kn ?_ _ | refine ke ?_ | refine ka ?_ _)); exact BK210.out)) : gb211 ≠ gb210)); clear BK210; clear HB; have BK210 := n0_; have HB := n1_; have BK211 := n2_; have GW211 := n3_; have GE211 := n4_; have NB210_211 := n5_; have NB211_210 := n6_; clear n0_ n1_ n2_ n3_ n4_ n5_ n6_; clear hb hbox hg; have hnb21 := NB210_211.out; have hnc21 := NB211_210.out; have hcz22_0 : w20.cell? ⟨gb210, 0, none⟩ = some (.int .i64 a0_0) := (kc BK210.out 0).trans rfl; have hcz22_1 : w20.cell? ⟨gb210, 1, none⟩ = some (.string a0_1) := (kc BK210.out 1).trans rfl; have hcz22_2 : w20.cell? ⟨gb210, 2, none⟩ = some (.string a0_2) := (kc BK210.out 2).trans rfl; have hcz22_3 : w20.cell? ⟨gb210, 3, none⟩ = some (.int .i64 a0_3) := (kc BK210.out 3).trans rfl; have hcz22_4 : w20.cell? ⟨gb210, 4, none⟩ = some (.int .i64 a0_4) := (kc BK210.out 4).trans rfl; have hcz22_5 : w20.cell? ⟨gb210, 5, none⟩ = some (.string a0_5) := (kc BK210.out 5).trans rfl; have hfz22_0 := kf BK210.out 0; have hfz22_1 := kf BK210.out 1; have hfz22_2 := kf BK210.out 2; have hfz22_3 := kf BK210.out 3; have hfz22_4 := kf BK210.out 4; have hfz22_5 := kf BK210.out 5; have hcz23_0 : w20.cell? ⟨gb211, 0, none⟩ = some (.int .i64 a1_0) := (kc BK211.out 0).trans rfl; have hcz23_1 : w20.cell? ⟨gb211, 1, none⟩ = some (.string a1_1) := (kc BK211.out 1).trans rfl; have hcz23_2 : w20.cell? ⟨gb211, 2, none⟩ = some (.string a1_2) := (kc BK211.out 2).trans rfl; have hcz23_3 : w20.cell? ⟨gb211, 3, none⟩ = some (.int .i64 a1_3) := (kc BK211.out 3).trans rfl; have hcz23_4 : w20.cell? ⟨gb211, 4, none⟩ = some (.int .i64 a1_4) := (kc BK211.out 4).trans rfl; have hcz23_5 : w20.cell? ⟨gb211, 5, none⟩ = some (.string a1_5) := (kc BK211.out 5).trans rfl; have hfz23_0 := kf BK211.out 0; have hfz23_1 := kf BK211.out 1; have hfz23_2 := kf BK211.out 2; have hfz23_3 := kf BK211.out 3; have hfz23_4 := kf BK211.out 4; have hfz23_5 := kf BK211.out 5))
      go_ret
      exact ⟨by first | rfl | (simp [errW_none, errW_some] <;> rfl) | (simp [*, errW_none, errW_some] <;> rfl), by repeat (first | (with_reducible first | exact HB.out | apply ba | apply bn | apply be | refine bs ?_ GE210.out | refine bs ?_ GE211.out) | exact HB.out)⟩
    ·rw [if_neg c6] at H
     have c6b0 : (a0_3 == a1_3) = false := beq_eq_false_iff_ne.mpr c6
     have c6b1 : (a0_3 != a1_3) = true := bne_iff_ne.mpr c6
     obtain rfl := Option.some.inj H
     go_enter Try.func84, Try.ntmps84
     go_wp2_with (first | ((with_reducible refine gate_dst (N := 2) rfl ?_); refine box_event ?hg (N := 2) ?hd (cs := #[.int .i64 a0_0, .string a0_1, .string a0_2, .int .i64 a0_3, .int .i64 a0_4, .string a0_5]) (t := 42) ?hr ?_; (case hd => rfl); (case hg => rfl); (case hr => first | (go_simp; done) | (go_simp; rfl)); intro gb210 hg w24 hbox hb; have BK210 := Am (hbox); have GW210 := Am ((by rw [hg]; exact (bz (by repeat (first | (with_reducible first | exact HB.out | apply ba | apply bn | apply be) | exact HB.out))) : w.heap.size ≤ gb210)); have GE210 := Am ((by rw [hg]; exact (bz (by repeat (first | (with_reducible first | exact HB.out | apply ba | apply bn | apply be) | exact HB.out))) : w.heap.size ≤ gb210)); replace HB := Am (bq (by repeat (first | (with_reducible first | exact HB.out | apply ba | apply bn | apply be) | exact HB.out)) hb); clear hb hbox hg) | ((with_reducible refine gate_dst (N := 3) rfl ?_); refine box_event ?hg (N := 3) ?hd (cs := #[.int .i64 a1_0, .string a1_1, .string a1_2, .int .i64 a1_3, .int .i64 a1_4, .string a1_5]) (t := 42) ?hr ?_; (case hd => rfl); (case hg => rfl); (case hr => first | (go_simp; done) | (go_simp; rfl)); intro gb211 hg w25 hbox hb; have n0_ := Am (kb (g := gb210) (o := o5b0 a0_0 a0_1 a0_2 a0_3 a0_4 a0_5) (by (with_reducible repeat (first | refine kn ?_ _ | refine ke ?_ | refine ka ?_ _)); exact BK210.out) hb); have n1_ := Am (bq (by repeat (first | (with_reducible first | exact HB.out | apply ba | apply bn | apply be | refine bs ?_ GE210.out) | exact HB.out)) hb); have n2_ := Am (hbox); have n3_ := Am ((by rw [hg]; exact (bz (by repeat (first | (with_reducible first | exact HB.out | apply ba | apply bn | apply be | refine bs ?_ GE210.out) | exact HB.out))) : w.heap.size ≤ gb211)); have n4_ := Am ((by rw [hg]; exact (bz (by repeat (first | (with_reducible first | exact HB.out | apply ba | apply bn | apply be | refine bs ?_ GE210.out) | exact HB.out))) : w.heap.size ≤ gb211)); have n5_ := Am ((by rw [hg]; exact Nat.ne_of_lt (kl (g := gb210) (o := o5b0 a0_0 a0_1 a0_2 a0_3 a0_4 a0_5) (by (with_reducible repeat (first | refine kn ?_ _ | refine ke ?_ | refine ka ?_ _)); exact BK210.out)) : gb210 ≠ gb211)); have n6_ := Am ((by rw [hg]; exact Nat.ne_of_gt (kl (g := gb210) (o := o5b0 a0_0 a0_1 a0_2 a0_3 a0_4 a0_5) (by (with_reducible repeat (first | refine kn ?_ _ | refine ke ?_ | refine ka ?_ _)); exact BK210.out)) : gb211 ≠ gb210)); clear BK210; clear HB; have BK210 := n0_; have HB := n1_; have BK211 := n2_; have GW211 := n3_; have GE211 := n4_; have NB210_211 := n5_; have NB211_210 := n6_; clear n0_ n1_ n2_ n3_ n4_ n5_ n6_; clear hb hbox hg; have hnb26 := NB210_211.out; have hnc26 := NB211_210.out; have hcz27_0 : w25.cell? ⟨gb210, 0, none⟩ = some (.int .i64 a0_0) := (kc BK210.out 0).trans rfl; have hcz27_1 : w25.cell? ⟨gb210, 1, none⟩ = some (.string a0_1) := (kc BK210.out 1).trans rfl; have hcz27_2 : w25.cell? ⟨gb210, 2, none⟩ = some (.string a0_2) := (kc BK210.out 2).trans rfl; have hcz27_3 : w25.cell? ⟨gb210, 3, none⟩ = some (.int .i64 a0_3) := (kc BK210.out 3).trans rfl; have hcz27_4 : w25.cell? ⟨gb210, 4, none⟩ = some (.int .i64 a0_4) := (kc BK210.out 4).trans rfl; have hcz27_5 : w25.cell? ⟨gb210, 5, none⟩ = some (.string a0_5) := (kc BK210.out 5).trans rfl; have hfz27_0 := kf BK210.out 0; have hfz27_1 := kf BK210.out 1; have hfz27_2 := kf BK210.out 2; have hfz27_3 := kf BK210.out 3; have hfz27_4 := kf BK210.out 4; have hfz27_5 := kf BK210.out 5; have hcz28_0 : w25.cell? ⟨gb211, 0, none⟩ = some (.int .i64 a1_0) := (kc BK211.out 0).trans rfl; have hcz28_1 : w25.cell? ⟨gb211, 1, none⟩ = some (.string a1_1) := (kc BK211.out 1).trans rfl; have hcz28_2 : w25.cell? ⟨gb211, 2, none⟩ = some (.string a1_2) := (kc BK211.out 2).trans rfl; have hcz28_3 : w25.cell? ⟨gb211, 3, none⟩ = some (.int .i64 a1_3) := (kc BK211.out 3).trans rfl; have hcz28_4 : w25.cell? ⟨gb211, 4, none⟩ = some (.int .i64 a1_4) := (kc BK211.out 4).trans rfl; have hcz28_5 : w25.cell? ⟨gb211, 5, none⟩ = some (.string a1_5) := (kc BK211.out 5).trans rfl; have hfz28_0 := kf BK211.out 0; have hfz28_1 := kf BK211.out 1; have hfz28_2 := kf BK211.out 2; have hfz28_3 := kf BK211.out 3; have hfz28_4 := kf BK211.out 4; have hfz28_5 := kf BK211.out 5))
     go_ret
     exact ⟨by first | rfl | (simp [errW_none, errW_some] <;> rfl) | (simp [*, errW_none, errW_some] <;> rfl), by repeat (first | (with_reducible first | exact HB.out | apply ba | apply bn | apply be | refine bs ?_ GE210.out | refine bs ?_ GE211.out) | exact HB.out)⟩
   ·rw [if_neg c5] at H
    have c5b0 : (a0_2.toList == a1_2.toList) = false := beq_eq_false_iff_ne.mpr c5
    have c5b1 : (a0_2.toList != a1_2.toList) = true := bne_iff_ne.mpr c5
    obtain rfl := Option.some.inj H
    go_enter Try.func84, Try.ntmps84
    go_wp2_with (first | ((with_reducible refine gate_dst (N := 2) rfl ?_); refine box_event ?hg (N := 2) ?hd (cs := #[.int .i64 a0_0, .string a0_1, .string a0_2, .int .i64 a0_3, .int .i64 a0_4, .string a0_5]) (t := 42) ?hr ?_; (case hd => rfl); (case hg => rfl); (case hr => first | (go_simp; done) | (go_simp; rfl)); intro gb210 hg w29 hbox hb; have BK210 := Am (hbox); have GW210 := Am ((by rw [hg]; exact (bz (by repeat (first | (with_reducible first | exact HB.out | apply ba | apply bn | apply be) | exact HB.out))) : w.heap.size ≤ gb210)); have GE210 := Am ((by rw [hg]; exact (bz (by repeat (first | (with_reducible first | exact HB.out | apply ba | apply bn | apply be) | exact HB.out))) : w.heap.size ≤ gb210)); replace HB := Am (bq (by repeat (first | (with_reducible first | exact HB.out | apply ba | apply bn | apply be) | exact HB.out)) hb); clear hb hbox hg) | ((with_reducible refine gate_dst (N := 3) rfl ?_); refine box_event ?hg (N := 3) ?hd (cs := #[.int .i64 a1_0, .string a1_1, .string a1_2, .int .i64 a1_3, .int .i64 a1_4, .string a1_5]) (t := 42) ?hr ?_; (case hd => rfl); (case hg => rfl); (case hr => first | (go_simp; done) | (go_simp; rfl)); intro gb211 hg w30 hbox hb; have n0_ := Am (kb (g := gb210) (o := o5b0 a0_0 a0_1 a0_2 a0_3 a0_4 a0_5) (by (with_reducible repeat (first | refine kn ?_ _ | refine ke ?_ | refine ka ?_ _)); exact BK210.out) hb); have n1_ := Am (bq (by repeat (first | (with_reducible first | exact HB.out | apply ba | apply bn | apply be | refine bs ?_ GE210.out) | exact HB.out)) hb); have n2_ := Am (hbox); have n3_ := Am ((by rw [hg]; exact (bz (by repeat (first | (with_reducible first | exact HB.out | apply ba | apply bn | apply be | refine bs ?_ GE210.out) | exact HB.out))) : w.heap.size ≤ gb211)); have n4_ := Am ((by rw [hg]; exact (bz (by repeat (first | (with_reducible first | exact HB.out | apply ba | apply bn | apply be | refine bs ?_ GE210.out) | exact HB.out))) : w.heap.size ≤ gb211)); have n5_ := Am ((by rw [hg]; exact Nat.ne_of_lt (kl (g := gb210) (o := o5b0 a0_0 a0_1 a0_2 a0_3 a0_4 a0_5) (by (with_reducible repeat (first | refine kn ?_ _ | refine ke ?_ | refine ka ?_ _)); exact BK210.out)) : gb210 ≠ gb211)); have n6_ := Am ((by rw [hg]; exact Nat.ne_of_gt (kl (g := gb210) (o := o5b0 a0_0 a0_1 a0_2 a0_3 a0_4 a0_5) (by (with_reducible repeat (first | refine kn ?_ _ | refine ke ?_ | refine ka ?_ _)); exact BK210.out)) : gb211 ≠ gb210)); clear BK210; clear HB; have BK210 := n0_; have HB := n1_; have BK211 := n2_; have GW211 := n3_; have GE211 := n4_; have NB210_211 := n5_; have NB211_210 := n6_; clear n0_ n1_ n2_ n3_ n4_ n5_ n6_; clear hb hbox hg; have hnb31 := NB210_211.out; have hnc31 := NB211_210.out; have hcz32_0 : w30.cell? ⟨gb210, 0, none⟩ = some (.int .i64 a0_0) := (kc BK210.out 0).trans rfl; have hcz32_1 : w30.cell? ⟨gb210, 1, none⟩ = some (.string a0_1) := (kc BK210.out 1).trans rfl; have hcz32_2 : w30.cell? ⟨gb210, 2, none⟩ = some (.string a0_2) := (kc BK210.out 2).trans rfl; have hcz32_3 : w30.cell? ⟨gb210, 3, none⟩ = some (.int .i64 a0_3) := (kc BK210.out 3).trans rfl; have hcz32_4 : w30.cell? ⟨gb210, 4, none⟩ = some (.int .i64 a0_4) := (kc BK210.out 4).trans rfl; have hcz32_5 : w30.cell? ⟨gb210, 5, none⟩ = some (.string a0_5) := (kc BK210.out 5).trans rfl; have hfz32_0 := kf BK210.out 0; have hfz32_1 := kf BK210.out 1; have hfz32_2 := kf BK210.out 2; have hfz32_3 := kf BK210.out 3; have hfz32_4 := kf BK210.out 4; have hfz32_5 := kf BK210.out 5; have hcz33_0 : w30.cell? ⟨gb211, 0, none⟩ = some (.int .i64 a1_0) := (kc BK211.out 0).trans rfl; have hcz33_1 : w30.cell? ⟨gb211, 1, none⟩ = some (.string a1_1) := (kc BK211.out 1).trans rfl; have hcz33_2 : w30.cell? ⟨gb211, 2, none⟩ = some (.string a1_2) := (kc BK211.out 2).trans rfl; have hcz33_3 : w30.cell? ⟨gb211, 3, none⟩ = some (.int .i64 a1_3) := (kc BK211.out 3).trans rfl; have hcz33_4 : w30.cell? ⟨gb211, 4, none⟩ = some (.int .i64 a1_4) := (kc BK211.out 4).trans rfl; have hcz33_5 : w30.cell? ⟨gb211, 5, none⟩ = some (.string a1_5) := (kc BK211.out 5).trans rfl; have hfz33_0 := kf BK211.out 0; have hfz33_1 := kf BK211.out 1; have hfz33_2 := kf BK211.out 2; have hfz33_3 := kf BK211.out 3; have hfz33_4 := kf BK211.out 4; have hfz33_5 := kf BK211.out 5))
    go_ret
    exact ⟨by first | rfl | (simp [errW_none, errW_some] <;> rfl) | (simp [*, errW_none, errW_some] <;> rfl), by repeat (first | (with_reducible first | exact HB.out | apply ba | apply bn | apply be | refine bs ?_ GE210.out | refine bs ?_ GE211.out) | exact HB.out)⟩
  ·rw [if_neg c4] at H
   have c4b0 : (a0_1.toList == a1_1.toList) = false := beq_eq_false_iff_ne.mpr c4
   have c4b1 : (a0_1.toList != a1_1.toList) = true := bne_iff_ne.mpr c4
   obtain rfl := Option.some.inj H
   go_enter Try.func84, Try.ntmps84
   go_wp2_with (first | ((with_reducible refine gate_dst (N := 2) rfl ?_); refine box_event ?hg (N := 2) ?hd (cs := #[.int .i64 a0_0, .string a0_1, .string a0_2, .int .i64 a0_3, .int .i64 a0_4, .string a0_5]) (t := 42) ?hr ?_; (case hd => rfl); (case hg => rfl); (case hr => first | (go_simp; done) | (go_simp; rfl)); intro gb210 hg w34 hbox hb; have BK210 := Am (hbox); have GW210 := Am ((by rw [hg]; exact (bz (by repeat (first | (with_reducible first | exact HB.out | apply ba | apply bn | apply be) | exact HB.out))) : w.heap.size ≤ gb210)); have GE210 := Am ((by rw [hg]; exact (bz (by repeat (first | (with_reducible first | exact HB.out | apply ba | apply bn | apply be) | exact HB.out))) : w.heap.size ≤ gb210)); replace HB := Am (bq (by repeat (first | (with_reducible first | exact HB.out | apply ba | apply bn | apply be) | exact HB.out)) hb); clear hb hbox hg) | ((with_reducible refine gate_dst (N := 3) rfl ?_); refine box_event ?hg (N := 3) ?hd (cs := #[.int .i64 a1_0, .string a1_1, .string a1_2, .int .i64 a1_3, .int .i64 a1_4, .string a1_5]) (t := 42) ?hr ?_; (case hd => rfl); (case hg => rfl); (case hr => first | (go_simp; done) | (go_simp; rfl)); intro gb211 hg w35 hbox hb; have n0_ := Am (kb (g := gb210) (o := o5b0 a0_0 a0_1 a0_2 a0_3 a0_4 a0_5) (by (with_reducible repeat (first | refine kn ?_ _ | refine ke ?_ | refine ka ?_ _)); exact BK210.out) hb); have n1_ := Am (bq (by repeat (first | (with_reducible first | exact HB.out | apply ba | apply bn | apply be | refine bs ?_ GE210.out) | exact HB.out)) hb); have n2_ := Am (hbox); have n3_ := Am ((by rw [hg]; exact (bz (by repeat (first | (with_reducible first | exact HB.out | apply ba | apply bn | apply be | refine bs ?_ GE210.out) | exact HB.out))) : w.heap.size ≤ gb211)); have n4_ := Am ((by rw [hg]; exact (bz (by repeat (first | (with_reducible first | exact HB.out | apply ba | apply bn | apply be | refine bs ?_ GE210.out) | exact HB.out))) : w.heap.size ≤ gb211)); have n5_ := Am ((by rw [hg]; exact Nat.ne_of_lt (kl (g := gb210) (o := o5b0 a0_0 a0_1 a0_2 a0_3 a0_4 a0_5) (by (with_reducible repeat (first | refine kn ?_ _ | refine ke ?_ | refine ka ?_ _)); exact BK210.out)) : gb210 ≠ gb211)); have n6_ := Am ((by rw [hg]; exact Nat.ne_of_gt (kl (g := gb210) (o := o5b0 a0_0 a0_1 a0_2 a0_3 a0_4 a0_5) (by (with_reducible repeat (first | refine kn ?_ _ | refine ke ?_ | refine ka ?_ _)); exact BK210.out)) : gb211 ≠ gb210)); clear BK210; clear HB; have BK210 := n0_; have HB := n1_; have BK211 := n2_; have GW211 := n3_; have GE211 := n4_; have NB210_211 := n5_; have NB211_210 := n6_; clear n0_ n1_ n2_ n3_ n4_ n5_ n6_; clear hb hbox hg; have hnb36 := NB210_211.out; have hnc36 := NB211_210.out; have hcz37_0 : w35.cell? ⟨gb210, 0, none⟩ = some (.int .i64 a0_0) := (kc BK210.out 0).trans rfl; have hcz37_1 : w35.cell? ⟨gb210, 1, none⟩ = some (.string a0_1) := (kc BK210.out 1).trans rfl; have hcz37_2 : w35.cell? ⟨gb210, 2, none⟩ = some (.string a0_2) := (kc BK210.out 2).trans rfl; have hcz37_3 : w35.cell? ⟨gb210, 3, none⟩ = some (.int .i64 a0_3) := (kc BK210.out 3).trans rfl; have hcz37_4 : w35.cell? ⟨gb210, 4, none⟩ = some (.int .i64 a0_4) := (kc BK210.out 4).trans rfl; have hcz37_5 : w35.cell? ⟨gb210, 5, none⟩ = some (.string a0_5) := (kc BK210.out 5).trans rfl; have hfz37_0 := kf BK210.out 0; have hfz37_1 := kf BK210.out 1; have hfz37_2 := kf BK210.out 2; have hfz37_3 := kf BK210.out 3; have hfz37_4 := kf BK210.out 4; have hfz37_5 := kf BK210.out 5; have hcz38_0 : w35.cell? ⟨gb211, 0, none⟩ = some (.int .i64 a1_0) := (kc BK211.out 0).trans rfl; have hcz38_1 : w35.cell? ⟨gb211, 1, none⟩ = some (.string a1_1) := (kc BK211.out 1).trans rfl; have hcz38_2 : w35.cell? ⟨gb211, 2, none⟩ = some (.string a1_2) := (kc BK211.out 2).trans rfl; have hcz38_3 : w35.cell? ⟨gb211, 3, none⟩ = some (.int .i64 a1_3) := (kc BK211.out 3).trans rfl; have hcz38_4 : w35.cell? ⟨gb211, 4, none⟩ = some (.int .i64 a1_4) := (kc BK211.out 4).trans rfl; have hcz38_5 : w35.cell? ⟨gb211, 5, none⟩ = some (.string a1_5) := (kc BK211.out 5).trans rfl; have hfz38_0 := kf BK211.out 0; have hfz38_1 := kf BK211.out 1; have hfz38_2 := kf BK211.out 2; have hfz38_3 := kf BK211.out 3; have hfz38_4 := kf BK211.out 4; have hfz38_5 := kf BK211.out 5))
   go_ret
   exact ⟨by first | rfl | (simp [errW_none, errW_some] <;> rfl) | (simp [*, errW_none, errW_some] <;> rfl), by repeat (first | (with_reducible first | exact HB.out | apply ba | apply bn | apply be | refine bs ?_ GE210.out | refine bs ?_ GE211.out) | exact HB.out)⟩
 ·rw [if_neg c3] at H
  have c3b0 : (a0_0 == a1_0) = false := beq_eq_false_iff_ne.mpr c3
  have c3b1 : (a0_0 != a1_0) = true := bne_iff_ne.mpr c3
  obtain rfl := Option.some.inj H
  go_enter Try.func84, Try.ntmps84
  go_wp2_with (first | ((with_reducible refine gate_dst (N := 2) rfl ?_); refine box_event ?hg (N := 2) ?hd (cs := #[.int .i64 a0_0, .string a0_1, .string a0_2, .int .i64 a0_3, .int .i64 a0_4, .string a0_5]) (t := 42) ?hr ?_; (case hd => rfl); (case hg => rfl); (case hr => first | (go_simp; done) | (go_simp; rfl)); intro gb210 hg w39 hbox hb; have BK210 := Am (hbox); have GW210 := Am ((by rw [hg]; exact (bz (by repeat (first | (with_reducible first | exact HB.out | apply ba | apply bn | apply be) | exact HB.out))) : w.heap.size ≤ gb210)); have GE210 := Am ((by rw [hg]; exact (bz (by repeat (first | (with_reducible first | exact HB.out | apply ba | apply bn | apply be) | exact HB.out))) : w.heap.size ≤ gb210)); replace HB := Am (bq (by repeat (first | (with_reducible first | exact HB.out | apply ba | apply bn | apply be) | exact HB.out)) hb); clear hb hbox hg) | ((with_reducible refine gate_dst (N := 3) rfl ?_); refine box_event ?hg (N := 3) ?hd (cs := #[.int .i64 a1_0, .string a1_1, .string a1_2, .int .i64 a1_3, .int .i64 a1_4, .string a1_5]) (t := 42) ?hr ?_; (case hd => rfl); (case hg => rfl); (case hr => first | (go_simp; done) | (go_simp; rfl)); intro gb211 hg w40 hbox hb; have n0_ := Am (kb (g := gb210) (o := o5b0 a0_0 a0_1 a0_2 a0_3 a0_4 a0_5) (by (with_reducible repeat (first | refine kn ?_ _ | refine ke ?_ | refine ka ?_ _)); exact BK210.out) hb); have n1_ := Am (bq (by repeat (first | (with_reducible first | exact HB.out | apply ba | apply bn | apply be | refine bs ?_ GE210.out) | exact HB.out)) hb); have n2_ := Am (hbox); have n3_ := Am ((by rw [hg]; exact (bz (by repeat (first | (with_reducible first | exact HB.out | apply ba | apply bn | apply be | refine bs ?_ GE210.out) | exact HB.out))) : w.heap.size ≤ gb211)); have n4_ := Am ((by rw [hg]; exact (bz (by repeat (first | (with_reducible first | exact HB.out | apply ba | apply bn | apply be | refine bs ?_ GE210.out) | exact HB.out))) : w.heap.size ≤ gb211)); have n5_ := Am ((by rw [hg]; exact Nat.ne_of_lt (kl (g := gb210) (o := o5b0 a0_0 a0_1 a0_2 a0_3 a0_4 a0_5) (by (with_reducible repeat (first | refine kn ?_ _ | refine ke ?_ | refine ka ?_ _)); exact BK210.out)) : gb210 ≠ gb211)); have n6_ := Am ((by rw [hg]; exact Nat.ne_of_gt (kl (g := gb210) (o := o5b0 a0_0 a0_1 a0_2 a0_3 a0_4 a0_5) (by (with_reducible repeat (first | refine kn ?_ _ | refine ke ?_ | refine ka ?_ _)); exact BK210.out)) : gb211 ≠ gb210)); clear BK210; clear HB; have BK210 := n0_; have HB := n1_; have BK211 := n2_; have GW211 := n3_; have GE211 := n4_; have NB210_211 := n5_; have NB211_210 := n6_; clear n0_ n1_ n2_ n3_ n4_ n5_ n6_; clear hb hbox hg; have hnb41 := NB210_211.out; have hnc41 := NB211_210.out; have hcz42_0 : w40.cell? ⟨gb210, 0, none⟩ = some (.int .i64 a0_0) := (kc BK210.out 0).trans rfl; have hcz42_1 : w40.cell? ⟨gb210, 1, none⟩ = some (.string a0_1) := (kc BK210.out 1).trans rfl; have hcz42_2 : w40.cell? ⟨gb210, 2, none⟩ = some (.string a0_2) := (kc BK210.out 2).trans rfl; have hcz42_3 : w40.cell? ⟨gb210, 3, none⟩ = some (.int .i64 a0_3) := (kc BK210.out 3).trans rfl; have hcz42_4 : w40.cell? ⟨gb210, 4, none⟩ = some (.int .i64 a0_4) := (kc BK210.out 4).trans rfl; have hcz42_5 : w40.cell? ⟨gb210, 5, none⟩ = some (.string a0_5) := (kc BK210.out 5).trans rfl; have hfz42_0 := kf BK210.out 0; have hfz42_1 := kf BK210.out 1; have hfz42_2 := kf BK210.out 2; have hfz42_3 := kf BK210.out 3; have hfz42_4 := kf BK210.out 4; have hfz42_5 := kf BK210.out 5; have hcz43_0 : w40.cell? ⟨gb211, 0, none⟩ = some (.int .i64 a1_0) := (kc BK211.out 0).trans rfl; have hcz43_1 : w40.cell? ⟨gb211, 1, none⟩ = some (.string a1_1) := (kc BK211.out 1).trans rfl; have hcz43_2 : w40.cell? ⟨gb211, 2, none⟩ = some (.string a1_2) := (kc BK211.out 2).trans rfl; have hcz43_3 : w40.cell? ⟨gb211, 3, none⟩ = some (.int .i64 a1_3) := (kc BK211.out 3).trans rfl; have hcz43_4 : w40.cell? ⟨gb211, 4, none⟩ = some (.int .i64 a1_4) := (kc BK211.out 4).trans rfl; have hcz43_5 : w40.cell? ⟨gb211, 5, none⟩ = some (.string a1_5) := (kc BK211.out 5).trans rfl; have hfz43_0 := kf BK211.out 0; have hfz43_1 := kf BK211.out 1; have hfz43_2 := kf BK211.out 2; have hfz43_3 := kf BK211.out 3; have hfz43_4 := kf BK211.out 4; have hfz43_5 := kf BK211.out 5))
  go_ret
  exact ⟨by first | rfl | (simp [errW_none, errW_some] <;> rfl) | (simp [*, errW_none, errW_some] <;> rfl), by repeat (first | (with_reducible first | exact HB.out | apply ba | apply bn | apply be | refine bs ?_ GE210.out | refine bs ?_ GE211.out) | exact HB.out)⟩

/-! ### laws_eqAskS: function 17 -/
def laws_eqAskS.l0 : Nat → List (S42) → List (S42) → Int → Option (Bool)
 | 0, _, _, _ => none
 | k + 1, x0, x1, x5 => if x5 < (x0.length : Int) then (if 0 ≤ x5 then (if x5 < (x1.length : Int) then ((laws_eqAsk.f ((rd_T42 x0 x5).f0) ((rd_T42 x0 x5).f1) ((rd_T42 x0 x5).f2) ((rd_T42 x0 x5).f3) ((rd_T42 x0 x5).f4) ((rd_T42 x0 x5).f5) ((rd_T42 x1 x5).f0) ((rd_T42 x1 x5).f1) ((rd_T42 x1 x5).f2) ((rd_T42 x1 x5).f3) ((rd_T42 x1 x5).f4) ((rd_T42 x1 x5).f5)).bind fun t214 => (if t214 = true then (laws_eqAskS.l0 k x0 x1 (wrap64 (x5 + 1))) else (some false))) else (none)) else (none)) else (some true)
def laws_eqAskS.f (k : Nat) (l0 : List (S42)) (l1 : List (S42)) : Option (Bool) := if (l0.length : Int) = (l1.length : Int) then (laws_eqAskS.l0 k l0 l1 0) else (some false)
theorem laws_eqAskS.mono_l : ∀ k, (∀ y0 y1 y2, LeO (laws_eqAskS.l0 k y0 y1 y2) (laws_eqAskS.l0 (k + 1) y0 y1 y2))
 | 0 => fun _ _ _ r h => by simp [laws_eqAskS.l0] at h
 | k + 1 => by
  have ih0 := laws_eqAskS.mono_l k
  ·intro y0 y1 y2
   unfold laws_eqAskS.l0
   repeat' first
   | (with_reducible exact ih0 _ _ _)
   | (with_reducible exact LeO.refl _)
   | (with_reducible exact LeO.none _)
   | (with_reducible refine LeO.ite ?_ ?_)
   | (with_reducible refine LeO.bind ?_ (fun _ => ?_))
   | exact ih0 _ _ _
   | exact LeO.none _
   | refine LeO.ite ?_ ?_
   | refine LeO.bind ?_ (fun _ => ?_)
theorem laws_eqAskS.mono : ∀ a0 a1 k, LeO (laws_eqAskS.f k a0 a1) (laws_eqAskS.f (k + 1) a0 a1) := by
 intro a0 a1 k
 have ih0 := laws_eqAskS.mono_l k
 unfold laws_eqAskS.f
 repeat' first
   | (with_reducible exact ih0 _ _ _)
   | (with_reducible exact LeO.refl _)
   | (with_reducible exact LeO.none _)
   | (with_reducible refine LeO.ite ?_ ?_)
   | (with_reducible refine LeO.bind ?_ (fun _ => ?_))
   | exact ih0 _ _ _
   | exact LeO.none _
   | refine LeO.ite ?_ ?_
   | refine LeO.bind ?_ (fun _ => ?_)
def laws_eqAskS.T6 : Bool × List (List Nat × List Nat) := (true, [([], []), ([], []), ([0, 1], [0, 1]), ([2], [2]), ([], []), ([], []), ([4, 5], [4, 5]), ([6], [6]), ([3, 7], [3, 7]), ([8], [8])])
def laws_eqAskS.B6 : List Nat := [0, 0, 3, 7, 0, 0, 48, 112, 255, 511]
theorem laws_eqAskS.tab6 : rtab .any (opsOf Try.f17 6) = laws_eqAskS.T6 := by kernel_rfl
theorem laws_eqAskS.bits6 : waitsOk laws_eqAskS.T6.2 laws_eqAskS.B6 = true := by kernel_rfl
set_option maxHeartbeats 8000000 in
set_option maxRecDepth 100000 in
theorem laws_eqAskS.calls (k : Nat) (A0 : Option Addr) (c0 : Nat) (l0 : List (S42)) (A1 : Option Addr) (c1 : Nat) (l1 : List (S42)) (r : Bool) (w : World) (hr0 : Kd.C k42 w A0 l0.length l0) (hc0 : l0.length ≤ c0) (hr1 : Kd.C k42 w A1 l1.length l1) (hc1 : l1.length ≤ c1) (h : laws_eqAskS.f k l0 l1 = some r) :
  Calls Try.prog 17 #[.slice A0 l0.length c0, .slice A1 l1.length c1] w fun e w' => e = .returned (.bool r) ∧ Below w.heap.size w w' := by
 have hu42 := Try.underlying42
 have HR0 := Am hr0
 have HC0 := Am hc0
 clear hr0 hc0
 have HR1 := Am hr1
 have HC1 := Am hc1
 clear hr1 hc1
 have HB := Am (Below.refl w.heap.size w)
 have H : (if (l0.length : Int) = (l1.length : Int) then (laws_eqAskS.l0 k l0 l1 0) else (some false)) = some r := h
 clear h
 by_cases c3 : (l0.length : Int) = (l1.length : Int)
 ·rw [if_pos c3] at H
  have c3b0 : ((l0.length : Int) == (l1.length : Int)) = true := beq_iff_eq.mpr c3
  have c3b1 : ((l0.length : Int) != (l1.length : Int)) = false := bne_eq_false_iff_eq.mpr c3
  have c3b2 : (l0.length == l1.length) = true := by first | simpa using c3 | (simp at c3 ⊢; omega)
  clear c3
  have H' := Am H
  clear H
  go_enter Try.func17, Try.ntmps17
  go_wp2
  go_loopg [5] k (fun kq v5 w' => ∃ (x5_1 : Int), v5 = .int .i64 x5_1 ∧ Aside0 (laws_eqAskS.l0 kq l0 l1 x5_1 = some r) ∧ Aside0 (kq ≤ k) ∧ Aside0 (Below w.heap.size w w'))
  case atStart => exact ⟨(0), (by first | rfl | (simp; done) | (simp [*]; done)), H', ⟨Nat.le_refl _⟩, ⟨by repeat (first | (with_reducible first | exact HB.out | apply ba | apply bn | apply be) | exact HB.out)⟩⟩
  case round =>
   clear H'
   try clear c1
   try clear p2
   try clear c3
   try clear c3b0
   try clear c3b1
   try clear c3b2
   obtain ⟨x5_1, rfl, HA, HK1, HB⟩ := hrel
   cases gk with
   | zero => exact absurd HA.out (by simp [laws_eqAskS.l0])
   | succ k1 =>
    have H := HA.out
    clear HA
    simp only [laws_eqAskS.l0] at H
    by_cases c4 : x5_1 < (l0.length : Int)
    ·rw [if_pos c4] at H
     have c4b0 : decide (x5_1 < (l0.length : Int)) = true := decide_eq_true c4
     clear c4
     by_cases c5 : 0 ≤ x5_1
     ·rw [if_pos c5] at H
      have c5b0 : decide (0 ≤ x5_1) = true := decide_eq_true c5
      clear c5
      by_cases c6 : x5_1 < (l1.length : Int)
      ·rw [if_pos c6] at H
       have c6b0 : decide (x5_1 < (l1.length : Int)) = true := decide_eq_true c6
       clear c6
       replace H := Option.bind_eq_some_iff.mp H
       obtain ⟨t214, A70, H⟩ := H
       replace H : (if t214 = true then (laws_eqAskS.l0 k1 l0 l1 (wrap64 (x5_1 + 1))) else (some false)) = some r := H
       have A7 := Am A70
       clear A70
       by_cases c8 : t214 = true
       ·subst c8
        have H1 : (laws_eqAskS.l0 k1 l0 l1 (wrap64 (x5_1 + 1))) = some r := by rw [if_pos rfl] at H; exact H
        clear H
        have H := H1
        clear H1
        have H' := Am H
        clear H
        try go_wp2
        have n0_ := Am (be HB.out)
        clear HB
        have HB := n0_
        clear n0_
        have p212 : 0 ≤ (x5_1 : Int) := of_decide_eq_true (by first | (with_reducible assumption) | assumption)
        have q212 : x5_1 < (l0.length : Int) := of_decide_eq_true (by first | (with_reducible assumption) | assumption)
        obtain ⟨ad212, e212, hx212_0, hx212_1, hx212_2, hx212_3, hx212_4, hx212_5⟩ := at_T42 HR0.out x5_1 p212 q212
        have hw212_5 := hx212_5
        have hw212_4 := hx212_4
        have hw212_3 := hx212_3
        have hw212_2 := hx212_2
        have hw212_1 := hx212_1
        have hw212_0 := hx212_0
        cases e212
        replace hx212_0 := cl5 HB hx212_0
        replace hx212_1 := cl5 HB hx212_1
        replace hx212_2 := cl5 HB hx212_2
        replace hx212_3 := cl5 HB hx212_3
        replace hx212_4 := cl5 HB hx212_4
        replace hx212_5 := cl5 HB hx212_5
        replace p212 := eq_true p212
        replace q212 := eq_true q212
        have p213 : 0 ≤ (x5_1 : Int) := of_decide_eq_true (by first | (with_reducible assumption) | assumption)
        have q213 : x5_1 < (l1.length : Int) := of_decide_eq_true (by first | (with_reducible assumption) | assumption)
        obtain ⟨ad213, e213, hx213_0, hx213_1, hx213_2, hx213_3, hx213_4, hx213_5⟩ := at_T42 HR1.out x5_1 p213 q213
        have hw213_5 := hx213_5
        have hw213_4 := hx213_4
        have hw213_3 := hx213_3
        have hw213_2 := hx213_2
        have hw213_1 := hx213_1
        have hw213_0 := hx213_0
        cases e213
        replace hx213_0 := cl5 HB hx213_0
        replace hx213_1 := cl5 HB hx213_1
        replace hx213_2 := cl5 HB hx213_2
        replace hx213_3 := cl5 HB hx213_3
        replace hx213_4 := cl5 HB hx213_4
        replace hx213_5 := cl5 HB hx213_5
        replace p213 := eq_true p213
        replace q213 := eq_true q213
        refine start_ (n := 10) (S := fun w' => w'.cell? (ad212.add ((x5_1).toNat * 6)) = some (.int .i64 ((rd_T42 l0 x5_1).f0)) ∧ w'.cell? ⟨(ad212.add ((x5_1).toNat * 6)).block, (ad212.add ((x5_1).toNat * 6)).off + 1, none⟩ = some (.string ((rd_T42 l0 x5_1).f1)) ∧ w'.cell? ⟨(ad212.add ((x5_1).toNat * 6)).block, (ad212.add ((x5_1).toNat * 6)).off + 2, none⟩ = some (.string ((rd_T42 l0 x5_1).f2)) ∧ w'.cell? ⟨(ad212.add ((x5_1).toNat * 6)).block, (ad212.add ((x5_1).toNat * 6)).off + 3, none⟩ = some (.int .i64 ((rd_T42 l0 x5_1).f3)) ∧ w'.cell? ⟨(ad212.add ((x5_1).toNat * 6)).block, (ad212.add ((x5_1).toNat * 6)).off + 4, none⟩ = some (.int .i64 ((rd_T42 l0 x5_1).f4)) ∧ w'.cell? ⟨(ad212.add ((x5_1).toNat * 6)).block, (ad212.add ((x5_1).toNat * 6)).off + 5, none⟩ = some (.string ((rd_T42 l0 x5_1).f5)) ∧ w'.cell? (ad213.add ((x5_1).toNat * 6)) = some (.int .i64 ((rd_T42 l1 x5_1).f0)) ∧ w'.cell? ⟨(ad213.add ((x5_1).toNat * 6)).block, (ad213.add ((x5_1).toNat * 6)).off + 1, none⟩ = some (.string ((rd_T42 l1 x5_1).f1)) ∧ w'.cell? ⟨(ad213.add ((x5_1).toNat * 6)).block, (ad213.add ((x5_1).toNat * 6)).off + 2, none⟩ = some (.string ((rd_T42 l1 x5_1).f2)) ∧ w'.cell? ⟨(ad213.add ((x5_1).toNat * 6)).block, (ad213.add ((x5_1).toNat * 6)).off + 3, none⟩ = some (.int .i64 ((rd_T42 l1 x5_1).f3)) ∧ w'.cell? ⟨(ad213.add ((x5_1).toNat * 6)).block, (ad213.add ((x5_1).toNat * 6)).off + 4, none⟩ = some (.int .i64 ((rd_T42 l1 x5_1).f4)) ∧ w'.cell? ⟨(ad213.add ((x5_1).toNat * 6)).block, (ad213.add ((x5_1).toNat * 6)).off + 5, none⟩ = some (.string ((rd_T42 l1 x5_1).f5))) (ds := []) #[false, false, false, false, false, false, false, false, false, false] (by kernel_rfl) rfl rfl ⟨(cl5 HB hw212_0), (cl5 HB hw212_1), (cl5 HB hw212_2), (cl5 HB hw212_3), (cl5 HB hw212_4), (cl5 HB hw212_5), (cl5 HB hw213_0), (cl5 HB hw213_1), (cl5 HB hw213_2), (cl5 HB hw213_3), (cl5 HB hw213_4), (cl5 HB hw213_5)⟩ (fun hHeld => ?_); refine with_tabW laws_eqAskS.tab6 laws_eqAskS.bits6 (fun HT_ HW_ => ?_)
        generalize wr.drew = w9 at HB hx212_0 hx212_1 hx212_2 hx212_3 hx212_4 hx212_5 hx213_0 hx213_1 hx213_2 hx213_3 hx213_4 hx213_5 hHeld ⊢
        refine pure_ (i := 0) (N := some 17) (v := ?_) (a' := ?_) #[true, false, false, false, false, false, false, false, false, false] rfl rfl (any_of HT_.out (by kernel_rfl)) (fun _ _ _ h => h) (Or.inl ⟨by rfl, ?_⟩) ?_ ?_
        rotate_left
        ·intro w'
         go_simp
         with_reducible rfl
        rotate_left
        ·simp only [Act.put, List.setIfInBounds_toArray, List.set_cons_zero, List.set_cons_succ, i64_w, i32_w]
         rfl
        refine pure_ (i := 1) (N := some 18) (v := ?_) (a' := ?_) #[true, true, false, false, false, false, false, false, false, false] rfl rfl (any_of HT_.out (by kernel_rfl)) (fun _ _ _ h => h) (Or.inl ⟨by rfl, ?_⟩) ?_ ?_
        rotate_left
        ·intro w'
         go_simp
         with_reducible rfl
        rotate_left
        ·simp only [Act.put, List.setIfInBounds_toArray, List.set_cons_zero, List.set_cons_succ, i64_w, i32_w]
         rfl
        refine pure_ (i := 2) (N := some 19) (v := ?_) (a' := ?_) #[true, true, true, false, false, false, false, false, false, false] rfl rfl (any_of HT_.out (by kernel_rfl)) (fun _ _ _ h => h) (Or.inl ⟨by rfl, ?_⟩) ?_ ?_
        rotate_left
        ·intro w'
         go_simp
         with_reducible rfl
        rotate_left
        ·simp only [Act.put, List.setIfInBounds_toArray, List.set_cons_zero, List.set_cons_succ, i64_w, i32_w]
         rfl
        refine pure_ (i := 4) (N := some 21) (v := ?_) (a' := ?_) #[true, true, true, false, true, false, false, false, false, false] rfl rfl (any_of HT_.out (by kernel_rfl)) (fun _ _ _ h => h) (Or.inl ⟨by rfl, ?_⟩) ?_ ?_
        rotate_left
        ·intro w'
         go_simp
         with_reducible rfl
        rotate_left
        ·simp only [Act.put, List.setIfInBounds_toArray, List.set_cons_zero, List.set_cons_succ, i64_w, i32_w]
         rfl
        refine pure_ (i := 5) (N := some 22) (v := ?_) (a' := ?_) #[true, true, true, false, true, true, false, false, false, false] rfl rfl (any_of HT_.out (by kernel_rfl)) (fun _ _ _ h => h) (Or.inl ⟨by rfl, ?_⟩) ?_ ?_
        rotate_left
        ·intro w'
         go_simp
         with_reducible rfl
        rotate_left
        ·simp only [Act.put, List.setIfInBounds_toArray, List.set_cons_zero, List.set_cons_succ, i64_w, i32_w]
         rfl
        refine pure_ (i := 6) (N := some 23) (v := ?_) (a' := ?_) #[true, true, true, false, true, true, true, false, false, false] rfl rfl (any_of HT_.out (by kernel_rfl)) (fun _ _ _ h => h) (Or.inl ⟨by rfl, ?_⟩) ?_ ?_
        rotate_left
        ·intro w'
         go_simp
         with_reducible rfl
        rotate_left
        ·simp only [Act.put, List.setIfInBounds_toArray, List.set_cons_zero, List.set_cons_succ, i64_w, i32_w]
         rfl
        refine take_ (i := 3) (N := some 20) (v := ?_) (a' := ?_) #[true, true, true, true, true, true, true, false, false, false] rfl rfl (take_ofW HT_.out HW_.out (by kernel_rfl)) (fun _ _ _ h => h) (Or.inl ⟨by rfl, ?_⟩) hHeld ?_ ?_
        rotate_left
        ·rintro w' ⟨s0, s1, s2, s3, s4, s5, s6, s7, s8, s9, s10, s11⟩
         go_simp
         with_reducible rfl
        rotate_left
        ·simp only [Act.put, List.setIfInBounds_toArray, List.set_cons_zero, List.set_cons_succ, i64_w, i32_w]
         rfl
        refine take_ (i := 7) (N := some 24) (v := ?_) (a' := ?_) #[true, true, true, true, true, true, true, true, false, false] rfl rfl (take_ofW HT_.out HW_.out (by kernel_rfl)) (fun _ _ _ h => h) (Or.inl ⟨by rfl, ?_⟩) hHeld ?_ ?_
        rotate_left
        ·rintro w' ⟨s0, s1, s2, s3, s4, s5, s6, s7, s8, s9, s10, s11⟩
         go_simp
         with_reducible rfl
        rotate_left
        ·simp only [Act.put, List.setIfInBounds_toArray, List.set_cons_zero, List.set_cons_succ, i64_w, i32_w]
         rfl
        refine one_ (i := 8) (N := some 25) #[true, true, true, true, true, true, true, true, true, false] rfl rfl (one_of HT_.out (by kernel_rfl)) (by decide) (fun K hK => ?_)
        refine goes_ Try.func84 (by kernel_rfl) rfl #[.agg #[.int .i64 ((rd_T42 l0 x5_1).f0), .string ((rd_T42 l0 x5_1).f1), .string ((rd_T42 l0 x5_1).f2), .int .i64 ((rd_T42 l0 x5_1).f3), .int .i64 ((rd_T42 l0 x5_1).f4), .string ((rd_T42 l0 x5_1).f5)], .agg #[.int .i64 ((rd_T42 l1 x5_1).f0), .string ((rd_T42 l1 x5_1).f1), .string ((rd_T42 l1 x5_1).f2), .int .i64 ((rd_T42 l1 x5_1).f3), .int .i64 ((rd_T42 l1 x5_1).f4), .string ((rd_T42 l1 x5_1).f5)]] (by rfl) rfl rfl (by (try simp only [List.map_toArray, List.map_cons, List.map_nil]); first | done | rfl | (simp only [List.length_drop, List.length_take]; rfl)) ?_
        with_reducible refine (laws_eqAsk.calls ((rd_T42 l0 x5_1).f0) ((rd_T42 l0 x5_1).f1) ((rd_T42 l0 x5_1).f2) ((rd_T42 l0 x5_1).f3) ((rd_T42 l0 x5_1).f4) ((rd_T42 l0 x5_1).f5) ((rd_T42 l1 x5_1).f0) ((rd_T42 l1 x5_1).f1) ((rd_T42 l1 x5_1).f2) ((rd_T42 l1 x5_1).f3) ((rd_T42 l1 x5_1).f4) ((rd_T42 l1 x5_1).f5) true _ A7.out).mono ?_
        rintro e w10 ⟨rfl, hb⟩
        refine ⟨_, rfl, ?_⟩
        have n0_ := Am (bq (by repeat (first | (with_reducible first | exact HB.out | apply ba | apply bn | apply be) | exact HB.out)) hb)
        clear HB
        have HB := n0_
        clear n0_
        (try clear hb)
        (try clear hb2)
        (try clear hk)
        (try clear hi)
        refine hK.out _ _ ⟨(cl5 HB hw212_0), (cl5 HB hw212_1), (cl5 HB hw212_2), (cl5 HB hw212_3), (cl5 HB hw212_4), (cl5 HB hw212_5), (cl5 HB hw213_0), (cl5 HB hw213_1), (cl5 HB hw213_2), (cl5 HB hw213_3), (cl5 HB hw213_4), (cl5 HB hw213_5)⟩ (fun hHeld => ?_)
        clear hK K
        refine norm_ (a' := ?_) ?_ ?_
        rotate_left
        ·show Act.put _ (some 25) _ = _
         simp only [Act.put, List.setIfInBounds_toArray, List.set_cons_zero, List.set_cons_succ, i64_w, i32_w]
         rfl
        refine pure_ (i := 9) (N := some 26) (v := ?_) (a' := ?_) #[true, true, true, true, true, true, true, true, true, true] rfl rfl (any_of HT_.out (by kernel_rfl)) (fun _ _ _ h => h) (Or.inl ⟨by rfl, ?_⟩) ?_ ?_
        rotate_left
        ·intro w'
         go_simp
         with_reducible rfl
        rotate_left
        ·simp only [Act.put, List.setIfInBounds_toArray, List.set_cons_zero, List.set_cons_succ, i64_w, i32_w]
         rfl
        refine done_ (done_of HT_.out (by kernel_rfl)) ?_
        try go_wp2
        go_roundg k1
        case measure => have := HK1.out; omega
        case rel => exact ⟨(wrap64 (x5_1 + 1)), (by first | rfl | (simp; done) | (simp [*]; done)), H', ⟨by have := HK1.out; omega⟩, ⟨by repeat (first | (with_reducible first | exact HB.out | apply ba | apply bn | apply be) | exact HB.out)⟩⟩
       ·replace c8 := Bool.eq_false_iff.mpr c8
        subst c8
        have H1 : (some false) = some r := by rw [if_neg (show ¬ (false = true) by decide)] at H; exact H
        clear H
        have H := H1
        clear H1
        obtain rfl := Option.some.inj H
        try go_wp2
        have n0_ := Am (be HB.out)
        clear HB
        have HB := n0_
        clear n0_
        have p212 : 0 ≤ (x5_1 : Int) := of_decide_eq_true (by first | (with_reducible assumption) | assumption)
        have q212 : x5_1 < (l0.length : Int) := of_decide_eq_true (by first | (with_reducible assumption) | assumption)
        obtain ⟨ad212, e212, hx212_0, hx212_1, hx212_2, hx212_3, hx212_4, hx212_5⟩ := at_T42 HR0.out x5_1 p212 q212
        have hw212_5 := hx212_5
        have hw212_4 := hx212_4
        have hw212_3 := hx212_3
        have hw212_2 := hx212_2
        have hw212_1 := hx212_1
        have hw212_0 := hx212_0
        cases e212
        replace hx212_0 := cl5 HB hx212_0
        replace hx212_1 := cl5 HB hx212_1
        replace hx212_2 := cl5 HB hx212_2
        replace hx212_3 := cl5 HB hx212_3
        replace hx212_4 := cl5 HB hx212_4
        replace hx212_5 := cl5 HB hx212_5
        replace p212 := eq_true p212
        replace q212 := eq_true q212
        have p213 : 0 ≤ (x5_1 : Int) := of_decide_eq_true (by first | (with_reducible assumption) | assumption)
        have q213 : x5_1 < (l1.length : Int) := of_decide_eq_true (by first | (with_reducible assumption) | assumption)
        obtain ⟨ad213, e213, hx213_0, hx213_1, hx213_2, hx213_3, hx213_4, hx213_5⟩ := at_T42 HR1.out x5_1 p213 q213
        have hw213_5 := hx213_5
        have hw213_4 := hx213_4
        have hw213_3 := hx213_3
        have hw213_2 := hx213_2
        have hw213_1 := hx213_1
        have hw213_0 := hx213_0
        cases e213
        replace hx213_0 := cl5 HB hx213_0
        replace hx213_1 := cl5 HB hx213_1
        replace hx213_2 := cl5 HB hx213_2
        replace hx213_3 := cl5 HB hx213_3
        replace hx213_4 := cl5 HB hx213_4
        replace hx213_5 := cl5 HB hx213_5
        replace p213 := eq_true p213
        replace q213 := eq_true q213
        refine start_ (n := 10) (S := fun w' => w'.cell? (ad212.add ((x5_1).toNat * 6)) = some (.int .i64 ((rd_T42 l0 x5_1).f0)) ∧ w'.cell? ⟨(ad212.add ((x5_1).toNat * 6)).block, (ad212.add ((x5_1).toNat * 6)).off + 1, none⟩ = some (.string ((rd_T42 l0 x5_1).f1)) ∧ w'.cell? ⟨(ad212.add ((x5_1).toNat * 6)).block, (ad212.add ((x5_1).toNat * 6)).off + 2, none⟩ = some (.string ((rd_T42 l0 x5_1).f2)) ∧ w'.cell? ⟨(ad212.add ((x5_1).toNat * 6)).block, (ad212.add ((x5_1).toNat * 6)).off + 3, none⟩ = some (.int .i64 ((rd_T42 l0 x5_1).f3)) ∧ w'.cell? ⟨(ad212.add ((x5_1).toNat * 6)).block, (ad212.add ((x5_1).toNat * 6)).off + 4, none⟩ = some (.int .i64 ((rd_T42 l0 x5_1).f4)) ∧ w'.cell? ⟨(ad212.add ((x5_1).toNat * 6)).block, (ad212.add ((x5_1).toNat * 6)).off + 5, none⟩ = some (.string ((rd_T42 l0 x5_1).f5)) ∧ w'.cell? (ad213.add ((x5_1).toNat * 6)) = some (.int .i64 ((rd_T42 l1 x5_1).f0)) ∧ w'.cell? ⟨(ad213.add ((x5_1).toNat * 6)).block, (ad213.add ((x5_1).toNat * 6)).off + 1, none⟩ = some (.string ((rd_T42 l1 x5_1).f1)) ∧ w'.cell? ⟨(ad213.add ((x5_1).toNat * 6)).block, (ad213.add ((x5_1).toNat * 6)).off + 2, none⟩ = some (.string ((rd_T42 l1 x5_1).f2)) ∧ w'.cell? ⟨(ad213.add ((x5_1).toNat * 6)).block, (ad213.add ((x5_1).toNat * 6)).off + 3, none⟩ = some (.int .i64 ((rd_T42 l1 x5_1).f3)) ∧ w'.cell? ⟨(ad213.add ((x5_1).toNat * 6)).block, (ad213.add ((x5_1).toNat * 6)).off + 4, none⟩ = some (.int .i64 ((rd_T42 l1 x5_1).f4)) ∧ w'.cell? ⟨(ad213.add ((x5_1).toNat * 6)).block, (ad213.add ((x5_1).toNat * 6)).off + 5, none⟩ = some (.string ((rd_T42 l1 x5_1).f5))) (ds := []) #[false, false, false, false, false, false, false, false, false, false] (by kernel_rfl) rfl rfl ⟨(cl5 HB hw212_0), (cl5 HB hw212_1), (cl5 HB hw212_2), (cl5 HB hw212_3), (cl5 HB hw212_4), (cl5 HB hw212_5), (cl5 HB hw213_0), (cl5 HB hw213_1), (cl5 HB hw213_2), (cl5 HB hw213_3), (cl5 HB hw213_4), (cl5 HB hw213_5)⟩ (fun hHeld => ?_); refine with_tabW laws_eqAskS.tab6 laws_eqAskS.bits6 (fun HT_ HW_ => ?_)
        generalize wr.drew = w11 at HB hx212_0 hx212_1 hx212_2 hx212_3 hx212_4 hx212_5 hx213_0 hx213_1 hx213_2 hx213_3 hx213_4 hx213_5 hHeld ⊢
        refine pure_ (i := 0) (N := some 17) (v := ?_) (a' := ?_) #[true, false, false, false, false, false, false, false, false, false] rfl rfl (any_of HT_.out (by kernel_rfl)) (fun _ _ _ h => h) (Or.inl ⟨by rfl, ?_⟩) ?_ ?_
        rotate_left
        ·intro w'
         go_simp
         with_reducible rfl
        rotate_left
        ·simp only [Act.put, List.setIfInBounds_toArray, List.set_cons_zero, List.set_cons_succ, i64_w, i32_w]
         rfl
        refine pure_ (i := 1) (N := some 18) (v := ?_) (a' := ?_) #[true, true, false, false, false, false, false, false, false, false] rfl rfl (any_of HT_.out (by kernel_rfl)) (fun _ _ _ h => h) (Or.inl ⟨by rfl, ?_⟩) ?_ ?_
        rotate_left
        ·intro w'
         go_simp
         with_reducible rfl
        rotate_left
        ·simp only [Act.put, List.setIfInBounds_toArray, List.set_cons_zero, List.set_cons_succ, i64_w, i32_w]
         rfl
        refine pure_ (i := 2) (N := some 19) (v := ?_) (a' := ?_) #[true, true, true, false, false, false, false, false, false, false] rfl rfl (any_of HT_.out (by kernel_rfl)) (fun _ _ _ h => h) (Or.inl ⟨by rfl, ?_⟩) ?_ ?_
        rotate_left
        ·intro w'
         go_simp
         with_reducible rfl
        rotate_left
        ·simp only [Act.put, List.setIfInBounds_toArray, List.set_cons_zero, List.set_cons_succ, i64_w, i32_w]
         rfl
        refine pure_ (i := 4) (N := some 21) (v := ?_) (a' := ?_) #[true, true, true, false, true, false, false, false, false, false] rfl rfl (any_of HT_.out (by kernel_rfl)) (fun _ _ _ h => h) (Or.inl ⟨by rfl, ?_⟩) ?_ ?_
        rotate_left
        ·intro w'
         go_simp
         with_reducible rfl
        rotate_left
        ·simp only [Act.put, List.setIfInBounds_toArray, List.set_cons_zero, List.set_cons_succ, i64_w, i32_w]
         rfl
        refine pure_ (i := 5) (N := some 22) (v := ?_) (a' := ?_) #[true, true, true, false, true, true, false, false, false, false] rfl rfl (any_of HT_.out (by kernel_rfl)) (fun _ _ _ h => h) (Or.inl ⟨by rfl, ?_⟩) ?_ ?_
        rotate_left
        ·intro w'
         go_simp
         with_reducible rfl
        rotate_left
        ·simp only [Act.put, List.setIfInBounds_toArray, List.set_cons_zero, List.set_cons_succ, i64_w, i32_w]
         rfl
        refine pure_ (i := 6) (N := some 23) (v := ?_) (a' := ?_) #[true, true, true, false, true, true, true, false, false, false] rfl rfl (any_of HT_.out (by kernel_rfl)) (fun _ _ _ h => h) (Or.inl ⟨by rfl, ?_⟩) ?_ ?_
        rotate_left
        ·intro w'
         go_simp
         with_reducible rfl
        rotate_left
        ·simp only [Act.put, List.setIfInBounds_toArray, List.set_cons_zero, List.set_cons_succ, i64_w, i32_w]
         rfl
        refine take_ (i := 3) (N := some 20) (v := ?_) (a' := ?_) #[true, true, true, true, true, true, true, false, false, false] rfl rfl (take_ofW HT_.out HW_.out (by kernel_rfl)) (fun _ _ _ h => h) (Or.inl ⟨by rfl, ?_⟩) hHeld ?_ ?_
        rotate_left
        ·rintro w' ⟨s0, s1, s2, s3, s4, s5, s6, s7, s8, s9, s10, s11⟩
         go_simp
         with_reducible rfl
        rotate_left
        ·simp only [Act.put, List.setIfInBounds_toArray, List.set_cons_zero, List.set_cons_succ, i64_w, i32_w]
         rfl
        refine take_ (i := 7) (N := some 24) (v := ?_) (a' := ?_) #[true, true, true, true, true, true, true, true, false, false] rfl rfl (take_ofW HT_.out HW_.out (by kernel_rfl)) (fun _ _ _ h => h) (Or.inl ⟨by rfl, ?_⟩) hHeld ?_ ?_
        rotate_left
        ·rintro w' ⟨s0, s1, s2, s3, s4, s5, s6, s7, s8, s9, s10, s11⟩
         go_simp
         with_reducible rfl
        rotate_left
        ·simp only [Act.put, List.setIfInBounds_toArray, List.set_cons_zero, List.set_cons_succ, i64_w, i32_w]
         rfl
        refine one_ (i := 8) (N := some 25) #[true, true, true, true, true, true, true, true, true, false] rfl rfl (one_of HT_.out (by kernel_rfl)) (by decide) (fun K hK => ?_)
        refine goes_ Try.func84 (by kernel_rfl) rfl #[.agg #[.int .i64 ((rd_T42 l0 x5_1).f0), .string ((rd_T42 l0 x5_1).f1), .string ((rd_T42 l0 x5_1).f2), .int .i64 ((rd_T42 l0 x5_1).f3), .int .i64 ((rd_T42 l0 x5_1).f4), .string ((rd_T42 l0 x5_1).f5)], .agg #[.int .i64 ((rd_T42 l1 x5_1).f0), .string ((rd_T42 l1 x5_1).f1), .string ((rd_T42 l1 x5_1).f2), .int .i64 ((rd_T42 l1 x5_1).f3), .int .i64 ((rd_T42 l1 x5_1).f4), .string ((rd_T42 l1 x5_1).f5)]] (by rfl) rfl rfl (by (try simp only [List.map_toArray, List.map_cons, List.map_nil]); first | done | rfl | (simp only [List.length_drop, List.length_take]; rfl)) ?_
        with_reducible refine (laws_eqAsk.calls ((rd_T42 l0 x5_1).f0) ((rd_T42 l0 x5_1).f1) ((rd_T42 l0 x5_1).f2) ((rd_T42 l0 x5_1).f3) ((rd_T42 l0 x5_1).f4) ((rd_T42 l0 x5_1).f5) ((rd_T42 l1 x5_1).f0) ((rd_T42 l1 x5_1).f1) ((rd_T42 l1 x5_1).f2) ((rd_T42 l1 x5_1).f3) ((rd_T42 l1 x5_1).f4) ((rd_T42 l1 x5_1).f5) false _ A7.out).mono ?_
        rintro e w12 ⟨rfl, hb⟩
        refine ⟨_, rfl, ?_⟩
        have n0_ := Am (bq (by repeat (first | (with_reducible first | exact HB.out | apply ba | apply bn | apply be) | exact HB.out)) hb)
        clear HB
        have HB := n0_
        clear n0_
        (try clear hb)
        (try clear hb2)
        (try clear hk)
        (try clear hi)
        refine hK.out _ _ ⟨(cl5 HB hw212_0), (cl5 HB hw212_1), (cl5 HB hw212_2), (cl5 HB hw212_3), (cl5 HB hw212_4), (cl5 HB hw212_5), (cl5 HB hw213_0), (cl5 HB hw213_1), (cl5 HB hw213_2), (cl5 HB hw213_3), (cl5 HB hw213_4), (cl5 HB hw213_5)⟩ (fun hHeld => ?_)
        clear hK K
        refine norm_ (a' := ?_) ?_ ?_
        rotate_left
        ·show Act.put _ (some 25) _ = _
         simp only [Act.put, List.setIfInBounds_toArray, List.set_cons_zero, List.set_cons_succ, i64_w, i32_w]
         rfl
        refine pure_ (i := 9) (N := some 26) (v := ?_) (a' := ?_) #[true, true, true, true, true, true, true, true, true, true] rfl rfl (any_of HT_.out (by kernel_rfl)) (fun _ _ _ h => h) (Or.inl ⟨by rfl, ?_⟩) ?_ ?_
        rotate_left
        ·intro w'
         go_simp
         with_reducible rfl
        rotate_left
        ·simp only [Act.put, List.setIfInBounds_toArray, List.set_cons_zero, List.set_cons_succ, i64_w, i32_w]
         rfl
        refine done_ (done_of HT_.out (by kernel_rfl)) ?_
        try go_wp2
        go_ret
        exact ⟨by first | rfl | (simp [errW_none, errW_some] <;> rfl) | (simp [*, errW_none, errW_some] <;> rfl), by repeat (first | (with_reducible first | exact HB.out | apply ba | apply bn | apply be) | exact HB.out)⟩
      ·rw [if_neg c6] at H
       exact absurd H (by simp)
     ·rw [if_neg c5] at H
      exact absurd H (by simp)
    ·rw [if_neg c4] at H
     have c4b0 : decide (x5_1 < (l0.length : Int)) = false := decide_eq_false c4
     clear c4
     obtain rfl := Option.some.inj H
     go_wp2
     go_ret
     exact ⟨by first | rfl | (simp [errW_none, errW_some] <;> rfl) | (simp [*, errW_none, errW_some] <;> rfl), by repeat (first | (with_reducible first | exact HB.out | apply ba | apply bn | apply be) | exact HB.out)⟩
 ·rw [if_neg c3] at H
  have c3b0 : ((l0.length : Int) == (l1.length : Int)) = false := beq_eq_false_iff_ne.mpr c3
  have c3b1 : ((l0.length : Int) != (l1.length : Int)) = true := bne_iff_ne.mpr c3
  have c3b2 : (l0.length == l1.length) = false := by first | simpa using c3 | (simp at c3 ⊢; omega)
  obtain rfl := Option.some.inj H
  go_enter Try.func17, Try.ntmps17
  go_wp2
  go_ret
  exact ⟨by first | rfl | (simp [errW_none, errW_some] <;> rfl) | (simp [*, errW_none, errW_some] <;> rfl), by repeat (first | (with_reducible first | exact HB.out | apply ba | apply bn | apply be) | exact HB.out)⟩

/-! ### laws_eqAct: function 85 -/
def laws_eqAct.f (a0_0 : Int) (a0_1 : Int) (a0_2 : Int) (a0_3 : ByteArray) (a0_4 : ByteArray) (a0_5 : Int) (a0_6 : Int) (a0_7 : ByteArray) (a0_8 : Int) (a1_0 : Int) (a1_1 : Int) (a1_2 : Int) (a1_3 : ByteArray) (a1_4 : ByteArray) (a1_5 : Int) (a1_6 : Int) (a1_7 : ByteArray) (a1_8 : Int) : Option (Bool) := if a0_0 = a1_0 then (if a0_1 = a1_1 then ((laws_eqAsk.f a0_2 a0_3 a0_4 a0_5 a0_6 a0_7 a1_2 a1_3 a1_4 a1_5 a1_6 a1_7).bind fun t217 => (if t217 = true then (if a0_8 = a1_8 then (some true) else (some false)) else (some false))) else (some false)) else (some false)
set_option maxHeartbeats 8000000 in
set_option maxRecDepth 100000 in
theorem laws_eqAct.calls (a0_0 : Int) (a0_1 : Int) (a0_2 : Int) (a0_3 : ByteArray) (a0_4 : ByteArray) (a0_5 : Int) (a0_6 : Int) (a0_7 : ByteArray) (a0_8 : Int) (a1_0 : Int) (a1_1 : Int) (a1_2 : Int) (a1_3 : ByteArray) (a1_4 : ByteArray) (a1_5 : Int) (a1_6 : Int) (a1_7 : ByteArray) (a1_8 : Int) (r : Bool) (w : World) (h : laws_eqAct.f a0_0 a0_1 a0_2 a0_3 a0_4 a0_5 a0_6 a0_7 a0_8 a1_0 a1_1 a1_2 a1_3 a1_4 a1_5 a1_6 a1_7 a1_8 = some r) :
  Calls Try.prog 85 #[.agg #[.int .i64 a0_0, .int .i64 a0_1, .int .i64 a0_2, .string a0_3, .string a0_4, .int .i64 a0_5, .int .i64 a0_6, .string a0_7, .int .i64 a0_8], .agg #[.int .i64 a1_0, .int .i64 a1_1, .int .i64 a1_2, .string a1_3, .string a1_4, .int .i64 a1_5, .int .i64 a1_6, .string a1_7, .int .i64 a1_8]] w fun e w' => e = .returned (.bool r) ∧ Below w.heap.size w w' := by
 have hu123 := Try.underlying123
 have hu42 := Try.underlying42
 have HB := Am (Below.refl w.heap.size w)
 have H : (if a0_0 = a1_0 then (if a0_1 = a1_1 then ((laws_eqAsk.f a0_2 a0_3 a0_4 a0_5 a0_6 a0_7 a1_2 a1_3 a1_4 a1_5 a1_6 a1_7).bind fun t217 => (if t217 = true then (if a0_8 = a1_8 then (some true) else (some false)) else (some false))) else (some false)) else (some false)) = some r := h
 clear h
 by_cases c3 : a0_0 = a1_0
 ·rw [if_pos c3] at H
  have c3b0 : (a0_0 == a1_0) = true := beq_iff_eq.mpr c3
  have c3b1 : (a0_0 != a1_0) = false := bne_eq_false_iff_eq.mpr c3
  clear c3
  by_cases c4 : a0_1 = a1_1
  ·rw [if_pos c4] at H
   have c4b0 : (a0_1 == a1_1) = true := beq_iff_eq.mpr c4
   have c4b1 : (a0_1 != a1_1) = false := bne_eq_false_iff_eq.mpr c4
   clear c4
   replace H := Option.bind_eq_some_iff.mp H
   obtain ⟨t217, A50, H⟩ := H
   replace H : (if t217 = true then (if a0_8 = a1_8 then (some true) else (some false)) else (some false)) = some r := H
   have A5 := Am A50
   clear A50
   by_cases c6 : t217 = true
   ·subst c6
    have H1 : (if a0_8 = a1_8 then (some true) else (some false)) = some r := by rw [if_pos rfl] at H; exact H
    clear H
    have H := H1
    clear H1
    by_cases c7 : a0_8 = a1_8
    ·rw [if_pos c7] at H
     have c7b0 : (a0_8 == a1_8) = true := beq_iff_eq.mpr c7
     have c7b1 : (a0_8 != a1_8) = false := bne_eq_false_iff_eq.mpr c7
     clear c7
     obtain rfl := Option.some.inj H
     go_enter Try.func85, Try.ntmps85
     go_wp2_with (first | ((with_reducible refine gate_dst (N := 2) rfl ?_); refine box_event ?hg (N := 2) ?hd (cs := #[.int .i64 a0_0, .int .i64 a0_1, .int .i64 a0_2, .string a0_3, .string a0_4, .int .i64 a0_5, .int .i64 a0_6, .string a0_7, .int .i64 a0_8]) (t := 123) ?hr ?_; (case hd => rfl); (case hg => rfl); (case hr => first | (go_simp; done) | (go_simp; rfl)); intro gb215 hg w8 hbox hb; have BK215 := Am (hbox); have GW215 := Am ((by rw [hg]; exact (bz (by repeat (first | (with_reducible first | exact HB.out | apply ba | apply bn | apply be) | exact HB.out))) : w.heap.size ≤ gb215)); have GE215 := Am ((by rw [hg]; exact (bz (by repeat (first | (with_reducible first | exact HB.out | apply ba | apply bn | apply be) | exact HB.out))) : w.heap.size ≤ gb215)); replace HB := Am (bq (by repeat (first | (with_reducible first | exact HB.out | apply ba | apply bn | apply be) | exact HB.out)) hb); clear hb hbox hg) | ((with_reducible refine gate_dst (N := 3) rfl ?_); refine box_event ?hg (N := 3) ?hd (cs := #[.int .i64 a1_0, .int .i64 a1_1, .int .i64 a1_2, .string a1_3, .string a1_4, .int .i64 a1_5, .int .i64 a1_6, .string a1_7, .int .i64 a1_8]) (t := 123) ?hr ?_; (case hd => rfl); (case hg => rfl); (case hr => first | (go_simp; done) | (go_simp; rfl)); intro gb216 hg w9 hbox hb; have n0_ := Am (kb (g := gb215) (o := o5b1 a0_0 a0_1 a0_2 a0_3 a0_4 a0_5 a0_6 a0_7 a0_8) (by (with_reducible repeat (first | refine kn ?_ _ | refine ke ?_ | refine ka ?_ _)); exact BK215.out) hb); have n1_ := Am (bq (by repeat (first | (with_reducible first | exact HB.out | apply ba | apply bn | apply be | refine bs ?_ GE215.out) | exact HB.out)) hb); have n2_ := Am (hbox); have n3_ := Am ((by rw [hg]; exact (bz (by repeat (first | (with_reducible first | exact HB.out | apply ba | apply bn | apply be | refine bs ?_ GE215.out) | exact HB.out))) : w.heap.size ≤ gb216)); have n4_ := Am ((by rw [hg]; exact (bz (by repeat (first | (with_reducible first | exact HB.out | apply ba | apply bn | apply be | refine bs ?_ GE215.out) | exact HB.out))) : w.heap.size ≤ gb216)); have n5_ := Am ((by rw [hg]; exact Nat.ne_of_lt (kl (g := gb215) (o := o5b1 a0_0 a0_1 a0_2 a0_3 a0_4 a0_5 a0_6 a0_7 a0_8) (by (with_reducible repeat (first | refine kn ?_ _ | refine ke ?_ | refine ka ?_ _)); exact BK215.out)) : gb215 ≠ gb216)); have n6_ := Am ((by rw [hg]; exact Nat.ne_of_gt (kl (g := gb215) (o := o5b1 a0_0 a0_1 a0_2 a0_3 a0_4 a0_5 a0_6 a0_7 a0_8) (by (with_reducible repeat (first | refine kn ?_ _ | refine ke ?_ | refine ka ?_ _)); exact BK215.out)) : gb216 ≠ gb215)); clear BK215; clear HB; have BK215 := n0_; have HB := n1_; have BK216 := n2_; have GW216 := n3_; have GE216 := n4_; have NB215_216 := n5_; have NB216_215 := n6_; clear n0_ n1_ n2_ n3_ n4_ n5_ n6_; clear hb hbox hg; have hnb10 := NB215_216.out; have hnc10 := NB216_215.out; have hcz11_0 : w9.cell? ⟨gb215, 0, none⟩ = some (.int .i64 a0_0) := (kc BK215.out 0).trans rfl; have hcz11_1 : w9.cell? ⟨gb215, 1, none⟩ = some (.int .i64 a0_1) := (kc BK215.out 1).trans rfl; have hcz11_2 : w9.cell? ⟨gb215, 2, none⟩ = some (.int .i64 a0_2) := (kc BK215.out 2).trans rfl; have hcz11_3 : w9.cell? ⟨gb215, 3, none⟩ = some (.string a0_3) := (kc BK215.out 3).trans rfl; have hcz11_4 : w9.cell? ⟨gb215, 4, none⟩ = some (.string a0_4) := (kc BK215.out 4).trans rfl; have hcz11_5 : w9.cell? ⟨gb215, 5, none⟩ = some (.int .i64 a0_5) := (kc BK215.out 5).trans rfl; have hcz11_6 : w9.cell? ⟨gb215, 6, none⟩ = some (.int .i64 a0_6) := (kc BK215.out 6).trans rfl; have hcz11_7 : w9.cell? ⟨gb215, 7, none⟩ = some (.string a0_7) := (kc BK215.out 7).trans rfl; have hcz11_8 : w9.cell? ⟨gb215, 8, none⟩ = some (.int .i64 a0_8) := (kc BK215.out 8).trans rfl; have hfz11_0 := kf BK215.out 0; have hfz11_1 := kf BK215.out 1; have hfz11_2 := kf BK215.out 2; have hfz11_3 := kf BK215.out 3; have hfz11_4 := kf BK215.out 4; have hfz11_5 := kf BK215.out 5; have hfz11_6 := kf BK215.out 6; have hfz11_7 := kf BK215.out 7; have hfz11_8 := kf BK215.out 8; have hcz12_0 : w9.cell? ⟨gb216, 0, none⟩ = some (.int .i64 a1_0) := (kc BK216.out 0).trans rfl; have hcz12_1 : w9.cell? ⟨gb216, 1, none⟩ = some (.int .i64 a1_1) := (kc BK216.out 1).trans rfl; have hcz12_2 : w9.cell? ⟨gb216, 2, none⟩ = some (.int .i64 a1_2) := (kc BK216.out 2).trans rfl; have hcz12_3 : w9.cell? ⟨gb216, 3, none⟩ = some (.string a1_3) := (kc BK216.out 3).trans rfl; have hcz12_4 : w9.cell? ⟨gb216, 4, none⟩ = some (.string a1_4) := (kc BK216.out 4).trans rfl; have hcz12_5 : w9.cell? ⟨gb216, 5, none⟩ = some (.int .i64 a1_5) := (kc BK216.out 5).trans rfl; have hcz12_6 : w9.cell? ⟨gb216, 6, none⟩ = some (.int .i64 a1_6) := (kc BK216.out 6).trans rfl; have hcz12_7 : w9.cell? ⟨gb216, 7, none⟩ = some (.string a1_7) := (kc BK216.out 7).trans rfl; have hcz12_8 : w9.cell? ⟨gb216, 8, none⟩ = some (.int .i64 a1_8) := (kc BK216.out 8).trans rfl; have hfz12_0 := kf BK216.out 0; have hfz12_1 := kf BK216.out 1; have hfz12_2 := kf BK216.out 2; have hfz12_3 := kf BK216.out 3; have hfz12_4 := kf BK216.out 4; have hfz12_5 := kf BK216.out 5; have hfz12_6 := kf BK216.out 6; have hfz12_7 := kf BK216.out 7; have hfz12_8 := kf BK216.out 8) | ((with_reducible refine gate_callee (f := 84) rfl ?_); refine goesL_ (some 19) rfl rfl Try.func84 (by kernel_rfl) rfl #[.agg #[.int .i64 a0_2, .string a0_3, .string a0_4, .int .i64 a0_5, .int .i64 a0_6, .string a0_7], .agg #[.int .i64 a1_2, .string a1_3, .string a1_4, .int .i64 a1_5, .int .i64 a1_6, .string a1_7]] rfl (by (try simp only [List.map_toArray, List.map_cons, List.map_nil]); first | done | rfl | (simp only [List.length_drop, List.length_take]; rfl)) ?_; (with_reducible refine (laws_eqAsk.calls a0_2 a0_3 a0_4 a0_5 a0_6 a0_7 a1_2 a1_3 a1_4 a1_5 a1_6 a1_7 true _ A5.out).mono ?_); rintro e w13 ⟨rfl, hb⟩; refine ⟨_, rfl, ?_⟩; have n0_ := Am (kb (g := gb215) (o := o5b1 a0_0 a0_1 a0_2 a0_3 a0_4 a0_5 a0_6 a0_7 a0_8) (by (with_reducible repeat (first | refine kn ?_ _ | refine ke ?_ | refine ka ?_ _)); exact BK215.out) hb); have n1_ := Am (kb (g := gb216) (o := .cells #[.int .i64 a1_0, .int .i64 a1_1, .int .i64 a1_2, .string a1_3, .string a1_4, .int .i64 a1_5, .int .i64 a1_6, .string a1_7, .int .i64 a1_8] 123 (0, 0)) (by (with_reducible repeat (first | refine kn ?_ _ | refine ke ?_ | refine ka ?_ _)); exact BK216.out) hb); have n2_ := Am (bq (by repeat (first | (with_reducible first | exact HB.out | apply ba | apply bn | apply be | refine bs ?_ GE215.out | refine bs ?_ GE216.out) | exact HB.out)) hb); clear BK215; clear BK216; clear HB; have BK215 := n0_; have BK216 := n1_; have HB := n2_; clear n0_ n1_ n2_; (try clear hb); have hcz14_0 : w13.cell? ⟨gb215, 0, none⟩ = some (.int .i64 a0_0) := (kc BK215.out 0).trans rfl; have hcz14_1 : w13.cell? ⟨gb215, 1, none⟩ = some (.int .i64 a0_1) := (kc BK215.out 1).trans rfl; have hcz14_2 : w13.cell? ⟨gb215, 2, none⟩ = some (.int .i64 a0_2) := (kc BK215.out 2).trans rfl; have hcz14_3 : w13.cell? ⟨gb215, 3, none⟩ = some (.string a0_3) := (kc BK215.out 3).trans rfl; have hcz14_4 : w13.cell? ⟨gb215, 4, none⟩ = some (.string a0_4) := (kc BK215.out 4).trans rfl; have hcz14_5 : w13.cell? ⟨gb215, 5, none⟩ = some (.int .i64 a0_5) := (kc BK215.out 5).trans rfl; have hcz14_6 : w13.cell? ⟨gb215, 6, none⟩ = some (.int .i64 a0_6) := (kc BK215.out 6).trans rfl; have hcz14_7 : w13.cell? ⟨gb215, 7, none⟩ = some (.string a0_7) := (kc BK215.out 7).trans rfl; have hcz14_8 : w13.cell? ⟨gb215, 8, none⟩ = some (.int .i64 a0_8) := (kc BK215.out 8).trans rfl; have hfz14_0 := kf BK215.out 0; have hfz14_1 := kf BK215.out 1; have hfz14_2 := kf BK215.out 2; have hfz14_3 := kf BK215.out 3; have hfz14_4 := kf BK215.out 4; have hfz14_5 := kf BK215.out 5; have hfz14_6 := kf BK215.out 6; have hfz14_7 := kf BK215.out 7; have hfz14_8 := kf BK215.out 8; have hcz15_0 : w13.cell? ⟨gb216, 0, none⟩ = some (.int .i64 a1_0) := (kc BK216.out 0).trans rfl; have hcz15_1 : w13.cell? ⟨gb216, 1, none⟩ = some (.int .i64 a1_1) := (kc BK216.out 1).trans rfl; have hcz15_2 : w13.cell? ⟨gb216, 2, none⟩ = some (.int .i64 a1_2) := (kc BK216.out 2).trans rfl; have hcz15_3 : w13.cell? ⟨gb216, 3, none⟩ = some (.string a1_3) := (kc BK216.out 3).trans rfl; have hcz15_4 : w13.cell? ⟨gb216, 4, none⟩ = some (.string a1_4) := (kc BK216.out 4).trans rfl; have hcz15_5 : w13.cell? ⟨gb216, 5, none⟩ = some (.int .i64 a1_5) := (kc BK216.out 5).trans rfl; have hcz15_6 : w13.cell? ⟨gb216, 6, none⟩ = some (.int .i64 a1_6) := (kc BK216.out 6).trans rfl; have hcz15_7 : w13.cell? ⟨gb216, 7, none⟩ = some (.string a1_7) := (kc BK216.out 7).trans rfl; have hcz15_8 : w13.cell? ⟨gb216, 8, none⟩ = some (.int .i64 a1_8) := (kc BK216.out 8).trans rfl; have hfz15_0 := kf BK216.out 0; have hfz15_1 := kf BK216.out 1; have hfz15_2 := kf BK216.out 2; have hfz15_3 := kf BK216.out 3; have hfz15_4 := kf BK216.out 4; have hfz15_5 := kf BK216.out 5; have hfz15_6 := kf BK216.out 6; have hfz15_7 := kf BK216.out 7; have hfz15_8 := kf BK216.out 8))
     go_ret
     exact ⟨by first | rfl | (simp [errW_none, errW_some] <;> rfl) | (simp [*, errW_none, errW_some] <;> rfl), by repeat (first | (with_reducible first | exact HB.out | apply ba | apply bn | apply be | refine bs ?_ GE215.out | refine bs ?_ GE216.out) | exact HB.out)⟩
    ·rw [if_neg c7] at H
     have c7b0 : (a0_8 == a1_8) = false := beq_eq_false_iff_ne.mpr c7
     have c7b1 : (a0_8 != a1_8) = true := bne_iff_ne.mpr c7
     obtain rfl := Option.some.inj H
     go_enter Try.func85, Try.ntmps85
     go_wp2_with (first | ((with_reducible refine gate_dst (N := 2) rfl ?_); refine box_event ?hg (N := 2) ?hd (cs := #[.int .i64 a0_0, .int .i64 a0_1, .int .i64 a0_2, .string a0_3, .string a0_4, .int .i64 a0_5, .int .i64 a0_6, .string a0_7, .int .i64 a0_8]) (t := 123) ?hr ?_; (case hd => rfl); (case hg => rfl); (case hr => first | (go_simp; done) | (go_simp; rfl)); intro gb215 hg w16 hbox hb; have BK215 := Am (hbox); have GW215 := Am ((by rw [hg]; exact (bz (by repeat (first | (with_reducible first | exact HB.out | apply ba | apply bn | apply be) | exact HB.out))) : w.heap.size ≤ gb215)); have GE215 := Am ((by rw [hg]; exact (bz (by repeat (first | (with_reducible first | exact HB.out | apply ba | apply bn | apply be) | exact HB.out))) : w.heap.size ≤ gb215)); replace HB := Am (bq (by repeat (first | (with_reducible first | exact HB.out | apply ba | apply bn | apply be) | exact HB.out)) hb); clear hb hbox hg) | ((with_reducible refine gate_dst (N := 3) rfl ?_); refine box_event ?hg (N := 3) ?hd (cs := #[.int .i64 a1_0, .int .i64 a1_1, .int .i64 a1_2, .string a1_3, .string a1_4, .int .i64 a1_5, .int .i64 a1_6, .string a1_7, .int .i64 a1_8]) (t := 123) ?hr ?_; (case hd => rfl); (case hg => rfl); (case hr => first | (go_simp; done) | (go_simp; rfl)); intro gb216 hg w17 hbox hb; have n0_ := Am (kb (g := gb215) (o := o5b1 a0_0 a0_1 a0_2 a0_3 a0_4 a0_5 a0_6 a0_7 a0_8) (by (with_reducible repeat (first | refine kn ?_ _ | refine ke ?_ | refine ka ?_ _)); exact BK215.out) hb); have n1_ := Am (bq (by repeat (first | (with_reducible first | exact HB.out | apply ba | apply bn | apply be | refine bs ?_ GE215.out) | exact HB.out)) hb); have n2_ := Am (hbox); have n3_ := Am ((by rw [hg]; exact (bz (by repeat (first | (with_reducible first | exact HB.out | apply ba | apply bn | apply be | refine bs ?_ GE215.out) | exact HB.out))) : w.heap.size ≤ gb216)); have n4_ := Am ((by rw [hg]; exact (bz (by repeat (first | (with_reducible first | exact HB.out | apply ba | apply bn | apply be | refine bs ?_ GE215.out) | exact HB.out))) : w.heap.size ≤ gb216)); have n5_ := Am ((by rw [hg]; exact Nat.ne_of_lt (kl (g := gb215) (o := o5b1 a0_0 a0_1 a0_2 a0_3 a0_4 a0_5 a0_6 a0_7 a0_8) (by (with_reducible repeat (first | refine kn ?_ _ | refine ke ?_ | refine ka ?_ _)); exact BK215.out)) : gb215 ≠ gb216)); have n6_ := Am ((by rw [hg]; exact Nat.ne_of_gt (kl (g := gb215) (o := o5b1 a0_0 a0_1 a0_2 a0_3 a0_4 a0_5 a0_6 a0_7 a0_8) (by (with_reducible repeat (first | refine kn ?_ _ | refine ke ?_ | refine ka ?_ _)); exact BK215.out)) : gb216 ≠ gb215)); clear BK215; clear HB; have BK215 := n0_; have HB := n1_; have BK216 := n2_; have GW216 := n3_; have GE216 := n4_; have NB215_216 := n5_; have NB216_215 := n6_; clear n0_ n1_ n2_ n3_ n4_ n5_ n6_; clear hb hbox hg; have hnb18 := NB215_216.out; have hnc18 := NB216_215.out; have hcz19_0 : w17.cell? ⟨gb215, 0, none⟩ = some (.int .i64 a0_0) := (kc BK215.out 0).trans rfl; have hcz19_1 : w17.cell? ⟨gb215, 1, none⟩ = some (.int .i64 a0_1) := (kc BK215.out 1).trans rfl; have hcz19_2 : w17.cell? ⟨gb215, 2, none⟩ = some (.int .i64 a0_2) := (kc BK215.out 2).trans rfl; have hcz19_3 : w17.cell? ⟨gb215, 3, none⟩ = some (.string a0_3) := (kc BK215.out 3).trans rfl; have hcz19_4 : w17.cell? ⟨gb215, 4, none⟩ = some (.string a0_4) := (kc BK215.out 4).trans rfl; have hcz19_5 : w17.cell? ⟨gb215, 5, none⟩ = some (.int .i64 a0_5) := (kc BK215.out 5).trans rfl; have hcz19_6 : w17.cell? ⟨gb215, 6, none⟩ = some (.int .i64 a0_6) := (kc BK215.out 6).trans rfl; have hcz19_7 : w17.cell? ⟨gb215, 7, none⟩ = some (.string a0_7) := (kc BK215.out 7).trans rfl; have hcz19_8 : w17.cell? ⟨gb215, 8, none⟩ = some (.int .i64 a0_8) := (kc BK215.out 8).trans rfl; have hfz19_0 := kf BK215.out 0; have hfz19_1 := kf BK215.out 1; have hfz19_2 := kf BK215.out 2; have hfz19_3 := kf BK215.out 3; have hfz19_4 := kf BK215.out 4; have hfz19_5 := kf BK215.out 5; have hfz19_6 := kf BK215.out 6; have hfz19_7 := kf BK215.out 7; have hfz19_8 := kf BK215.out 8; have hcz20_0 : w17.cell? ⟨gb216, 0, none⟩ = some (.int .i64 a1_0) := (kc BK216.out 0).trans rfl; have hcz20_1 : w17.cell? ⟨gb216, 1, none⟩ = some (.int .i64 a1_1) := (kc BK216.out 1).trans rfl; have hcz20_2 : w17.cell? ⟨gb216, 2, none⟩ = some (.int .i64 a1_2) := (kc BK216.out 2).trans rfl; have hcz20_3 : w17.cell? ⟨gb216, 3, none⟩ = some (.string a1_3) := (kc BK216.out 3).trans rfl; have hcz20_4 : w17.cell? ⟨gb216, 4, none⟩ = some (.string a1_4) := (kc BK216.out 4).trans rfl; have hcz20_5 : w17.cell? ⟨gb216, 5, none⟩ = some (.int .i64 a1_5) := (kc BK216.out 5).trans rfl; have hcz20_6 : w17.cell? ⟨gb216, 6, none⟩ = some (.int .i64 a1_6) := (kc BK216.out 6).trans rfl; have hcz20_7 : w17.cell? ⟨gb216, 7, none⟩ = some (.string a1_7) := (kc BK216.out 7).trans rfl; have hcz20_8 : w17.cell? ⟨gb216, 8, none⟩ = some (.int .i64 a1_8) := (kc BK216.out 8).trans rfl; have hfz20_0 := kf BK216.out 0; have hfz20_1 := kf BK216.out 1; have hfz20_2 := kf BK216.out 2; have hfz20_3 := kf BK216.out 3; have hfz20_4 := kf BK216.out 4; have hfz20_5 := kf BK216.out 5; have hfz20_6 := kf BK216.out 6; have hfz20_7 := kf BK216.out 7; have hfz20_8 := kf BK216.out 8) | ((with_reducible refine gate_callee (f := 84) rfl ?_); refine goesL_ (some 19) rfl rfl Try.func84 (by kernel_rfl) rfl #[.agg #[.int .i64 a0_2, .string a0_3, .string a0_4, .int .i64 a0_5, .int .i64 a0_6, .string a0_7], .agg #[.int .i64 a1_2, .string a1_3, .string a1_4, .int .i64 a1_5, .int .i64 a1_6, .string a1_7]] rfl (by (try simp only [List.map_toArray, List.map_cons, List.map_nil]); first | done | rfl | (simp only [List.length_drop, List.length_take]; rfl)) ?_; (with_reducible refine (laws_eqAsk.calls a0_2 a0_3 a0_4 a0_5 a0_6 a0_7 a1_2 a1_3 a1_4 a1_5 a1_6 a1_7 true _ A5.out).mono ?_); rintro e w21 ⟨rfl, hb⟩; refine ⟨_, rfl, ?_⟩; have n0_ := Am (kb (g := gb215) (o := o5b1 a0_0 a0_1 a0_2 a0_3 a0_4 a0_5 a0_6 a0_7 a0_8) (by (with_reducible repeat (first | refine kn ?_ _ | refine ke ?_ | refine ka ?_ _)); exact BK215.out) hb); have n1_ := Am (kb (g := gb216) (o := .cells #[.int .i64 a1_0, .int .i64 a1_1, .int .i64 a1_2, .string a1_3, .string a1_4, .int .i64 a1_5, .int .i64 a1_6, .string a1_7, .int .i64 a1_8] 123 (0, 0)) (by (with_reducible repeat (first | refine kn ?_ _ | refine ke ?_ | refine ka ?_ _)); exact BK216.out) hb); have n2_ := Am (bq (by repeat (first | (with_reducible first | exact HB.out | apply ba | apply bn | apply be | refine bs ?_ GE215.out | refine bs ?_ GE216.out) | exact HB.out)) hb); clear BK215; clear BK216; clear HB; have BK215 := n0_; have BK216 := n1_; have HB := n2_; clear n0_ n1_ n2_; (try clear hb); have hcz22_0 : w21.cell? ⟨gb215, 0, none⟩ = some (.int .i64 a0_0) := (kc BK215.out 0).trans rfl; have hcz22_1 : w21.cell? ⟨gb215, 1, none⟩ = some (.int .i64 a0_1) := (kc BK215.out 1).trans rfl; have hcz22_2 : w21.cell? ⟨gb215, 2, none⟩ = some (.int .i64 a0_2) := (kc BK215.out 2).trans rfl; have hcz22_3 : w21.cell? ⟨gb215, 3, none⟩ = some (.string a0_3) := (kc BK215.out 3).trans rfl; have hcz22_4 : w21.cell? ⟨gb215, 4, none⟩ = some (.string a0_4) := (kc BK215.out 4).trans rfl; have hcz22_5 : w21.cell? ⟨gb215, 5, none⟩ = some (.int .i64 a0_5) := (kc BK215.out 5).trans rfl; have hcz22_6 : w21.cell? ⟨gb215, 6, none⟩ = some (.int .i64 a0_6) := (kc BK215.out 6).trans rfl; have hcz22_7 : w21.cell? ⟨gb215, 7, none⟩ = some (.string a0_7) := (kc BK215.out 7).trans rfl; have hcz22_8 : w21.cell? ⟨gb215, 8, none⟩ = some (.int .i64 a0_8) := (kc BK215.out 8).trans rfl; have hfz22_0 := kf BK215.out 0; have hfz22_1 := kf BK215.out 1; have hfz22_2 := kf BK215.out 2; have hfz22_3 := kf BK215.out 3; have hfz22_4 := kf BK215.out 4; have hfz22_5 := kf BK215.out 5; have hfz22_6 := kf BK215.out 6; have hfz22_7 := kf BK215.out 7; have hfz22_8 := kf BK215.out 8; have hcz23_0 : w21.cell? ⟨gb216, 0, none⟩ = some (.int .i64 a1_0) := (kc BK216.out 0).trans rfl; have hcz23_1 : w21.cell? ⟨gb216, 1, none⟩ = some (.int .i64 a1_1) := (kc BK216.out 1).trans rfl; have hcz23_2 : w21.cell? ⟨gb216, 2, none⟩ = some (.int .i64 a1_2) := (kc BK216.out 2).trans rfl; have hcz23_3 : w21.cell? ⟨gb216, 3, none⟩ = some (.string a1_3) := (kc BK216.out 3).trans rfl; have hcz23_4 : w21.cell? ⟨gb216, 4, none⟩ = some (.string a1_4) := (kc BK216.out 4).trans rfl; have hcz23_5 : w21.cell? ⟨gb216, 5, none⟩ = some (.int .i64 a1_5) := (kc BK216.out 5).trans rfl; have hcz23_6 : w21.cell? ⟨gb216, 6, none⟩ = some (.int .i64 a1_6) := (kc BK216.out 6).trans rfl; have hcz23_7 : w21.cell? ⟨gb216, 7, none⟩ = some (.string a1_7) := (kc BK216.out 7).trans rfl; have hcz23_8 : w21.cell? ⟨gb216, 8, none⟩ = some (.int .i64 a1_8) := (kc BK216.out 8).trans rfl; have hfz23_0 := kf BK216.out 0; have hfz23_1 := kf BK216.out 1; have hfz23_2 := kf BK216.out 2; have hfz23_3 := kf BK216.out 3; have hfz23_4 := kf BK216.out 4; have hfz23_5 := kf BK216.out 5; have hfz23_6 := kf BK216.out 6; have hfz23_7 := kf BK216.out 7; have hfz23_8 := kf BK216.out 8))
     go_ret
     exact ⟨by first | rfl | (simp [errW_none, errW_some] <;> rfl) | (simp [*, errW_none, errW_some] <;> rfl), by repeat (first | (with_reducible first | exact HB.out | apply ba | apply bn | apply be | refine bs ?_ GE215.out | refine bs ?_ GE216.out) | exact HB.out)⟩
   ·replace c6 := Bool.eq_false_iff.mpr c6
    subst c6
    have H1 : (some false) = some r := by rw [if_neg (show ¬ (false = true) by decide)] at H; exact H
    clear H
    have H := H1
    clear H1
    obtain rfl := Option.some.inj H
    go_enter Try.func85, Try.ntmps85
    go_wp2_with (first | ((with_reducible refine gate_dst (N := 2) rfl ?_); refine box_event ?hg (N := 2) ?hd (cs := #[.int .i64 a0_0, .int .i64 a0_1, .int .i64 a0_2, .string a0_3, .string a0_4, .int .i64 a0_5, .int .i64 a0_6, .string a0_7, .int .i64 a0_8]) (t := 123) ?hr ?_; (case hd => rfl); (case hg => rfl); (case hr => first | (go_simp; done) | (go_simp; rfl)); intro gb215 hg w24 hbox hb; have BK215 := Am (hbox); have GW215 := Am ((by rw [hg]; exact (bz (by repeat (first | (with_reducible first | exact HB.out | apply ba | apply bn | apply be) | exact HB.out))) : w.heap.size ≤ gb215)); have GE215 := Am ((by rw [hg]; exact (bz (by repeat (first | (with_reducible first | exact HB.out | apply ba | apply bn | apply be) | exact HB.out))) : w.heap.size ≤ gb215)); replace HB := Am (bq (by repeat (first | (with_reducible first | exact HB.out | apply ba | apply bn | apply be) | exact HB.out)) hb); clear hb hbox hg) | ((with_reducible refine gate_dst (N := 3) rfl ?_); refine box_event ?hg (N := 3) ?hd (cs := #[.int .i64 a1_0, .int .i64 a1_1, .int .i64 a1_2, .string a1_3, .string a1_4, .int .i64 a1_5, .int .i64 a1_6, .string a1_7, .int .i64 a1_8]) (t := 123) ?hr ?_; (case hd => rfl); (case hg => rfl); (case hr => first | (go_simp; done) | (go_simp; rfl)); intro gb216 hg w25 hbox hb; have n0_ := Am (kb (g := gb215) (o := o5b1 a0_0 a0_1 a0_2 a0_3 a0_4 a0_5 a0_6 a0_7 a0_8) (by (with_reducible repeat (first | refine kn ?_ _ | refine ke ?_ | refine ka ?_ _)); exact BK215.out) hb); have n1_ := Am (bq (by repeat (first | (with_reducible first | exact HB.out | apply ba | apply bn | apply be | refine bs ?_ GE215.out) | exact HB.out)) hb); have n2_ := Am (hbox); have n3_ := Am ((by rw [hg]; exact (bz (by repeat (first | (with_reducible first | exact HB.out | apply ba | apply bn | apply be | refine bs ?_ GE215.out) | exact HB.out))) : w.heap.size ≤ gb216)); have n4_ := Am ((by rw [hg]; exact (bz (by repeat (first | (with_reducible first | exact HB.out | apply ba | apply bn | apply be | refine bs ?_ GE215.out) | exact HB.out))) : w.heap.size ≤ gb216)); have n5_ := Am ((by rw [hg]; exact Nat.ne_of_lt (kl (g := gb215) (o := o5b1 a0_0 a0_1 a0_2 a0_3 a0_4 a0_5 a0_6 a0_7 a0_8) (by (with_reducible repeat (first | refine kn ?_ _ | refine ke ?_ | refine ka ?_ _)); exact BK215.out)) : gb215 ≠ gb216)); have n6_ := Am ((by rw [hg]; exact Nat.ne_of_gt (kl (g := gb215) (o := o5b1 a0_0 a0_1 a0_2 a0_3 a0_4 a0_5 a0_6 a0_7 a0_8) (by (with_reducible repeat (first | refine kn ?_ _ | refine ke ?_ | refine ka ?_ _)); exact BK215.out)) : gb216 ≠ gb215)); clear BK215; clear HB; have BK215 := n0_; have HB := n1_; have BK216 := n2_; have GW216 := n3_; have GE216 := n4_; have NB215_216 := n5_; have NB216_215 := n6_; clear n0_ n1_ n2_ n3_ n4_ n5_ n6_; clear hb hbox hg; have hnb26 := NB215_216.out; have hnc26 := NB216_215.out; have hcz27_0 : w25.cell? ⟨gb215, 0, none⟩ = some (.int .i64 a0_0) := (kc BK215.out 0).trans rfl; have hcz27_1 : w25.cell? ⟨gb215, 1, none⟩ = some (.int .i64 a0_1) := (kc BK215.out 1).trans rfl; have hcz27_2 : w25.cell? ⟨gb215, 2, none⟩ = some (.int .i64 a0_2) := (kc BK215.out 2).trans rfl; have hcz27_3 : w25.cell? ⟨gb215, 3, none⟩ = some (.string a0_3) := (kc BK215.out 3).trans rfl; have hcz27_4 : w25.cell? ⟨gb215, 4, none⟩ = some (.string a0_4) := (kc BK215.out 4).trans rfl; have hcz27_5 : w25.cell? ⟨gb215, 5, none⟩ = some (.int .i64 a0_5) := (kc BK215.out 5).trans rfl; have hcz27_6 : w25.cell? ⟨gb215, 6, none⟩ = some (.int .i64 a0_6) := (kc BK215.out 6).trans rfl; have hcz27_7 : w25.cell? ⟨gb215, 7, none⟩ = some (.string a0_7) := (kc BK215.out 7).trans rfl; have hcz27_8 : w25.cell? ⟨gb215, 8, none⟩ = some (.int .i64 a0_8) := (kc BK215.out 8).trans rfl; have hfz27_0 := kf BK215.out 0; have hfz27_1 := kf BK215.out 1; have hfz27_2 := kf BK215.out 2; have hfz27_3 := kf BK215.out 3; have hfz27_4 := kf BK215.out 4; have hfz27_5 := kf BK215.out 5; have hfz27_6 := kf BK215.out 6; have hfz27_7 := kf BK215.out 7; have hfz27_8 := kf BK215.out 8; have hcz28_0 : w25.cell? ⟨gb216, 0, none⟩ = some (.int .i64 a1_0) := (kc BK216.out 0).trans rfl; have hcz28_1 : w25.cell? ⟨gb216, 1, none⟩ = some (.int .i64 a1_1) := (kc BK216.out 1).trans rfl; have hcz28_2 : w25.cell? ⟨gb216, 2, none⟩ = some (.int .i64 a1_2) := (kc BK216.out 2).trans rfl; have hcz28_3 : w25.cell? ⟨gb216, 3, none⟩ = some (.string a1_3) := (kc BK216.out 3).trans rfl; have hcz28_4 : w25.cell? ⟨gb216, 4, none⟩ = some (.string a1_4) := (kc BK216.out 4).trans rfl; have hcz28_5 : w25.cell? ⟨gb216, 5, none⟩ = some (.int .i64 a1_5) := (kc BK216.out 5).trans rfl; have hcz28_6 : w25.cell? ⟨gb216, 6, none⟩ = some (.int .i64 a1_6) := (kc BK216.out 6).trans rfl; have hcz28_7 : w25.cell? ⟨gb216, 7, none⟩ = some (.string a1_7) := (kc BK216.out 7).trans rfl; have hcz28_8 : w25.cell? ⟨gb216, 8, none⟩ = some (.int .i64 a1_8) := (kc BK216.out 8).trans rfl; have hfz28_0 := kf BK216.out 0; have hfz28_1 := kf BK216.out 1; have hfz28_2 := kf BK216.out 2; have hfz28_3 := kf BK216.out 3; have hfz28_4 := kf BK216.out 4; have hfz28_5 := kf BK216.out 5; have hfz28_6 := kf BK216.out 6; have hfz28_7 := kf BK216.out 7; have hfz28_8 := kf BK216.out 8) | ((with_reducible refine gate_callee (f := 84) rfl ?_); refine goesL_ (some 19) rfl rfl Try.func84 (by kernel_rfl) rfl #[.agg #[.int .i64 a0_2, .string a0_3, .string a0_4, .int .i64 a0_5, .int .i64 a0_6, .string a0_7], .agg #[.int .i64 a1_2, .string a1_3, .string a1_4, .int .i64 a1_5, .int .i64 a1_6, .string a1_7]] rfl (by (try simp only [List.map_toArray, List.map_cons, List.map_nil]); first | done | rfl | (simp only [List.length_drop, List.length_take]; rfl)) ?_; (with_reducible refine (laws_eqAsk.calls a0_2 a0_3 a0_4 a0_5 a0_6 a0_7 a1_2 a1_3 a1_4 a1_5 a1_6 a1_7 false _ A5.out).mono ?_); rintro e w29 ⟨rfl, hb⟩; refine ⟨_, rfl, ?_⟩; have n0_ := Am (kb (g := gb215) (o := o5b1 a0_0 a0_1 a0_2 a0_3 a0_4 a0_5 a0_6 a0_7 a0_8) (by (with_reducible repeat (first | refine kn ?_ _ | refine ke ?_ | refine ka ?_ _)); exact BK215.out) hb); have n1_ := Am (kb (g := gb216) (o := .cells #[.int .i64 a1_0, .int .i64 a1_1, .int .i64 a1_2, .string a1_3, .string a1_4, .int .i64 a1_5, .int .i64 a1_6, .string a1_7, .int .i64 a1_8] 123 (0, 0)) (by (with_reducible repeat (first | refine kn ?_ _ | refine ke ?_ | refine ka ?_ _)); exact BK216.out) hb); have n2_ := Am (bq (by repeat (first | (with_reducible first | exact HB.out | apply ba | apply bn | apply be | refine bs ?_ GE215.out | refine bs ?_ GE216.out) | exact HB.out)) hb); clear BK215; clear BK216; clear HB; have BK215 := n0_; have BK216 := n1_; have HB := n2_; clear n0_ n1_ n2_; (try clear hb)))
    go_ret
    exact ⟨by first | rfl | (simp [errW_none, errW_some] <;> rfl) | (simp [*, errW_none, errW_some] <;> rfl), by repeat (first | (with_reducible first | exact HB.out | apply ba | apply bn | apply be | refine bs ?_ GE215.out | refine bs ?_ GE216.out) | exact HB.out)⟩
  ·rw [if_neg c4] at H
   have c4b0 : (a0_1 == a1_1) = false := beq_eq_false_iff_ne.mpr c4
   have c4b1 : (a0_1 != a1_1) = true := bne_iff_ne.mpr c4
   obtain rfl := Option.some.inj H
   go_enter Try.func85, Try.ntmps85
   go_wp2_with (first | ((with_reducible refine gate_dst (N := 2) rfl ?_); refine box_event ?hg (N := 2) ?hd (cs := #[.int .i64 a0_0, .int .i64 a0_1, .int .i64 a0_2, .string a0_3, .string a0_4, .int .i64 a0_5, .int .i64 a0_6, .string a0_7, .int .i64 a0_8]) (t := 123) ?hr ?_; (case hd => rfl); (case hg => rfl); (case hr => first | (go_simp; done) | (go_simp; rfl)); intro gb215 hg w30 hbox hb; have BK215 := Am (hbox); have GW215 := Am ((by rw [hg]; exact (bz (by repeat (first | (with_reducible first | exact HB.out | apply ba | apply bn | apply be) | exact HB.out))) : w.heap.size ≤ gb215)); have GE215 := Am ((by rw [hg]; exact (bz (by repeat (first | (with_reducible first | exact HB.out | apply ba | apply bn | apply be) | exact HB.out))) : w.heap.size ≤ gb215)); replace HB := Am (bq (by repeat (first | (with_reducible first | exact HB.out | apply ba | apply bn | apply be) | exact HB.out)) hb); clear hb hbox hg) | ((with_reducible refine gate_dst (N := 3) rfl ?_); refine box_event ?hg (N := 3) ?hd (cs := #[.int .i64 a1_0, .int .i64 a1_1, .int .i64 a1_2, .string a1_3, .string a1_4, .int .i64 a1_5, .int .i64 a1_6, .string a1_7, .int .i64 a1_8]) (t := 123) ?hr ?_; (case hd => rfl); (case hg => rfl); (case hr => first | (go_simp; done) | (go_simp; rfl)); intro gb216 hg w31 hbox hb; have n0_ := Am (kb (g := gb215) (o := o5b1 a0_0 a0_1 a0_2 a0_3 a0_4 a0_5 a0_6 a0_7 a0_8) (by (with_reducible repeat (first | refine kn ?_ _ | refine ke ?_ | refine ka ?_ _)); exact BK215.out) hb); have n1_ := Am (bq (by repeat (first | (with_reducible first | exact HB.out | apply ba | apply bn | apply be | refine bs ?_ GE215.out) | exact HB.out)) hb); have n2_ := Am (hbox); have n3_ := Am ((by rw [hg]; exact (bz (by repeat (first | (with_reducible first | exact HB.out | apply ba | apply bn | apply be | refine bs ?_ GE215.out) | exact HB.out))) : w.heap.size ≤ gb216)); have n4_ := Am ((by rw [hg]; exact (bz (by repeat (first | (with_reducible first | exact HB.out | apply ba | apply bn | apply be | refine bs ?_ GE215.out) | exact HB.out))) : w.heap.size ≤ gb216)); have n5_ := Am ((by rw [hg]; exact Nat.ne_of_lt (kl (g := gb215) (o := o5b1 a0_0 a0_1 a0_2 a0_3 a0_4 a0_5 a0_6 a0_7 a0_8) (by (with_reducible repeat (first | refine kn ?_ _ | refine ke ?_ | refine ka ?_ _)); exact BK215.out)) : gb215 ≠ gb216)); have n6_ := Am ((by rw [hg]; exact Nat.ne_of_gt (kl (g := gb215) (o := o5b1 a0_0 a0_1 a0_2 a0_3 a0_4 a0_5 a0_6 a0_7 a0_8) (by (with_reducible repeat (first | refine kn ?_ _ | refine ke ?_ | refine ka ?_ _)); exact BK215.out)) : gb216 ≠ gb215)); clear BK215; clear HB; have BK215 := n0_; have HB := n1_; have BK216 := n2_; have GW216 := n3_; have GE216 := n4_; have NB215_216 := n5_; have NB216_215 := n6_; clear n0_ n1_ n2_ n3_ n4_ n5_ n6_; clear hb hbox hg; have hnb32 := NB215_216.out; have hnc32 := NB216_215.out; have hcz33_0 : w31.cell? ⟨gb215, 0, none⟩ = some (.int .i64 a0_0) := (kc BK215.out 0).trans rfl; have hcz33_1 : w31.cell? ⟨gb215, 1, none⟩ = some (.int .i64 a0_1) := (kc BK215.out 1).trans rfl; have hcz33_2 : w31.cell? ⟨gb215, 2, none⟩ = some (.int .i64 a0_2) := (kc BK215.out 2).trans rfl; have hcz33_3 : w31.cell? ⟨gb215, 3, none⟩ = some (.string a0_3) := (kc BK215.out 3).trans rfl; have hcz33_4 : w31.cell? ⟨gb215, 4, none⟩ = some (.string a0_4) := (kc BK215.out 4).trans rfl; have hcz33_5 : w31.cell? ⟨gb215, 5, none⟩ = some (.int .i64 a0_5) := (kc BK215.out 5).trans rfl; have hcz33_6 : w31.cell? ⟨gb215, 6, none⟩ = some (.int .i64 a0_6) := (kc BK215.out 6).trans rfl; have hcz33_7 : w31.cell? ⟨gb215, 7, none⟩ = some (.string a0_7) := (kc BK215.out 7).trans rfl; have hcz33_8 : w31.cell? ⟨gb215, 8, none⟩ = some (.int .i64 a0_8) := (kc BK215.out 8).trans rfl; have hfz33_0 := kf BK215.out 0; have hfz33_1 := kf BK215.out 1; have hfz33_2 := kf BK215.out 2; have hfz33_3 := kf BK215.out 3; have hfz33_4 := kf BK215.out 4; have hfz33_5 := kf BK215.out 5; have hfz33_6 := kf BK215.out 6; have hfz33_7 := kf BK215.out 7; have hfz33_8 := kf BK215.out 8; have hcz34_0 : w31.cell? ⟨gb216, 0, none⟩ = some (.int .i64 a1_0) := (kc BK216.out 0).trans rfl; have hcz34_1 : w31.cell? ⟨gb216, 1, none⟩ = some (.int .i64 a1_1) := (kc BK216.out 1).trans rfl; have hcz34_2 : w31.cell? ⟨gb216, 2, none⟩ = some (.int .i64 a1_2) := (kc BK216.out 2).trans rfl; have hcz34_3 : w31.cell? ⟨gb216, 3, none⟩ = some (.string a1_3) := (kc BK216.out 3).trans rfl; have hcz34_4 : w31.cell? ⟨gb216, 4, none⟩ = some (.string a1_4) := (kc BK216.out 4).trans rfl; have hcz34_5 : w31.cell? ⟨gb216, 5, none⟩ = some (.int .i64 a1_5) := (kc BK216.out 5).trans rfl; have hcz34_6 : w31.cell? ⟨gb216, 6, none⟩ = some (.int .i64 a1_6) := (kc BK216.out 6).trans rfl; have hcz34_7 : w31.cell? ⟨gb216, 7, none⟩ = some (.string a1_7) := (kc BK216.out 7).trans rfl; have hcz34_8 : w31.cell? ⟨gb216, 8, none⟩ = some (.int .i64 a1_8) := (kc BK216.out 8).trans rfl; have hfz34_0 := kf BK216.out 0; have hfz34_1 := kf BK216.out 1; have hfz34_2 := kf BK216.out 2; have hfz34_3 := kf BK216.out 3; have hfz34_4 := kf BK216.out 4; have hfz34_5 := kf BK216.out 5; have hfz34_6 := kf BK216.out 6; have hfz34_7 := kf BK216.out 7; have hfz34_8 := kf BK216.out 8))
   go_ret
   exact ⟨by first | rfl | (simp [errW_none, errW_some] <;> rfl) | (simp [*, errW_none, errW_some] <;> rfl), by repeat (first | (with_reducible first | exact HB.out | apply ba | apply bn | apply be | refine bs ?_ GE215.out | refine bs ?_ GE216.out) | exact HB.out)⟩
 ·rw [if_neg c3] at H
  have c3b0 : (a0_0 == a1_0) = false := beq_eq_false_iff_ne.mpr c3
  have c3b1 : (a0_0 != a1_0) = true := bne_iff_ne.mpr c3
  obtain rfl := Option.some.inj H
  go_enter Try.func85, Try.ntmps85
  go_wp2_with (first | ((with_reducible refine gate_dst (N := 2) rfl ?_); refine box_event ?hg (N := 2) ?hd (cs := #[.int .i64 a0_0, .int .i64 a0_1, .int .i64 a0_2, .string a0_3, .string a0_4, .int .i64 a0_5, .int .i64 a0_6, .string a0_7, .int .i64 a0_8]) (t := 123) ?hr ?_; (case hd => rfl); (case hg => rfl); (case hr => first | (go_simp; done) | (go_simp; rfl)); intro gb215 hg w35 hbox hb; have BK215 := Am (hbox); have GW215 := Am ((by rw [hg]; exact (bz (by repeat (first | (with_reducible first | exact HB.out | apply ba | apply bn | apply be) | exact HB.out))) : w.heap.size ≤ gb215)); have GE215 := Am ((by rw [hg]; exact (bz (by repeat (first | (with_reducible first | exact HB.out | apply ba | apply bn | apply be) | exact HB.out))) : w.heap.size ≤ gb215)); replace HB := Am (bq (by repeat (first | (with_reducible first | exact HB.out | apply ba | apply bn | apply be) | exact HB.out)) hb); clear hb hbox hg) | ((with_reducible refine gate_dst (N := 3) rfl ?_); refine box_event ?hg (N := 3) ?hd (cs := #[.int .i64 a1_0, .int .i64 a1_1, .int .i64 a1_2, .string a1_3, .string a1_4, .int .i64 a1_5, .int .i64 a1_6, .string a1_7, .int .i64 a1_8]) (t := 123) ?hr ?_; (case hd => rfl); (case hg => rfl); (case hr => first | (go_simp; done) | (go_simp; rfl)); intro gb216 hg w36 hbox hb; have n0_ := Am (kb (g := gb215) (o := o5b1 a0_0 a0_1 a0_2 a0_3 a0_4 a0_5 a0_6 a0_7 a0_8) (by (with_reducible repeat (first | refine kn ?_ _ | refine ke ?_ | refine ka ?_ _)); exact BK215.out) hb); have n1_ := Am (bq (by repeat (first | (with_reducible first | exact HB.out | apply ba | apply bn | apply be | refine bs ?_ GE215.out) | exact HB.out)) hb); have n2_ := Am (hbox); have n3_ := Am ((by rw [hg]; exact (bz (by repeat (first | (with_reducible first | exact HB.out | apply ba | apply bn | apply be | refine bs ?_ GE215.out) | exact HB.out))) : w.heap.size ≤ gb216)); have n4_ := Am ((by rw [hg]; exact (bz (by repeat (first | (with_reducible first | exact HB.out | apply ba | apply bn | apply be | refine bs ?_ GE215.out) | exact HB.out))) : w.heap.size ≤ gb216)); have n5_ := Am ((by rw [hg]; exact Nat.ne_of_lt (kl (g := gb215) (o := o5b1 a0_0 a0_1 a0_2 a0_3 a0_4 a0_5 a0_6 a0_7 a0_8) (by (with_reducible repeat (first | refine kn ?_ _ | refine ke ?_ | refine ka ?_ _)); exact BK215.out)) : gb215 ≠ gb216)); have n6_ := Am ((by rw [hg]; exact Nat.ne_of_gt (kl (g := gb215) (o := o5b1 a0_0 a0_1 a0_2 a0_3 a0_4 a0_5 a0_6 a0_7 a0_8) (by (with_reducible repeat (first | refine kn ?_ _ | refine ke ?_ | refine ka ?_ _)); exact BK215.out)) : gb216 ≠ gb215)); clear BK215; clear HB; have BK215 := n0_; have HB := n1_; have BK216 := n2_; have GW216 := n3_; have GE216 := n4_; have NB215_216 := n5_; have NB216_215 := n6_; clear n0_ n1_ n2_ n3_ n4_ n5_ n6_; clear hb hbox hg; have hnb37 := NB215_216.out; have hnc37 := NB216_215.out; have hcz38_0 : w36.cell? ⟨gb215, 0, none⟩ = some (.int .i64 a0_0) := (kc BK215.out 0).trans rfl; have hcz38_1 : w36.cell? ⟨gb215, 1, none⟩ = some (.int .i64 a0_1) := (kc BK215.out 1).trans rfl; have hcz38_2 : w36.cell? ⟨gb215, 2, none⟩ = some (.int .i64 a0_2) := (kc BK215.out 2).trans rfl; have hcz38_3 : w36.cell? ⟨gb215, 3, none⟩ = some (.string a0_3) := (kc BK215.out 3).trans rfl; have hcz38_4 : w36.cell? ⟨gb215, 4, none⟩ = some (.string a0_4) := (kc BK215.out 4).trans rfl; have hcz38_5 : w36.cell? ⟨gb215, 5, none⟩ = some (.int .i64 a0_5) := (kc BK215.out 5).trans rfl; have hcz38_6 : w36.cell? ⟨gb215, 6, none⟩ = some (.int .i64 a0_6) := (kc BK215.out 6).trans rfl; have hcz38_7 : w36.cell? ⟨gb215, 7, none⟩ = some (.string a0_7) := (kc BK215.out 7).trans rfl; have hcz38_8 : w36.cell? ⟨gb215, 8, none⟩ = some (.int .i64 a0_8) := (kc BK215.out 8).trans rfl; have hfz38_0 := kf BK215.out 0; have hfz38_1 := kf BK215.out 1; have hfz38_2 := kf BK215.out 2; have hfz38_3 := kf BK215.out 3; have hfz38_4 := kf BK215.out 4; have hfz38_5 := kf BK215.out 5; have hfz38_6 := kf BK215.out 6; have hfz38_7 := kf BK215.out 7; have hfz38_8 := kf BK215.out 8; have hcz39_0 : w36.cell? ⟨gb216, 0, none⟩ = some (.int .i64 a1_0) := (kc BK216.out 0).trans rfl; have hcz39_1 : w36.cell? ⟨gb216, 1, none⟩ = some (.int .i64 a1_1) := (kc BK216.out 1).trans rfl; have hcz39_2 : w36.cell? ⟨gb216, 2, none⟩ = some (.int .i64 a1_2) := (kc BK216.out 2).trans rfl; have hcz39_3 : w36.cell? ⟨gb216, 3, none⟩ = some (.string a1_3) := (kc BK216.out 3).trans rfl; have hcz39_4 : w36.cell? ⟨gb216, 4, none⟩ = some (.string a1_4) := (kc BK216.out 4).trans rfl; have hcz39_5 : w36.cell? ⟨gb216, 5, none⟩ = some (.int .i64 a1_5) := (kc BK216.out 5).trans rfl; have hcz39_6 : w36.cell? ⟨gb216, 6, none⟩ = some (.int .i64 a1_6) := (kc BK216.out 6).trans rfl; have hcz39_7 : w36.cell? ⟨gb216, 7, none⟩ = some (.string a1_7) := (kc BK216.out 7).trans rfl; have hcz39_8 : w36.cell? ⟨gb216, 8, none⟩ = some (.int .i64 a1_8) := (kc BK216.out 8).trans rfl; have hfz39_0 := kf BK216.out 0; have hfz39_1 := kf BK216.out 1; have hfz39_2 := kf BK216.out 2; have hfz39_3 := kf BK216.out 3; have hfz39_4 := kf BK216.out 4; have hfz39_5 := kf BK216.out 5; have hfz39_6 := kf BK216.out 6; have hfz39_7 := kf BK216.out 7; have hfz39_8 := kf BK216.out 8))
  go_ret
  exact ⟨by first | rfl | (simp [errW_none, errW_some] <;> rfl) | (simp [*, errW_none, errW_some] <;> rfl), by repeat (first | (with_reducible first | exact HB.out | apply ba | apply bn | apply be | refine bs ?_ GE215.out | refine bs ?_ GE216.out) | exact HB.out)⟩

end Go.Proofs.Ytlpghmopabihoaa.QFnExactAsksOf
