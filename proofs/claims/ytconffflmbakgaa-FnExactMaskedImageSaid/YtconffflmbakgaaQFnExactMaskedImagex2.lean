/- Go functions as Lean functions, and their contracts. Own text: written by wip/gen/pr.py (a turned copy of the print). -/
import Derived.Test.YtconffflmbakgaaQFnExactMaskedImagex0
import Derived.Test.YtconffflmbakgaaQFnExactMaskedImagex1
namespace Go.Proofs.Ytconffflmbakgaa.QFnExactMaskedImage
open Go.RowKit Go.Proofs.YtconffflmbakgaaW.PrintWords Go.Proofs.YtconffflmbakgaaW.PrintLast Go.Proofs.YtconffflmbakgaaW.PrintMore
attribute [local go_sem] max2_int min2_int max_two min_two max_three min_three max_four min_four   -- for this text's walks alone
open Go.Proofs.YtconffflmbakgaaW.PrintWords renaming below_alloc → ba, pw_below_drewN → bn, below_drew1 → be, below_set → bs, blk_drewN → kn, blk_drew → ke, blk_alloc → ka, blk_below → kb, blk_frozen → kf, blk_cell → kc, below_step → bq, below_size → bz, blk_lt → kl
open Go.Proofs.YtconffflmbakgaaW.PrintWords.Kd renaming C_alloc → ca, C_drewN → cn, C_drew → ce, C_below → cb
open Go.Proofs.YtconffflmbakgaaW.PrintWords.Aside0 renaming mk → Am
set_option linter.unusedVariables false
set_option linter.unusedSimpArgs false

def o2b0 (p0 : ByteArray) (p1 : Option Addr) (p2 p3 : Nat) : Obj := .cells #[.string p0, .slice p1 p2 p3] 33 (0, 0)
def o2b1 (p0 : Int) (p1 : Int) (p2 : Int) (p3 : Int) : Obj := .cells #[.int .i64 p0, .int .i64 p1, .int .i64 p2, .int .i64 p3] 29 (0, 0)
/-! ### laws_eqMemory: function 15 -/
def laws_eqMemory.f (k : Nat) (a0_0 : ByteArray) (l0_1 : List (S155)) (a1_0 : ByteArray) (l1_1 : List (S155)) : Option (Bool) := if a0_0.toList = a1_0.toList then ((laws_eqCellS.f k l0_1 l1_1).bind fun t133 => (if t133 = true then (some true) else (some false))) else (some false)
theorem laws_eqMemory.mono : ∀ a0 a1 a2 a3 k, LeO (laws_eqMemory.f k a0 a1 a2 a3) (laws_eqMemory.f (k + 1) a0 a1 a2 a3) := by
 intro a0 a1 a2 a3 k
 unfold laws_eqMemory.f
 repeat' first
   | (with_reducible exact laws_eqCellS.mono _ _ _)
   | (with_reducible exact LeO.refl _)
   | (with_reducible exact LeO.none _)
   | (with_reducible refine LeO.ite ?_ ?_)
   | (with_reducible refine LeO.bind ?_ (fun _ => ?_))
   | exact laws_eqCellS.mono _ _ _
   | exact LeO.none _
   | refine LeO.ite ?_ ?_
   | refine LeO.bind ?_ (fun _ => ?_)
set_option maxHeartbeats 8000000 in
set_option maxRecDepth 100000 in
theorem laws_eqMemory.calls (k : Nat) (a0_0 : ByteArray) (A0_1 : Option Addr) (c0_1 : Nat) (l0_1 : List (S155)) (a1_0 : ByteArray) (A1_1 : Option Addr) (c1_1 : Nat) (l1_1 : List (S155)) (r : Bool) (w : World) (hr0_1 : Kd.C k155 w A0_1 l0_1.length l0_1) (hc0_1 : l0_1.length ≤ c0_1) (hr1_1 : Kd.C k155 w A1_1 l1_1.length l1_1) (hc1_1 : l1_1.length ≤ c1_1) (h : laws_eqMemory.f k a0_0 l0_1 a1_0 l1_1 = some r) :
  Calls Try.prog 15 #[.agg #[.string a0_0, .slice A0_1 l0_1.length c0_1], .agg #[.string a1_0, .slice A1_1 l1_1.length c1_1]] w fun e w' => e = .returned (.bool r) ∧ Below w.heap.size w w' := by
 have hu33 := Try.underlying33
 have HR0_1 := Am hr0_1
 have HC0_1 := Am hc0_1
 clear hr0_1 hc0_1
 have HR1_1 := Am hr1_1
 have HC1_1 := Am hc1_1
 clear hr1_1 hc1_1
 have HB := Am (Below.refl w.heap.size w)
 have H : (if a0_0.toList = a1_0.toList then ((laws_eqCellS.f k l0_1 l1_1).bind fun t133 => (if t133 = true then (some true) else (some false))) else (some false)) = some r := h
 clear h
 by_cases c3 : a0_0.toList = a1_0.toList
 ·rw [if_pos c3] at H
  have c3b0 : (a0_0.toList == a1_0.toList) = true := beq_iff_eq.mpr c3
  have c3b1 : (a0_0.toList != a1_0.toList) = false := bne_eq_false_iff_eq.mpr c3
  clear c3
  replace H := Option.bind_eq_some_iff.mp H
  obtain ⟨t133, A40, H⟩ := H
  replace H : (if t133 = true then (some true) else (some false)) = some r := H
  have A4 := Am A40
  clear A40
  by_cases c5 : t133 = true
  ·subst c5
   have H1 : (some true) = some r := by rw [if_pos rfl] at H; exact H
   clear H
   have H := H1
   clear H1
   obtain rfl := Option.some.inj H
   go_enter Try.func15, Try.ntmps15
   go_wp2_with (first | ((with_reducible refine gate_dst (N := 2) rfl ?_); refine box_event ?hg (N := 2) ?hd (cs := #[.string a0_0, .slice A0_1 l0_1.length c0_1]) (t := 33) ?hr ?_; (case hd => rfl); (case hg => rfl); (case hr => first | (go_simp; done) | (go_simp; rfl)); intro gb131 hg w6 hbox hb; have BK131 := Am (hbox); have GW131 := Am ((by rw [hg]; exact (bz zB) : w.heap.size ≤ gb131)); have GE131 := Am ((by rw [hg]; exact (bz zB) : w.heap.size ≤ gb131)); replace HB := Am (bq zB hb); clear hb hbox hg) | ((with_reducible refine gate_dst (N := 3) rfl ?_); refine box_event ?hg (N := 3) ?hd (cs := #[.string a1_0, .slice A1_1 l1_1.length c1_1]) (t := 33) ?hr ?_; (case hd => rfl); (case hg => rfl); (case hr => first | (go_simp; done) | (go_simp; rfl)); intro gb132 hg w7 hbox hb; have n0_ := Am (zK BK131 hb); have n1_ := Am (bq zG hb); have n2_ := Am (hbox); have n3_ := Am ((by rw [hg]; exact (bz zG) : w.heap.size ≤ gb132)); have n4_ := Am ((by rw [hg]; exact (bz zG) : w.heap.size ≤ gb132)); have n5_ := Am ((by rw [hg]; exact Nat.ne_of_lt (zL BK131) : gb131 ≠ gb132)); have n6_ := Am ((by rw [hg]; exact Nat.ne_of_gt (zL BK131) : gb132 ≠ gb131)); clear BK131; clear HB; have BK131 := n0_; have HB := n1_; have BK132 := n2_; have GW132 := n3_; have GE132 := n4_; have NB131_132 := n5_; have NB132_131 := n6_; clear n0_ n1_ n2_ n3_ n4_ n5_ n6_; clear hb hbox hg; have hnb8 := NB131_132.out; have hnc8 := NB132_131.out; obtain ⟨hcz9_0, hcz9_1⟩ := kc2 (w := w7) BK131.out; have hfz9_0 := kf BK131.out; obtain ⟨hcz10_0, hcz10_1⟩ := kc2 (w := w7) BK132.out; have hfz10_0 := kf BK132.out) | ((with_reducible refine gate_callee (f := 62) rfl ?_); refine zC (some 14) rfl rfl Try.func62 rfl #[.slice A0_1 l0_1.length c0_1, .slice A1_1 l1_1.length c1_1] rfl ?_; (with_reducible refine (laws_eqCellS.calls k _ _ l0_1 _ _ l1_1 true _ ?side1 ?side2 ?side3 ?side4 A4.out).mono ?_); (case side1 => repeat (first | exact (cb HR0_1.out HB.out) | (with_reducible first | refine ca ?_ _ | refine cn ?_ _ | refine ce ?_))); (case side2 => exact HC0_1.out); (case side3 => repeat (first | exact (cb HR1_1.out HB.out) | (with_reducible first | refine ca ?_ _ | refine cn ?_ _ | refine ce ?_))); (case side4 => exact HC1_1.out); rintro e w11 ⟨rfl, hb⟩; refine ⟨_, rfl, ?_⟩; have n0_ := Am (zK BK131 hb); have n1_ := Am (zK BK132 hb); have n2_ := Am (bq zG hb); clear BK131; clear BK132; clear HB; have BK131 := n0_; have BK132 := n1_; have HB := n2_; clear n0_ n1_ n2_; (try clear hb)))
   go_ret
   exact ⟨zR, zG⟩
  ·replace c5 := Bool.eq_false_iff.mpr c5
   subst c5
   have H1 : (some false) = some r := by rw [if_neg (show ¬ (false = true) by decide)] at H; exact H
   clear H
   have H := H1
   clear H1
   obtain rfl := Option.some.inj H
   go_enter Try.func15, Try.ntmps15
   go_wp2_with (first | ((with_reducible refine gate_dst (N := 2) rfl ?_); refine box_event ?hg (N := 2) ?hd (cs := #[.string a0_0, .slice A0_1 l0_1.length c0_1]) (t := 33) ?hr ?_; (case hd => rfl); (case hg => rfl); (case hr => first | (go_simp; done) | (go_simp; rfl)); intro gb131 hg w12 hbox hb; have BK131 := Am (hbox); have GW131 := Am ((by rw [hg]; exact (bz zB) : w.heap.size ≤ gb131)); have GE131 := Am ((by rw [hg]; exact (bz zB) : w.heap.size ≤ gb131)); replace HB := Am (bq zB hb); clear hb hbox hg) | ((with_reducible refine gate_dst (N := 3) rfl ?_); refine box_event ?hg (N := 3) ?hd (cs := #[.string a1_0, .slice A1_1 l1_1.length c1_1]) (t := 33) ?hr ?_; (case hd => rfl); (case hg => rfl); (case hr => first | (go_simp; done) | (go_simp; rfl)); intro gb132 hg w13 hbox hb; have n0_ := Am (zK BK131 hb); have n1_ := Am (bq zG hb); have n2_ := Am (hbox); have n3_ := Am ((by rw [hg]; exact (bz zG) : w.heap.size ≤ gb132)); have n4_ := Am ((by rw [hg]; exact (bz zG) : w.heap.size ≤ gb132)); have n5_ := Am ((by rw [hg]; exact Nat.ne_of_lt (zL BK131) : gb131 ≠ gb132)); have n6_ := Am ((by rw [hg]; exact Nat.ne_of_gt (zL BK131) : gb132 ≠ gb131)); clear BK131; clear HB; have BK131 := n0_; have HB := n1_; have BK132 := n2_; have GW132 := n3_; have GE132 := n4_; have NB131_132 := n5_; have NB132_131 := n6_; clear n0_ n1_ n2_ n3_ n4_ n5_ n6_; clear hb hbox hg; have hnb14 := NB131_132.out; have hnc14 := NB132_131.out; obtain ⟨hcz15_0, hcz15_1⟩ := kc2 (w := w13) BK131.out; have hfz15_0 := kf BK131.out; obtain ⟨hcz16_0, hcz16_1⟩ := kc2 (w := w13) BK132.out; have hfz16_0 := kf BK132.out) | ((with_reducible refine gate_callee (f := 62) rfl ?_); refine zC (some 14) rfl rfl Try.func62 rfl #[.slice A0_1 l0_1.length c0_1, .slice A1_1 l1_1.length c1_1] rfl ?_; (with_reducible refine (laws_eqCellS.calls k _ _ l0_1 _ _ l1_1 false _ ?side1 ?side2 ?side3 ?side4 A4.out).mono ?_); (case side1 => repeat (first | exact (cb HR0_1.out HB.out) | (with_reducible first | refine ca ?_ _ | refine cn ?_ _ | refine ce ?_))); (case side2 => exact HC0_1.out); (case side3 => repeat (first | exact (cb HR1_1.out HB.out) | (with_reducible first | refine ca ?_ _ | refine cn ?_ _ | refine ce ?_))); (case side4 => exact HC1_1.out); rintro e w17 ⟨rfl, hb⟩; refine ⟨_, rfl, ?_⟩; have n0_ := Am (zK BK131 hb); have n1_ := Am (zK BK132 hb); have n2_ := Am (bq zG hb); clear BK131; clear BK132; clear HB; have BK131 := n0_; have BK132 := n1_; have HB := n2_; clear n0_ n1_ n2_; (try clear hb)))
   go_ret
   exact ⟨zR, zG⟩
 ·rw [if_neg c3] at H
  have c3b0 : (a0_0.toList == a1_0.toList) = false := beq_eq_false_iff_ne.mpr c3
  have c3b1 : (a0_0.toList != a1_0.toList) = true := bne_iff_ne.mpr c3
  obtain rfl := Option.some.inj H
  go_enter Try.func15, Try.ntmps15
  go_wp2_with (first | ((with_reducible refine gate_dst (N := 2) rfl ?_); refine box_event ?hg (N := 2) ?hd (cs := #[.string a0_0, .slice A0_1 l0_1.length c0_1]) (t := 33) ?hr ?_; (case hd => rfl); (case hg => rfl); (case hr => first | (go_simp; done) | (go_simp; rfl)); intro gb131 hg w18 hbox hb; have BK131 := Am (hbox); have GW131 := Am ((by rw [hg]; exact (bz zB) : w.heap.size ≤ gb131)); have GE131 := Am ((by rw [hg]; exact (bz zB) : w.heap.size ≤ gb131)); replace HB := Am (bq zB hb); clear hb hbox hg) | ((with_reducible refine gate_dst (N := 3) rfl ?_); refine box_event ?hg (N := 3) ?hd (cs := #[.string a1_0, .slice A1_1 l1_1.length c1_1]) (t := 33) ?hr ?_; (case hd => rfl); (case hg => rfl); (case hr => first | (go_simp; done) | (go_simp; rfl)); intro gb132 hg w19 hbox hb; have n0_ := Am (zK BK131 hb); have n1_ := Am (bq zG hb); have n2_ := Am (hbox); have n3_ := Am ((by rw [hg]; exact (bz zG) : w.heap.size ≤ gb132)); have n4_ := Am ((by rw [hg]; exact (bz zG) : w.heap.size ≤ gb132)); have n5_ := Am ((by rw [hg]; exact Nat.ne_of_lt (zL BK131) : gb131 ≠ gb132)); have n6_ := Am ((by rw [hg]; exact Nat.ne_of_gt (zL BK131) : gb132 ≠ gb131)); clear BK131; clear HB; have BK131 := n0_; have HB := n1_; have BK132 := n2_; have GW132 := n3_; have GE132 := n4_; have NB131_132 := n5_; have NB132_131 := n6_; clear n0_ n1_ n2_ n3_ n4_ n5_ n6_; clear hb hbox hg; have hnb20 := NB131_132.out; have hnc20 := NB132_131.out; obtain ⟨hcz21_0, hcz21_1⟩ := kc2 (w := w19) BK131.out; have hfz21_0 := kf BK131.out; obtain ⟨hcz22_0, hcz22_1⟩ := kc2 (w := w19) BK132.out; have hfz22_0 := kf BK132.out))
  go_ret
  exact ⟨zR, zG⟩

/-! ### spec_l01In: function 47 -/
def spec_l01In.f (a0 : Int) (a1 : Int) (a2 : Int) : Option (Bool) := if a0 ≥ a1 then (some (decide (a0 ≤ a2))) else (some false)
set_option maxHeartbeats 8000000 in
set_option maxRecDepth 100000 in
theorem spec_l01In.calls (a0 : Int) (a1 : Int) (a2 : Int) (r : Bool) (w : World) (h : spec_l01In.f a0 a1 a2 = some r) :
  Calls Try.prog 47 #[.int .i64 a0, .int .i64 a1, .int .i64 a2] w fun e w' => e = .returned (.bool r) ∧ Drawn0 w w' := by
 have H : (if a0 ≥ a1 then (some (decide (a0 ≤ a2))) else (some false)) = some r := h
 clear h
 by_cases c4 : a0 ≥ a1
 ·rw [if_pos c4] at H
  have c4b0 : decide (a1 ≤ a0) = true := decide_eq_true c4
  clear c4
  obtain rfl := Option.some.inj H
  go_enter Try.func47, Try.ntmps47
  go_wp2
  go_ret
  exact ⟨by first | rfl | (simp; done) | (simp [*]; done), by repeat (first | exact Drawn0.refl _ | apply Drawn0.step)⟩
 ·rw [if_neg c4] at H
  have c4b0 : decide (a1 ≤ a0) = false := decide_eq_false c4
  clear c4
  obtain rfl := Option.some.inj H
  go_enter Try.func47, Try.ntmps47
  go_wp2
  go_ret
  exact ⟨by first | rfl | (simp; done) | (simp [*]; done), by repeat (first | exact Drawn0.refl _ | apply Drawn0.step)⟩

/-! ### spec_GeoOk: function 96 -/
def spec_GeoOk.f (a0_0 : Int) (a0_1 : Int) (a0_2 : Int) (a0_3 : Int) : Option (Bool) := (spec_l01In.f a0_0 1 3).bind fun t135 => (if t135 = true then ((spec_l01In.f a0_1 5 12).bind fun t136 => (if t136 = true then ((spec_l01In.f a0_2 2 6).bind fun t137 => (if t137 = true then ((spec_l01In.f a0_3 1 (wrap64 (a0_1 - 4))).bind fun t138 => (some t138)) else (some false))) else (some false))) else (some false))
set_option maxHeartbeats 8000000 in
set_option maxRecDepth 100000 in
theorem spec_GeoOk.calls (a0_0 : Int) (a0_1 : Int) (a0_2 : Int) (a0_3 : Int) (r : Bool) (w : World) (h : spec_GeoOk.f a0_0 a0_1 a0_2 a0_3 = some r) :
  Calls Try.prog 96 #[.agg #[.int .i64 a0_0, .int .i64 a0_1, .int .i64 a0_2, .int .i64 a0_3]] w fun e w' => e = .returned (.bool r) ∧ Below w.heap.size w w' := by
 have hu29 := Try.underlying29
 have HB := Am (Below.refl w.heap.size w)
 have H : ((spec_l01In.f a0_0 1 3).bind fun t135 => (if t135 = true then ((spec_l01In.f a0_1 5 12).bind fun t136 => (if t136 = true then ((spec_l01In.f a0_2 2 6).bind fun t137 => (if t137 = true then ((spec_l01In.f a0_3 1 (wrap64 (a0_1 - 4))).bind fun t138 => (some t138)) else (some false))) else (some false))) else (some false))) = some r := h
 clear h
 replace H := Option.bind_eq_some_iff.mp H
 obtain ⟨t135, A20, H⟩ := H
 replace H : (if t135 = true then ((spec_l01In.f a0_1 5 12).bind fun t136 => (if t136 = true then ((spec_l01In.f a0_2 2 6).bind fun t137 => (if t137 = true then ((spec_l01In.f a0_3 1 (wrap64 (a0_1 - 4))).bind fun t138 => (some t138)) else (some false))) else (some false))) else (some false)) = some r := H
 have A2 := Am A20
 clear A20
 by_cases c3 : t135 = true
 ·subst c3
  have H1 : ((spec_l01In.f a0_1 5 12).bind fun t136 => (if t136 = true then ((spec_l01In.f a0_2 2 6).bind fun t137 => (if t137 = true then ((spec_l01In.f a0_3 1 (wrap64 (a0_1 - 4))).bind fun t138 => (some t138)) else (some false))) else (some false))) = some r := by rw [if_pos rfl] at H; exact H
  clear H
  have H := H1
  clear H1
  replace H := Option.bind_eq_some_iff.mp H
  obtain ⟨t136, A40, H⟩ := H
  replace H : (if t136 = true then ((spec_l01In.f a0_2 2 6).bind fun t137 => (if t137 = true then ((spec_l01In.f a0_3 1 (wrap64 (a0_1 - 4))).bind fun t138 => (some t138)) else (some false))) else (some false)) = some r := H
  have A4 := Am A40
  clear A40
  by_cases c5 : t136 = true
  ·subst c5
   have H1 : ((spec_l01In.f a0_2 2 6).bind fun t137 => (if t137 = true then ((spec_l01In.f a0_3 1 (wrap64 (a0_1 - 4))).bind fun t138 => (some t138)) else (some false))) = some r := by rw [if_pos rfl] at H; exact H
   clear H
   have H := H1
   clear H1
   replace H := Option.bind_eq_some_iff.mp H
   obtain ⟨t137, A60, H⟩ := H
   replace H : (if t137 = true then ((spec_l01In.f a0_3 1 (wrap64 (a0_1 - 4))).bind fun t138 => (some t138)) else (some false)) = some r := H
   have A6 := Am A60
   clear A60
   by_cases c7 : t137 = true
   ·subst c7
    have H1 : ((spec_l01In.f a0_3 1 (wrap64 (a0_1 - 4))).bind fun t138 => (some t138)) = some r := by rw [if_pos rfl] at H; exact H
    clear H
    have H := H1
    clear H1
    replace H := Option.bind_eq_some_iff.mp H
    obtain ⟨t138, A80, H⟩ := H
    replace H : (some t138) = some r := H
    have A8 := Am A80
    clear A80
    obtain rfl := Option.some.inj H
    go_enter Try.func96, Try.ntmps96
    go_wp2_with (first | ((with_reducible refine gate_dst (N := 1) rfl ?_); refine box_event ?hg (N := 1) ?hd (cs := #[.int .i64 a0_0, .int .i64 a0_1, .int .i64 a0_2, .int .i64 a0_3]) (t := 29) ?hr ?_; (case hd => rfl); (case hg => rfl); (case hr => first | (go_simp; done) | (go_simp; rfl)); intro gb134 hg w9 hbox hb; have BK134 := Am (hbox); have GW134 := Am ((by rw [hg]; exact (bz zB) : w.heap.size ≤ gb134)); have GE134 := Am ((by rw [hg]; exact (bz zB) : w.heap.size ≤ gb134)); replace HB := Am (bq zB hb); clear hb hbox hg; obtain ⟨hcz10_0, hcz10_1, hcz10_2, hcz10_3⟩ := kc4 (w := w9) BK134.out; have hfz10_0 := kf BK134.out) | ((with_reducible refine gate_callee (f := 47) rfl ?_); refine zC (some 5) rfl rfl Try.func47 rfl #[.int .i64 a0_0, .int .i64 1, .int .i64 3] rfl ?_; (with_reducible refine (spec_l01In.calls a0_0 1 3 true _ A2.out).mono ?_); rintro e w' ⟨rfl, ⟨nd, rfl⟩⟩; refine ⟨_, rfl, ?_⟩) | (go_at_call 47; (with_reducible refine (spec_l01In.calls a0_1 5 12 true _ A4.out).mono ?_); rintro e w' ⟨rfl, ⟨nd, rfl⟩⟩) | (go_at_call 47; (with_reducible refine (spec_l01In.calls a0_2 2 6 true _ A6.out).mono ?_); rintro e w' ⟨rfl, ⟨nd, rfl⟩⟩) | (go_at_call 47; (with_reducible refine (spec_l01In.calls a0_3 1 (wrap64 (a0_1 - 4)) t138 _ A8.out).mono ?_); rintro e w' ⟨rfl, ⟨nd, rfl⟩⟩))
    go_ret
    exact ⟨zR, zG⟩
   ·replace c7 := Bool.eq_false_iff.mpr c7
    subst c7
    have H1 : (some false) = some r := by rw [if_neg (show ¬ (false = true) by decide)] at H; exact H
    clear H
    have H := H1
    clear H1
    obtain rfl := Option.some.inj H
    go_enter Try.func96, Try.ntmps96
    go_wp2_with (first | ((with_reducible refine gate_dst (N := 1) rfl ?_); refine box_event ?hg (N := 1) ?hd (cs := #[.int .i64 a0_0, .int .i64 a0_1, .int .i64 a0_2, .int .i64 a0_3]) (t := 29) ?hr ?_; (case hd => rfl); (case hg => rfl); (case hr => first | (go_simp; done) | (go_simp; rfl)); intro gb134 hg w11 hbox hb; have BK134 := Am (hbox); have GW134 := Am ((by rw [hg]; exact (bz zB) : w.heap.size ≤ gb134)); have GE134 := Am ((by rw [hg]; exact (bz zB) : w.heap.size ≤ gb134)); replace HB := Am (bq zB hb); clear hb hbox hg; obtain ⟨hcz12_0, hcz12_1, hcz12_2, hcz12_3⟩ := kc4 (w := w11) BK134.out; have hfz12_0 := kf BK134.out) | ((with_reducible refine gate_callee (f := 47) rfl ?_); refine zC (some 5) rfl rfl Try.func47 rfl #[.int .i64 a0_0, .int .i64 1, .int .i64 3] rfl ?_; (with_reducible refine (spec_l01In.calls a0_0 1 3 true _ A2.out).mono ?_); rintro e w' ⟨rfl, ⟨nd, rfl⟩⟩; refine ⟨_, rfl, ?_⟩) | (go_at_call 47; (with_reducible refine (spec_l01In.calls a0_1 5 12 true _ A4.out).mono ?_); rintro e w' ⟨rfl, ⟨nd, rfl⟩⟩) | (go_at_call 47; (with_reducible refine (spec_l01In.calls a0_2 2 6 false _ A6.out).mono ?_); rintro e w' ⟨rfl, ⟨nd, rfl⟩⟩))
    go_ret
    exact ⟨zR, zG⟩
  ·replace c5 := Bool.eq_false_iff.mpr c5
   subst c5
   have H1 : (some false) = some r := by rw [if_neg (show ¬ (false = true) by decide)] at H; exact H
   clear H
   have H := H1
   clear H1
   obtain rfl := Option.some.inj H
   go_enter Try.func96, Try.ntmps96
   go_wp2_with (first | ((with_reducible refine gate_dst (N := 1) rfl ?_); refine box_event ?hg (N := 1) ?hd (cs := #[.int .i64 a0_0, .int .i64 a0_1, .int .i64 a0_2, .int .i64 a0_3]) (t := 29) ?hr ?_; (case hd => rfl); (case hg => rfl); (case hr => first | (go_simp; done) | (go_simp; rfl)); intro gb134 hg w13 hbox hb; have BK134 := Am (hbox); have GW134 := Am ((by rw [hg]; exact (bz zB) : w.heap.size ≤ gb134)); have GE134 := Am ((by rw [hg]; exact (bz zB) : w.heap.size ≤ gb134)); replace HB := Am (bq zB hb); clear hb hbox hg; obtain ⟨hcz14_0, hcz14_1, hcz14_2, hcz14_3⟩ := kc4 (w := w13) BK134.out; have hfz14_0 := kf BK134.out) | ((with_reducible refine gate_callee (f := 47) rfl ?_); refine zC (some 5) rfl rfl Try.func47 rfl #[.int .i64 a0_0, .int .i64 1, .int .i64 3] rfl ?_; (with_reducible refine (spec_l01In.calls a0_0 1 3 true _ A2.out).mono ?_); rintro e w' ⟨rfl, ⟨nd, rfl⟩⟩; refine ⟨_, rfl, ?_⟩) | (go_at_call 47; (with_reducible refine (spec_l01In.calls a0_1 5 12 false _ A4.out).mono ?_); rintro e w' ⟨rfl, ⟨nd, rfl⟩⟩))
   go_ret
   exact ⟨zR, zG⟩
 ·replace c3 := Bool.eq_false_iff.mpr c3
  subst c3
  have H1 : (some false) = some r := by rw [if_neg (show ¬ (false = true) by decide)] at H; exact H
  clear H
  have H := H1
  clear H1
  obtain rfl := Option.some.inj H
  go_enter Try.func96, Try.ntmps96
  go_wp2_with (first | ((with_reducible refine gate_dst (N := 1) rfl ?_); refine box_event ?hg (N := 1) ?hd (cs := #[.int .i64 a0_0, .int .i64 a0_1, .int .i64 a0_2, .int .i64 a0_3]) (t := 29) ?hr ?_; (case hd => rfl); (case hg => rfl); (case hr => first | (go_simp; done) | (go_simp; rfl)); intro gb134 hg w15 hbox hb; have BK134 := Am (hbox); have GW134 := Am ((by rw [hg]; exact (bz zB) : w.heap.size ≤ gb134)); have GE134 := Am ((by rw [hg]; exact (bz zB) : w.heap.size ≤ gb134)); replace HB := Am (bq zB hb); clear hb hbox hg; obtain ⟨hcz16_0, hcz16_1, hcz16_2, hcz16_3⟩ := kc4 (w := w15) BK134.out; have hfz16_0 := kf BK134.out) | ((with_reducible refine gate_callee (f := 47) rfl ?_); refine zC (some 5) rfl rfl Try.func47 rfl #[.int .i64 a0_0, .int .i64 1, .int .i64 3] rfl ?_; (with_reducible refine (spec_l01In.calls a0_0 1 3 false _ A2.out).mono ?_); rintro e w' ⟨rfl, ⟨nd, rfl⟩⟩; refine ⟨_, rfl, ?_⟩))
  go_ret
  exact ⟨zR, zG⟩

/-! ### spec_PartWords: function 55 -/
def spec_PartWords.f (a0_0 : Int) (a0_1 : Int) (a0_2 : Int) (a0_3 : Int) : Option (Int) := (spec_GeoOk.f a0_0 a0_1 a0_2 a0_3).bind fun t140 => (if t140 = true then (some (wrap64 ((wrap64 (38 + (wrap64 (8 * a0_2)))) + (wrap64 (4 * a0_1))))) else (some 0))
set_option maxHeartbeats 8000000 in
set_option maxRecDepth 100000 in
theorem spec_PartWords.calls (a0_0 : Int) (a0_1 : Int) (a0_2 : Int) (a0_3 : Int) (r : Int) (w : World) (h : spec_PartWords.f a0_0 a0_1 a0_2 a0_3 = some r) :
  Calls Try.prog 55 #[.agg #[.int .i64 a0_0, .int .i64 a0_1, .int .i64 a0_2, .int .i64 a0_3]] w fun e w' => e = .returned (.int .i64 r) ∧ Below w.heap.size w w' := by
 have hu29 := Try.underlying29
 have HB := Am (Below.refl w.heap.size w)
 have H : ((spec_GeoOk.f a0_0 a0_1 a0_2 a0_3).bind fun t140 => (if t140 = true then (some (wrap64 ((wrap64 (38 + (wrap64 (8 * a0_2)))) + (wrap64 (4 * a0_1))))) else (some 0))) = some r := h
 clear h
 replace H := Option.bind_eq_some_iff.mp H
 obtain ⟨t140, A20, H⟩ := H
 replace H : (if t140 = true then (some (wrap64 ((wrap64 (38 + (wrap64 (8 * a0_2)))) + (wrap64 (4 * a0_1))))) else (some 0)) = some r := H
 have A2 := Am A20
 clear A20
 by_cases c3 : t140 = true
 ·subst c3
  have H1 : (some (wrap64 ((wrap64 (38 + (wrap64 (8 * a0_2)))) + (wrap64 (4 * a0_1))))) = some r := by rw [if_pos rfl] at H; exact H
  clear H
  have H := H1
  clear H1
  obtain rfl := Option.some.inj H
  go_enter Try.func55, Try.ntmps55
  go_wp2_with (first | ((with_reducible refine gate_dst (N := 1) rfl ?_); refine box_event ?hg (N := 1) ?hd (cs := #[.int .i64 a0_0, .int .i64 a0_1, .int .i64 a0_2, .int .i64 a0_3]) (t := 29) ?hr ?_; (case hd => rfl); (case hg => rfl); (case hr => first | (go_simp; done) | (go_simp; rfl)); intro gb139 hg w4 hbox hb; have BK139 := Am (hbox); have GW139 := Am ((by rw [hg]; exact (bz zB) : w.heap.size ≤ gb139)); have GE139 := Am ((by rw [hg]; exact (bz zB) : w.heap.size ≤ gb139)); replace HB := Am (bq zB hb); clear hb hbox hg; obtain ⟨hcz5_0, hcz5_1, hcz5_2, hcz5_3⟩ := kc4 (w := w4) BK139.out; have hfz5_0 := kf BK139.out) | ((with_reducible refine gate_callee (f := 96) rfl ?_); refine zC (some 4) rfl rfl Try.func96 rfl #[.agg #[.int .i64 a0_0, .int .i64 a0_1, .int .i64 a0_2, .int .i64 a0_3]] rfl ?_; (with_reducible refine (spec_GeoOk.calls a0_0 a0_1 a0_2 a0_3 true _ A2.out).mono ?_); rintro e w6 ⟨rfl, hb⟩; refine ⟨_, rfl, ?_⟩; have n0_ := Am (zK BK139 hb); have n1_ := Am (bq zG hb); clear BK139; clear HB; have BK139 := n0_; have HB := n1_; clear n0_ n1_; (try clear hb); obtain ⟨hcz7_0, hcz7_1, hcz7_2, hcz7_3⟩ := kc4 (w := w6) BK139.out; have hfz7_0 := kf BK139.out))
  go_ret
  exact ⟨zR, zG⟩
 ·replace c3 := Bool.eq_false_iff.mpr c3
  subst c3
  have H1 : (some 0) = some r := by rw [if_neg (show ¬ (false = true) by decide)] at H; exact H
  clear H
  have H := H1
  clear H1
  obtain rfl := Option.some.inj H
  go_enter Try.func55, Try.ntmps55
  go_wp2_with (first | ((with_reducible refine gate_dst (N := 1) rfl ?_); refine box_event ?hg (N := 1) ?hd (cs := #[.int .i64 a0_0, .int .i64 a0_1, .int .i64 a0_2, .int .i64 a0_3]) (t := 29) ?hr ?_; (case hd => rfl); (case hg => rfl); (case hr => first | (go_simp; done) | (go_simp; rfl)); intro gb139 hg w8 hbox hb; have BK139 := Am (hbox); have GW139 := Am ((by rw [hg]; exact (bz zB) : w.heap.size ≤ gb139)); have GE139 := Am ((by rw [hg]; exact (bz zB) : w.heap.size ≤ gb139)); replace HB := Am (bq zB hb); clear hb hbox hg; obtain ⟨hcz9_0, hcz9_1, hcz9_2, hcz9_3⟩ := kc4 (w := w8) BK139.out; have hfz9_0 := kf BK139.out) | ((with_reducible refine gate_callee (f := 96) rfl ?_); refine zC (some 4) rfl rfl Try.func96 rfl #[.agg #[.int .i64 a0_0, .int .i64 a0_1, .int .i64 a0_2, .int .i64 a0_3]] rfl ?_; (with_reducible refine (spec_GeoOk.calls a0_0 a0_1 a0_2 a0_3 false _ A2.out).mono ?_); rintro e w10 ⟨rfl, hb⟩; refine ⟨_, rfl, ?_⟩; have n0_ := Am (zK BK139 hb); have n1_ := Am (bq zG hb); clear BK139; clear HB; have BK139 := n0_; have HB := n1_; clear n0_ n1_; (try clear hb)))
  go_ret
  exact ⟨zR, zG⟩

/-! ### spec_PartAt: function 45 -/
def spec_PartAt.j0 : Nat → Int → Int → Bool → Int → Int → Int → Int → Option (Int × Int)
 | 0, _, _, _, _, _, _, _ => none
 | k + 1, x1, x6, x22, x142000, x142001, x142002, x142003 => if x22 = true then (some ((-1), 0)) else (if x6 = 0 then (none) else (if (Int.tmod x1 x6) = 0 then (some (wrap64 (Int.tdiv x1 x6), 1)) else (if (Int.tmod x1 x6) = 2 then (some (wrap64 (Int.tdiv x1 x6), 2)) else (if (Int.tmod x1 x6) < 4 then (some (wrap64 (Int.tdiv x1 x6), 0)) else (if (Int.tmod x1 x6) < 36 then (some (wrap64 (Int.tdiv x1 x6), 3)) else (if (Int.tmod x1 x6) < 38 then (some (wrap64 (Int.tdiv x1 x6), 4)) else (if (Int.tmod x1 x6) < (wrap64 (38 + (wrap64 (8 * x142002)))) then (some (wrap64 (Int.tdiv x1 x6), 5)) else (some (wrap64 (Int.tdiv x1 x6), 6)))))))))
def spec_PartAt.f (k : Nat) (a0_0 : Int) (a0_1 : Int) (a0_2 : Int) (a0_3 : Int) (a1 : Int) : Option (Int × Int) := (spec_PartWords.f a0_0 a0_1 a0_2 a0_3).bind fun t142 => (if t142 = 0 then (spec_PartAt.j0 k a1 t142 true a0_0 a0_1 a0_2 a0_3) else ((spec_l01In.f a1 0 (wrap64 ((wrap64 (a0_0 * t142)) - 1))).bind fun t143 => (spec_PartAt.j0 k a1 t142 (!t143) a0_0 a0_1 a0_2 a0_3)))
theorem spec_PartAt.mono_l : ∀ k, (∀ y0 y1 y2 y3 y4 y5 y6, LeO (spec_PartAt.j0 k y0 y1 y2 y3 y4 y5 y6) (spec_PartAt.j0 (k + 1) y0 y1 y2 y3 y4 y5 y6))
 | 0 => fun _ _ _ _ _ _ _ r h => by simp [spec_PartAt.j0] at h
 | k + 1 => by
  have ih0 := spec_PartAt.mono_l k
  ·intro y0 y1 y2 y3 y4 y5 y6
   unfold spec_PartAt.j0
   repeat' first
   | (with_reducible exact ih0 _ _ _ _ _ _ _)
   | (with_reducible exact LeO.refl _)
   | (with_reducible exact LeO.none _)
   | (with_reducible refine LeO.ite ?_ ?_)
   | (with_reducible refine LeO.bind ?_ (fun _ => ?_))
   | exact ih0 _ _ _ _ _ _ _
   | exact LeO.none _
   | refine LeO.ite ?_ ?_
   | refine LeO.bind ?_ (fun _ => ?_)
theorem spec_PartAt.mono : ∀ a0 a1 a2 a3 a4 k, LeO (spec_PartAt.f k a0 a1 a2 a3 a4) (spec_PartAt.f (k + 1) a0 a1 a2 a3 a4) := by
 intro a0 a1 a2 a3 a4 k
 have ih0 := spec_PartAt.mono_l k
 unfold spec_PartAt.f
 repeat' first
   | (with_reducible exact ih0 _ _ _ _ _ _ _)
   | (with_reducible exact LeO.refl _)
   | (with_reducible exact LeO.none _)
   | (with_reducible refine LeO.ite ?_ ?_)
   | (with_reducible refine LeO.bind ?_ (fun _ => ?_))
   | exact ih0 _ _ _ _ _ _ _
   | exact LeO.none _
   | refine LeO.ite ?_ ?_
   | refine LeO.bind ?_ (fun _ => ?_)
set_option maxHeartbeats 8000000 in
set_option maxRecDepth 100000 in
theorem spec_PartAt.calls (k : Nat) (a0_0 : Int) (a0_1 : Int) (a0_2 : Int) (a0_3 : Int) (a1 : Int) (r1 : Int) (r2 : Int) (w : World) (h : spec_PartAt.f k a0_0 a0_1 a0_2 a0_3 a1 = some (r1, r2)) :
  Calls Try.prog 45 #[.agg #[.int .i64 a0_0, .int .i64 a0_1, .int .i64 a0_2, .int .i64 a0_3], .int .i64 a1] w fun e w' => e = .returned (.tuple #[.int .i64 r1, .int .i64 r2]) ∧ Below w.heap.size w w' := by
 have hu29 := Try.underlying29
 have HB := Am (Below.refl w.heap.size w)
 have H : ((spec_PartWords.f a0_0 a0_1 a0_2 a0_3).bind fun t142 => (if t142 = 0 then (spec_PartAt.j0 k a1 t142 true a0_0 a0_1 a0_2 a0_3) else ((spec_l01In.f a1 0 (wrap64 ((wrap64 (a0_0 * t142)) - 1))).bind fun t143 => (spec_PartAt.j0 k a1 t142 (!t143) a0_0 a0_1 a0_2 a0_3)))) = some (r1, r2) := h
 clear h
 replace H := Option.bind_eq_some_iff.mp H
 obtain ⟨t142, A30, H⟩ := H
 replace H : (if t142 = 0 then (spec_PartAt.j0 k a1 t142 true a0_0 a0_1 a0_2 a0_3) else ((spec_l01In.f a1 0 (wrap64 ((wrap64 (a0_0 * t142)) - 1))).bind fun t143 => (spec_PartAt.j0 k a1 t142 (!t143) a0_0 a0_1 a0_2 a0_3))) = some (r1, r2) := H
 have A3 := Am A30
 clear A30
 have HC4 := Am H
 clear H
 go_enter Try.func45, Try.ntmps45
 go_upto_region 2 with (first | ((with_reducible refine gate_dst (N := 2) rfl ?_); refine box_event ?hg (N := 2) ?hd (cs := #[.int .i64 a0_0, .int .i64 a0_1, .int .i64 a0_2, .int .i64 a0_3]) (t := 29) ?hr ?_; (case hd => rfl); (case hg => rfl); (case hr => first | (go_simp; done) | (go_simp; rfl)); intro gb141 hg w5 hbox hb; have BK141 := Am (hbox); have GW141 := Am ((by rw [hg]; exact (bz zB) : w.heap.size ≤ gb141)); have GE141 := Am ((by rw [hg]; exact (bz zB) : w.heap.size ≤ gb141)); replace HB := Am (bq zB hb); clear hb hbox hg; obtain ⟨hcz6_0, hcz6_1, hcz6_2, hcz6_3⟩ := kc4 (w := w5) BK141.out; have hfz6_0 := kf BK141.out) | ((with_reducible refine gate_callee (f := 55) rfl ?_); refine zC (some 10) rfl rfl Try.func55 rfl #[.agg #[.int .i64 a0_0, .int .i64 a0_1, .int .i64 a0_2, .int .i64 a0_3]] rfl ?_; (with_reducible refine (spec_PartWords.calls a0_0 a0_1 a0_2 a0_3 t142 _ A3.out).mono ?_); rintro e w7 ⟨rfl, hb⟩; refine ⟨_, rfl, ?_⟩; have n0_ := Am (zK BK141 hb); have n1_ := Am (bq zG hb); clear BK141; clear HB; have BK141 := n0_; have HB := n1_; clear n0_ n1_; (try clear hb)))
 (try simp only [Act.put, List.setIfInBounds_toArray, List.set_cons_zero, List.set_cons_succ])
 go_cut [22] (fun v22 wc => ∃ (kq : Nat) (x22_3 : Bool), v22 = .bool x22_3 ∧ Aside0 (spec_PartAt.j0 kq a1 t142 x22_3 a0_0 a0_1 a0_2 a0_3 = some (r1, r2)) ∧ Aside0 (kq ≤ k) ∧ Aside0 (wc.heap[gb141]? = some (.cells #[.int .i64 a0_0, .int .i64 a0_1, .int .i64 a0_2, .int .i64 a0_3] 29 (0, 0))) ∧ Aside0 (Below w.heap.size w wc))
 case first =>
  have H := HC4.out
  clear HC4
  by_cases c8 : t142 = 0
  ·rw [if_pos c8] at H
   have c8b0 : (t142 == 0) = true := beq_iff_eq.mpr c8
   have c8b1 : (t142 != 0) = false := bne_eq_false_iff_eq.mpr c8
   clear c8
   (first | rw [c8b0] | (simp only [i64_w, i32_w]; rw [c8b0]) | skip)
   have H' := Am H
   clear H
   go_wp2
   go_meet
   case rel => exact ⟨_, (true), (by first | rfl | (simp; done) | (simp [*]; done)), H', ⟨by first | omega | exact Nat.le_refl _⟩, ⟨by (with_reducible repeat (first | refine kn ?_ _ | refine ke ?_ | refine ka ?_ _)); exact BK141.out⟩, ⟨zG⟩⟩
  ·rw [if_neg c8] at H
   have c8b0 : (t142 == 0) = false := beq_eq_false_iff_ne.mpr c8
   have c8b1 : (t142 != 0) = true := bne_iff_ne.mpr c8
   (first | rw [c8b0] | (simp only [i64_w, i32_w]; rw [c8b0]) | skip)
   replace H := Option.bind_eq_some_iff.mp H
   obtain ⟨t143, A90, H⟩ := H
   replace H : (spec_PartAt.j0 k a1 t142 (!t143) a0_0 a0_1 a0_2 a0_3) = some (r1, r2) := H
   have A9 := Am A90
   clear A90
   have H' := Am H
   clear H
   obtain ⟨hcz10_0, hcz10_1, hcz10_2, hcz10_3⟩ := kc4 (w := w7) BK141.out
   have hfz10_0 := kf BK141.out
   go_wp2_with (first | (go_at_call 47; (with_reducible refine (spec_l01In.calls a1 0 (wrap64 ((wrap64 (a0_0 * t142)) - 1)) t143 _ A9.out).mono ?_); rintro e w' ⟨rfl, ⟨nd, rfl⟩⟩))
   go_meet
   case rel => exact ⟨_, (!t143), (by first | rfl | (simp; done) | (simp [*]; done)), H', ⟨by first | omega | exact Nat.le_refl _⟩, ⟨by (with_reducible repeat (first | refine kn ?_ _ | refine ke ?_ | refine ka ?_ _)); exact BK141.out⟩, ⟨zG⟩⟩
 case rest =>
  clear HC4
  try clear p2; try clear c4; try clear c5; try clear p6; try clear c8; try clear c8b0; try clear c8b1; try clear hcz10_0; try clear hcz10_1; try clear hcz10_2; try clear hcz10_3; try clear hcz6_0; try clear hcz6_1; try clear hcz6_2; try clear hcz6_3; try clear hfz10_0; try clear hfz10_1; try clear hfz10_2; try clear hfz10_3; try clear hfz6_0; try clear hfz6_1; try clear hfz6_2; try clear hfz6_3
  obtain ⟨kq, x22_3, rfl, HA, HJ3, BK141, HB⟩ := hcut
  cases kq with
  | zero => exact absurd HA.out (by simp [spec_PartAt.j0])
  | succ kj3 =>
   have H := HA.out
   clear HA
   simp only [spec_PartAt.j0] at H
   by_cases c11 : x22_3 = true
   ·subst c11
    have H1 : (some ((-1), 0)) = some (r1, r2) := by rw [if_pos rfl] at H; exact H
    clear H
    have H := H1
    clear H1
    simp only [Option.some.injEq, Prod.mk.injEq] at H
    obtain ⟨rfl, rfl⟩ := H
    go_wp2
    go_ret2
    exact ⟨zR, zG⟩
   ·replace c11 := Bool.eq_false_iff.mpr c11
    subst c11
    have H1 : (if t142 = 0 then (none) else (if (Int.tmod a1 t142) = 0 then (some (wrap64 (Int.tdiv a1 t142), 1)) else (if (Int.tmod a1 t142) = 2 then (some (wrap64 (Int.tdiv a1 t142), 2)) else (if (Int.tmod a1 t142) < 4 then (some (wrap64 (Int.tdiv a1 t142), 0)) else (if (Int.tmod a1 t142) < 36 then (some (wrap64 (Int.tdiv a1 t142), 3)) else (if (Int.tmod a1 t142) < 38 then (some (wrap64 (Int.tdiv a1 t142), 4)) else (if (Int.tmod a1 t142) < (wrap64 (38 + (wrap64 (8 * a0_2)))) then (some (wrap64 (Int.tdiv a1 t142), 5)) else (some (wrap64 (Int.tdiv a1 t142), 6))))))))) = some (r1, r2) := by rw [if_neg (show ¬ (false = true) by decide)] at H; exact H
    clear H
    have H := H1
    clear H1
    by_cases c12 : t142 = 0
    ·rw [if_pos c12] at H
     exact absurd H (by simp)
    ·rw [if_neg c12] at H
     have c12b0 : (t142 == 0) = false := beq_eq_false_iff_ne.mpr c12
     have c12b1 : (t142 != 0) = true := bne_iff_ne.mpr c12
     by_cases c13 : (Int.tmod a1 t142) = 0
     ·rw [if_pos c13] at H
      have c13b0 : ((Int.tmod a1 t142) == 0) = true := beq_iff_eq.mpr c13
      have c13b1 : ((Int.tmod a1 t142) != 0) = false := bne_eq_false_iff_eq.mpr c13
      clear c13
      simp only [Option.some.injEq, Prod.mk.injEq] at H
      obtain ⟨rfl, rfl⟩ := H
      go_wp2
      go_ret2
      exact ⟨zR, zG⟩
     ·rw [if_neg c13] at H
      have c13b0 : ((Int.tmod a1 t142) == 0) = false := beq_eq_false_iff_ne.mpr c13
      have c13b1 : ((Int.tmod a1 t142) != 0) = true := bne_iff_ne.mpr c13
      by_cases c14 : (Int.tmod a1 t142) = 2
      ·rw [if_pos c14] at H
       have c14b0 : ((Int.tmod a1 t142) == 2) = true := beq_iff_eq.mpr c14
       have c14b1 : ((Int.tmod a1 t142) != 2) = false := bne_eq_false_iff_eq.mpr c14
       clear c14
       simp only [Option.some.injEq, Prod.mk.injEq] at H
       obtain ⟨rfl, rfl⟩ := H
       go_wp2
       go_ret2
       exact ⟨zR, zG⟩
      ·rw [if_neg c14] at H
       have c14b0 : ((Int.tmod a1 t142) == 2) = false := beq_eq_false_iff_ne.mpr c14
       have c14b1 : ((Int.tmod a1 t142) != 2) = true := bne_iff_ne.mpr c14
       by_cases c15 : (Int.tmod a1 t142) < 4
       ·rw [if_pos c15] at H
        have c15b0 : decide ((Int.tmod a1 t142) < 4) = true := decide_eq_true c15
        clear c15
        simp only [Option.some.injEq, Prod.mk.injEq] at H
        obtain ⟨rfl, rfl⟩ := H
        go_wp2
        go_ret2
        exact ⟨zR, zG⟩
       ·rw [if_neg c15] at H
        have c15b0 : decide ((Int.tmod a1 t142) < 4) = false := decide_eq_false c15
        clear c15
        by_cases c16 : (Int.tmod a1 t142) < 36
        ·rw [if_pos c16] at H
         have c16b0 : decide ((Int.tmod a1 t142) < 36) = true := decide_eq_true c16
         clear c16
         simp only [Option.some.injEq, Prod.mk.injEq] at H
         obtain ⟨rfl, rfl⟩ := H
         go_wp2
         go_ret2
         exact ⟨zR, zG⟩
        ·rw [if_neg c16] at H
         have c16b0 : decide ((Int.tmod a1 t142) < 36) = false := decide_eq_false c16
         clear c16
         by_cases c17 : (Int.tmod a1 t142) < 38
         ·rw [if_pos c17] at H
          have c17b0 : decide ((Int.tmod a1 t142) < 38) = true := decide_eq_true c17
          clear c17
          simp only [Option.some.injEq, Prod.mk.injEq] at H
          obtain ⟨rfl, rfl⟩ := H
          go_wp2
          go_ret2
          exact ⟨zR, zG⟩
         ·rw [if_neg c17] at H
          have c17b0 : decide ((Int.tmod a1 t142) < 38) = false := decide_eq_false c17
          clear c17
          by_cases c18 : (Int.tmod a1 t142) < (wrap64 (38 + (wrap64 (8 * a0_2))))
          ·rw [if_pos c18] at H
           have c18b0 : decide ((Int.tmod a1 t142) < (wrap64 (38 + (wrap64 (8 * a0_2))))) = true := decide_eq_true c18
           clear c18
           simp only [Option.some.injEq, Prod.mk.injEq] at H
           obtain ⟨rfl, rfl⟩ := H
           obtain ⟨hcz19_0, hcz19_1, hcz19_2, hcz19_3⟩ := kc4 (w := wc) BK141.out
           have hfz19_0 := kf BK141.out
           go_wp2
           go_ret2
           exact ⟨zR, zG⟩
          ·rw [if_neg c18] at H
           have c18b0 : decide ((Int.tmod a1 t142) < (wrap64 (38 + (wrap64 (8 * a0_2))))) = false := decide_eq_false c18
           clear c18
           simp only [Option.some.injEq, Prod.mk.injEq] at H
           obtain ⟨rfl, rfl⟩ := H
           obtain ⟨hcz20_0, hcz20_1, hcz20_2, hcz20_3⟩ := kc4 (w := wc) BK141.out
           have hfz20_0 := kf BK141.out
           go_wp2
           go_ret2
           exact ⟨zR, zG⟩

/-! ### spec_LinesIn: function 48 -/
def spec_LinesIn.f (a0_0 : Int) (a0_1 : Int) (a0_2 : Int) (a0_3 : Int) : Option (Int) := (spec_PartWords.f a0_0 a0_1 a0_2 a0_3).bind fun t145 => (some (wrap64 (Int.tdiv (wrap64 (a0_0 * t145)) 2)))
set_option maxHeartbeats 8000000 in
set_option maxRecDepth 100000 in
theorem spec_LinesIn.calls (a0_0 : Int) (a0_1 : Int) (a0_2 : Int) (a0_3 : Int) (r : Int) (w : World) (h : spec_LinesIn.f a0_0 a0_1 a0_2 a0_3 = some r) :
  Calls Try.prog 48 #[.agg #[.int .i64 a0_0, .int .i64 a0_1, .int .i64 a0_2, .int .i64 a0_3]] w fun e w' => e = .returned (.int .i64 r) ∧ Below w.heap.size w w' := by
 have hu29 := Try.underlying29
 have HB := Am (Below.refl w.heap.size w)
 have H : ((spec_PartWords.f a0_0 a0_1 a0_2 a0_3).bind fun t145 => (some (wrap64 (Int.tdiv (wrap64 (a0_0 * t145)) 2)))) = some r := h
 clear h
 replace H := Option.bind_eq_some_iff.mp H
 obtain ⟨t145, A20, H⟩ := H
 replace H : (some (wrap64 (Int.tdiv (wrap64 (a0_0 * t145)) 2))) = some r := H
 have A2 := Am A20
 clear A20
 obtain rfl := Option.some.inj H
 go_enter Try.func48, Try.ntmps48
 try go_wp2_with (first | ((with_reducible refine gate_dst (N := 1) rfl ?_); refine box_event ?hg (N := 1) ?hd (cs := #[.int .i64 a0_0, .int .i64 a0_1, .int .i64 a0_2, .int .i64 a0_3]) (t := 29) ?hr ?_; (case hd => rfl); (case hg => rfl); (case hr => first | (go_simp; done) | (go_simp; rfl)); intro gb144 hg w3 hbox hb; have BK144 := Am (hbox); have GW144 := Am ((by rw [hg]; exact (bz zB) : w.heap.size ≤ gb144)); have GE144 := Am ((by rw [hg]; exact (bz zB) : w.heap.size ≤ gb144)); replace HB := Am (bq zB hb); clear hb hbox hg))
 have n0_ := Am (ke BK144.out)
 have n1_ := Am (be HB.out)
 clear BK144
 clear HB
 have BK144 := n0_
 have HB := n1_
 clear n0_ n1_
 refine start_ (n := 7) (S := fun w' => w'.cell? ⟨gb144, 0, none⟩ = some (.int .i64 a0_0) ∧ w'.cell? ⟨gb144, 1, none⟩ = some (.int .i64 a0_1) ∧ w'.cell? ⟨gb144, 2, none⟩ = some (.int .i64 a0_2) ∧ w'.cell? ⟨gb144, 3, none⟩ = some (.int .i64 a0_3)) (ds := []) #[false, false, false, false, false, false, false] (by kernel_rfl) rfl rfl ⟨(kc BK144.out 0).trans rfl, (kc BK144.out 1).trans rfl, (kc BK144.out 2).trans rfl, (kc BK144.out 3).trans rfl⟩ (fun hHeld => ?_)
 generalize w3.drew = w4 at BK144 HB hHeld ⊢
 refine yA 0 (some 3) rfl rfl ?_
 refine yT 1 (some 4) rfl rfl hHeld ?_
 refine yT 2 (some 5) rfl rfl hHeld ?_
 refine yO 3 (some 6) rfl rfl (fun K hK => ?_)
 refine goes_ Try.func55 (by kernel_rfl) rfl #[.agg #[.int .i64 a0_0, .int .i64 a0_1, .int .i64 a0_2, .int .i64 a0_3]] (by rfl) rfl rfl (by (try simp only [List.map_toArray, List.map_cons, List.map_nil]); first | done | rfl | (simp only [List.length_drop, List.length_take]; rfl)) ?_
 with_reducible refine (spec_PartWords.calls a0_0 a0_1 a0_2 a0_3 t145 _ A2.out).mono ?_
 rintro e w5 ⟨rfl, hb⟩
 refine ⟨_, rfl, ?_⟩
 have n0_ := Am (zK BK144 hb)
 have n1_ := Am (bq zG hb)
 clear BK144
 clear HB
 have BK144 := n0_
 have HB := n1_
 clear n0_ n1_
 (try clear hb)
 (try clear hb2)
 (try clear hk)
 (try clear hi)
 refine hK.out _ _ ⟨(kc BK144.out 0).trans rfl, (kc BK144.out 1).trans rfl, (kc BK144.out 2).trans rfl, (kc BK144.out 3).trans rfl⟩ (fun hHeld => ?_)
 clear hK K
 refine zN (some 6) ?_
 refine yA 4 (some 7) rfl rfl ?_
 refine yA 5 (some 8) rfl rfl ?_
 refine yA 6 (some 2) rfl rfl ?_
 refine done_ (by kernel_rfl) ?_
 try go_wp2
 go_ret
 exact ⟨zR, zG⟩

/-! ### spec_l10Size: function 138 -/
def spec_l10Size.f  : Option (Int) := some 16
set_option maxHeartbeats 8000000 in
set_option maxRecDepth 100000 in
theorem spec_l10Size.calls  (r : Int) (w : World) (h : spec_l10Size.f  = some r) :
  Calls Try.prog 138 #[] w fun e w' => e = .returned (.int .i64 r) ∧ Drawn0 w w' := by
 have H : (some 16) = some r := h
 clear h
 obtain rfl := Option.some.inj H
 go_enter Try.func138, Try.ntmps138
 go_wp2
 go_ret
 exact ⟨by first | rfl | (simp; done) | (simp [*]; done), by repeat (first | exact Drawn0.refl _ | apply Drawn0.step)⟩

end Go.Proofs.Ytconffflmbakgaa.QFnExactMaskedImage
