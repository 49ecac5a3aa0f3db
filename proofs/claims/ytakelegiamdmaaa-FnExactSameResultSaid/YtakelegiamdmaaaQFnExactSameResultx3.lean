/- Go functions as Lean functions, and their contracts. Own text: written by wip/gen/pr.py (a turned copy of the print). -/
import Derived.Test.YtakelegiamdmaaaQFnExactSameResultx0
import Derived.Test.YtakelegiamdmaaaQFnExactSameResultx1
import Derived.Test.YtakelegiamdmaaaQFnExactSameResultx2
namespace Go.Proofs.Ytakelegiamdmaaa.QFnExactSameResult
open Go.RowKit Go.Proofs.YtakelegiamdmaaaW.PrintWords Go.Proofs.YtakelegiamdmaaaW.PrintLast Go.Proofs.YtakelegiamdmaaaW.PrintMore
attribute [local go_sem] max2_int min2_int max_two min_two max_three min_three max_four min_four   -- for this text's walks alone
open Go.Proofs.YtakelegiamdmaaaW.PrintWords renaming below_alloc → ba, pw_below_drewN → bn, below_drew1 → be, below_set → bs, blk_drewN → kn, blk_drew → ke, blk_alloc → ka, blk_below → kb, blk_frozen → kf, blk_cell → kc, below_step → bt, below_size → bz, blk_lt → kl, blk_put → kp
open Go.Proofs.YtakelegiamdmaaaW.PrintWords.Kd renaming R_alloc → ra, R_drewN → rn, R_drew → re, C_alloc → ca, C_drewN → cn, C_drew → ce, R_below → rb, C_below → cb
open Go.Proofs.YtakelegiamdmaaaW.PrintWords.Aside0 renaming mk → Am
set_option linter.unusedVariables false
set_option linter.unusedSimpArgs false

def ob0 (p0 : Int) (p1 : ByteArray) (p2 : Int) (p3 : Bool) (p4 : Option Addr) (p5 p6 : Nat) : Obj := .cells #[.int .i64 p0, .string p1, .int .i64 p2, .bool p3, .slice p4 p5 p6] 46 (0, 0)
def ob1 (p0 : Int) (p1 : ByteArray) (p2 : Int) (p3 : Bool) (p4 : Option Addr) (p5 p6 : Nat) : Obj := .cells #[.int .i64 p0, .string p1, .int .i64 p2, .bool p3, .slice p4 p5 p6] 46 (0, 0)
def ob2 (p0 : Int) (p1 : ByteArray) (p2 : Int) (p3 : Bool) (p4 : Option Addr) (p5 p6 : Nat) : Obj := .cells #[.int .i64 p0, .string p1, .int .i64 p2, .bool p3, .slice p4 p5 p6] 49 (0, 0)
def ob3 (p0 : Int) (p1 : ByteArray) (p2 : Int) (p3 : Bool) (p4 : Option Addr) (p5 p6 : Nat) : Obj := .cells #[.int .i64 p0, .string p1, .int .i64 p2, .bool p3, .slice p4 p5 p6] 49 (0, 0)
def ob4 (p0 : Int) (p1 : ByteArray) (p2 : Int) (p3 : Bool) (p4 : Option Addr) (p5 p6 : Nat) : Obj := .cells #[.int .i64 p0, .string p1, .int .i64 p2, .bool p3, .slice p4 p5 p6] 49 (0, 0)
def ob5 (p0 : Int) (p1 : ByteArray) (p2 : Int) (p3 : Bool) (p4 : Option Addr) (p5 p6 : Nat) : Obj := .cells #[.int .i64 p0, .string p1, .int .i64 p2, .bool p3, .slice p4 p5 p6] 49 (0, 0)
def ob6 (p0 : Int) (p1 : ByteArray) (p2 : Int) (p3 : Bool) (p4 : Option Addr) (p5 p6 : Nat) : Obj := .cells #[.int .i64 p0, .string p1, .int .i64 p2, .bool p3, .slice p4 p5 p6] 49 (0, 0)
def ob7 (p0 : Int) (p1 : ByteArray) (p2 : Int) (p3 : Bool) (p4 : Option Addr) (p5 p6 : Nat) : Obj := .cells #[.int .i64 p0, .string p1, .int .i64 p2, .bool p3, .slice p4 p5 p6] 49 (0, 0)
/-! ### laws_FnExactSameResult: function 6 -/
def laws_FnExactSameResult.f (k : Nat) (a0_0 : Int) (a0_1 : ByteArray) (a0_2 : Int) (a0_3 : Bool) (l0_4 : List ByteArray) (a1_0 : Int) (a1_1 : ByteArray) (a1_2 : Int) (a1_3 : Bool) (l1_4 : List ByteArray) : Option (Bool) := (laws_szResult.f k a0_0 a0_1 a0_2 a0_3 l0_4 1048576).bind fun t132 => (if t132 < 0 then (some true) else ((laws_szResult.f k a1_0 a1_1 a1_2 a1_3 l1_4 t132).bind fun t133 => (if t133 < 0 then (some true) else ((laws_toResult.f k a0_0 a0_1 a0_2 a0_3 l0_4).bind fun bt134 => ((laws_toResult.f k a1_0 a1_1 a1_2 a1_3 l1_4).bind fun bt141 => ((spec_SameResult.f k bt134.1 bt134.2.1 bt134.2.2.1 bt134.2.2.2.1 bt134.2.2.2.2 bt141.1 bt141.2.1 bt141.2.2.1 bt141.2.2.2.1 bt141.2.2.2.2).bind fun t148 => ((laws_toResult.f k a0_0 a0_1 a0_2 a0_3 l0_4).bind fun bt149 => ((laws_toResult.f k a1_0 a1_1 a1_2 a1_3 l1_4).bind fun bt157 => ((impl_SameResult.f k bt149.1 bt149.2.1 bt149.2.2.1 bt149.2.2.2.1 bt149.2.2.2.2 bt157.1 bt157.2.1 bt157.2.2.1 bt157.2.2.2.1 bt157.2.2.2.2).bind fun t165 => (if (t165 != t148) = true then (some false) else ((laws_toResult.f k a0_0 a0_1 a0_2 a0_3 l0_4).bind fun bt166 => ((laws_eqResult.f k bt149.1 bt149.2.1 bt149.2.2.1 bt149.2.2.2.1 bt149.2.2.2.2 bt166.1 bt166.2.1 bt166.2.2.1 bt166.2.2.2.1 bt166.2.2.2.2).bind fun t173 => (if t173 = true then ((laws_toResult.f k a1_0 a1_1 a1_2 a1_3 l1_4).bind fun bt174 => ((laws_eqResult.f k bt157.1 bt157.2.1 bt157.2.2.1 bt157.2.2.2.1 bt157.2.2.2.2 bt174.1 bt174.2.1 bt174.2.2.1 bt174.2.2.2.1 bt174.2.2.2.2).bind fun t181 => (if t181 = true then (some true) else (some false)))) else (some false))))))))))))))
theorem laws_FnExactSameResult.mono : ∀ a0 a1 a2 a3 a4 a5 a6 a7 a8 a9 k, LeO (laws_FnExactSameResult.f k a0 a1 a2 a3 a4 a5 a6 a7 a8 a9) (laws_FnExactSameResult.f (k + 1) a0 a1 a2 a3 a4 a5 a6 a7 a8 a9) := by
 intro a0 a1 a2 a3 a4 a5 a6 a7 a8 a9 k
 unfold laws_FnExactSameResult.f
 repeat' first
   | (with_reducible exact impl_SameResult.mono _ _ _ _ _ _ _ _ _ _ _)
   | (with_reducible exact laws_eqResult.mono _ _ _ _ _ _ _ _ _ _ _)
   | (with_reducible exact laws_szResult.mono _ _ _ _ _ _ _)
   | (with_reducible exact laws_toResult.mono _ _ _ _ _ _)
   | (with_reducible exact spec_SameResult.mono _ _ _ _ _ _ _ _ _ _ _)
   | (with_reducible exact LeO.refl _)
   | (with_reducible exact LeO.none _)
   | (with_reducible refine LeO.ite ?_ ?_)
   | (with_reducible refine LeO.bind ?_ (fun _ => ?_))
   | exact impl_SameResult.mono _ _ _ _ _ _ _ _ _ _ _
   | exact laws_eqResult.mono _ _ _ _ _ _ _ _ _ _ _
   | exact laws_szResult.mono _ _ _ _ _ _ _
   | exact laws_toResult.mono _ _ _ _ _ _
   | exact spec_SameResult.mono _ _ _ _ _ _ _ _ _ _ _
   | exact LeO.none _
   | refine LeO.ite ?_ ?_
   | refine LeO.bind ?_ (fun _ => ?_)
set_option maxHeartbeats 8000000 in
set_option maxRecDepth 100000 in
theorem laws_FnExactSameResult.calls (k : Nat) (a0_0 : Int) (a0_1 : ByteArray) (a0_2 : Int) (a0_3 : Bool) (A0_4 : Option Addr) (c0_4 : Nat) (l0_4 : List ByteArray) (a1_0 : Int) (a1_1 : ByteArray) (a1_2 : Int) (a1_3 : Bool) (A1_4 : Option Addr) (c1_4 : Nat) (l1_4 : List ByteArray) (r : Bool) (w : World) (hr0_4 : Kd.C Kd.string w A0_4 l0_4.length l0_4) (hc0_4 : l0_4.length ≤ c0_4) (hr1_4 : Kd.C Kd.string w A1_4 l1_4.length l1_4) (hc1_4 : l1_4.length ≤ c1_4) (h : laws_FnExactSameResult.f k a0_0 a0_1 a0_2 a0_3 l0_4 a1_0 a1_1 a1_2 a1_3 l1_4 = some r) :
  Calls Try.prog 6 #[.agg #[.int .i64 a0_0, .string a0_1, .int .i64 a0_2, .bool a0_3, .slice A0_4 l0_4.length c0_4], .agg #[.int .i64 a1_0, .string a1_1, .int .i64 a1_2, .bool a1_3, .slice A1_4 l1_4.length c1_4]] w fun e w' => e = .returned (.bool r) ∧ Below w.heap.size w w' := by
 have hu46 := Try.underlying46
 have hu49 := Try.underlying49
 have HR0_4 := Am hr0_4
 have HC0_4 := Am hc0_4
 clear hr0_4 hc0_4
 have HR1_4 := Am hr1_4
 have HC1_4 := Am hc1_4
 clear hr1_4 hc1_4
 have HB := Am (Below.refl w.heap.size w)
 have H : ((laws_szResult.f k a0_0 a0_1 a0_2 a0_3 l0_4 1048576).bind fun t132 => (if t132 < 0 then (some true) else ((laws_szResult.f k a1_0 a1_1 a1_2 a1_3 l1_4 t132).bind fun t133 => (if t133 < 0 then (some true) else ((laws_toResult.f k a0_0 a0_1 a0_2 a0_3 l0_4).bind fun bt134 => ((laws_toResult.f k a1_0 a1_1 a1_2 a1_3 l1_4).bind fun bt141 => ((spec_SameResult.f k bt134.1 bt134.2.1 bt134.2.2.1 bt134.2.2.2.1 bt134.2.2.2.2 bt141.1 bt141.2.1 bt141.2.2.1 bt141.2.2.2.1 bt141.2.2.2.2).bind fun t148 => ((laws_toResult.f k a0_0 a0_1 a0_2 a0_3 l0_4).bind fun bt149 => ((laws_toResult.f k a1_0 a1_1 a1_2 a1_3 l1_4).bind fun bt157 => ((impl_SameResult.f k bt149.1 bt149.2.1 bt149.2.2.1 bt149.2.2.2.1 bt149.2.2.2.2 bt157.1 bt157.2.1 bt157.2.2.1 bt157.2.2.2.1 bt157.2.2.2.2).bind fun t165 => (if (t165 != t148) = true then (some false) else ((laws_toResult.f k a0_0 a0_1 a0_2 a0_3 l0_4).bind fun bt166 => ((laws_eqResult.f k bt149.1 bt149.2.1 bt149.2.2.1 bt149.2.2.2.1 bt149.2.2.2.2 bt166.1 bt166.2.1 bt166.2.2.1 bt166.2.2.2.1 bt166.2.2.2.2).bind fun t173 => (if t173 = true then ((laws_toResult.f k a1_0 a1_1 a1_2 a1_3 l1_4).bind fun bt174 => ((laws_eqResult.f k bt157.1 bt157.2.1 bt157.2.2.1 bt157.2.2.2.1 bt157.2.2.2.2 bt174.1 bt174.2.1 bt174.2.2.1 bt174.2.2.2.1 bt174.2.2.2.2).bind fun t181 => (if t181 = true then (some true) else (some false)))) else (some false))))))))))))))) = some r := h
 clear h
 replace H := Option.bind_eq_some_iff.mp H
 obtain ⟨t132, A30, H⟩ := H
 replace H : (if t132 < 0 then (some true) else ((laws_szResult.f k a1_0 a1_1 a1_2 a1_3 l1_4 t132).bind fun t133 => (if t133 < 0 then (some true) else ((laws_toResult.f k a0_0 a0_1 a0_2 a0_3 l0_4).bind fun bt134 => ((laws_toResult.f k a1_0 a1_1 a1_2 a1_3 l1_4).bind fun bt141 => ((spec_SameResult.f k bt134.1 bt134.2.1 bt134.2.2.1 bt134.2.2.2.1 bt134.2.2.2.2 bt141.1 bt141.2.1 bt141.2.2.1 bt141.2.2.2.1 bt141.2.2.2.2).bind fun t148 => ((laws_toResult.f k a0_0 a0_1 a0_2 a0_3 l0_4).bind fun bt149 => ((laws_toResult.f k a1_0 a1_1 a1_2 a1_3 l1_4).bind fun bt157 => ((impl_SameResult.f k bt149.1 bt149.2.1 bt149.2.2.1 bt149.2.2.2.1 bt149.2.2.2.2 bt157.1 bt157.2.1 bt157.2.2.1 bt157.2.2.2.1 bt157.2.2.2.2).bind fun t165 => (if (t165 != t148) = true then (some false) else ((laws_toResult.f k a0_0 a0_1 a0_2 a0_3 l0_4).bind fun bt166 => ((laws_eqResult.f k bt149.1 bt149.2.1 bt149.2.2.1 bt149.2.2.2.1 bt149.2.2.2.2 bt166.1 bt166.2.1 bt166.2.2.1 bt166.2.2.2.1 bt166.2.2.2.2).bind fun t173 => (if t173 = true then ((laws_toResult.f k a1_0 a1_1 a1_2 a1_3 l1_4).bind fun bt174 => ((laws_eqResult.f k bt157.1 bt157.2.1 bt157.2.2.1 bt157.2.2.2.1 bt157.2.2.2.2 bt174.1 bt174.2.1 bt174.2.2.1 bt174.2.2.2.1 bt174.2.2.2.2).bind fun t181 => (if t181 = true then (some true) else (some false)))) else (some false)))))))))))))) = some r := H
 have A3 := Am A30
 clear A30
 by_cases c4 : t132 < 0
 ·rw [if_pos c4] at H
  have c4b0 : decide (t132 < 0) = true := decide_eq_true c4
  clear c4
  obtain rfl := Option.some.inj H
  go_enter Try.func6, Try.ntmps6
  go_wp2_with (first | ((with_reducible refine gate_dst (N := 2) rfl ?_); refine box_event ?hg (N := 2) ?hd (cs := #[.int .i64 a0_0, .string a0_1, .int .i64 a0_2, .bool a0_3, .slice A0_4 l0_4.length c0_4]) (t := 46) ?hr ?_; (case hd => rfl); (case hg => rfl); (case hr => first | (go_simp; done) | (go_simp; rfl)); intro gb130 hg w5 hbox hb; have n0_ := Am (bt (by repeat (first | (with_reducible first | exact HB.out | apply ba | apply bn | apply be) | exact HB.out)) hb); have n1_ := Am (hbox); have n2_ := Am ((by rw [hg]; exact (bz (by repeat (first | (with_reducible first | exact HB.out | apply ba | apply bn | apply be) | exact HB.out))) : w.heap.size ≤ gb130)); have n3_ := Am ((by rw [hg]; exact (bz (by repeat (first | (with_reducible first | exact HB.out | apply ba | apply bn | apply be) | exact HB.out))) : w.heap.size ≤ gb130)); clear HB; have HB := n0_; have BK130 := n1_; have GW130 := n2_; have GE130 := n3_; clear n0_ n1_ n2_ n3_; clear hb hbox hg) | ((with_reducible refine gate_dst (N := 3) rfl ?_); refine box_event ?hg (N := 3) ?hd (cs := #[.int .i64 a1_0, .string a1_1, .int .i64 a1_2, .bool a1_3, .slice A1_4 l1_4.length c1_4]) (t := 46) ?hr ?_; (case hd => rfl); (case hg => rfl); (case hr => first | (go_simp; done) | (go_simp; rfl)); intro gb131 hg w6 hbox hb; have n0_ := Am (kb (g := gb130) (o := ob0 a0_0 a0_1 a0_2 a0_3 A0_4 l0_4.length c0_4) (by (with_reducible repeat (first | refine kn ?_ _ | refine ke ?_ | refine ka ?_ _)); exact BK130.out) hb); have n1_ := Am (bt (by repeat (first | (with_reducible first | exact HB.out | apply ba | apply bn | apply be | refine bs ?_ GE130.out) | exact HB.out)) hb); have n2_ := Am (hbox); have n3_ := Am ((by rw [hg]; exact (bz (by repeat (first | (with_reducible first | exact HB.out | apply ba | apply bn | apply be | refine bs ?_ GE130.out) | exact HB.out))) : w.heap.size ≤ gb131)); have n4_ := Am ((by rw [hg]; exact (bz (by repeat (first | (with_reducible first | exact HB.out | apply ba | apply bn | apply be | refine bs ?_ GE130.out) | exact HB.out))) : w.heap.size ≤ gb131)); have n5_ := Am ((by rw [hg]; exact Nat.ne_of_lt (kl (g := gb130) (o := ob0 a0_0 a0_1 a0_2 a0_3 A0_4 l0_4.length c0_4) (by (with_reducible repeat (first | refine kn ?_ _ | refine ke ?_ | refine ka ?_ _)); exact BK130.out)) : gb130 ≠ gb131)); have n6_ := Am ((by rw [hg]; exact Nat.ne_of_gt (kl (g := gb130) (o := ob0 a0_0 a0_1 a0_2 a0_3 A0_4 l0_4.length c0_4) (by (with_reducible repeat (first | refine kn ?_ _ | refine ke ?_ | refine ka ?_ _)); exact BK130.out)) : gb131 ≠ gb130)); clear BK130; clear HB; have BK130 := n0_; have HB := n1_; have BK131 := n2_; have GW131 := n3_; have GE131 := n4_; have NB130_131 := n5_; have NB131_130 := n6_; clear n0_ n1_ n2_ n3_ n4_ n5_ n6_; clear hb hbox hg; have hnb7 := NB130_131.out; have hnc7 := NB131_130.out; have hcz8_0 : w6.cell? ⟨gb130, 0, none⟩ = some (.int .i64 a0_0) := (kc BK130.out 0).trans rfl; have hcz8_1 : w6.cell? ⟨gb130, 1, none⟩ = some (.string a0_1) := (kc BK130.out 1).trans rfl; have hcz8_2 : w6.cell? ⟨gb130, 2, none⟩ = some (.int .i64 a0_2) := (kc BK130.out 2).trans rfl; have hcz8_3 : w6.cell? ⟨gb130, 3, none⟩ = some (.bool a0_3) := (kc BK130.out 3).trans rfl; have hcz8_4 : w6.cell? ⟨gb130, 4, none⟩ = some (.slice A0_4 l0_4.length c0_4) := (kc BK130.out 4).trans rfl; have hfz8_0 := kf BK130.out 0; have hfz8_1 := kf BK130.out 1; have hfz8_2 := kf BK130.out 2; have hfz8_3 := kf BK130.out 3; have hfz8_4 := kf BK130.out 4) | ((with_reducible refine gate_callee (f := 28) rfl ?_); refine goesL_ (some 12) rfl rfl Try.func28 (by kernel_rfl) rfl #[.agg #[.int .i64 a0_0, .string a0_1, .int .i64 a0_2, .bool a0_3, .slice A0_4 l0_4.length c0_4], .int .i64 1048576] rfl (by (try simp only [List.map_toArray, List.map_cons, List.map_nil]); first | done | rfl | (simp only [List.length_drop, List.length_take]; rfl)) ?_; (with_reducible refine (laws_szResult.calls k a0_0 a0_1 a0_2 a0_3 _ _ l0_4 1048576 t132 _ ?side1 ?side2 A3.out).mono ?_); (case side1 => repeat (first | exact (cb HR0_4.out HB.out) | (with_reducible refine ca ?_ _) | (with_reducible refine cn ?_ _) | (with_reducible refine ce ?_))); (case side2 => exact HC0_4.out); rintro e w9 ⟨rfl, hb⟩; refine ⟨_, rfl, ?_⟩; have n0_ := Am (kb (g := gb130) (o := ob0 a0_0 a0_1 a0_2 a0_3 A0_4 l0_4.length c0_4) (by (with_reducible repeat (first | refine kn ?_ _ | refine ke ?_ | refine ka ?_ _)); exact BK130.out) hb); have n1_ := Am (kb (g := gb131) (o := ob1 a1_0 a1_1 a1_2 a1_3 A1_4 l1_4.length c1_4) (by (with_reducible repeat (first | refine kn ?_ _ | refine ke ?_ | refine ka ?_ _)); exact BK131.out) hb); have n2_ := Am (bt (by repeat (first | (with_reducible first | exact HB.out | apply ba | apply bn | apply be | refine bs ?_ GE130.out | refine bs ?_ GE131.out) | exact HB.out)) hb); clear BK130; clear BK131; clear HB; have BK130 := n0_; have BK131 := n1_; have HB := n2_; clear n0_ n1_ n2_; (try clear hb); (try clear hb2); (try clear hk); (try clear hi)))
  go_ret
  exact ⟨by first | rfl | (simp [errW_none, errW_some] <;> rfl) | (simp [*, errW_none, errW_some] <;> rfl), by repeat (first | (with_reducible first | exact HB.out | apply ba | apply bn | apply be | refine bs ?_ GE130.out | refine bs ?_ GE131.out) | exact HB.out)⟩
 ·rw [if_neg c4] at H
  have c4b0 : decide (t132 < 0) = false := decide_eq_false c4
  clear c4
  replace H := Option.bind_eq_some_iff.mp H
  obtain ⟨t133, A100, H⟩ := H
  replace H : (if t133 < 0 then (some true) else ((laws_toResult.f k a0_0 a0_1 a0_2 a0_3 l0_4).bind fun bt134 => ((laws_toResult.f k a1_0 a1_1 a1_2 a1_3 l1_4).bind fun bt141 => ((spec_SameResult.f k bt134.1 bt134.2.1 bt134.2.2.1 bt134.2.2.2.1 bt134.2.2.2.2 bt141.1 bt141.2.1 bt141.2.2.1 bt141.2.2.2.1 bt141.2.2.2.2).bind fun t148 => ((laws_toResult.f k a0_0 a0_1 a0_2 a0_3 l0_4).bind fun bt149 => ((laws_toResult.f k a1_0 a1_1 a1_2 a1_3 l1_4).bind fun bt157 => ((impl_SameResult.f k bt149.1 bt149.2.1 bt149.2.2.1 bt149.2.2.2.1 bt149.2.2.2.2 bt157.1 bt157.2.1 bt157.2.2.1 bt157.2.2.2.1 bt157.2.2.2.2).bind fun t165 => (if (t165 != t148) = true then (some false) else ((laws_toResult.f k a0_0 a0_1 a0_2 a0_3 l0_4).bind fun bt166 => ((laws_eqResult.f k bt149.1 bt149.2.1 bt149.2.2.1 bt149.2.2.2.1 bt149.2.2.2.2 bt166.1 bt166.2.1 bt166.2.2.1 bt166.2.2.2.1 bt166.2.2.2.2).bind fun t173 => (if t173 = true then ((laws_toResult.f k a1_0 a1_1 a1_2 a1_3 l1_4).bind fun bt174 => ((laws_eqResult.f k bt157.1 bt157.2.1 bt157.2.2.1 bt157.2.2.2.1 bt157.2.2.2.2 bt174.1 bt174.2.1 bt174.2.2.1 bt174.2.2.2.1 bt174.2.2.2.2).bind fun t181 => (if t181 = true then (some true) else (some false)))) else (some false)))))))))))) = some r := H
  have A10 := Am A100
  clear A100
  by_cases c11 : t133 < 0
  ·rw [if_pos c11] at H
   have c11b0 : decide (t133 < 0) = true := decide_eq_true c11
   clear c11
   obtain rfl := Option.some.inj H
   go_enter Try.func6, Try.ntmps6
   go_wp2_with (first | ((with_reducible refine gate_dst (N := 2) rfl ?_); refine box_event ?hg (N := 2) ?hd (cs := #[.int .i64 a0_0, .string a0_1, .int .i64 a0_2, .bool a0_3, .slice A0_4 l0_4.length c0_4]) (t := 46) ?hr ?_; (case hd => rfl); (case hg => rfl); (case hr => first | (go_simp; done) | (go_simp; rfl)); intro gb130 hg w12 hbox hb; have n0_ := Am (bt (by repeat (first | (with_reducible first | exact HB.out | apply ba | apply bn | apply be) | exact HB.out)) hb); have n1_ := Am (hbox); have n2_ := Am ((by rw [hg]; exact (bz (by repeat (first | (with_reducible first | exact HB.out | apply ba | apply bn | apply be) | exact HB.out))) : w.heap.size ≤ gb130)); have n3_ := Am ((by rw [hg]; exact (bz (by repeat (first | (with_reducible first | exact HB.out | apply ba | apply bn | apply be) | exact HB.out))) : w.heap.size ≤ gb130)); clear HB; have HB := n0_; have BK130 := n1_; have GW130 := n2_; have GE130 := n3_; clear n0_ n1_ n2_ n3_; clear hb hbox hg) | ((with_reducible refine gate_dst (N := 3) rfl ?_); refine box_event ?hg (N := 3) ?hd (cs := #[.int .i64 a1_0, .string a1_1, .int .i64 a1_2, .bool a1_3, .slice A1_4 l1_4.length c1_4]) (t := 46) ?hr ?_; (case hd => rfl); (case hg => rfl); (case hr => first | (go_simp; done) | (go_simp; rfl)); intro gb131 hg w13 hbox hb; have n0_ := Am (kb (g := gb130) (o := ob0 a0_0 a0_1 a0_2 a0_3 A0_4 l0_4.length c0_4) (by (with_reducible repeat (first | refine kn ?_ _ | refine ke ?_ | refine ka ?_ _)); exact BK130.out) hb); have n1_ := Am (bt (by repeat (first | (with_reducible first | exact HB.out | apply ba | apply bn | apply be | refine bs ?_ GE130.out) | exact HB.out)) hb); have n2_ := Am (hbox); have n3_ := Am ((by rw [hg]; exact (bz (by repeat (first | (with_reducible first | exact HB.out | apply ba | apply bn | apply be | refine bs ?_ GE130.out) | exact HB.out))) : w.heap.size ≤ gb131)); have n4_ := Am ((by rw [hg]; exact (bz (by repeat (first | (with_reducible first | exact HB.out | apply ba | apply bn | apply be | refine bs ?_ GE130.out) | exact HB.out))) : w.heap.size ≤ gb131)); have n5_ := Am ((by rw [hg]; exact Nat.ne_of_lt (kl (g := gb130) (o := ob0 a0_0 a0_1 a0_2 a0_3 A0_4 l0_4.length c0_4) (by (with_reducible repeat (first | refine kn ?_ _ | refine ke ?_ | refine ka ?_ _)); exact BK130.out)) : gb130 ≠ gb131)); have n6_ := Am ((by rw [hg]; exact Nat.ne_of_gt (kl (g := gb130) (o := ob0 a0_0 a0_1 a0_2 a0_3 A0_4 l0_4.length c0_4) (by (with_reducible repeat (first | refine kn ?_ _ | refine ke ?_ | refine ka ?_ _)); exact BK130.out)) : gb131 ≠ gb130)); clear BK130; clear HB; have BK130 := n0_; have HB := n1_; have BK131 := n2_; have GW131 := n3_; have GE131 := n4_; have NB130_131 := n5_; have NB131_130 := n6_; clear n0_ n1_ n2_ n3_ n4_ n5_ n6_; clear hb hbox hg; have hnb14 := NB130_131.out; have hnc14 := NB131_130.out; have hcz15_0 : w13.cell? ⟨gb130, 0, none⟩ = some (.int .i64 a0_0) := (kc BK130.out 0).trans rfl; have hcz15_1 : w13.cell? ⟨gb130, 1, none⟩ = some (.string a0_1) := (kc BK130.out 1).trans rfl; have hcz15_2 : w13.cell? ⟨gb130, 2, none⟩ = some (.int .i64 a0_2) := (kc BK130.out 2).trans rfl; have hcz15_3 : w13.cell? ⟨gb130, 3, none⟩ = some (.bool a0_3) := (kc BK130.out 3).trans rfl; have hcz15_4 : w13.cell? ⟨gb130, 4, none⟩ = some (.slice A0_4 l0_4.length c0_4) := (kc BK130.out 4).trans rfl; have hfz15_0 := kf BK130.out 0; have hfz15_1 := kf BK130.out 1; have hfz15_2 := kf BK130.out 2; have hfz15_3 := kf BK130.out 3; have hfz15_4 := kf BK130.out 4) | ((with_reducible refine gate_callee (f := 28) rfl ?_); refine goesL_ (some 12) rfl rfl Try.func28 (by kernel_rfl) rfl #[.agg #[.int .i64 a0_0, .string a0_1, .int .i64 a0_2, .bool a0_3, .slice A0_4 l0_4.length c0_4], .int .i64 1048576] rfl (by (try simp only [List.map_toArray, List.map_cons, List.map_nil]); first | done | rfl | (simp only [List.length_drop, List.length_take]; rfl)) ?_; (with_reducible refine (laws_szResult.calls k a0_0 a0_1 a0_2 a0_3 _ _ l0_4 1048576 t132 _ ?side1 ?side2 A3.out).mono ?_); (case side1 => repeat (first | exact (cb HR0_4.out HB.out) | (with_reducible refine ca ?_ _) | (with_reducible refine cn ?_ _) | (with_reducible refine ce ?_))); (case side2 => exact HC0_4.out); rintro e w16 ⟨rfl, hb⟩; refine ⟨_, rfl, ?_⟩; have n0_ := Am (kb (g := gb130) (o := ob0 a0_0 a0_1 a0_2 a0_3 A0_4 l0_4.length c0_4) (by (with_reducible repeat (first | refine kn ?_ _ | refine ke ?_ | refine ka ?_ _)); exact BK130.out) hb); have n1_ := Am (kb (g := gb131) (o := ob1 a1_0 a1_1 a1_2 a1_3 A1_4 l1_4.length c1_4) (by (with_reducible repeat (first | refine kn ?_ _ | refine ke ?_ | refine ka ?_ _)); exact BK131.out) hb); have n2_ := Am (bt (by repeat (first | (with_reducible first | exact HB.out | apply ba | apply bn | apply be | refine bs ?_ GE130.out | refine bs ?_ GE131.out) | exact HB.out)) hb); clear BK130; clear BK131; clear HB; have BK130 := n0_; have BK131 := n1_; have HB := n2_; clear n0_ n1_ n2_; (try clear hb); (try clear hb2); (try clear hk); (try clear hi); have hcz17_0 : w16.cell? ⟨gb131, 0, none⟩ = some (.int .i64 a1_0) := (kc BK131.out 0).trans rfl; have hcz17_1 : w16.cell? ⟨gb131, 1, none⟩ = some (.string a1_1) := (kc BK131.out 1).trans rfl; have hcz17_2 : w16.cell? ⟨gb131, 2, none⟩ = some (.int .i64 a1_2) := (kc BK131.out 2).trans rfl; have hcz17_3 : w16.cell? ⟨gb131, 3, none⟩ = some (.bool a1_3) := (kc BK131.out 3).trans rfl; have hcz17_4 : w16.cell? ⟨gb131, 4, none⟩ = some (.slice A1_4 l1_4.length c1_4) := (kc BK131.out 4).trans rfl; have hfz17_0 := kf BK131.out 0; have hfz17_1 := kf BK131.out 1; have hfz17_2 := kf BK131.out 2; have hfz17_3 := kf BK131.out 3; have hfz17_4 := kf BK131.out 4) | ((with_reducible refine gate_callee (f := 28) rfl ?_); refine goesL_ (some 17) rfl rfl Try.func28 (by kernel_rfl) rfl #[.agg #[.int .i64 a1_0, .string a1_1, .int .i64 a1_2, .bool a1_3, .slice A1_4 l1_4.length c1_4], .int .i64 t132] rfl (by (try simp only [List.map_toArray, List.map_cons, List.map_nil]); first | done | rfl | (simp only [List.length_drop, List.length_take]; rfl)) ?_; (with_reducible refine (laws_szResult.calls k a1_0 a1_1 a1_2 a1_3 _ _ l1_4 t132 t133 _ ?side1 ?side2 A10.out).mono ?_); (case side1 => repeat (first | exact (cb HR1_4.out HB.out) | (with_reducible refine ca ?_ _) | (with_reducible refine cn ?_ _) | (with_reducible refine ce ?_))); (case side2 => exact HC1_4.out); rintro e w18 ⟨rfl, hb⟩; refine ⟨_, rfl, ?_⟩; have n0_ := Am (kb (g := gb130) (o := ob0 a0_0 a0_1 a0_2 a0_3 A0_4 l0_4.length c0_4) (by (with_reducible repeat (first | refine kn ?_ _ | refine ke ?_ | refine ka ?_ _)); exact BK130.out) hb); have n1_ := Am (kb (g := gb131) (o := ob1 a1_0 a1_1 a1_2 a1_3 A1_4 l1_4.length c1_4) (by (with_reducible repeat (first | refine kn ?_ _ | refine ke ?_ | refine ka ?_ _)); exact BK131.out) hb); have n2_ := Am (bt (by repeat (first | (with_reducible first | exact HB.out | apply ba | apply bn | apply be | refine bs ?_ GE130.out | refine bs ?_ GE131.out) | exact HB.out)) hb); clear BK130; clear BK131; clear HB; have BK130 := n0_; have BK131 := n1_; have HB := n2_; clear n0_ n1_ n2_; (try clear hb); (try clear hb2); (try clear hk); (try clear hi)))
   go_ret
   exact ⟨by first | rfl | (simp [errW_none, errW_some] <;> rfl) | (simp [*, errW_none, errW_some] <;> rfl), by repeat (first | (with_reducible first | exact HB.out | apply ba | apply bn | apply be | refine bs ?_ GE130.out | refine bs ?_ GE131.out) | exact HB.out)⟩
  ·rw [if_neg c11] at H
   have c11b0 : decide (t133 < 0) = false := decide_eq_false c11
   clear c11
   replace H := Option.bind_eq_some_iff.mp H
   obtain ⟨⟨t134, t135, t136, t137, t138⟩, A190, H⟩ := H
   replace H : ((laws_toResult.f k a1_0 a1_1 a1_2 a1_3 l1_4).bind fun bt141 => ((spec_SameResult.f k t134 t135 t136 t137 t138 bt141.1 bt141.2.1 bt141.2.2.1 bt141.2.2.2.1 bt141.2.2.2.2).bind fun t148 => ((laws_toResult.f k a0_0 a0_1 a0_2 a0_3 l0_4).bind fun bt149 => ((laws_toResult.f k a1_0 a1_1 a1_2 a1_3 l1_4).bind fun bt157 => ((impl_SameResult.f k bt149.1 bt149.2.1 bt149.2.2.1 bt149.2.2.2.1 bt149.2.2.2.2 bt157.1 bt157.2.1 bt157.2.2.1 bt157.2.2.2.1 bt157.2.2.2.2).bind fun t165 => (if (t165 != t148) = true then (some false) else ((laws_toResult.f k a0_0 a0_1 a0_2 a0_3 l0_4).bind fun bt166 => ((laws_eqResult.f k bt149.1 bt149.2.1 bt149.2.2.1 bt149.2.2.2.1 bt149.2.2.2.2 bt166.1 bt166.2.1 bt166.2.2.1 bt166.2.2.2.1 bt166.2.2.2.2).bind fun t173 => (if t173 = true then ((laws_toResult.f k a1_0 a1_1 a1_2 a1_3 l1_4).bind fun bt174 => ((laws_eqResult.f k bt157.1 bt157.2.1 bt157.2.2.1 bt157.2.2.2.1 bt157.2.2.2.2 bt174.1 bt174.2.1 bt174.2.2.1 bt174.2.2.2.1 bt174.2.2.2.2).bind fun t181 => (if t181 = true then (some true) else (some false)))) else (some false)))))))))) = some r := H
   have A19 := Am A190
   clear A190
   replace H := Option.bind_eq_some_iff.mp H
   obtain ⟨⟨t141, t142, t143, t144, t145⟩, A200, H⟩ := H
   replace H : ((spec_SameResult.f k t134 t135 t136 t137 t138 t141 t142 t143 t144 t145).bind fun t148 => ((laws_toResult.f k a0_0 a0_1 a0_2 a0_3 l0_4).bind fun bt149 => ((laws_toResult.f k a1_0 a1_1 a1_2 a1_3 l1_4).bind fun bt157 => ((impl_SameResult.f k bt149.1 bt149.2.1 bt149.2.2.1 bt149.2.2.2.1 bt149.2.2.2.2 bt157.1 bt157.2.1 bt157.2.2.1 bt157.2.2.2.1 bt157.2.2.2.2).bind fun t165 => (if (t165 != t148) = true then (some false) else ((laws_toResult.f k a0_0 a0_1 a0_2 a0_3 l0_4).bind fun bt166 => ((laws_eqResult.f k bt149.1 bt149.2.1 bt149.2.2.1 bt149.2.2.2.1 bt149.2.2.2.2 bt166.1 bt166.2.1 bt166.2.2.1 bt166.2.2.2.1 bt166.2.2.2.2).bind fun t173 => (if t173 = true then ((laws_toResult.f k a1_0 a1_1 a1_2 a1_3 l1_4).bind fun bt174 => ((laws_eqResult.f k bt157.1 bt157.2.1 bt157.2.2.1 bt157.2.2.2.1 bt157.2.2.2.2 bt174.1 bt174.2.1 bt174.2.2.1 bt174.2.2.2.1 bt174.2.2.2.2).bind fun t181 => (if t181 = true then (some true) else (some false)))) else (some false))))))))) = some r := H
   have A20 := Am A200
   clear A200
   replace H := Option.bind_eq_some_iff.mp H
   obtain ⟨t148, A210, H⟩ := H
   replace H : ((laws_toResult.f k a0_0 a0_1 a0_2 a0_3 l0_4).bind fun bt149 => ((laws_toResult.f k a1_0 a1_1 a1_2 a1_3 l1_4).bind fun bt157 => ((impl_SameResult.f k bt149.1 bt149.2.1 bt149.2.2.1 bt149.2.2.2.1 bt149.2.2.2.2 bt157.1 bt157.2.1 bt157.2.2.1 bt157.2.2.2.1 bt157.2.2.2.2).bind fun t165 => (if (t165 != t148) = true then (some false) else ((laws_toResult.f k a0_0 a0_1 a0_2 a0_3 l0_4).bind fun bt166 => ((laws_eqResult.f k bt149.1 bt149.2.1 bt149.2.2.1 bt149.2.2.2.1 bt149.2.2.2.2 bt166.1 bt166.2.1 bt166.2.2.1 bt166.2.2.2.1 bt166.2.2.2.2).bind fun t173 => (if t173 = true then ((laws_toResult.f k a1_0 a1_1 a1_2 a1_3 l1_4).bind fun bt174 => ((laws_eqResult.f k bt157.1 bt157.2.1 bt157.2.2.1 bt157.2.2.2.1 bt157.2.2.2.2 bt174.1 bt174.2.1 bt174.2.2.1 bt174.2.2.2.1 bt174.2.2.2.2).bind fun t181 => (if t181 = true then (some true) else (some false)))) else (some false)))))))) = some r := H
   have A21 := Am A210
   clear A210
   replace H := Option.bind_eq_some_iff.mp H
   obtain ⟨⟨t149, t150, t151, t152, t153⟩, A220, H⟩ := H
   replace H : ((laws_toResult.f k a1_0 a1_1 a1_2 a1_3 l1_4).bind fun bt157 => ((impl_SameResult.f k t149 t150 t151 t152 t153 bt157.1 bt157.2.1 bt157.2.2.1 bt157.2.2.2.1 bt157.2.2.2.2).bind fun t165 => (if (t165 != t148) = true then (some false) else ((laws_toResult.f k a0_0 a0_1 a0_2 a0_3 l0_4).bind fun bt166 => ((laws_eqResult.f k t149 t150 t151 t152 t153 bt166.1 bt166.2.1 bt166.2.2.1 bt166.2.2.2.1 bt166.2.2.2.2).bind fun t173 => (if t173 = true then ((laws_toResult.f k a1_0 a1_1 a1_2 a1_3 l1_4).bind fun bt174 => ((laws_eqResult.f k bt157.1 bt157.2.1 bt157.2.2.1 bt157.2.2.2.1 bt157.2.2.2.2 bt174.1 bt174.2.1 bt174.2.2.1 bt174.2.2.2.1 bt174.2.2.2.2).bind fun t181 => (if t181 = true then (some true) else (some false)))) else (some false))))))) = some r := H
   have A22 := Am A220
   clear A220
   replace H := Option.bind_eq_some_iff.mp H
   obtain ⟨⟨t157, t158, t159, t160, t161⟩, A230, H⟩ := H
   replace H : ((impl_SameResult.f k t149 t150 t151 t152 t153 t157 t158 t159 t160 t161).bind fun t165 => (if (t165 != t148) = true then (some false) else ((laws_toResult.f k a0_0 a0_1 a0_2 a0_3 l0_4).bind fun bt166 => ((laws_eqResult.f k t149 t150 t151 t152 t153 bt166.1 bt166.2.1 bt166.2.2.1 bt166.2.2.2.1 bt166.2.2.2.2).bind fun t173 => (if t173 = true then ((laws_toResult.f k a1_0 a1_1 a1_2 a1_3 l1_4).bind fun bt174 => ((laws_eqResult.f k t157 t158 t159 t160 t161 bt174.1 bt174.2.1 bt174.2.2.1 bt174.2.2.2.1 bt174.2.2.2.2).bind fun t181 => (if t181 = true then (some true) else (some false)))) else (some false)))))) = some r := H
   have A23 := Am A230
   clear A230
   replace H := Option.bind_eq_some_iff.mp H
   obtain ⟨t165, A240, H⟩ := H
   replace H : (if (t165 != t148) = true then (some false) else ((laws_toResult.f k a0_0 a0_1 a0_2 a0_3 l0_4).bind fun bt166 => ((laws_eqResult.f k t149 t150 t151 t152 t153 bt166.1 bt166.2.1 bt166.2.2.1 bt166.2.2.2.1 bt166.2.2.2.2).bind fun t173 => (if t173 = true then ((laws_toResult.f k a1_0 a1_1 a1_2 a1_3 l1_4).bind fun bt174 => ((laws_eqResult.f k t157 t158 t159 t160 t161 bt174.1 bt174.2.1 bt174.2.2.1 bt174.2.2.2.1 bt174.2.2.2.2).bind fun t181 => (if t181 = true then (some true) else (some false)))) else (some false))))) = some r := H
   have A24 := Am A240
   clear A240
   by_cases c25 : (t165 != t148) = true
   ·rw [if_pos c25] at H
    have c25b0 : (t165 != t148) = true := c25
    (try (have c25b1 : decide (t165 = t148) = false := by simpa using c25))
    (try (have c25b2 : (t165 == t148) = false := by simpa using c25))
    (try (have c25b3 : ¬ (t165 = t148) := by simpa using c25))
    clear c25
    obtain rfl := Option.some.inj H
    go_enter Try.func6, Try.ntmps6
    try go_wp2_with (first | ((with_reducible refine gate_dst (N := 2) rfl ?_); refine box_event ?hg (N := 2) ?hd (cs := #[.int .i64 a0_0, .string a0_1, .int .i64 a0_2, .bool a0_3, .slice A0_4 l0_4.length c0_4]) (t := 46) ?hr ?_; (case hd => rfl); (case hg => rfl); (case hr => first | (go_simp; done) | (go_simp; rfl)); intro gb130 hg w26 hbox hb; have n0_ := Am (bt (by repeat (first | (with_reducible first | exact HB.out | apply ba | apply bn | apply be) | exact HB.out)) hb); have n1_ := Am (hbox); have n2_ := Am ((by rw [hg]; exact (bz (by repeat (first | (with_reducible first | exact HB.out | apply ba | apply bn | apply be) | exact HB.out))) : w.heap.size ≤ gb130)); have n3_ := Am ((by rw [hg]; exact (bz (by repeat (first | (with_reducible first | exact HB.out | apply ba | apply bn | apply be) | exact HB.out))) : w.heap.size ≤ gb130)); clear HB; have HB := n0_; have BK130 := n1_; have GW130 := n2_; have GE130 := n3_; clear n0_ n1_ n2_ n3_; clear hb hbox hg) | ((with_reducible refine gate_dst (N := 3) rfl ?_); refine box_event ?hg (N := 3) ?hd (cs := #[.int .i64 a1_0, .string a1_1, .int .i64 a1_2, .bool a1_3, .slice A1_4 l1_4.length c1_4]) (t := 46) ?hr ?_; (case hd => rfl); (case hg => rfl); (case hr => first | (go_simp; done) | (go_simp; rfl)); intro gb131 hg w27 hbox hb; have n0_ := Am (kb (g := gb130) (o := ob0 a0_0 a0_1 a0_2 a0_3 A0_4 l0_4.length c0_4) (by (with_reducible repeat (first | refine kn ?_ _ | refine ke ?_ | refine ka ?_ _)); exact BK130.out) hb); have n1_ := Am (bt (by repeat (first | (with_reducible first | exact HB.out | apply ba | apply bn | apply be | refine bs ?_ GE130.out) | exact HB.out)) hb); have n2_ := Am (hbox); have n3_ := Am ((by rw [hg]; exact (bz (by repeat (first | (with_reducible first | exact HB.out | apply ba | apply bn | apply be | refine bs ?_ GE130.out) | exact HB.out))) : w.heap.size ≤ gb131)); have n4_ := Am ((by rw [hg]; exact (bz (by repeat (first | (with_reducible first | exact HB.out | apply ba | apply bn | apply be | refine bs ?_ GE130.out) | exact HB.out))) : w.heap.size ≤ gb131)); have n5_ := Am ((by rw [hg]; exact Nat.ne_of_lt (kl (g := gb130) (o := ob0 a0_0 a0_1 a0_2 a0_3 A0_4 l0_4.length c0_4) (by (with_reducible repeat (first | refine kn ?_ _ | refine ke ?_ | refine ka ?_ _)); exact BK130.out)) : gb130 ≠ gb131)); have n6_ := Am ((by rw [hg]; exact Nat.ne_of_gt (kl (g := gb130) (o := ob0 a0_0 a0_1 a0_2 a0_3 A0_4 l0_4.length c0_4) (by (with_reducible repeat (first | refine kn ?_ _ | refine ke ?_ | refine ka ?_ _)); exact BK130.out)) : gb131 ≠ gb130)); clear BK130; clear HB; have BK130 := n0_; have HB := n1_; have BK131 := n2_; have GW131 := n3_; have GE131 := n4_; have NB130_131 := n5_; have NB131_130 := n6_; clear n0_ n1_ n2_ n3_ n4_ n5_ n6_; clear hb hbox hg; have hnb28 := NB130_131.out; have hnc28 := NB131_130.out; have hcz29_0 : w27.cell? ⟨gb130, 0, none⟩ = some (.int .i64 a0_0) := (kc BK130.out 0).trans rfl; have hcz29_1 : w27.cell? ⟨gb130, 1, none⟩ = some (.string a0_1) := (kc BK130.out 1).trans rfl; have hcz29_2 : w27.cell? ⟨gb130, 2, none⟩ = some (.int .i64 a0_2) := (kc BK130.out 2).trans rfl; have hcz29_3 : w27.cell? ⟨gb130, 3, none⟩ = some (.bool a0_3) := (kc BK130.out 3).trans rfl; have hcz29_4 : w27.cell? ⟨gb130, 4, none⟩ = some (.slice A0_4 l0_4.length c0_4) := (kc BK130.out 4).trans rfl; have hfz29_0 := kf BK130.out 0; have hfz29_1 := kf BK130.out 1; have hfz29_2 := kf BK130.out 2; have hfz29_3 := kf BK130.out 3; have hfz29_4 := kf BK130.out 4) | ((with_reducible refine gate_callee (f := 28) rfl ?_); refine goesL_ (some 12) rfl rfl Try.func28 (by kernel_rfl) rfl #[.agg #[.int .i64 a0_0, .string a0_1, .int .i64 a0_2, .bool a0_3, .slice A0_4 l0_4.length c0_4], .int .i64 1048576] rfl (by (try simp only [List.map_toArray, List.map_cons, List.map_nil]); first | done | rfl | (simp only [List.length_drop, List.length_take]; rfl)) ?_; (with_reducible refine (laws_szResult.calls k a0_0 a0_1 a0_2 a0_3 _ _ l0_4 1048576 t132 _ ?side1 ?side2 A3.out).mono ?_); (case side1 => repeat (first | exact (cb HR0_4.out HB.out) | (with_reducible refine ca ?_ _) | (with_reducible refine cn ?_ _) | (with_reducible refine ce ?_))); (case side2 => exact HC0_4.out); rintro e w30 ⟨rfl, hb⟩; refine ⟨_, rfl, ?_⟩; have n0_ := Am (kb (g := gb130) (o := ob0 a0_0 a0_1 a0_2 a0_3 A0_4 l0_4.length c0_4) (by (with_reducible repeat (first | refine kn ?_ _ | refine ke ?_ | refine ka ?_ _)); exact BK130.out) hb); have n1_ := Am (kb (g := gb131) (o := ob1 a1_0 a1_1 a1_2 a1_3 A1_4 l1_4.length c1_4) (by (with_reducible repeat (first | refine kn ?_ _ | refine ke ?_ | refine ka ?_ _)); exact BK131.out) hb); have n2_ := Am (bt (by repeat (first | (with_reducible first | exact HB.out | apply ba | apply bn | apply be | refine bs ?_ GE130.out | refine bs ?_ GE131.out) | exact HB.out)) hb); clear BK130; clear BK131; clear HB; have BK130 := n0_; have BK131 := n1_; have HB := n2_; clear n0_ n1_ n2_; (try clear hb); (try clear hb2); (try clear hk); (try clear hi); have hcz31_0 : w30.cell? ⟨gb131, 0, none⟩ = some (.int .i64 a1_0) := (kc BK131.out 0).trans rfl; have hcz31_1 : w30.cell? ⟨gb131, 1, none⟩ = some (.string a1_1) := (kc BK131.out 1).trans rfl; have hcz31_2 : w30.cell? ⟨gb131, 2, none⟩ = some (.int .i64 a1_2) := (kc BK131.out 2).trans rfl; have hcz31_3 : w30.cell? ⟨gb131, 3, none⟩ = some (.bool a1_3) := (kc BK131.out 3).trans rfl; have hcz31_4 : w30.cell? ⟨gb131, 4, none⟩ = some (.slice A1_4 l1_4.length c1_4) := (kc BK131.out 4).trans rfl; have hfz31_0 := kf BK131.out 0; have hfz31_1 := kf BK131.out 1; have hfz31_2 := kf BK131.out 2; have hfz31_3 := kf BK131.out 3; have hfz31_4 := kf BK131.out 4) | ((with_reducible refine gate_callee (f := 28) rfl ?_); refine goesL_ (some 17) rfl rfl Try.func28 (by kernel_rfl) rfl #[.agg #[.int .i64 a1_0, .string a1_1, .int .i64 a1_2, .bool a1_3, .slice A1_4 l1_4.length c1_4], .int .i64 t132] rfl (by (try simp only [List.map_toArray, List.map_cons, List.map_nil]); first | done | rfl | (simp only [List.length_drop, List.length_take]; rfl)) ?_; (with_reducible refine (laws_szResult.calls k a1_0 a1_1 a1_2 a1_3 _ _ l1_4 t132 t133 _ ?side1 ?side2 A10.out).mono ?_); (case side1 => repeat (first | exact (cb HR1_4.out HB.out) | (with_reducible refine ca ?_ _) | (with_reducible refine cn ?_ _) | (with_reducible refine ce ?_))); (case side2 => exact HC1_4.out); rintro e w32 ⟨rfl, hb⟩; refine ⟨_, rfl, ?_⟩; have n0_ := Am (kb (g := gb130) (o := ob0 a0_0 a0_1 a0_2 a0_3 A0_4 l0_4.length c0_4) (by (with_reducible repeat (first | refine kn ?_ _ | refine ke ?_ | refine ka ?_ _)); exact BK130.out) hb); have n1_ := Am (kb (g := gb131) (o := ob1 a1_0 a1_1 a1_2 a1_3 A1_4 l1_4.length c1_4) (by (with_reducible repeat (first | refine kn ?_ _ | refine ke ?_ | refine ka ?_ _)); exact BK131.out) hb); have n2_ := Am (bt (by repeat (first | (with_reducible first | exact HB.out | apply ba | apply bn | apply be | refine bs ?_ GE130.out | refine bs ?_ GE131.out) | exact HB.out)) hb); clear BK130; clear BK131; clear HB; have BK130 := n0_; have BK131 := n1_; have HB := n2_; clear n0_ n1_ n2_; (try clear hb); (try clear hb2); (try clear hk); (try clear hi)))
    have n0_ := Am (ke BK130.out)
    have n1_ := Am (ke BK131.out)
    have n2_ := Am (be HB.out)
    clear BK130
    clear BK131
    clear HB
    have BK130 := n0_
    have BK131 := n1_
    have HB := n2_
    clear n0_ n1_ n2_
    refine start_ (n := 6) (S := fun w' => w'.cell? ⟨gb130, 0, none⟩ = some (.int .i64 a0_0) ∧ w'.cell? ⟨gb130, 1, none⟩ = some (.string a0_1) ∧ w'.cell? ⟨gb130, 2, none⟩ = some (.int .i64 a0_2) ∧ w'.cell? ⟨gb130, 3, none⟩ = some (.bool a0_3) ∧ w'.cell? ⟨gb130, 4, none⟩ = some (.slice A0_4 l0_4.length c0_4) ∧ w'.cell? ⟨gb131, 0, none⟩ = some (.int .i64 a1_0) ∧ w'.cell? ⟨gb131, 1, none⟩ = some (.string a1_1) ∧ w'.cell? ⟨gb131, 2, none⟩ = some (.int .i64 a1_2) ∧ w'.cell? ⟨gb131, 3, none⟩ = some (.bool a1_3) ∧ w'.cell? ⟨gb131, 4, none⟩ = some (.slice A1_4 l1_4.length c1_4)) (ds := []) #[false, false, false, false, false, false] (by kernel_rfl) rfl rfl ⟨(kc BK130.out 0).trans rfl, (kc BK130.out 1).trans rfl, (kc BK130.out 2).trans rfl, (kc BK130.out 3).trans rfl, (kc BK130.out 4).trans rfl, (kc BK131.out 0).trans rfl, (kc BK131.out 1).trans rfl, (kc BK131.out 2).trans rfl, (kc BK131.out 3).trans rfl, (kc BK131.out 4).trans rfl⟩ (fun hHeld => ?_)
    generalize w32.drew = w33 at BK130 BK131 HB hHeld ⊢
    refine take_ (i := 0) (N := some 20) (v := ?_) (a' := ?_) #[true, false, false, false, false, false] rfl rfl (by kernel_rfl) (fun _ _ _ h => h) (Or.inl ⟨by rfl, ?_⟩) hHeld ?_ ?_
    rotate_left
    ·rintro w' ⟨s0, s1, s2, s3, s4, s5, s6, s7, s8, s9⟩
     go_simp
     with_reducible rfl
    rotate_left
    ·simp only [Act.put, List.setIfInBounds_toArray, List.set_cons_zero, List.set_cons_succ, i64_w, i32_w]
     rfl
    refine take_ (i := 2) (N := some 22) (v := ?_) (a' := ?_) #[true, false, true, false, false, false] rfl rfl (by kernel_rfl) (fun _ _ _ h => h) (Or.inl ⟨by rfl, ?_⟩) hHeld ?_ ?_
    rotate_left
    ·rintro w' ⟨s0, s1, s2, s3, s4, s5, s6, s7, s8, s9⟩
     go_simp
     with_reducible rfl
    rotate_left
    ·simp only [Act.put, List.setIfInBounds_toArray, List.set_cons_zero, List.set_cons_succ, i64_w, i32_w]
     rfl
    refine one_ (i := 1) (N := some 21) #[true, true, true, false, false, false] rfl rfl (by kernel_rfl) (by decide) (fun K hK => ?_)
    refine goes_ Try.func30 (by kernel_rfl) rfl #[.agg #[.int .i64 a0_0, .string a0_1, .int .i64 a0_2, .bool a0_3, .slice A0_4 l0_4.length c0_4]] (by rfl) rfl rfl (by (try simp only [List.map_toArray, List.map_cons, List.map_nil]); first | done | rfl | (simp only [List.length_drop, List.length_take]; rfl)) ?_
    with_reducible refine (laws_toResult.calls k a0_0 a0_1 a0_2 a0_3 _ _ l0_4 t134 t135 t136 t137 t138 _ ?side1 ?side2 A19.out).mono ?_
    (case side1 => repeat (first | exact (cb HR0_4.out HB.out) | (with_reducible refine ca ?_ _) | (with_reducible refine cn ?_ _) | (with_reducible refine ce ?_)))
    (case side2 => exact HC0_4.out)
    rintro e w34 ⟨v139, rfl, ho0, hb⟩
    refine ⟨_, rfl, ?_⟩
    have n0_ := Am (Kd.R_lower ho0 (bz (by repeat (first | (with_reducible first | exact HB.out | apply ba | apply bn | apply be | refine bs ?_ GE130.out | refine bs ?_ GE131.out) | exact HB.out))))
    have n1_ := Am (kb (g := gb130) (o := ob0 a0_0 a0_1 a0_2 a0_3 A0_4 l0_4.length c0_4) (by (with_reducible repeat (first | refine kn ?_ _ | refine ke ?_ | refine ka ?_ _)); exact BK130.out) hb)
    have n2_ := Am (kb (g := gb131) (o := ob1 a1_0 a1_1 a1_2 a1_3 A1_4 l1_4.length c1_4) (by (with_reducible repeat (first | refine kn ?_ _ | refine ke ?_ | refine ka ?_ _)); exact BK131.out) hb)
    have n3_ := Am (bt (by repeat (first | (with_reducible first | exact HB.out | apply ba | apply bn | apply be | refine bs ?_ GE130.out | refine bs ?_ GE131.out) | exact HB.out)) hb)
    clear BK130
    clear BK131
    clear HB
    have HO140 := n0_
    have BK130 := n1_
    have BK131 := n2_
    have HB := n3_
    clear n0_ n1_ n2_ n3_
    (try clear hb)
    (try clear hb2)
    (try clear hk)
    (try clear hi)
    (try clear ho0)
    refine hK.out _ _ ⟨(kc BK130.out 0).trans rfl, (kc BK130.out 1).trans rfl, (kc BK130.out 2).trans rfl, (kc BK130.out 3).trans rfl, (kc BK130.out 4).trans rfl, (kc BK131.out 0).trans rfl, (kc BK131.out 1).trans rfl, (kc BK131.out 2).trans rfl, (kc BK131.out 3).trans rfl, (kc BK131.out 4).trans rfl⟩ (fun hHeld => ?_)
    clear hK K
    refine norm_ (a' := ?_) ?_ ?_
    rotate_left
    ·show Act.put _ (some 21) _ = _
     simp only [Act.put, List.setIfInBounds_toArray, List.set_cons_zero, List.set_cons_succ, i64_w, i32_w]
     rfl
    refine one_ (i := 3) (N := some 23) #[true, true, true, true, false, false] rfl rfl (by kernel_rfl) (by decide) (fun K hK => ?_)
    refine goes_ Try.func30 (by kernel_rfl) rfl #[.agg #[.int .i64 a1_0, .string a1_1, .int .i64 a1_2, .bool a1_3, .slice A1_4 l1_4.length c1_4]] (by rfl) rfl rfl (by (try simp only [List.map_toArray, List.map_cons, List.map_nil]); first | done | rfl | (simp only [List.length_drop, List.length_take]; rfl)) ?_
    with_reducible refine (laws_toResult.calls k a1_0 a1_1 a1_2 a1_3 _ _ l1_4 t141 t142 t143 t144 t145 _ ?side1 ?side2 A20.out).mono ?_
    (case side1 => repeat (first | exact (cb HR1_4.out HB.out) | (with_reducible refine ca ?_ _) | (with_reducible refine cn ?_ _) | (with_reducible refine ce ?_)))
    (case side2 => exact HC1_4.out)
    rintro e w35 ⟨v146, rfl, ho0, hb⟩
    refine ⟨_, rfl, ?_⟩
    have n0_ := Am (Kd.R_elder' (by (with_reducible repeat (first | apply ra | apply rn | apply re)); exact HO140.out) (Kd.R_base ho0) hb)
    have n1_ := Am (Kd.R_lower (Kd.R_new' ho0 (Kd.R_lt (by (with_reducible repeat (first | apply ra | apply rn | apply re)); exact HO140.out))) (bz (by repeat (first | (with_reducible first | exact HB.out | apply ba | apply bn | apply be | refine bs ?_ GE130.out | refine bs ?_ GE131.out) | exact HB.out))))
    have n2_ := Am (kb (g := gb130) (o := ob0 a0_0 a0_1 a0_2 a0_3 A0_4 l0_4.length c0_4) (by (with_reducible repeat (first | refine kn ?_ _ | refine ke ?_ | refine ka ?_ _)); exact BK130.out) hb)
    have n3_ := Am (kb (g := gb131) (o := ob1 a1_0 a1_1 a1_2 a1_3 A1_4 l1_4.length c1_4) (by (with_reducible repeat (first | refine kn ?_ _ | refine ke ?_ | refine ka ?_ _)); exact BK131.out) hb)
    have n4_ := Am (bt (by repeat (first | (with_reducible first | exact HB.out | apply ba | apply bn | apply be | refine bs ?_ GE130.out | refine bs ?_ GE131.out) | exact HB.out)) hb)
    clear HO140
    clear BK130
    clear BK131
    clear HB
    have HO140 := n0_
    have HO147 := n1_
    have BK130 := n2_
    have BK131 := n3_
    have HB := n4_
    clear n0_ n1_ n2_ n3_ n4_
    (try clear hb)
    (try clear hb2)
    (try clear hk)
    (try clear hi)
    (try clear ho0)
    obtain ⟨Ao36, co36, eo36⟩ := Kd.R_slice HO140.out
    (first | subst eo36 | (injection eo36 with f1_ f2_ f3_; have f4_ := f1_.symm; have f5_ := f3_.symm; clear f1_ f2_ f3_; subst f4_; subst f5_))
    obtain ⟨Ao37, co37, eo37⟩ := Kd.R_slice HO147.out
    (first | subst eo37 | (injection eo37 with f1_ f2_ f3_; have f4_ := f1_.symm; have f5_ := f3_.symm; clear f1_ f2_ f3_; subst f4_; subst f5_))
    refine hK.out _ _ ⟨(kc BK130.out 0).trans rfl, (kc BK130.out 1).trans rfl, (kc BK130.out 2).trans rfl, (kc BK130.out 3).trans rfl, (kc BK130.out 4).trans rfl, (kc BK131.out 0).trans rfl, (kc BK131.out 1).trans rfl, (kc BK131.out 2).trans rfl, (kc BK131.out 3).trans rfl, (kc BK131.out 4).trans rfl⟩ (fun hHeld => ?_)
    clear hK K
    refine norm_ (a' := ?_) ?_ ?_
    rotate_left
    ·show Act.put _ (some 23) _ = _
     simp only [Act.put, List.setIfInBounds_toArray, List.set_cons_zero, List.set_cons_succ, i64_w, i32_w]
     rfl
    refine one_ (i := 4) (N := some 24) #[true, true, true, true, true, false] rfl rfl (by kernel_rfl) (by decide) (fun K hK => ?_)
    refine goes_ Try.func29 (by kernel_rfl) rfl #[.agg #[.int .i64 t134, .string t135, .int .i64 t136, .bool t137, .slice Ao36 t138.length co36], .agg #[.int .i64 t141, .string t142, .int .i64 t143, .bool t144, .slice Ao37 t145.length co37]] (by rfl) rfl rfl (by (try simp only [List.map_toArray, List.map_cons, List.map_nil]); first | done | rfl | (simp only [List.length_drop, List.length_take]; rfl)) ?_
    with_reducible refine (spec_SameResult.calls k t134 t135 t136 t137 _ _ t138 t141 t142 t143 t144 _ _ t145 t148 _ ?side1 ?side2 ?side3 ?side4 A21.out).mono ?_
    (case side1 => repeat (first | exact (Kd.R_reads' HO140.out).2.2 | (with_reducible refine ca ?_ _) | (with_reducible refine cn ?_ _) | (with_reducible refine ce ?_)))
    (case side2 => exact (Kd.R_reads' HO140.out).2.1)
    (case side3 => repeat (first | exact (Kd.R_reads' HO147.out).2.2 | (with_reducible refine ca ?_ _) | (with_reducible refine cn ?_ _) | (with_reducible refine ce ?_)))
    (case side4 => exact (Kd.R_reads' HO147.out).2.1)
    rintro e w38 ⟨rfl, hb⟩
    refine ⟨_, rfl, ?_⟩
    have n0_ := Am (rb (by (with_reducible repeat (first | apply ra | apply rn | apply re)); exact HO140.out) hb)
    have n1_ := Am (rb (by (with_reducible repeat (first | apply ra | apply rn | apply re)); exact HO147.out) hb)
    have n2_ := Am (kb (g := gb130) (o := ob0 a0_0 a0_1 a0_2 a0_3 A0_4 l0_4.length c0_4) (by (with_reducible repeat (first | refine kn ?_ _ | refine ke ?_ | refine ka ?_ _)); exact BK130.out) hb)
    have n3_ := Am (kb (g := gb131) (o := ob1 a1_0 a1_1 a1_2 a1_3 A1_4 l1_4.length c1_4) (by (with_reducible repeat (first | refine kn ?_ _ | refine ke ?_ | refine ka ?_ _)); exact BK131.out) hb)
    have n4_ := Am (bt (by repeat (first | (with_reducible first | exact HB.out | apply ba | apply bn | apply be | refine bs ?_ GE130.out | refine bs ?_ GE131.out) | exact HB.out)) hb)
    clear HO140
    clear HO147
    clear BK130
    clear BK131
    clear HB
    have HO140 := n0_
    have HO147 := n1_
    have BK130 := n2_
    have BK131 := n3_
    have HB := n4_
    clear n0_ n1_ n2_ n3_ n4_
    (try clear hb)
    (try clear hb2)
    (try clear hk)
    (try clear hi)
    refine hK.out _ _ ⟨(kc BK130.out 0).trans rfl, (kc BK130.out 1).trans rfl, (kc BK130.out 2).trans rfl, (kc BK130.out 3).trans rfl, (kc BK130.out 4).trans rfl, (kc BK131.out 0).trans rfl, (kc BK131.out 1).trans rfl, (kc BK131.out 2).trans rfl, (kc BK131.out 3).trans rfl, (kc BK131.out 4).trans rfl⟩ (fun hHeld => ?_)
    clear hK K
    refine norm_ (a' := ?_) ?_ ?_
    rotate_left
    ·show Act.put _ (some 24) _ = _
     simp only [Act.put, List.setIfInBounds_toArray, List.set_cons_zero, List.set_cons_succ, i64_w, i32_w]
     rfl
    refine pure_ (i := 5) (N := some 6) (v := ?_) (a' := ?_) #[true, true, true, true, true, true] rfl rfl (by kernel_rfl) (fun _ _ _ h => h) (Or.inl ⟨by rfl, ?_⟩) ?_ ?_
    rotate_left
    ·intro w'
     go_simp
     with_reducible rfl
    rotate_left
    ·simp only [Act.put, List.setIfInBounds_toArray, List.set_cons_zero, List.set_cons_succ, i64_w, i32_w]
     rfl
    refine done_ (by kernel_rfl) ?_
    have hcz39_0 : w38.cell? ⟨gb130, 0, none⟩ = some (.int .i64 a0_0) := (kc BK130.out 0).trans rfl
    have hcz39_1 : w38.cell? ⟨gb130, 1, none⟩ = some (.string a0_1) := (kc BK130.out 1).trans rfl
    have hcz39_2 : w38.cell? ⟨gb130, 2, none⟩ = some (.int .i64 a0_2) := (kc BK130.out 2).trans rfl
    have hcz39_3 : w38.cell? ⟨gb130, 3, none⟩ = some (.bool a0_3) := (kc BK130.out 3).trans rfl
    have hcz39_4 : w38.cell? ⟨gb130, 4, none⟩ = some (.slice A0_4 l0_4.length c0_4) := (kc BK130.out 4).trans rfl
    have hfz39_0 := kf BK130.out 0
    have hfz39_1 := kf BK130.out 1
    have hfz39_2 := kf BK130.out 2
    have hfz39_3 := kf BK130.out 3
    have hfz39_4 := kf BK130.out 4
    try go_wp2_with (first | ((with_reducible refine gate_callee (f := 30) rfl ?_); refine goesL_ (some 26) rfl rfl Try.func30 (by kernel_rfl) rfl #[.agg #[.int .i64 a0_0, .string a0_1, .int .i64 a0_2, .bool a0_3, .slice A0_4 l0_4.length c0_4]] rfl (by (try simp only [List.map_toArray, List.map_cons, List.map_nil]); first | done | rfl | (simp only [List.length_drop, List.length_take]; rfl)) ?_; (with_reducible refine (laws_toResult.calls k a0_0 a0_1 a0_2 a0_3 _ _ l0_4 t149 t150 t151 t152 t153 _ ?side1 ?side2 A22.out).mono ?_); (case side1 => repeat (first | exact (cb HR0_4.out HB.out) | (with_reducible refine ca ?_ _) | (with_reducible refine cn ?_ _) | (with_reducible refine ce ?_))); (case side2 => exact HC0_4.out); rintro e w40 ⟨v154, rfl, ho0, hb⟩; refine ⟨_, rfl, ?_⟩; have n0_ := Am (Kd.R_elder' (by (with_reducible repeat (first | apply ra | apply rn | apply re)); exact HO140.out) (Kd.R_base ho0) hb); have n1_ := Am (Kd.R_elder' (by (with_reducible repeat (first | apply ra | apply rn | apply re)); exact HO147.out) (Kd.R_base ho0) hb); have n2_ := Am (Kd.R_lower (Kd.R_new' (Kd.R_new' ho0 (Kd.R_lt (by (with_reducible repeat (first | apply ra | apply rn | apply re)); exact HO140.out))) (Kd.R_lt (by (with_reducible repeat (first | apply ra | apply rn | apply re)); exact HO147.out))) (bz (by repeat (first | (with_reducible first | exact HB.out | apply ba | apply bn | apply be | refine bs ?_ GE130.out | refine bs ?_ GE131.out) | exact HB.out)))); have n3_ := Am (kb (g := gb130) (o := ob0 a0_0 a0_1 a0_2 a0_3 A0_4 l0_4.length c0_4) (by (with_reducible repeat (first | refine kn ?_ _ | refine ke ?_ | refine ka ?_ _)); exact BK130.out) hb); have n4_ := Am (kb (g := gb131) (o := ob1 a1_0 a1_1 a1_2 a1_3 A1_4 l1_4.length c1_4) (by (with_reducible repeat (first | refine kn ?_ _ | refine ke ?_ | refine ka ?_ _)); exact BK131.out) hb); have n5_ := Am (bt (by repeat (first | (with_reducible first | exact HB.out | apply ba | apply bn | apply be | refine bs ?_ GE130.out | refine bs ?_ GE131.out) | exact HB.out)) hb); clear HO140; clear HO147; clear BK130; clear BK131; clear HB; have HO140 := n0_; have HO147 := n1_; have HO155 := n2_; have BK130 := n3_; have BK131 := n4_; have HB := n5_; clear n0_ n1_ n2_ n3_ n4_ n5_; (try clear hb); (try clear hb2); (try clear hk); (try clear hi); (try clear ho0)) | ((with_reducible refine gate_dst (N := 7) rfl ?_); refine box_event ?hg (N := 7) ?hd (cs := #[.int .i64 0, .string (⟨#[]⟩ : ByteArray), .int .i64 0, .bool false, .slice none 0 0]) (t := 49) ?hr ?_; (case hd => rfl); (case hg => rfl); (case hr => first | (go_simp; done) | (go_simp; rfl)); intro gb156 hg w41 hbox hb; have n0_ := Am (rb (by (with_reducible repeat (first | apply ra | apply rn | apply re)); exact HO140.out) hb); have n1_ := Am (rb (by (with_reducible repeat (first | apply ra | apply rn | apply re)); exact HO147.out) hb); have n2_ := Am (rb (by (with_reducible repeat (first | apply ra | apply rn | apply re)); exact HO155.out) hb); have n3_ := Am (kb (g := gb130) (o := ob0 a0_0 a0_1 a0_2 a0_3 A0_4 l0_4.length c0_4) (by (with_reducible repeat (first | refine kn ?_ _ | refine ke ?_ | refine ka ?_ _)); exact BK130.out) hb); have n4_ := Am (kb (g := gb131) (o := ob1 a1_0 a1_1 a1_2 a1_3 A1_4 l1_4.length c1_4) (by (with_reducible repeat (first | refine kn ?_ _ | refine ke ?_ | refine ka ?_ _)); exact BK131.out) hb); have n5_ := Am (bt (by repeat (first | (with_reducible first | exact HB.out | apply ba | apply bn | apply be | refine bs ?_ GE130.out | refine bs ?_ GE131.out) | exact HB.out)) hb); have n6_ := Am (hbox); have n7_ := Am ((by rw [hg]; exact (bz (by repeat (first | (with_reducible first | exact HB.out | apply ba | apply bn | apply be | refine bs ?_ GE130.out | refine bs ?_ GE131.out) | exact HB.out))) : w.heap.size ≤ gb156)); have n8_ := Am ((by rw [hg]; exact (bz (by repeat (first | (with_reducible first | exact HB.out | apply ba | apply bn | apply be | refine bs ?_ GE130.out | refine bs ?_ GE131.out) | exact HB.out))) : w.heap.size ≤ gb156)); have n9_ := Am ((by rw [hg]; exact Nat.ne_of_lt (kl (g := gb130) (o := ob0 a0_0 a0_1 a0_2 a0_3 A0_4 l0_4.length c0_4) (by (with_reducible repeat (first | refine kn ?_ _ | refine ke ?_ | refine ka ?_ _)); exact BK130.out)) : gb130 ≠ gb156)); have n10_ := Am ((by rw [hg]; exact Nat.ne_of_gt (kl (g := gb130) (o := ob0 a0_0 a0_1 a0_2 a0_3 A0_4 l0_4.length c0_4) (by (with_reducible repeat (first | refine kn ?_ _ | refine ke ?_ | refine ka ?_ _)); exact BK130.out)) : gb156 ≠ gb130)); have n11_ := Am ((by rw [hg]; exact Nat.ne_of_lt (kl (g := gb131) (o := ob1 a1_0 a1_1 a1_2 a1_3 A1_4 l1_4.length c1_4) (by (with_reducible repeat (first | refine kn ?_ _ | refine ke ?_ | refine ka ?_ _)); exact BK131.out)) : gb131 ≠ gb156)); have n12_ := Am ((by rw [hg]; exact Nat.ne_of_gt (kl (g := gb131) (o := ob1 a1_0 a1_1 a1_2 a1_3 A1_4 l1_4.length c1_4) (by (with_reducible repeat (first | refine kn ?_ _ | refine ke ?_ | refine ka ?_ _)); exact BK131.out)) : gb156 ≠ gb131)); clear HO140; clear HO147; clear HO155; clear BK130; clear BK131; clear HB; have HO140 := n0_; have HO147 := n1_; have HO155 := n2_; have BK130 := n3_; have BK131 := n4_; have HB := n5_; have BK156 := n6_; have GW156 := n7_; have GE156 := n8_; have NB130_156 := n9_; have NB156_130 := n10_; have NB131_156 := n11_; have NB156_131 := n12_; clear n0_ n1_ n2_ n3_ n4_ n5_ n6_ n7_ n8_ n9_ n10_ n11_ n12_; clear hb hbox hg; have hnb42 := NB156_130.out; have hnc42 := NB130_156.out; have hnb43 := NB156_131.out; have hnc43 := NB131_156.out; have hcz44_0 : w41.cell? ⟨gb156, 0, none⟩ = some (.int .i64 0) := (kc BK156.out 0).trans rfl; have hcz44_1 : w41.cell? ⟨gb156, 1, none⟩ = some (.string (⟨#[]⟩ : ByteArray)) := (kc BK156.out 1).trans rfl; have hcz44_2 : w41.cell? ⟨gb156, 2, none⟩ = some (.int .i64 0) := (kc BK156.out 2).trans rfl; have hcz44_3 : w41.cell? ⟨gb156, 3, none⟩ = some (.bool false) := (kc BK156.out 3).trans rfl; have hcz44_4 : w41.cell? ⟨gb156, 4, none⟩ = some (.slice none 0 0) := (kc BK156.out 4).trans rfl; have hfz44_0 := kf BK156.out 0; have hfz44_1 := kf BK156.out 1; have hfz44_2 := kf BK156.out 2; have hfz44_3 := kf BK156.out 3; have hfz44_4 := kf BK156.out 4; obtain ⟨Ao45, co45, eo45⟩ := Kd.R_slice HO155.out; subst eo45; have hcz46_0 : w41.cell? ⟨gb131, 0, none⟩ = some (.int .i64 a1_0) := (kc BK131.out 0).trans rfl; have hcz46_1 : w41.cell? ⟨gb131, 1, none⟩ = some (.string a1_1) := (kc BK131.out 1).trans rfl; have hcz46_2 : w41.cell? ⟨gb131, 2, none⟩ = some (.int .i64 a1_2) := (kc BK131.out 2).trans rfl; have hcz46_3 : w41.cell? ⟨gb131, 3, none⟩ = some (.bool a1_3) := (kc BK131.out 3).trans rfl; have hcz46_4 : w41.cell? ⟨gb131, 4, none⟩ = some (.slice A1_4 l1_4.length c1_4) := (kc BK131.out 4).trans rfl; have hfz46_0 := kf BK131.out 0; have hfz46_1 := kf BK131.out 1; have hfz46_2 := kf BK131.out 2; have hfz46_3 := kf BK131.out 3; have hfz46_4 := kf BK131.out 4) | ((with_reducible refine gate_callee (f := 30) rfl ?_); refine goesL_ (some 28) rfl rfl Try.func30 (by kernel_rfl) rfl #[.agg #[.int .i64 a1_0, .string a1_1, .int .i64 a1_2, .bool a1_3, .slice A1_4 l1_4.length c1_4]] rfl (by (try simp only [List.map_toArray, List.map_cons, List.map_nil]); first | done | rfl | (simp only [List.length_drop, List.length_take]; rfl)) ?_; (with_reducible refine (laws_toResult.calls k a1_0 a1_1 a1_2 a1_3 _ _ l1_4 t157 t158 t159 t160 t161 _ ?side1 ?side2 A23.out).mono ?_); (case side1 => exact cb HR1_4.out (by repeat (first | (with_reducible first | exact HB.out | apply ba | apply bn | apply be | refine bs ?_ GE130.out | refine bs ?_ GE131.out | refine bs ?_ GE156.out) | exact HB.out))); (case side2 => exact HC1_4.out); rintro e w47 ⟨v162, rfl, ho0, hb⟩; refine ⟨_, rfl, ?_⟩; have n0_ := Am (Kd.R_elder' (by (with_reducible repeat (first | apply ra | apply rn | apply re)); exact (Kd.R_mono (Kd.R_far (p := ⟨gb156, 4, none⟩) (Kd.R_far (p := ⟨gb156, 3, none⟩) (Kd.R_far (p := ⟨gb156, 2, none⟩) (Kd.R_far (p := ⟨gb156, 1, none⟩) (Kd.R_far (p := ⟨gb156, 0, none⟩) (Kd.R_types HO140.out BK156.out (by decide)) (fun _ hk => hk.2) (.int .i64 t149)) (fun _ hk => hk.2) (.string t150)) (fun _ hk => hk.2) (.int .i64 t151)) (fun _ hk => hk.2) (.bool t152)) (fun _ hk => hk.2) (.slice Ao45 t153.length co45)) (fun _ h_ => h_.1))) (Kd.R_base ho0) hb); have n1_ := Am (Kd.R_elder' (by (with_reducible repeat (first | apply ra | apply rn | apply re)); exact (Kd.R_mono (Kd.R_far (p := ⟨gb156, 4, none⟩) (Kd.R_far (p := ⟨gb156, 3, none⟩) (Kd.R_far (p := ⟨gb156, 2, none⟩) (Kd.R_far (p := ⟨gb156, 1, none⟩) (Kd.R_far (p := ⟨gb156, 0, none⟩) (Kd.R_types HO147.out BK156.out (by decide)) (fun _ hk => hk.2) (.int .i64 t149)) (fun _ hk => hk.2) (.string t150)) (fun _ hk => hk.2) (.int .i64 t151)) (fun _ hk => hk.2) (.bool t152)) (fun _ hk => hk.2) (.slice Ao45 t153.length co45)) (fun _ h_ => h_.1))) (Kd.R_base ho0) hb); have n2_ := Am (Kd.R_elder' (by (with_reducible repeat (first | apply ra | apply rn | apply re)); exact (Kd.R_mono (Kd.R_far (p := ⟨gb156, 4, none⟩) (Kd.R_far (p := ⟨gb156, 3, none⟩) (Kd.R_far (p := ⟨gb156, 2, none⟩) (Kd.R_far (p := ⟨gb156, 1, none⟩) (Kd.R_far (p := ⟨gb156, 0, none⟩) (Kd.R_types HO155.out BK156.out (by decide)) (fun _ hk => hk.2) (.int .i64 t149)) (fun _ hk => hk.2) (.string t150)) (fun _ hk => hk.2) (.int .i64 t151)) (fun _ hk => hk.2) (.bool t152)) (fun _ hk => hk.2) (.slice Ao45 t153.length co45)) (fun _ h_ => h_.1))) (Kd.R_base ho0) hb); have n3_ := Am (Kd.R_lower (Kd.R_new' (Kd.R_new' (Kd.R_new' ho0 (Kd.R_lt (by (with_reducible repeat (first | apply ra | apply rn | apply re)); exact (Kd.R_mono (Kd.R_far (p := ⟨gb156, 4, none⟩) (Kd.R_far (p := ⟨gb156, 3, none⟩) (Kd.R_far (p := ⟨gb156, 2, none⟩) (Kd.R_far (p := ⟨gb156, 1, none⟩) (Kd.R_far (p := ⟨gb156, 0, none⟩) (Kd.R_types HO140.out BK156.out (by decide)) (fun _ hk => hk.2) (.int .i64 t149)) (fun _ hk => hk.2) (.string t150)) (fun _ hk => hk.2) (.int .i64 t151)) (fun _ hk => hk.2) (.bool t152)) (fun _ hk => hk.2) (.slice Ao45 t153.length co45)) (fun _ h_ => h_.1))))) (Kd.R_lt (by (with_reducible repeat (first | apply ra | apply rn | apply re)); exact (Kd.R_mono (Kd.R_far (p := ⟨gb156, 4, none⟩) (Kd.R_far (p := ⟨gb156, 3, none⟩) (Kd.R_far (p := ⟨gb156, 2, none⟩) (Kd.R_far (p := ⟨gb156, 1, none⟩) (Kd.R_far (p := ⟨gb156, 0, none⟩) (Kd.R_types HO147.out BK156.out (by decide)) (fun _ hk => hk.2) (.int .i64 t149)) (fun _ hk => hk.2) (.string t150)) (fun _ hk => hk.2) (.int .i64 t151)) (fun _ hk => hk.2) (.bool t152)) (fun _ hk => hk.2) (.slice Ao45 t153.length co45)) (fun _ h_ => h_.1))))) (Kd.R_lt (by (with_reducible repeat (first | apply ra | apply rn | apply re)); exact (Kd.R_mono (Kd.R_far (p := ⟨gb156, 4, none⟩) (Kd.R_far (p := ⟨gb156, 3, none⟩) (Kd.R_far (p := ⟨gb156, 2, none⟩) (Kd.R_far (p := ⟨gb156, 1, none⟩) (Kd.R_far (p := ⟨gb156, 0, none⟩) (Kd.R_types HO155.out BK156.out (by decide)) (fun _ hk => hk.2) (.int .i64 t149)) (fun _ hk => hk.2) (.string t150)) (fun _ hk => hk.2) (.int .i64 t151)) (fun _ hk => hk.2) (.bool t152)) (fun _ hk => hk.2) (.slice Ao45 t153.length co45)) (fun _ h_ => h_.1))))) (bz (by repeat (first | (with_reducible first | exact HB.out | apply ba | apply bn | apply be | refine bs ?_ GE130.out | refine bs ?_ GE131.out | refine bs ?_ GE156.out) | exact HB.out)))); have n4_ := Am (kb (g := gb130) (o := ob0 a0_0 a0_1 a0_2 a0_3 A0_4 l0_4.length c0_4) (by (with_reducible repeat (first | refine kn ?_ _ | refine ke ?_ | refine ka ?_ _)); refine blk_far ?_ NB130_156.out _; (with_reducible repeat (first | refine kn ?_ _ | refine ke ?_ | refine ka ?_ _)); refine blk_far ?_ NB130_156.out _; (with_reducible repeat (first | refine kn ?_ _ | refine ke ?_ | refine ka ?_ _)); refine blk_far ?_ NB130_156.out _; (with_reducible repeat (first | refine kn ?_ _ | refine ke ?_ | refine ka ?_ _)); refine blk_far ?_ NB130_156.out _; (with_reducible repeat (first | refine kn ?_ _ | refine ke ?_ | refine ka ?_ _)); refine blk_far ?_ NB130_156.out _; (with_reducible repeat (first | refine kn ?_ _ | refine ke ?_ | refine ka ?_ _)); exact BK130.out) hb); have n5_ := Am (kb (g := gb131) (o := ob1 a1_0 a1_1 a1_2 a1_3 A1_4 l1_4.length c1_4) (by (with_reducible repeat (first | refine kn ?_ _ | refine ke ?_ | refine ka ?_ _)); refine blk_far ?_ NB131_156.out _; (with_reducible repeat (first | refine kn ?_ _ | refine ke ?_ | refine ka ?_ _)); refine blk_far ?_ NB131_156.out _; (with_reducible repeat (first | refine kn ?_ _ | refine ke ?_ | refine ka ?_ _)); refine blk_far ?_ NB131_156.out _; (with_reducible repeat (first | refine kn ?_ _ | refine ke ?_ | refine ka ?_ _)); refine blk_far ?_ NB131_156.out _; (with_reducible repeat (first | refine kn ?_ _ | refine ke ?_ | refine ka ?_ _)); refine blk_far ?_ NB131_156.out _; (with_reducible repeat (first | refine kn ?_ _ | refine ke ?_ | refine ka ?_ _)); exact BK131.out) hb); have n6_ := Am (kb (g := gb156) (o := ob5 t149 t150 t151 t152 Ao45 t153.length co45) (by (with_reducible repeat (first | refine kn ?_ _ | refine ke ?_ | refine ka ?_ _)); refine kp (cs := #[.int .i64 t149, .string t150, .int .i64 t151, .bool t152, .slice none 0 0]) ?_ 4 _ rfl; (with_reducible repeat (first | refine kn ?_ _ | refine ke ?_ | refine ka ?_ _)); refine kp (cs := #[.int .i64 t149, .string t150, .int .i64 t151, .bool false, .slice none 0 0]) ?_ 3 _ rfl; (with_reducible repeat (first | refine kn ?_ _ | refine ke ?_ | refine ka ?_ _)); refine kp (cs := #[.int .i64 t149, .string t150, .int .i64 0, .bool false, .slice none 0 0]) ?_ 2 _ rfl; (with_reducible repeat (first | refine kn ?_ _ | refine ke ?_ | refine ka ?_ _)); refine kp (cs := #[.int .i64 t149, .string (⟨#[]⟩ : ByteArray), .int .i64 0, .bool false, .slice none 0 0]) ?_ 1 _ rfl; (with_reducible repeat (first | refine kn ?_ _ | refine ke ?_ | refine ka ?_ _)); refine kp (cs := #[.int .i64 0, .string (⟨#[]⟩ : ByteArray), .int .i64 0, .bool false, .slice none 0 0]) ?_ 0 _ rfl; (with_reducible repeat (first | refine kn ?_ _ | refine ke ?_ | refine ka ?_ _)); exact BK156.out) hb); have n7_ := Am (bt (by repeat (first | (with_reducible first | exact HB.out | apply ba | apply bn | apply be | refine bs ?_ GE130.out | refine bs ?_ GE131.out | refine bs ?_ GE156.out) | exact HB.out)) hb); clear HO140; clear HO147; clear HO155; clear BK130; clear BK131; clear BK156; clear HB; have HO140 := n0_; have HO147 := n1_; have HO155 := n2_; have HO163 := n3_; have BK130 := n4_; have BK131 := n5_; have BK156 := n6_; have HB := n7_; clear n0_ n1_ n2_ n3_ n4_ n5_ n6_ n7_; (try clear hb); (try clear hb2); (try clear hk); (try clear hi); (try clear ho0)) | ((with_reducible refine gate_dst (N := 8) rfl ?_); refine box_event ?hg (N := 8) ?hd (cs := #[.int .i64 0, .string (⟨#[]⟩ : ByteArray), .int .i64 0, .bool false, .slice none 0 0]) (t := 49) ?hr ?_; (case hd => rfl); (case hg => rfl); (case hr => first | (go_simp; done) | (go_simp; rfl)); intro gb164 hg w48 hbox hb; have n0_ := Am (rb (by (with_reducible repeat (first | apply ra | apply rn | apply re)); exact HO140.out) hb); have n1_ := Am (rb (by (with_reducible repeat (first | apply ra | apply rn | apply re)); exact HO147.out) hb); have n2_ := Am (rb (by (with_reducible repeat (first | apply ra | apply rn | apply re)); exact HO155.out) hb); have n3_ := Am (rb (by (with_reducible repeat (first | apply ra | apply rn | apply re)); exact HO163.out) hb); have n4_ := Am (kb (g := gb130) (o := ob0 a0_0 a0_1 a0_2 a0_3 A0_4 l0_4.length c0_4) (by (with_reducible repeat (first | refine kn ?_ _ | refine ke ?_ | refine ka ?_ _)); exact BK130.out) hb); have n5_ := Am (kb (g := gb131) (o := ob1 a1_0 a1_1 a1_2 a1_3 A1_4 l1_4.length c1_4) (by (with_reducible repeat (first | refine kn ?_ _ | refine ke ?_ | refine ka ?_ _)); exact BK131.out) hb); have n6_ := Am (kb (g := gb156) (o := ob5 t149 t150 t151 t152 Ao45 t153.length co45) (by (with_reducible repeat (first | refine kn ?_ _ | refine ke ?_ | refine ka ?_ _)); exact BK156.out) hb); have n7_ := Am (bt (by repeat (first | (with_reducible first | exact HB.out | apply ba | apply bn | apply be | refine bs ?_ GE130.out | refine bs ?_ GE131.out | refine bs ?_ GE156.out) | exact HB.out)) hb); have n8_ := Am (hbox); have n9_ := Am ((by rw [hg]; exact (bz (by repeat (first | (with_reducible first | exact HB.out | apply ba | apply bn | apply be | refine bs ?_ GE130.out | refine bs ?_ GE131.out | refine bs ?_ GE156.out) | exact HB.out))) : w.heap.size ≤ gb164)); have n10_ := Am ((by rw [hg]; exact (bz (by repeat (first | (with_reducible first | exact HB.out | apply ba | apply bn | apply be | refine bs ?_ GE130.out | refine bs ?_ GE131.out | refine bs ?_ GE156.out) | exact HB.out))) : w.heap.size ≤ gb164)); have n11_ := Am ((by rw [hg]; exact Nat.ne_of_lt (kl (g := gb130) (o := ob0 a0_0 a0_1 a0_2 a0_3 A0_4 l0_4.length c0_4) (by (with_reducible repeat (first | refine kn ?_ _ | refine ke ?_ | refine ka ?_ _)); exact BK130.out)) : gb130 ≠ gb164)); have n12_ := Am ((by rw [hg]; exact Nat.ne_of_gt (kl (g := gb130) (o := ob0 a0_0 a0_1 a0_2 a0_3 A0_4 l0_4.length c0_4) (by (with_reducible repeat (first | refine kn ?_ _ | refine ke ?_ | refine ka ?_ _)); exact BK130.out)) : gb164 ≠ gb130)); have n13_ := Am ((by rw [hg]; exact Nat.ne_of_lt (kl (g := gb131) (o := ob1 a1_0 a1_1 a1_2 a1_3 A1_4 l1_4.length c1_4) (by (with_reducible repeat (first | refine kn ?_ _ | refine ke ?_ | refine ka ?_ _)); exact BK131.out)) : gb131 ≠ gb164)); have n14_ := Am ((by rw [hg]; exact Nat.ne_of_gt (kl (g := gb131) (o := ob1 a1_0 a1_1 a1_2 a1_3 A1_4 l1_4.length c1_4) (by (with_reducible repeat (first | refine kn ?_ _ | refine ke ?_ | refine ka ?_ _)); exact BK131.out)) : gb164 ≠ gb131)); have n15_ := Am ((by rw [hg]; exact Nat.ne_of_lt (kl (g := gb156) (o := ob5 t149 t150 t151 t152 Ao45 t153.length co45) (by (with_reducible repeat (first | refine kn ?_ _ | refine ke ?_ | refine ka ?_ _)); exact BK156.out)) : gb156 ≠ gb164)); have n16_ := Am ((by rw [hg]; exact Nat.ne_of_gt (kl (g := gb156) (o := ob5 t149 t150 t151 t152 Ao45 t153.length co45) (by (with_reducible repeat (first | refine kn ?_ _ | refine ke ?_ | refine ka ?_ _)); exact BK156.out)) : gb164 ≠ gb156)); clear HO140; clear HO147; clear HO155; clear HO163; clear BK130; clear BK131; clear BK156; clear HB; have HO140 := n0_; have HO147 := n1_; have HO155 := n2_; have HO163 := n3_; have BK130 := n4_; have BK131 := n5_; have BK156 := n6_; have HB := n7_; have BK164 := n8_; have GW164 := n9_; have GE164 := n10_; have NB130_164 := n11_; have NB164_130 := n12_; have NB131_164 := n13_; have NB164_131 := n14_; have NB156_164 := n15_; have NB164_156 := n16_; clear n0_ n1_ n2_ n3_ n4_ n5_ n6_ n7_ n8_ n9_ n10_ n11_ n12_ n13_ n14_ n15_ n16_; clear hb hbox hg; have hnb49 := NB164_130.out; have hnc49 := NB130_164.out; have hnb50 := NB164_131.out; have hnc50 := NB131_164.out; have hnb51 := NB164_156.out; have hnc51 := NB156_164.out; have hcz52_0 : w48.cell? ⟨gb164, 0, none⟩ = some (.int .i64 0) := (kc BK164.out 0).trans rfl; have hcz52_1 : w48.cell? ⟨gb164, 1, none⟩ = some (.string (⟨#[]⟩ : ByteArray)) := (kc BK164.out 1).trans rfl; have hcz52_2 : w48.cell? ⟨gb164, 2, none⟩ = some (.int .i64 0) := (kc BK164.out 2).trans rfl; have hcz52_3 : w48.cell? ⟨gb164, 3, none⟩ = some (.bool false) := (kc BK164.out 3).trans rfl; have hcz52_4 : w48.cell? ⟨gb164, 4, none⟩ = some (.slice none 0 0) := (kc BK164.out 4).trans rfl; have hfz52_0 := kf BK164.out 0; have hfz52_1 := kf BK164.out 1; have hfz52_2 := kf BK164.out 2; have hfz52_3 := kf BK164.out 3; have hfz52_4 := kf BK164.out 4; obtain ⟨Ao53, co53, eo53⟩ := Kd.R_slice HO163.out; subst eo53; have hcz54_0 : w48.cell? ⟨gb156, 0, none⟩ = some (.int .i64 t149) := (kc BK156.out 0).trans rfl; have hcz54_1 : w48.cell? ⟨gb156, 1, none⟩ = some (.string t150) := (kc BK156.out 1).trans rfl; have hcz54_2 : w48.cell? ⟨gb156, 2, none⟩ = some (.int .i64 t151) := (kc BK156.out 2).trans rfl; have hcz54_3 : w48.cell? ⟨gb156, 3, none⟩ = some (.bool t152) := (kc BK156.out 3).trans rfl; have hcz54_4 : w48.cell? ⟨gb156, 4, none⟩ = some (.slice Ao45 t153.length co45) := (kc BK156.out 4).trans rfl; have hfz54_0 := kf BK156.out 0; have hfz54_1 := kf BK156.out 1; have hfz54_2 := kf BK156.out 2; have hfz54_3 := kf BK156.out 3; have hfz54_4 := kf BK156.out 4) | ((with_reducible refine gate_callee (f := 31) rfl ?_); refine goesL_ (some 31) rfl rfl Try.func31 (by kernel_rfl) rfl #[.agg #[.int .i64 t149, .string t150, .int .i64 t151, .bool t152, .slice Ao45 t153.length co45], .agg #[.int .i64 t157, .string t158, .int .i64 t159, .bool t160, .slice Ao53 t161.length co53]] rfl (by (try simp only [List.map_toArray, List.map_cons, List.map_nil]); first | done | rfl | (simp only [List.length_drop, List.length_take]; rfl)) ?_; (with_reducible refine (impl_SameResult.calls k t149 t150 t151 t152 _ _ t153 t157 t158 t159 t160 _ _ t161 t165 _ ?side1 ?side2 ?side3 ?side4 A24.out).mono ?_); (case side1 => refine (Kd.R_reads' (e := 9) (base := w.heap.size) (ok := fun k_ => (((True ∧ some k_ ≠ (.slice Ao36 t138.length co36 : Value).ownBlock) ∧ some k_ ≠ (.slice Ao37 t145.length co37 : Value).ownBlock) ∧ some k_ ≠ (.slice Ao53 t161.length co53 : Value).ownBlock)) (n := t153.length) (c := co45) ?_).2.2; exact (by (with_reducible repeat (first | apply ra | apply rn | apply re)); exact (Kd.R_mono (Kd.R_far (p := ⟨gb164, 4, none⟩) (Kd.R_far (p := ⟨gb164, 3, none⟩) (Kd.R_far (p := ⟨gb164, 2, none⟩) (Kd.R_far (p := ⟨gb164, 1, none⟩) (Kd.R_far (p := ⟨gb164, 0, none⟩) (Kd.R_types HO155.out BK164.out (by decide)) (fun _ hk => hk.2) (.int .i64 t157)) (fun _ hk => hk.2) (.string t158)) (fun _ hk => hk.2) (.int .i64 t159)) (fun _ hk => hk.2) (.bool t160)) (fun _ hk => hk.2) (.slice Ao53 t161.length co53)) (fun _ h_ => h_.1)))); (case side2 => exact (Kd.R_reads' HO155.out).2.1); (case side3 => refine (Kd.R_reads' (e := 9) (base := w.heap.size) (ok := fun k_ => (((True ∧ some k_ ≠ (.slice Ao36 t138.length co36 : Value).ownBlock) ∧ some k_ ≠ (.slice Ao37 t145.length co37 : Value).ownBlock) ∧ some k_ ≠ (.slice Ao45 t153.length co45 : Value).ownBlock)) (n := t161.length) (c := co53) ?_).2.2; exact (by (with_reducible repeat (first | apply ra | apply rn | apply re)); exact (Kd.R_mono (Kd.R_far (p := ⟨gb164, 4, none⟩) (Kd.R_far (p := ⟨gb164, 3, none⟩) (Kd.R_far (p := ⟨gb164, 2, none⟩) (Kd.R_far (p := ⟨gb164, 1, none⟩) (Kd.R_far (p := ⟨gb164, 0, none⟩) (Kd.R_types HO163.out BK164.out (by decide)) (fun _ hk => hk.2) (.int .i64 t157)) (fun _ hk => hk.2) (.string t158)) (fun _ hk => hk.2) (.int .i64 t159)) (fun _ hk => hk.2) (.bool t160)) (fun _ hk => hk.2) (.slice Ao53 t161.length co53)) (fun _ h_ => h_.1)))); (case side4 => exact (Kd.R_reads' HO163.out).2.1); rintro e w55 ⟨rfl, hb⟩; refine ⟨_, rfl, ?_⟩; have n0_ := Am (rb (by (with_reducible repeat (first | apply ra | apply rn | apply re)); exact (Kd.R_mono (Kd.R_far (p := ⟨gb164, 4, none⟩) (Kd.R_far (p := ⟨gb164, 3, none⟩) (Kd.R_far (p := ⟨gb164, 2, none⟩) (Kd.R_far (p := ⟨gb164, 1, none⟩) (Kd.R_far (p := ⟨gb164, 0, none⟩) (Kd.R_types HO140.out BK164.out (by decide)) (fun _ hk => hk.2) (.int .i64 t157)) (fun _ hk => hk.2) (.string t158)) (fun _ hk => hk.2) (.int .i64 t159)) (fun _ hk => hk.2) (.bool t160)) (fun _ hk => hk.2) (.slice Ao53 t161.length co53)) (fun _ h_ => h_.1))) hb); have n1_ := Am (rb (by (with_reducible repeat (first | apply ra | apply rn | apply re)); exact (Kd.R_mono (Kd.R_far (p := ⟨gb164, 4, none⟩) (Kd.R_far (p := ⟨gb164, 3, none⟩) (Kd.R_far (p := ⟨gb164, 2, none⟩) (Kd.R_far (p := ⟨gb164, 1, none⟩) (Kd.R_far (p := ⟨gb164, 0, none⟩) (Kd.R_types HO147.out BK164.out (by decide)) (fun _ hk => hk.2) (.int .i64 t157)) (fun _ hk => hk.2) (.string t158)) (fun _ hk => hk.2) (.int .i64 t159)) (fun _ hk => hk.2) (.bool t160)) (fun _ hk => hk.2) (.slice Ao53 t161.length co53)) (fun _ h_ => h_.1))) hb); have n2_ := Am (rb (by (with_reducible repeat (first | apply ra | apply rn | apply re)); exact (Kd.R_mono (Kd.R_far (p := ⟨gb164, 4, none⟩) (Kd.R_far (p := ⟨gb164, 3, none⟩) (Kd.R_far (p := ⟨gb164, 2, none⟩) (Kd.R_far (p := ⟨gb164, 1, none⟩) (Kd.R_far (p := ⟨gb164, 0, none⟩) (Kd.R_types HO155.out BK164.out (by decide)) (fun _ hk => hk.2) (.int .i64 t157)) (fun _ hk => hk.2) (.string t158)) (fun _ hk => hk.2) (.int .i64 t159)) (fun _ hk => hk.2) (.bool t160)) (fun _ hk => hk.2) (.slice Ao53 t161.length co53)) (fun _ h_ => h_.1))) hb); have n3_ := Am (rb (by (with_reducible repeat (first | apply ra | apply rn | apply re)); exact (Kd.R_mono (Kd.R_far (p := ⟨gb164, 4, none⟩) (Kd.R_far (p := ⟨gb164, 3, none⟩) (Kd.R_far (p := ⟨gb164, 2, none⟩) (Kd.R_far (p := ⟨gb164, 1, none⟩) (Kd.R_far (p := ⟨gb164, 0, none⟩) (Kd.R_types HO163.out BK164.out (by decide)) (fun _ hk => hk.2) (.int .i64 t157)) (fun _ hk => hk.2) (.string t158)) (fun _ hk => hk.2) (.int .i64 t159)) (fun _ hk => hk.2) (.bool t160)) (fun _ hk => hk.2) (.slice Ao53 t161.length co53)) (fun _ h_ => h_.1))) hb); have n4_ := Am (kb (g := gb130) (o := ob0 a0_0 a0_1 a0_2 a0_3 A0_4 l0_4.length c0_4) (by (with_reducible repeat (first | refine kn ?_ _ | refine ke ?_ | refine ka ?_ _)); refine blk_far ?_ NB130_164.out _; (with_reducible repeat (first | refine kn ?_ _ | refine ke ?_ | refine ka ?_ _)); refine blk_far ?_ NB130_164.out _; (with_reducible repeat (first | refine kn ?_ _ | refine ke ?_ | refine ka ?_ _)); refine blk_far ?_ NB130_164.out _; (with_reducible repeat (first | refine kn ?_ _ | refine ke ?_ | refine ka ?_ _)); refine blk_far ?_ NB130_164.out _; (with_reducible repeat (first | refine kn ?_ _ | refine ke ?_ | refine ka ?_ _)); refine blk_far ?_ NB130_164.out _; (with_reducible repeat (first | refine kn ?_ _ | refine ke ?_ | refine ka ?_ _)); exact BK130.out) hb); have n5_ := Am (kb (g := gb131) (o := ob1 a1_0 a1_1 a1_2 a1_3 A1_4 l1_4.length c1_4) (by (with_reducible repeat (first | refine kn ?_ _ | refine ke ?_ | refine ka ?_ _)); refine blk_far ?_ NB131_164.out _; (with_reducible repeat (first | refine kn ?_ _ | refine ke ?_ | refine ka ?_ _)); refine blk_far ?_ NB131_164.out _; (with_reducible repeat (first | refine kn ?_ _ | refine ke ?_ | refine ka ?_ _)); refine blk_far ?_ NB131_164.out _; (with_reducible repeat (first | refine kn ?_ _ | refine ke ?_ | refine ka ?_ _)); refine blk_far ?_ NB131_164.out _; (with_reducible repeat (first | refine kn ?_ _ | refine ke ?_ | refine ka ?_ _)); refine blk_far ?_ NB131_164.out _; (with_reducible repeat (first | refine kn ?_ _ | refine ke ?_ | refine ka ?_ _)); exact BK131.out) hb); have n6_ := Am (kb (g := gb156) (o := ob5 t149 t150 t151 t152 Ao45 t153.length co45) (by (with_reducible repeat (first | refine kn ?_ _ | refine ke ?_ | refine ka ?_ _)); refine blk_far ?_ NB156_164.out _; (with_reducible repeat (first | refine kn ?_ _ | refine ke ?_ | refine ka ?_ _)); refine blk_far ?_ NB156_164.out _; (with_reducible repeat (first | refine kn ?_ _ | refine ke ?_ | refine ka ?_ _)); refine blk_far ?_ NB156_164.out _; (with_reducible repeat (first | refine kn ?_ _ | refine ke ?_ | refine ka ?_ _)); refine blk_far ?_ NB156_164.out _; (with_reducible repeat (first | refine kn ?_ _ | refine ke ?_ | refine ka ?_ _)); refine blk_far ?_ NB156_164.out _; (with_reducible repeat (first | refine kn ?_ _ | refine ke ?_ | refine ka ?_ _)); exact BK156.out) hb); have n7_ := Am (kb (g := gb164) (o := .cells #[.int .i64 t157, .string t158, .int .i64 t159, .bool t160, .slice Ao53 t161.length co53] 49 (0, 0)) (by (with_reducible repeat (first | refine kn ?_ _ | refine ke ?_ | refine ka ?_ _)); refine kp (cs := #[.int .i64 t157, .string t158, .int .i64 t159, .bool t160, .slice none 0 0]) ?_ 4 _ rfl; (with_reducible repeat (first | refine kn ?_ _ | refine ke ?_ | refine ka ?_ _)); refine kp (cs := #[.int .i64 t157, .string t158, .int .i64 t159, .bool false, .slice none 0 0]) ?_ 3 _ rfl; (with_reducible repeat (first | refine kn ?_ _ | refine ke ?_ | refine ka ?_ _)); refine kp (cs := #[.int .i64 t157, .string t158, .int .i64 0, .bool false, .slice none 0 0]) ?_ 2 _ rfl; (with_reducible repeat (first | refine kn ?_ _ | refine ke ?_ | refine ka ?_ _)); refine kp (cs := #[.int .i64 t157, .string (⟨#[]⟩ : ByteArray), .int .i64 0, .bool false, .slice none 0 0]) ?_ 1 _ rfl; (with_reducible repeat (first | refine kn ?_ _ | refine ke ?_ | refine ka ?_ _)); refine kp (cs := #[.int .i64 0, .string (⟨#[]⟩ : ByteArray), .int .i64 0, .bool false, .slice none 0 0]) ?_ 0 _ rfl; (with_reducible repeat (first | refine kn ?_ _ | refine ke ?_ | refine ka ?_ _)); exact BK164.out) hb); have n8_ := Am (bt (by repeat (first | (with_reducible first | exact HB.out | apply ba | apply bn | apply be | refine bs ?_ GE130.out | refine bs ?_ GE131.out | refine bs ?_ GE156.out | refine bs ?_ GE164.out) | exact HB.out)) hb); clear HO140; clear HO147; clear HO155; clear HO163; clear BK130; clear BK131; clear BK156; clear BK164; clear HB; have HO140 := n0_; have HO147 := n1_; have HO155 := n2_; have HO163 := n3_; have BK130 := n4_; have BK131 := n5_; have BK156 := n6_; have BK164 := n7_; have HB := n8_; clear n0_ n1_ n2_ n3_ n4_ n5_ n6_ n7_ n8_; (try clear hb); (try clear hb2); (try clear hk); (try clear hi)))
    go_ret
    exact ⟨by first | rfl | (simp [errW_none, errW_some] <;> rfl) | (simp [*, errW_none, errW_some] <;> rfl), by repeat (first | (with_reducible first | exact HB.out | apply ba | apply bn | apply be | refine bs ?_ GE130.out | refine bs ?_ GE131.out | refine bs ?_ GE156.out | refine bs ?_ GE164.out) | exact HB.out)⟩
   ·rw [if_neg c25] at H
    have c25b0 : (t165 != t148) = false := by simpa using c25
    (try (have c25b1 : decide (t165 = t148) = true := by simpa using c25))
    (try (have c25b2 : (t165 == t148) = true := by simpa using c25))
    clear c25
    replace H := Option.bind_eq_some_iff.mp H
    obtain ⟨⟨t166, t167, t168, t169, t170⟩, A560, H⟩ := H
    replace H : ((laws_eqResult.f k t149 t150 t151 t152 t153 t166 t167 t168 t169 t170).bind fun t173 => (if t173 = true then ((laws_toResult.f k a1_0 a1_1 a1_2 a1_3 l1_4).bind fun bt174 => ((laws_eqResult.f k t157 t158 t159 t160 t161 bt174.1 bt174.2.1 bt174.2.2.1 bt174.2.2.2.1 bt174.2.2.2.2).bind fun t181 => (if t181 = true then (some true) else (some false)))) else (some false))) = some r := H
    have A56 := Am A560
    clear A560
    replace H := Option.bind_eq_some_iff.mp H
    obtain ⟨t173, A570, H⟩ := H
    replace H : (if t173 = true then ((laws_toResult.f k a1_0 a1_1 a1_2 a1_3 l1_4).bind fun bt174 => ((laws_eqResult.f k t157 t158 t159 t160 t161 bt174.1 bt174.2.1 bt174.2.2.1 bt174.2.2.2.1 bt174.2.2.2.2).bind fun t181 => (if t181 = true then (some true) else (some false)))) else (some false)) = some r := H
    have A57 := Am A570
    clear A570
    by_cases c58 : t173 = true
    ·subst c58
     have H1 : ((laws_toResult.f k a1_0 a1_1 a1_2 a1_3 l1_4).bind fun bt174 => ((laws_eqResult.f k t157 t158 t159 t160 t161 bt174.1 bt174.2.1 bt174.2.2.1 bt174.2.2.2.1 bt174.2.2.2.2).bind fun t181 => (if t181 = true then (some true) else (some false)))) = some r := by rw [if_pos rfl] at H; exact H
     clear H
     have H := H1
     clear H1
     replace H := Option.bind_eq_some_iff.mp H
     obtain ⟨⟨t174, t175, t176, t177, t178⟩, A590, H⟩ := H
     replace H : ((laws_eqResult.f k t157 t158 t159 t160 t161 t174 t175 t176 t177 t178).bind fun t181 => (if t181 = true then (some true) else (some false))) = some r := H
     have A59 := Am A590
     clear A590
     replace H := Option.bind_eq_some_iff.mp H
     obtain ⟨t181, A600, H⟩ := H
     replace H : (if t181 = true then (some true) else (some false)) = some r := H
     have A60 := Am A600
     clear A600
     by_cases c61 : t181 = true
     ·subst c61
      have H1 : (some true) = some r := by rw [if_pos rfl] at H; exact H
      clear H
      have H := H1
      clear H1
      obtain rfl := Option.some.inj H
      go_enter Try.func6, Try.ntmps6
      try go_wp2_with (first | ((with_reducible refine gate_dst (N := 2) rfl ?_); refine box_event ?hg (N := 2) ?hd (cs := #[.int .i64 a0_0, .string a0_1, .int .i64 a0_2, .bool a0_3, .slice A0_4 l0_4.length c0_4]) (t := 46) ?hr ?_; (case hd => rfl); (case hg => rfl); (case hr => first | (go_simp; done) | (go_simp; rfl)); intro gb130 hg w62 hbox hb; have n0_ := Am (bt (by repeat (first | (with_reducible first | exact HB.out | apply ba | apply bn | apply be) | exact HB.out)) hb); have n1_ := Am (hbox); have n2_ := Am ((by rw [hg]; exact (bz (by repeat (first | (with_reducible first | exact HB.out | apply ba | apply bn | apply be) | exact HB.out))) : w.heap.size ≤ gb130)); have n3_ := Am ((by rw [hg]; exact (bz (by repeat (first | (with_reducible first | exact HB.out | apply ba | apply bn | apply be) | exact HB.out))) : w.heap.size ≤ gb130)); clear HB; have HB := n0_; have BK130 := n1_; have GW130 := n2_; have GE130 := n3_; clear n0_ n1_ n2_ n3_; clear hb hbox hg) | ((with_reducible refine gate_dst (N := 3) rfl ?_); refine box_event ?hg (N := 3) ?hd (cs := #[.int .i64 a1_0, .string a1_1, .int .i64 a1_2, .bool a1_3, .slice A1_4 l1_4.length c1_4]) (t := 46) ?hr ?_; (case hd => rfl); (case hg => rfl); (case hr => first | (go_simp; done) | (go_simp; rfl)); intro gb131 hg w63 hbox hb; have n0_ := Am (kb (g := gb130) (o := ob0 a0_0 a0_1 a0_2 a0_3 A0_4 l0_4.length c0_4) (by (with_reducible repeat (first | refine kn ?_ _ | refine ke ?_ | refine ka ?_ _)); exact BK130.out) hb); have n1_ := Am (bt (by repeat (first | (with_reducible first | exact HB.out | apply ba | apply bn | apply be | refine bs ?_ GE130.out) | exact HB.out)) hb); have n2_ := Am (hbox); have n3_ := Am ((by rw [hg]; exact (bz (by repeat (first | (with_reducible first | exact HB.out | apply ba | apply bn | apply be | refine bs ?_ GE130.out) | exact HB.out))) : w.heap.size ≤ gb131)); have n4_ := Am ((by rw [hg]; exact (bz (by repeat (first | (with_reducible first | exact HB.out | apply ba | apply bn | apply be | refine bs ?_ GE130.out) | exact HB.out))) : w.heap.size ≤ gb131)); have n5_ := Am ((by rw [hg]; exact Nat.ne_of_lt (kl (g := gb130) (o := ob0 a0_0 a0_1 a0_2 a0_3 A0_4 l0_4.length c0_4) (by (with_reducible repeat (first | refine kn ?_ _ | refine ke ?_ | refine ka ?_ _)); exact BK130.out)) : gb130 ≠ gb131)); have n6_ := Am ((by rw [hg]; exact Nat.ne_of_gt (kl (g := gb130) (o := ob0 a0_0 a0_1 a0_2 a0_3 A0_4 l0_4.length c0_4) (by (with_reducible repeat (first | refine kn ?_ _ | refine ke ?_ | refine ka ?_ _)); exact BK130.out)) : gb131 ≠ gb130)); clear BK130; clear HB; have BK130 := n0_; have HB := n1_; have BK131 := n2_; have GW131 := n3_; have GE131 := n4_; have NB130_131 := n5_; have NB131_130 := n6_; clear n0_ n1_ n2_ n3_ n4_ n5_ n6_; clear hb hbox hg; have hnb64 := NB130_131.out; have hnc64 := NB131_130.out; have hcz65_0 : w63.cell? ⟨gb130, 0, none⟩ = some (.int .i64 a0_0) := (kc BK130.out 0).trans rfl; have hcz65_1 : w63.cell? ⟨gb130, 1, none⟩ = some (.string a0_1) := (kc BK130.out 1).trans rfl; have hcz65_2 : w63.cell? ⟨gb130, 2, none⟩ = some (.int .i64 a0_2) := (kc BK130.out 2).trans rfl; have hcz65_3 : w63.cell? ⟨gb130, 3, none⟩ = some (.bool a0_3) := (kc BK130.out 3).trans rfl; have hcz65_4 : w63.cell? ⟨gb130, 4, none⟩ = some (.slice A0_4 l0_4.length c0_4) := (kc BK130.out 4).trans rfl; have hfz65_0 := kf BK130.out 0; have hfz65_1 := kf BK130.out 1; have hfz65_2 := kf BK130.out 2; have hfz65_3 := kf BK130.out 3; have hfz65_4 := kf BK130.out 4) | ((with_reducible refine gate_callee (f := 28) rfl ?_); refine goesL_ (some 12) rfl rfl Try.func28 (by kernel_rfl) rfl #[.agg #[.int .i64 a0_0, .string a0_1, .int .i64 a0_2, .bool a0_3, .slice A0_4 l0_4.length c0_4], .int .i64 1048576] rfl (by (try simp only [List.map_toArray, List.map_cons, List.map_nil]); first | done | rfl | (simp only [List.length_drop, List.length_take]; rfl)) ?_; (with_reducible refine (laws_szResult.calls k a0_0 a0_1 a0_2 a0_3 _ _ l0_4 1048576 t132 _ ?side1 ?side2 A3.out).mono ?_); (case side1 => repeat (first | exact (cb HR0_4.out HB.out) | (with_reducible refine ca ?_ _) | (with_reducible refine cn ?_ _) | (with_reducible refine ce ?_))); (case side2 => exact HC0_4.out); rintro e w66 ⟨rfl, hb⟩; refine ⟨_, rfl, ?_⟩; have n0_ := Am (kb (g := gb130) (o := ob0 a0_0 a0_1 a0_2 a0_3 A0_4 l0_4.length c0_4) (by (with_reducible repeat (first | refine kn ?_ _ | refine ke ?_ | refine ka ?_ _)); exact BK130.out) hb); have n1_ := Am (kb (g := gb131) (o := ob1 a1_0 a1_1 a1_2 a1_3 A1_4 l1_4.length c1_4) (by (with_reducible repeat (first | refine kn ?_ _ | refine ke ?_ | refine ka ?_ _)); exact BK131.out) hb); have n2_ := Am (bt (by repeat (first | (with_reducible first | exact HB.out | apply ba | apply bn | apply be | refine bs ?_ GE130.out | refine bs ?_ GE131.out) | exact HB.out)) hb); clear BK130; clear BK131; clear HB; have BK130 := n0_; have BK131 := n1_; have HB := n2_; clear n0_ n1_ n2_; (try clear hb); (try clear hb2); (try clear hk); (try clear hi); have hcz67_0 : w66.cell? ⟨gb131, 0, none⟩ = some (.int .i64 a1_0) := (kc BK131.out 0).trans rfl; have hcz67_1 : w66.cell? ⟨gb131, 1, none⟩ = some (.string a1_1) := (kc BK131.out 1).trans rfl; have hcz67_2 : w66.cell? ⟨gb131, 2, none⟩ = some (.int .i64 a1_2) := (kc BK131.out 2).trans rfl; have hcz67_3 : w66.cell? ⟨gb131, 3, none⟩ = some (.bool a1_3) := (kc BK131.out 3).trans rfl; have hcz67_4 : w66.cell? ⟨gb131, 4, none⟩ = some (.slice A1_4 l1_4.length c1_4) := (kc BK131.out 4).trans rfl; have hfz67_0 := kf BK131.out 0; have hfz67_1 := kf BK131.out 1; have hfz67_2 := kf BK131.out 2; have hfz67_3 := kf BK131.out 3; have hfz67_4 := kf BK131.out 4) | ((with_reducible refine gate_callee (f := 28) rfl ?_); refine goesL_ (some 17) rfl rfl Try.func28 (by kernel_rfl) rfl #[.agg #[.int .i64 a1_0, .string a1_1, .int .i64 a1_2, .bool a1_3, .slice A1_4 l1_4.length c1_4], .int .i64 t132] rfl (by (try simp only [List.map_toArray, List.map_cons, List.map_nil]); first | done | rfl | (simp only [List.length_drop, List.length_take]; rfl)) ?_; (with_reducible refine (laws_szResult.calls k a1_0 a1_1 a1_2 a1_3 _ _ l1_4 t132 t133 _ ?side1 ?side2 A10.out).mono ?_); (case side1 => repeat (first | exact (cb HR1_4.out HB.out) | (with_reducible refine ca ?_ _) | (with_reducible refine cn ?_ _) | (with_reducible refine ce ?_))); (case side2 => exact HC1_4.out); rintro e w68 ⟨rfl, hb⟩; refine ⟨_, rfl, ?_⟩; have n0_ := Am (kb (g := gb130) (o := ob0 a0_0 a0_1 a0_2 a0_3 A0_4 l0_4.length c0_4) (by (with_reducible repeat (first | refine kn ?_ _ | refine ke ?_ | refine ka ?_ _)); exact BK130.out) hb); have n1_ := Am (kb (g := gb131) (o := ob1 a1_0 a1_1 a1_2 a1_3 A1_4 l1_4.length c1_4) (by (with_reducible repeat (first | refine kn ?_ _ | refine ke ?_ | refine ka ?_ _)); exact BK131.out) hb); have n2_ := Am (bt (by repeat (first | (with_reducible first | exact HB.out | apply ba | apply bn | apply be | refine bs ?_ GE130.out | refine bs ?_ GE131.out) | exact HB.out)) hb); clear BK130; clear BK131; clear HB; have BK130 := n0_; have BK131 := n1_; have HB := n2_; clear n0_ n1_ n2_; (try clear hb); (try clear hb2); (try clear hk); (try clear hi)))
      have n0_ := Am (ke BK130.out)
      have n1_ := Am (ke BK131.out)
      have n2_ := Am (be HB.out)
      clear BK130
      clear BK131
      clear HB
      have BK130 := n0_
      have BK131 := n1_
      have HB := n2_
      clear n0_ n1_ n2_
      refine start_ (n := 6) (S := fun w' => w'.cell? ⟨gb130, 0, none⟩ = some (.int .i64 a0_0) ∧ w'.cell? ⟨gb130, 1, none⟩ = some (.string a0_1) ∧ w'.cell? ⟨gb130, 2, none⟩ = some (.int .i64 a0_2) ∧ w'.cell? ⟨gb130, 3, none⟩ = some (.bool a0_3) ∧ w'.cell? ⟨gb130, 4, none⟩ = some (.slice A0_4 l0_4.length c0_4) ∧ w'.cell? ⟨gb131, 0, none⟩ = some (.int .i64 a1_0) ∧ w'.cell? ⟨gb131, 1, none⟩ = some (.string a1_1) ∧ w'.cell? ⟨gb131, 2, none⟩ = some (.int .i64 a1_2) ∧ w'.cell? ⟨gb131, 3, none⟩ = some (.bool a1_3) ∧ w'.cell? ⟨gb131, 4, none⟩ = some (.slice A1_4 l1_4.length c1_4)) (ds := []) #[false, false, false, false, false, false] (by kernel_rfl) rfl rfl ⟨(kc BK130.out 0).trans rfl, (kc BK130.out 1).trans rfl, (kc BK130.out 2).trans rfl, (kc BK130.out 3).trans rfl, (kc BK130.out 4).trans rfl, (kc BK131.out 0).trans rfl, (kc BK131.out 1).trans rfl, (kc BK131.out 2).trans rfl, (kc BK131.out 3).trans rfl, (kc BK131.out 4).trans rfl⟩ (fun hHeld => ?_)
      generalize w68.drew = w69 at BK130 BK131 HB hHeld ⊢
      refine take_ (i := 0) (N := some 20) (v := ?_) (a' := ?_) #[true, false, false, false, false, false] rfl rfl (by kernel_rfl) (fun _ _ _ h => h) (Or.inl ⟨by rfl, ?_⟩) hHeld ?_ ?_
      rotate_left
      ·rintro w' ⟨s0, s1, s2, s3, s4, s5, s6, s7, s8, s9⟩
       go_simp
       with_reducible rfl
      rotate_left
      ·simp only [Act.put, List.setIfInBounds_toArray, List.set_cons_zero, List.set_cons_succ, i64_w, i32_w]
       rfl
      refine take_ (i := 2) (N := some 22) (v := ?_) (a' := ?_) #[true, false, true, false, false, false] rfl rfl (by kernel_rfl) (fun _ _ _ h => h) (Or.inl ⟨by rfl, ?_⟩) hHeld ?_ ?_
      rotate_left
      ·rintro w' ⟨s0, s1, s2, s3, s4, s5, s6, s7, s8, s9⟩
       go_simp
       with_reducible rfl
      rotate_left
      ·simp only [Act.put, List.setIfInBounds_toArray, List.set_cons_zero, List.set_cons_succ, i64_w, i32_w]
       rfl
      refine one_ (i := 1) (N := some 21) #[true, true, true, false, false, false] rfl rfl (by kernel_rfl) (by decide) (fun K hK => ?_)
      refine goes_ Try.func30 (by kernel_rfl) rfl #[.agg #[.int .i64 a0_0, .string a0_1, .int .i64 a0_2, .bool a0_3, .slice A0_4 l0_4.length c0_4]] (by rfl) rfl rfl (by (try simp only [List.map_toArray, List.map_cons, List.map_nil]); first | done | rfl | (simp only [List.length_drop, List.length_take]; rfl)) ?_
      with_reducible refine (laws_toResult.calls k a0_0 a0_1 a0_2 a0_3 _ _ l0_4 t134 t135 t136 t137 t138 _ ?side1 ?side2 A19.out).mono ?_
      (case side1 => repeat (first | exact (cb HR0_4.out HB.out) | (with_reducible refine ca ?_ _) | (with_reducible refine cn ?_ _) | (with_reducible refine ce ?_)))
      (case side2 => exact HC0_4.out)
      rintro e w70 ⟨v139, rfl, ho0, hb⟩
      refine ⟨_, rfl, ?_⟩
      have n0_ := Am (Kd.R_lower ho0 (bz (by repeat (first | (with_reducible first | exact HB.out | apply ba | apply bn | apply be | refine bs ?_ GE130.out | refine bs ?_ GE131.out) | exact HB.out))))
      have n1_ := Am (kb (g := gb130) (o := ob0 a0_0 a0_1 a0_2 a0_3 A0_4 l0_4.length c0_4) (by (with_reducible repeat (first | refine kn ?_ _ | refine ke ?_ | refine ka ?_ _)); exact BK130.out) hb)
      have n2_ := Am (kb (g := gb131) (o := ob1 a1_0 a1_1 a1_2 a1_3 A1_4 l1_4.length c1_4) (by (with_reducible repeat (first | refine kn ?_ _ | refine ke ?_ | refine ka ?_ _)); exact BK131.out) hb)
      have n3_ := Am (bt (by repeat (first | (with_reducible first | exact HB.out | apply ba | apply bn | apply be | refine bs ?_ GE130.out | refine bs ?_ GE131.out) | exact HB.out)) hb)
      clear BK130
      clear BK131
      clear HB
      have HO140 := n0_
      have BK130 := n1_
      have BK131 := n2_
      have HB := n3_
      clear n0_ n1_ n2_ n3_
      (try clear hb)
      (try clear hb2)
      (try clear hk)
      (try clear hi)
      (try clear ho0)
      refine hK.out _ _ ⟨(kc BK130.out 0).trans rfl, (kc BK130.out 1).trans rfl, (kc BK130.out 2).trans rfl, (kc BK130.out 3).trans rfl, (kc BK130.out 4).trans rfl, (kc BK131.out 0).trans rfl, (kc BK131.out 1).trans rfl, (kc BK131.out 2).trans rfl, (kc BK131.out 3).trans rfl, (kc BK131.out 4).trans rfl⟩ (fun hHeld => ?_)
      clear hK K
      refine norm_ (a' := ?_) ?_ ?_
      rotate_left
      ·show Act.put _ (some 21) _ = _
       simp only [Act.put, List.setIfInBounds_toArray, List.set_cons_zero, List.set_cons_succ, i64_w, i32_w]
       rfl
      refine one_ (i := 3) (N := some 23) #[true, true, true, true, false, false] rfl rfl (by kernel_rfl) (by decide) (fun K hK => ?_)
      refine goes_ Try.func30 (by kernel_rfl) rfl #[.agg #[.int .i64 a1_0, .string a1_1, .int .i64 a1_2, .bool a1_3, .slice A1_4 l1_4.length c1_4]] (by rfl) rfl rfl (by (try simp only [List.map_toArray, List.map_cons, List.map_nil]); first | done | rfl | (simp only [List.length_drop, List.length_take]; rfl)) ?_
      with_reducible refine (laws_toResult.calls k a1_0 a1_1 a1_2 a1_3 _ _ l1_4 t141 t142 t143 t144 t145 _ ?side1 ?side2 A20.out).mono ?_
      (case side1 => repeat (first | exact (cb HR1_4.out HB.out) | (with_reducible refine ca ?_ _) | (with_reducible refine cn ?_ _) | (with_reducible refine ce ?_)))
      (case side2 => exact HC1_4.out)
      rintro e w71 ⟨v146, rfl, ho0, hb⟩
      refine ⟨_, rfl, ?_⟩
      have n0_ := Am (Kd.R_elder' (by (with_reducible repeat (first | apply ra | apply rn | apply re)); exact HO140.out) (Kd.R_base ho0) hb)
      have n1_ := Am (Kd.R_lower (Kd.R_new' ho0 (Kd.R_lt (by (with_reducible repeat (first | apply ra | apply rn | apply re)); exact HO140.out))) (bz (by repeat (first | (with_reducible first | exact HB.out | apply ba | apply bn | apply be | refine bs ?_ GE130.out | refine bs ?_ GE131.out) | exact HB.out))))
      have n2_ := Am (kb (g := gb130) (o := ob0 a0_0 a0_1 a0_2 a0_3 A0_4 l0_4.length c0_4) (by (with_reducible repeat (first | refine kn ?_ _ | refine ke ?_ | refine ka ?_ _)); exact BK130.out) hb)
      have n3_ := Am (kb (g := gb131) (o := ob1 a1_0 a1_1 a1_2 a1_3 A1_4 l1_4.length c1_4) (by (with_reducible repeat (first | refine kn ?_ _ | refine ke ?_ | refine ka ?_ _)); exact BK131.out) hb)
      have n4_ := Am (bt (by repeat (first | (with_reducible first | exact HB.out | apply ba | apply bn | apply be | refine bs ?_ GE130.out | refine bs ?_ GE131.out) | exact HB.out)) hb)
      clear HO140
      clear BK130
      clear BK131
      clear HB
      have HO140 := n0_
      have HO147 := n1_
      have BK130 := n2_
      have BK131 := n3_
      have HB := n4_
      clear n0_ n1_ n2_ n3_ n4_
      (try clear hb)
      (try clear hb2)
      (try clear hk)
      (try clear hi)
      (try clear ho0)
      obtain ⟨Ao72, co72, eo72⟩ := Kd.R_slice HO140.out
      (first | subst eo72 | (injection eo72 with f1_ f2_ f3_; have f4_ := f1_.symm; have f5_ := f3_.symm; clear f1_ f2_ f3_; subst f4_; subst f5_))
      obtain ⟨Ao73, co73, eo73⟩ := Kd.R_slice HO147.out
      (first | subst eo73 | (injection eo73 with f1_ f2_ f3_; have f4_ := f1_.symm; have f5_ := f3_.symm; clear f1_ f2_ f3_; subst f4_; subst f5_))
      refine hK.out _ _ ⟨(kc BK130.out 0).trans rfl, (kc BK130.out 1).trans rfl, (kc BK130.out 2).trans rfl, (kc BK130.out 3).trans rfl, (kc BK130.out 4).trans rfl, (kc BK131.out 0).trans rfl, (kc BK131.out 1).trans rfl, (kc BK131.out 2).trans rfl, (kc BK131.out 3).trans rfl, (kc BK131.out 4).trans rfl⟩ (fun hHeld => ?_)
      clear hK K
      refine norm_ (a' := ?_) ?_ ?_
      rotate_left
      ·show Act.put _ (some 23) _ = _
       simp only [Act.put, List.setIfInBounds_toArray, List.set_cons_zero, List.set_cons_succ, i64_w, i32_w]
       rfl
      refine one_ (i := 4) (N := some 24) #[true, true, true, true, true, false] rfl rfl (by kernel_rfl) (by decide) (fun K hK => ?_)
      refine goes_ Try.func29 (by kernel_rfl) rfl #[.agg #[.int .i64 t134, .string t135, .int .i64 t136, .bool t137, .slice Ao72 t138.length co72], .agg #[.int .i64 t141, .string t142, .int .i64 t143, .bool t144, .slice Ao73 t145.length co73]] (by rfl) rfl rfl (by (try simp only [List.map_toArray, List.map_cons, List.map_nil]); first | done | rfl | (simp only [List.length_drop, List.length_take]; rfl)) ?_
      with_reducible refine (spec_SameResult.calls k t134 t135 t136 t137 _ _ t138 t141 t142 t143 t144 _ _ t145 t148 _ ?side1 ?side2 ?side3 ?side4 A21.out).mono ?_
      (case side1 => repeat (first | exact (Kd.R_reads' HO140.out).2.2 | (with_reducible refine ca ?_ _) | (with_reducible refine cn ?_ _) | (with_reducible refine ce ?_)))
      (case side2 => exact (Kd.R_reads' HO140.out).2.1)
      (case side3 => repeat (first | exact (Kd.R_reads' HO147.out).2.2 | (with_reducible refine ca ?_ _) | (with_reducible refine cn ?_ _) | (with_reducible refine ce ?_)))
      (case side4 => exact (Kd.R_reads' HO147.out).2.1)
      rintro e w74 ⟨rfl, hb⟩
      refine ⟨_, rfl, ?_⟩
      have n0_ := Am (rb (by (with_reducible repeat (first | apply ra | apply rn | apply re)); exact HO140.out) hb)
      have n1_ := Am (rb (by (with_reducible repeat (first | apply ra | apply rn | apply re)); exact HO147.out) hb)
      have n2_ := Am (kb (g := gb130) (o := ob0 a0_0 a0_1 a0_2 a0_3 A0_4 l0_4.length c0_4) (by (with_reducible repeat (first | refine kn ?_ _ | refine ke ?_ | refine ka ?_ _)); exact BK130.out) hb)
      have n3_ := Am (kb (g := gb131) (o := ob1 a1_0 a1_1 a1_2 a1_3 A1_4 l1_4.length c1_4) (by (with_reducible repeat (first | refine kn ?_ _ | refine ke ?_ | refine ka ?_ _)); exact BK131.out) hb)
      have n4_ := Am (bt (by repeat (first | (with_reducible first | exact HB.out | apply ba | apply bn | apply be | refine bs ?_ GE130.out | refine bs ?_ GE131.out) | exact HB.out)) hb)
      clear HO140
      clear HO147
      clear BK130
      clear BK131
      clear HB
      have HO140 := n0_
      have HO147 := n1_
      have BK130 := n2_
      have BK131 := n3_
      have HB := n4_
      clear n0_ n1_ n2_ n3_ n4_
      (try clear hb)
      (try clear hb2)
      (try clear hk)
      (try clear hi)
      refine hK.out _ _ ⟨(kc BK130.out 0).trans rfl, (kc BK130.out 1).trans rfl, (kc BK130.out 2).trans rfl, (kc BK130.out 3).trans rfl, (kc BK130.out 4).trans rfl, (kc BK131.out 0).trans rfl, (kc BK131.out 1).trans rfl, (kc BK131.out 2).trans rfl, (kc BK131.out 3).trans rfl, (kc BK131.out 4).trans rfl⟩ (fun hHeld => ?_)
      clear hK K
      refine norm_ (a' := ?_) ?_ ?_
      rotate_left
      ·show Act.put _ (some 24) _ = _
       simp only [Act.put, List.setIfInBounds_toArray, List.set_cons_zero, List.set_cons_succ, i64_w, i32_w]
       rfl
      refine pure_ (i := 5) (N := some 6) (v := ?_) (a' := ?_) #[true, true, true, true, true, true] rfl rfl (by kernel_rfl) (fun _ _ _ h => h) (Or.inl ⟨by rfl, ?_⟩) ?_ ?_
      rotate_left
      ·intro w'
       go_simp
       with_reducible rfl
      rotate_left
      ·simp only [Act.put, List.setIfInBounds_toArray, List.set_cons_zero, List.set_cons_succ, i64_w, i32_w]
       rfl
      refine done_ (by kernel_rfl) ?_
      have hcz75_0 : w74.cell? ⟨gb130, 0, none⟩ = some (.int .i64 a0_0) := (kc BK130.out 0).trans rfl
      have hcz75_1 : w74.cell? ⟨gb130, 1, none⟩ = some (.string a0_1) := (kc BK130.out 1).trans rfl
      have hcz75_2 : w74.cell? ⟨gb130, 2, none⟩ = some (.int .i64 a0_2) := (kc BK130.out 2).trans rfl
      have hcz75_3 : w74.cell? ⟨gb130, 3, none⟩ = some (.bool a0_3) := (kc BK130.out 3).trans rfl
      have hcz75_4 : w74.cell? ⟨gb130, 4, none⟩ = some (.slice A0_4 l0_4.length c0_4) := (kc BK130.out 4).trans rfl
      have hfz75_0 := kf BK130.out 0
      have hfz75_1 := kf BK130.out 1
      have hfz75_2 := kf BK130.out 2
      have hfz75_3 := kf BK130.out 3
      have hfz75_4 := kf BK130.out 4
      try go_wp2_with (first | ((with_reducible refine gate_callee (f := 30) rfl ?_); refine goesL_ (some 26) rfl rfl Try.func30 (by kernel_rfl) rfl #[.agg #[.int .i64 a0_0, .string a0_1, .int .i64 a0_2, .bool a0_3, .slice A0_4 l0_4.length c0_4]] rfl (by (try simp only [List.map_toArray, List.map_cons, List.map_nil]); first | done | rfl | (simp only [List.length_drop, List.length_take]; rfl)) ?_; (with_reducible refine (laws_toResult.calls k a0_0 a0_1 a0_2 a0_3 _ _ l0_4 t149 t150 t151 t152 t153 _ ?side1 ?side2 A22.out).mono ?_); (case side1 => repeat (first | exact (cb HR0_4.out HB.out) | (with_reducible refine ca ?_ _) | (with_reducible refine cn ?_ _) | (with_reducible refine ce ?_))); (case side2 => exact HC0_4.out); rintro e w76 ⟨v154, rfl, ho0, hb⟩; refine ⟨_, rfl, ?_⟩; have n0_ := Am (Kd.R_elder' (by (with_reducible repeat (first | apply ra | apply rn | apply re)); exact HO140.out) (Kd.R_base ho0) hb); have n1_ := Am (Kd.R_elder' (by (with_reducible repeat (first | apply ra | apply rn | apply re)); exact HO147.out) (Kd.R_base ho0) hb); have n2_ := Am (Kd.R_lower (Kd.R_new' (Kd.R_new' ho0 (Kd.R_lt (by (with_reducible repeat (first | apply ra | apply rn | apply re)); exact HO140.out))) (Kd.R_lt (by (with_reducible repeat (first | apply ra | apply rn | apply re)); exact HO147.out))) (bz (by repeat (first | (with_reducible first | exact HB.out | apply ba | apply bn | apply be | refine bs ?_ GE130.out | refine bs ?_ GE131.out) | exact HB.out)))); have n3_ := Am (kb (g := gb130) (o := ob0 a0_0 a0_1 a0_2 a0_3 A0_4 l0_4.length c0_4) (by (with_reducible repeat (first | refine kn ?_ _ | refine ke ?_ | refine ka ?_ _)); exact BK130.out) hb); have n4_ := Am (kb (g := gb131) (o := ob1 a1_0 a1_1 a1_2 a1_3 A1_4 l1_4.length c1_4) (by (with_reducible repeat (first | refine kn ?_ _ | refine ke ?_ | refine ka ?_ _)); exact BK131.out) hb); have n5_ := Am (bt (by repeat (first | (with_reducible first | exact HB.out | apply ba | apply bn | apply be | refine bs ?_ GE130.out | refine bs ?_ GE131.out) | exact HB.out)) hb); clear HO140; clear HO147; clear BK130; clear BK131; clear HB; have HO140 := n0_; have HO147 := n1_; have HO155 := n2_; have BK130 := n3_; have BK131 := n4_; have HB := n5_; clear n0_ n1_ n2_ n3_ n4_ n5_; (try clear hb); (try clear hb2); (try clear hk); (try clear hi); (try clear ho0)) | ((with_reducible refine gate_dst (N := 7) rfl ?_); refine box_event ?hg (N := 7) ?hd (cs := #[.int .i64 0, .string (⟨#[]⟩ : ByteArray), .int .i64 0, .bool false, .slice none 0 0]) (t := 49) ?hr ?_; (case hd => rfl); (case hg => rfl); (case hr => first | (go_simp; done) | (go_simp; rfl)); intro gb156 hg w77 hbox hb; have n0_ := Am (rb (by (with_reducible repeat (first | apply ra | apply rn | apply re)); exact HO140.out) hb); have n1_ := Am (rb (by (with_reducible repeat (first | apply ra | apply rn | apply re)); exact HO147.out) hb); have n2_ := Am (rb (by (with_reducible repeat (first | apply ra | apply rn | apply re)); exact HO155.out) hb); have n3_ := Am (kb (g := gb130) (o := ob0 a0_0 a0_1 a0_2 a0_3 A0_4 l0_4.length c0_4) (by (with_reducible repeat (first | refine kn ?_ _ | refine ke ?_ | refine ka ?_ _)); exact BK130.out) hb); have n4_ := Am (kb (g := gb131) (o := ob1 a1_0 a1_1 a1_2 a1_3 A1_4 l1_4.length c1_4) (by (with_reducible repeat (first | refine kn ?_ _ | refine ke ?_ | refine ka ?_ _)); exact BK131.out) hb); have n5_ := Am (bt (by repeat (first | (with_reducible first | exact HB.out | apply ba | apply bn | apply be | refine bs ?_ GE130.out | refine bs ?_ GE131.out) | exact HB.out)) hb); have n6_ := Am (hbox); have n7_ := Am ((by rw [hg]; exact (bz (by repeat (first | (with_reducible first | exact HB.out | apply ba | apply bn | apply be | refine bs ?_ GE130.out | refine bs ?_ GE131.out) | exact HB.out))) : w.heap.size ≤ gb156)); have n8_ := Am ((by rw [hg]; exact (bz (by repeat (first | (with_reducible first | exact HB.out | apply ba | apply bn | apply be | refine bs ?_ GE130.out | refine bs ?_ GE131.out) | exact HB.out))) : w.heap.size ≤ gb156)); have n9_ := Am ((by rw [hg]; exact Nat.ne_of_lt (kl (g := gb130) (o := ob0 a0_0 a0_1 a0_2 a0_3 A0_4 l0_4.length c0_4) (by (with_reducible repeat (first | refine kn ?_ _ | refine ke ?_ | refine ka ?_ _)); exact BK130.out)) : gb130 ≠ gb156)); have n10_ := Am ((by rw [hg]; exact Nat.ne_of_gt (kl (g := gb130) (o := ob0 a0_0 a0_1 a0_2 a0_3 A0_4 l0_4.length c0_4) (by (with_reducible repeat (first | refine kn ?_ _ | refine ke ?_ | refine ka ?_ _)); exact BK130.out)) : gb156 ≠ gb130)); have n11_ := Am ((by rw [hg]; exact Nat.ne_of_lt (kl (g := gb131) (o := ob1 a1_0 a1_1 a1_2 a1_3 A1_4 l1_4.length c1_4) (by (with_reducible repeat (first | refine kn ?_ _ | refine ke ?_ | refine ka ?_ _)); exact BK131.out)) : gb131 ≠ gb156)); have n12_ := Am ((by rw [hg]; exact Nat.ne_of_gt (kl (g := gb131) (o := ob1 a1_0 a1_1 a1_2 a1_3 A1_4 l1_4.length c1_4) (by (with_reducible repeat (first | refine kn ?_ _ | refine ke ?_ | refine ka ?_ _)); exact BK131.out)) : gb156 ≠ gb131)); clear HO140; clear HO147; clear HO155; clear BK130; clear BK131; clear HB; have HO140 := n0_; have HO147 := n1_; have HO155 := n2_; have BK130 := n3_; have BK131 := n4_; have HB := n5_; have BK156 := n6_; have GW156 := n7_; have GE156 := n8_; have NB130_156 := n9_; have NB156_130 := n10_; have NB131_156 := n11_; have NB156_131 := n12_; clear n0_ n1_ n2_ n3_ n4_ n5_ n6_ n7_ n8_ n9_ n10_ n11_ n12_; clear hb hbox hg; have hnb78 := NB156_130.out; have hnc78 := NB130_156.out; have hnb79 := NB156_131.out; have hnc79 := NB131_156.out; have hcz80_0 : w77.cell? ⟨gb156, 0, none⟩ = some (.int .i64 0) := (kc BK156.out 0).trans rfl; have hcz80_1 : w77.cell? ⟨gb156, 1, none⟩ = some (.string (⟨#[]⟩ : ByteArray)) := (kc BK156.out 1).trans rfl; have hcz80_2 : w77.cell? ⟨gb156, 2, none⟩ = some (.int .i64 0) := (kc BK156.out 2).trans rfl; have hcz80_3 : w77.cell? ⟨gb156, 3, none⟩ = some (.bool false) := (kc BK156.out 3).trans rfl; have hcz80_4 : w77.cell? ⟨gb156, 4, none⟩ = some (.slice none 0 0) := (kc BK156.out 4).trans rfl; have hfz80_0 := kf BK156.out 0; have hfz80_1 := kf BK156.out 1; have hfz80_2 := kf BK156.out 2; have hfz80_3 := kf BK156.out 3; have hfz80_4 := kf BK156.out 4; obtain ⟨Ao81, co81, eo81⟩ := Kd.R_slice HO155.out; subst eo81; have hcz82_0 : w77.cell? ⟨gb131, 0, none⟩ = some (.int .i64 a1_0) := (kc BK131.out 0).trans rfl; have hcz82_1 : w77.cell? ⟨gb131, 1, none⟩ = some (.string a1_1) := (kc BK131.out 1).trans rfl; have hcz82_2 : w77.cell? ⟨gb131, 2, none⟩ = some (.int .i64 a1_2) := (kc BK131.out 2).trans rfl; have hcz82_3 : w77.cell? ⟨gb131, 3, none⟩ = some (.bool a1_3) := (kc BK131.out 3).trans rfl; have hcz82_4 : w77.cell? ⟨gb131, 4, none⟩ = some (.slice A1_4 l1_4.length c1_4) := (kc BK131.out 4).trans rfl; have hfz82_0 := kf BK131.out 0; have hfz82_1 := kf BK131.out 1; have hfz82_2 := kf BK131.out 2; have hfz82_3 := kf BK131.out 3; have hfz82_4 := kf BK131.out 4) | ((with_reducible refine gate_callee (f := 30) rfl ?_); refine goesL_ (some 28) rfl rfl Try.func30 (by kernel_rfl) rfl #[.agg #[.int .i64 a1_0, .string a1_1, .int .i64 a1_2, .bool a1_3, .slice A1_4 l1_4.length c1_4]] rfl (by (try simp only [List.map_toArray, List.map_cons, List.map_nil]); first | done | rfl | (simp only [List.length_drop, List.length_take]; rfl)) ?_; (with_reducible refine (laws_toResult.calls k a1_0 a1_1 a1_2 a1_3 _ _ l1_4 t157 t158 t159 t160 t161 _ ?side1 ?side2 A23.out).mono ?_); (case side1 => exact cb HR1_4.out (by repeat (first | (with_reducible first | exact HB.out | apply ba | apply bn | apply be | refine bs ?_ GE130.out | refine bs ?_ GE131.out | refine bs ?_ GE156.out) | exact HB.out))); (case side2 => exact HC1_4.out); rintro e w83 ⟨v162, rfl, ho0, hb⟩; refine ⟨_, rfl, ?_⟩; have n0_ := Am (Kd.R_elder' (by (with_reducible repeat (first | apply ra | apply rn | apply re)); exact (Kd.R_mono (Kd.R_far (p := ⟨gb156, 4, none⟩) (Kd.R_far (p := ⟨gb156, 3, none⟩) (Kd.R_far (p := ⟨gb156, 2, none⟩) (Kd.R_far (p := ⟨gb156, 1, none⟩) (Kd.R_far (p := ⟨gb156, 0, none⟩) (Kd.R_types HO140.out BK156.out (by decide)) (fun _ hk => hk.2) (.int .i64 t149)) (fun _ hk => hk.2) (.string t150)) (fun _ hk => hk.2) (.int .i64 t151)) (fun _ hk => hk.2) (.bool t152)) (fun _ hk => hk.2) (.slice Ao81 t153.length co81)) (fun _ h_ => h_.1))) (Kd.R_base ho0) hb); have n1_ := Am (Kd.R_elder' (by (with_reducible repeat (first | apply ra | apply rn | apply re)); exact (Kd.R_mono (Kd.R_far (p := ⟨gb156, 4, none⟩) (Kd.R_far (p := ⟨gb156, 3, none⟩) (Kd.R_far (p := ⟨gb156, 2, none⟩) (Kd.R_far (p := ⟨gb156, 1, none⟩) (Kd.R_far (p := ⟨gb156, 0, none⟩) (Kd.R_types HO147.out BK156.out (by decide)) (fun _ hk => hk.2) (.int .i64 t149)) (fun _ hk => hk.2) (.string t150)) (fun _ hk => hk.2) (.int .i64 t151)) (fun _ hk => hk.2) (.bool t152)) (fun _ hk => hk.2) (.slice Ao81 t153.length co81)) (fun _ h_ => h_.1))) (Kd.R_base ho0) hb); have n2_ := Am (Kd.R_elder' (by (with_reducible repeat (first | apply ra | apply rn | apply re)); exact (Kd.R_mono (Kd.R_far (p := ⟨gb156, 4, none⟩) (Kd.R_far (p := ⟨gb156, 3, none⟩) (Kd.R_far (p := ⟨gb156, 2, none⟩) (Kd.R_far (p := ⟨gb156, 1, none⟩) (Kd.R_far (p := ⟨gb156, 0, none⟩) (Kd.R_types HO155.out BK156.out (by decide)) (fun _ hk => hk.2) (.int .i64 t149)) (fun _ hk => hk.2) (.string t150)) (fun _ hk => hk.2) (.int .i64 t151)) (fun _ hk => hk.2) (.bool t152)) (fun _ hk => hk.2) (.slice Ao81 t153.length co81)) (fun _ h_ => h_.1))) (Kd.R_base ho0) hb); have n3_ := Am (Kd.R_lower (Kd.R_new' (Kd.R_new' (Kd.R_new' ho0 (Kd.R_lt (by (with_reducible repeat (first | apply ra | apply rn | apply re)); exact (Kd.R_mono (Kd.R_far (p := ⟨gb156, 4, none⟩) (Kd.R_far (p := ⟨gb156, 3, none⟩) (Kd.R_far (p := ⟨gb156, 2, none⟩) (Kd.R_far (p := ⟨gb156, 1, none⟩) (Kd.R_far (p := ⟨gb156, 0, none⟩) (Kd.R_types HO140.out BK156.out (by decide)) (fun _ hk => hk.2) (.int .i64 t149)) (fun _ hk => hk.2) (.string t150)) (fun _ hk => hk.2) (.int .i64 t151)) (fun _ hk => hk.2) (.bool t152)) (fun _ hk => hk.2) (.slice Ao81 t153.length co81)) (fun _ h_ => h_.1))))) (Kd.R_lt (by (with_reducible repeat (first | apply ra | apply rn | apply re)); exact (Kd.R_mono (Kd.R_far (p := ⟨gb156, 4, none⟩) (Kd.R_far (p := ⟨gb156, 3, none⟩) (Kd.R_far (p := ⟨gb156, 2, none⟩) (Kd.R_far (p := ⟨gb156, 1, none⟩) (Kd.R_far (p := ⟨gb156, 0, none⟩) (Kd.R_types HO147.out BK156.out (by decide)) (fun _ hk => hk.2) (.int .i64 t149)) (fun _ hk => hk.2) (.string t150)) (fun _ hk => hk.2) (.int .i64 t151)) (fun _ hk => hk.2) (.bool t152)) (fun _ hk => hk.2) (.slice Ao81 t153.length co81)) (fun _ h_ => h_.1))))) (Kd.R_lt (by (with_reducible repeat (first | apply ra | apply rn | apply re)); exact (Kd.R_mono (Kd.R_far (p := ⟨gb156, 4, none⟩) (Kd.R_far (p := ⟨gb156, 3, none⟩) (Kd.R_far (p := ⟨gb156, 2, none⟩) (Kd.R_far (p := ⟨gb156, 1, none⟩) (Kd.R_far (p := ⟨gb156, 0, none⟩) (Kd.R_types HO155.out BK156.out (by decide)) (fun _ hk => hk.2) (.int .i64 t149)) (fun _ hk => hk.2) (.string t150)) (fun _ hk => hk.2) (.int .i64 t151)) (fun _ hk => hk.2) (.bool t152)) (fun _ hk => hk.2) (.slice Ao81 t153.length co81)) (fun _ h_ => h_.1))))) (bz (by repeat (first | (with_reducible first | exact HB.out | apply ba | apply bn | apply be | refine bs ?_ GE130.out | refine bs ?_ GE131.out | refine bs ?_ GE156.out) | exact HB.out)))); have n4_ := Am (kb (g := gb130) (o := ob0 a0_0 a0_1 a0_2 a0_3 A0_4 l0_4.length c0_4) (by (with_reducible repeat (first | refine kn ?_ _ | refine ke ?_ | refine ka ?_ _)); refine blk_far ?_ NB130_156.out _; (with_reducible repeat (first | refine kn ?_ _ | refine ke ?_ | refine ka ?_ _)); refine blk_far ?_ NB130_156.out _; (with_reducible repeat (first | refine kn ?_ _ | refine ke ?_ | refine ka ?_ _)); refine blk_far ?_ NB130_156.out _; (with_reducible repeat (first | refine kn ?_ _ | refine ke ?_ | refine ka ?_ _)); refine blk_far ?_ NB130_156.out _; (with_reducible repeat (first | refine kn ?_ _ | refine ke ?_ | refine ka ?_ _)); refine blk_far ?_ NB130_156.out _; (with_reducible repeat (first | refine kn ?_ _ | refine ke ?_ | refine ka ?_ _)); exact BK130.out) hb); have n5_ := Am (kb (g := gb131) (o := ob1 a1_0 a1_1 a1_2 a1_3 A1_4 l1_4.length c1_4) (by (with_reducible repeat (first | refine kn ?_ _ | refine ke ?_ | refine ka ?_ _)); refine blk_far ?_ NB131_156.out _; (with_reducible repeat (first | refine kn ?_ _ | refine ke ?_ | refine ka ?_ _)); refine blk_far ?_ NB131_156.out _; (with_reducible repeat (first | refine kn ?_ _ | refine ke ?_ | refine ka ?_ _)); refine blk_far ?_ NB131_156.out _; (with_reducible repeat (first | refine kn ?_ _ | refine ke ?_ | refine ka ?_ _)); refine blk_far ?_ NB131_156.out _; (with_reducible repeat (first | refine kn ?_ _ | refine ke ?_ | refine ka ?_ _)); refine blk_far ?_ NB131_156.out _; (with_reducible repeat (first | refine kn ?_ _ | refine ke ?_ | refine ka ?_ _)); exact BK131.out) hb); have n6_ := Am (kb (g := gb156) (o := ob2 t149 t150 t151 t152 Ao81 t153.length co81) (by (with_reducible repeat (first | refine kn ?_ _ | refine ke ?_ | refine ka ?_ _)); refine kp (cs := #[.int .i64 t149, .string t150, .int .i64 t151, .bool t152, .slice none 0 0]) ?_ 4 _ rfl; (with_reducible repeat (first | refine kn ?_ _ | refine ke ?_ | refine ka ?_ _)); refine kp (cs := #[.int .i64 t149, .string t150, .int .i64 t151, .bool false, .slice none 0 0]) ?_ 3 _ rfl; (with_reducible repeat (first | refine kn ?_ _ | refine ke ?_ | refine ka ?_ _)); refine kp (cs := #[.int .i64 t149, .string t150, .int .i64 0, .bool false, .slice none 0 0]) ?_ 2 _ rfl; (with_reducible repeat (first | refine kn ?_ _ | refine ke ?_ | refine ka ?_ _)); refine kp (cs := #[.int .i64 t149, .string (⟨#[]⟩ : ByteArray), .int .i64 0, .bool false, .slice none 0 0]) ?_ 1 _ rfl; (with_reducible repeat (first | refine kn ?_ _ | refine ke ?_ | refine ka ?_ _)); refine kp (cs := #[.int .i64 0, .string (⟨#[]⟩ : ByteArray), .int .i64 0, .bool false, .slice none 0 0]) ?_ 0 _ rfl; (with_reducible repeat (first | refine kn ?_ _ | refine ke ?_ | refine ka ?_ _)); exact BK156.out) hb); have n7_ := Am (bt (by repeat (first | (with_reducible first | exact HB.out | apply ba | apply bn | apply be | refine bs ?_ GE130.out | refine bs ?_ GE131.out | refine bs ?_ GE156.out) | exact HB.out)) hb); clear HO140; clear HO147; clear HO155; clear BK130; clear BK131; clear BK156; clear HB; have HO140 := n0_; have HO147 := n1_; have HO155 := n2_; have HO163 := n3_; have BK130 := n4_; have BK131 := n5_; have BK156 := n6_; have HB := n7_; clear n0_ n1_ n2_ n3_ n4_ n5_ n6_ n7_; (try clear hb); (try clear hb2); (try clear hk); (try clear hi); (try clear ho0)) | ((with_reducible refine gate_dst (N := 8) rfl ?_); refine box_event ?hg (N := 8) ?hd (cs := #[.int .i64 0, .string (⟨#[]⟩ : ByteArray), .int .i64 0, .bool false, .slice none 0 0]) (t := 49) ?hr ?_; (case hd => rfl); (case hg => rfl); (case hr => first | (go_simp; done) | (go_simp; rfl)); intro gb164 hg w84 hbox hb; have n0_ := Am (rb (by (with_reducible repeat (first | apply ra | apply rn | apply re)); exact HO140.out) hb); have n1_ := Am (rb (by (with_reducible repeat (first | apply ra | apply rn | apply re)); exact HO147.out) hb); have n2_ := Am (rb (by (with_reducible repeat (first | apply ra | apply rn | apply re)); exact HO155.out) hb); have n3_ := Am (rb (by (with_reducible repeat (first | apply ra | apply rn | apply re)); exact HO163.out) hb); have n4_ := Am (kb (g := gb130) (o := ob0 a0_0 a0_1 a0_2 a0_3 A0_4 l0_4.length c0_4) (by (with_reducible repeat (first | refine kn ?_ _ | refine ke ?_ | refine ka ?_ _)); exact BK130.out) hb); have n5_ := Am (kb (g := gb131) (o := ob1 a1_0 a1_1 a1_2 a1_3 A1_4 l1_4.length c1_4) (by (with_reducible repeat (first | refine kn ?_ _ | refine ke ?_ | refine ka ?_ _)); exact BK131.out) hb); have n6_ := Am (kb (g := gb156) (o := ob2 t149 t150 t151 t152 Ao81 t153.length co81) (by (with_reducible repeat (first | refine kn ?_ _ | refine ke ?_ | refine ka ?_ _)); exact BK156.out) hb); have n7_ := Am (bt (by repeat (first | (with_reducible first | exact HB.out | apply ba | apply bn | apply be | refine bs ?_ GE130.out | refine bs ?_ GE131.out | refine bs ?_ GE156.out) | exact HB.out)) hb); have n8_ := Am (hbox); have n9_ := Am ((by rw [hg]; exact (bz (by repeat (first | (with_reducible first | exact HB.out | apply ba | apply bn | apply be | refine bs ?_ GE130.out | refine bs ?_ GE131.out | refine bs ?_ GE156.out) | exact HB.out))) : w.heap.size ≤ gb164)); have n10_ := Am ((by rw [hg]; exact (bz (by repeat (first | (with_reducible first | exact HB.out | apply ba | apply bn | apply be | refine bs ?_ GE130.out | refine bs ?_ GE131.out | refine bs ?_ GE156.out) | exact HB.out))) : w.heap.size ≤ gb164)); have n11_ := Am ((by rw [hg]; exact Nat.ne_of_lt (kl (g := gb130) (o := ob0 a0_0 a0_1 a0_2 a0_3 A0_4 l0_4.length c0_4) (by (with_reducible repeat (first | refine kn ?_ _ | refine ke ?_ | refine ka ?_ _)); exact BK130.out)) : gb130 ≠ gb164)); have n12_ := Am ((by rw [hg]; exact Nat.ne_of_gt (kl (g := gb130) (o := ob0 a0_0 a0_1 a0_2 a0_3 A0_4 l0_4.length c0_4) (by (with_reducible repeat (first | refine kn ?_ _ | refine ke ?_ | refine ka ?_ _)); exact BK130.out)) : gb164 ≠ gb130)); have n13_ := Am ((by rw [hg]; exact Nat.ne_of_lt (kl (g := gb131) (o := ob1 a1_0 a1_1 a1_2 a1_3 A1_4 l1_4.length c1_4) (by (with_reducible repeat (first | refine kn ?_ _ | refine ke ?_ | refine ka ?_ _)); exact BK131.out)) : gb131 ≠ gb164)); have n14_ := Am ((by rw [hg]; exact Nat.ne_of_gt (kl (g := gb131) (o := ob1 a1_0 a1_1 a1_2 a1_3 A1_4 l1_4.length c1_4) (by (with_reducible repeat (first | refine kn ?_ _ | refine ke ?_ | refine ka ?_ _)); exact BK131.out)) : gb164 ≠ gb131)); have n15_ := Am ((by rw [hg]; exact Nat.ne_of_lt (kl (g := gb156) (o := ob2 t149 t150 t151 t152 Ao81 t153.length co81) (by (with_reducible repeat (first | refine kn ?_ _ | refine ke ?_ | refine ka ?_ _)); exact BK156.out)) : gb156 ≠ gb164)); have n16_ := Am ((by rw [hg]; exact Nat.ne_of_gt (kl (g := gb156) (o := ob2 t149 t150 t151 t152 Ao81 t153.length co81) (by (with_reducible repeat (first | refine kn ?_ _ | refine ke ?_ | refine ka ?_ _)); exact BK156.out)) : gb164 ≠ gb156)); clear HO140; clear HO147; clear HO155; clear HO163; clear BK130; clear BK131; clear BK156; clear HB; have HO140 := n0_; have HO147 := n1_; have HO155 := n2_; have HO163 := n3_; have BK130 := n4_; have BK131 := n5_; have BK156 := n6_; have HB := n7_; have BK164 := n8_; have GW164 := n9_; have GE164 := n10_; have NB130_164 := n11_; have NB164_130 := n12_; have NB131_164 := n13_; have NB164_131 := n14_; have NB156_164 := n15_; have NB164_156 := n16_; clear n0_ n1_ n2_ n3_ n4_ n5_ n6_ n7_ n8_ n9_ n10_ n11_ n12_ n13_ n14_ n15_ n16_; clear hb hbox hg; have hnb85 := NB164_130.out; have hnc85 := NB130_164.out; have hnb86 := NB164_131.out; have hnc86 := NB131_164.out; have hnb87 := NB164_156.out; have hnc87 := NB156_164.out; have hcz88_0 : w84.cell? ⟨gb164, 0, none⟩ = some (.int .i64 0) := (kc BK164.out 0).trans rfl; have hcz88_1 : w84.cell? ⟨gb164, 1, none⟩ = some (.string (⟨#[]⟩ : ByteArray)) := (kc BK164.out 1).trans rfl; have hcz88_2 : w84.cell? ⟨gb164, 2, none⟩ = some (.int .i64 0) := (kc BK164.out 2).trans rfl; have hcz88_3 : w84.cell? ⟨gb164, 3, none⟩ = some (.bool false) := (kc BK164.out 3).trans rfl; have hcz88_4 : w84.cell? ⟨gb164, 4, none⟩ = some (.slice none 0 0) := (kc BK164.out 4).trans rfl; have hfz88_0 := kf BK164.out 0; have hfz88_1 := kf BK164.out 1; have hfz88_2 := kf BK164.out 2; have hfz88_3 := kf BK164.out 3; have hfz88_4 := kf BK164.out 4; obtain ⟨Ao89, co89, eo89⟩ := Kd.R_slice HO163.out; subst eo89; have hcz90_0 : w84.cell? ⟨gb156, 0, none⟩ = some (.int .i64 t149) := (kc BK156.out 0).trans rfl; have hcz90_1 : w84.cell? ⟨gb156, 1, none⟩ = some (.string t150) := (kc BK156.out 1).trans rfl; have hcz90_2 : w84.cell? ⟨gb156, 2, none⟩ = some (.int .i64 t151) := (kc BK156.out 2).trans rfl; have hcz90_3 : w84.cell? ⟨gb156, 3, none⟩ = some (.bool t152) := (kc BK156.out 3).trans rfl; have hcz90_4 : w84.cell? ⟨gb156, 4, none⟩ = some (.slice Ao81 t153.length co81) := (kc BK156.out 4).trans rfl; have hfz90_0 := kf BK156.out 0; have hfz90_1 := kf BK156.out 1; have hfz90_2 := kf BK156.out 2; have hfz90_3 := kf BK156.out 3; have hfz90_4 := kf BK156.out 4) | ((with_reducible refine gate_callee (f := 31) rfl ?_); refine goesL_ (some 31) rfl rfl Try.func31 (by kernel_rfl) rfl #[.agg #[.int .i64 t149, .string t150, .int .i64 t151, .bool t152, .slice Ao81 t153.length co81], .agg #[.int .i64 t157, .string t158, .int .i64 t159, .bool t160, .slice Ao89 t161.length co89]] rfl (by (try simp only [List.map_toArray, List.map_cons, List.map_nil]); first | done | rfl | (simp only [List.length_drop, List.length_take]; rfl)) ?_; (with_reducible refine (impl_SameResult.calls k t149 t150 t151 t152 _ _ t153 t157 t158 t159 t160 _ _ t161 t165 _ ?side1 ?side2 ?side3 ?side4 A24.out).mono ?_); (case side1 => refine (Kd.R_reads' (e := 9) (base := w.heap.size) (ok := fun k_ => (((True ∧ some k_ ≠ (.slice Ao72 t138.length co72 : Value).ownBlock) ∧ some k_ ≠ (.slice Ao73 t145.length co73 : Value).ownBlock) ∧ some k_ ≠ (.slice Ao89 t161.length co89 : Value).ownBlock)) (n := t153.length) (c := co81) ?_).2.2; exact (by (with_reducible repeat (first | apply ra | apply rn | apply re)); exact (Kd.R_mono (Kd.R_far (p := ⟨gb164, 4, none⟩) (Kd.R_far (p := ⟨gb164, 3, none⟩) (Kd.R_far (p := ⟨gb164, 2, none⟩) (Kd.R_far (p := ⟨gb164, 1, none⟩) (Kd.R_far (p := ⟨gb164, 0, none⟩) (Kd.R_types HO155.out BK164.out (by decide)) (fun _ hk => hk.2) (.int .i64 t157)) (fun _ hk => hk.2) (.string t158)) (fun _ hk => hk.2) (.int .i64 t159)) (fun _ hk => hk.2) (.bool t160)) (fun _ hk => hk.2) (.slice Ao89 t161.length co89)) (fun _ h_ => h_.1)))); (case side2 => exact (Kd.R_reads' HO155.out).2.1); (case side3 => refine (Kd.R_reads' (e := 9) (base := w.heap.size) (ok := fun k_ => (((True ∧ some k_ ≠ (.slice Ao72 t138.length co72 : Value).ownBlock) ∧ some k_ ≠ (.slice Ao73 t145.length co73 : Value).ownBlock) ∧ some k_ ≠ (.slice Ao81 t153.length co81 : Value).ownBlock)) (n := t161.length) (c := co89) ?_).2.2; exact (by (with_reducible repeat (first | apply ra | apply rn | apply re)); exact (Kd.R_mono (Kd.R_far (p := ⟨gb164, 4, none⟩) (Kd.R_far (p := ⟨gb164, 3, none⟩) (Kd.R_far (p := ⟨gb164, 2, none⟩) (Kd.R_far (p := ⟨gb164, 1, none⟩) (Kd.R_far (p := ⟨gb164, 0, none⟩) (Kd.R_types HO163.out BK164.out (by decide)) (fun _ hk => hk.2) (.int .i64 t157)) (fun _ hk => hk.2) (.string t158)) (fun _ hk => hk.2) (.int .i64 t159)) (fun _ hk => hk.2) (.bool t160)) (fun _ hk => hk.2) (.slice Ao89 t161.length co89)) (fun _ h_ => h_.1)))); (case side4 => exact (Kd.R_reads' HO163.out).2.1); rintro e w91 ⟨rfl, hb⟩; refine ⟨_, rfl, ?_⟩; have n0_ := Am (rb (by (with_reducible repeat (first | apply ra | apply rn | apply re)); exact (Kd.R_mono (Kd.R_far (p := ⟨gb164, 4, none⟩) (Kd.R_far (p := ⟨gb164, 3, none⟩) (Kd.R_far (p := ⟨gb164, 2, none⟩) (Kd.R_far (p := ⟨gb164, 1, none⟩) (Kd.R_far (p := ⟨gb164, 0, none⟩) (Kd.R_types HO140.out BK164.out (by decide)) (fun _ hk => hk.2) (.int .i64 t157)) (fun _ hk => hk.2) (.string t158)) (fun _ hk => hk.2) (.int .i64 t159)) (fun _ hk => hk.2) (.bool t160)) (fun _ hk => hk.2) (.slice Ao89 t161.length co89)) (fun _ h_ => h_.1))) hb); have n1_ := Am (rb (by (with_reducible repeat (first | apply ra | apply rn | apply re)); exact (Kd.R_mono (Kd.R_far (p := ⟨gb164, 4, none⟩) (Kd.R_far (p := ⟨gb164, 3, none⟩) (Kd.R_far (p := ⟨gb164, 2, none⟩) (Kd.R_far (p := ⟨gb164, 1, none⟩) (Kd.R_far (p := ⟨gb164, 0, none⟩) (Kd.R_types HO147.out BK164.out (by decide)) (fun _ hk => hk.2) (.int .i64 t157)) (fun _ hk => hk.2) (.string t158)) (fun _ hk => hk.2) (.int .i64 t159)) (fun _ hk => hk.2) (.bool t160)) (fun _ hk => hk.2) (.slice Ao89 t161.length co89)) (fun _ h_ => h_.1))) hb); have n2_ := Am (rb (by (with_reducible repeat (first | apply ra | apply rn | apply re)); exact (Kd.R_mono (Kd.R_far (p := ⟨gb164, 4, none⟩) (Kd.R_far (p := ⟨gb164, 3, none⟩) (Kd.R_far (p := ⟨gb164, 2, none⟩) (Kd.R_far (p := ⟨gb164, 1, none⟩) (Kd.R_far (p := ⟨gb164, 0, none⟩) (Kd.R_types HO155.out BK164.out (by decide)) (fun _ hk => hk.2) (.int .i64 t157)) (fun _ hk => hk.2) (.string t158)) (fun _ hk => hk.2) (.int .i64 t159)) (fun _ hk => hk.2) (.bool t160)) (fun _ hk => hk.2) (.slice Ao89 t161.length co89)) (fun _ h_ => h_.1))) hb); have n3_ := Am (rb (by (with_reducible repeat (first | apply ra | apply rn | apply re)); exact (Kd.R_mono (Kd.R_far (p := ⟨gb164, 4, none⟩) (Kd.R_far (p := ⟨gb164, 3, none⟩) (Kd.R_far (p := ⟨gb164, 2, none⟩) (Kd.R_far (p := ⟨gb164, 1, none⟩) (Kd.R_far (p := ⟨gb164, 0, none⟩) (Kd.R_types HO163.out BK164.out (by decide)) (fun _ hk => hk.2) (.int .i64 t157)) (fun _ hk => hk.2) (.string t158)) (fun _ hk => hk.2) (.int .i64 t159)) (fun _ hk => hk.2) (.bool t160)) (fun _ hk => hk.2) (.slice Ao89 t161.length co89)) (fun _ h_ => h_.1))) hb); have n4_ := Am (kb (g := gb130) (o := ob0 a0_0 a0_1 a0_2 a0_3 A0_4 l0_4.length c0_4) (by (with_reducible repeat (first | refine kn ?_ _ | refine ke ?_ | refine ka ?_ _)); refine blk_far ?_ NB130_164.out _; (with_reducible repeat (first | refine kn ?_ _ | refine ke ?_ | refine ka ?_ _)); refine blk_far ?_ NB130_164.out _; (with_reducible repeat (first | refine kn ?_ _ | refine ke ?_ | refine ka ?_ _)); refine blk_far ?_ NB130_164.out _; (with_reducible repeat (first | refine kn ?_ _ | refine ke ?_ | refine ka ?_ _)); refine blk_far ?_ NB130_164.out _; (with_reducible repeat (first | refine kn ?_ _ | refine ke ?_ | refine ka ?_ _)); refine blk_far ?_ NB130_164.out _; (with_reducible repeat (first | refine kn ?_ _ | refine ke ?_ | refine ka ?_ _)); exact BK130.out) hb); have n5_ := Am (kb (g := gb131) (o := ob1 a1_0 a1_1 a1_2 a1_3 A1_4 l1_4.length c1_4) (by (with_reducible repeat (first | refine kn ?_ _ | refine ke ?_ | refine ka ?_ _)); refine blk_far ?_ NB131_164.out _; (with_reducible repeat (first | refine kn ?_ _ | refine ke ?_ | refine ka ?_ _)); refine blk_far ?_ NB131_164.out _; (with_reducible repeat (first | refine kn ?_ _ | refine ke ?_ | refine ka ?_ _)); refine blk_far ?_ NB131_164.out _; (with_reducible repeat (first | refine kn ?_ _ | refine ke ?_ | refine ka ?_ _)); refine blk_far ?_ NB131_164.out _; (with_reducible repeat (first | refine kn ?_ _ | refine ke ?_ | refine ka ?_ _)); refine blk_far ?_ NB131_164.out _; (with_reducible repeat (first | refine kn ?_ _ | refine ke ?_ | refine ka ?_ _)); exact BK131.out) hb); have n6_ := Am (kb (g := gb156) (o := ob2 t149 t150 t151 t152 Ao81 t153.length co81) (by (with_reducible repeat (first | refine kn ?_ _ | refine ke ?_ | refine ka ?_ _)); refine blk_far ?_ NB156_164.out _; (with_reducible repeat (first | refine kn ?_ _ | refine ke ?_ | refine ka ?_ _)); refine blk_far ?_ NB156_164.out _; (with_reducible repeat (first | refine kn ?_ _ | refine ke ?_ | refine ka ?_ _)); refine blk_far ?_ NB156_164.out _; (with_reducible repeat (first | refine kn ?_ _ | refine ke ?_ | refine ka ?_ _)); refine blk_far ?_ NB156_164.out _; (with_reducible repeat (first | refine kn ?_ _ | refine ke ?_ | refine ka ?_ _)); refine blk_far ?_ NB156_164.out _; (with_reducible repeat (first | refine kn ?_ _ | refine ke ?_ | refine ka ?_ _)); exact BK156.out) hb); have n7_ := Am (kb (g := gb164) (o := ob6 t157 t158 t159 t160 Ao89 t161.length co89) (by (with_reducible repeat (first | refine kn ?_ _ | refine ke ?_ | refine ka ?_ _)); refine kp (cs := #[.int .i64 t157, .string t158, .int .i64 t159, .bool t160, .slice none 0 0]) ?_ 4 _ rfl; (with_reducible repeat (first | refine kn ?_ _ | refine ke ?_ | refine ka ?_ _)); refine kp (cs := #[.int .i64 t157, .string t158, .int .i64 t159, .bool false, .slice none 0 0]) ?_ 3 _ rfl; (with_reducible repeat (first | refine kn ?_ _ | refine ke ?_ | refine ka ?_ _)); refine kp (cs := #[.int .i64 t157, .string t158, .int .i64 0, .bool false, .slice none 0 0]) ?_ 2 _ rfl; (with_reducible repeat (first | refine kn ?_ _ | refine ke ?_ | refine ka ?_ _)); refine kp (cs := #[.int .i64 t157, .string (⟨#[]⟩ : ByteArray), .int .i64 0, .bool false, .slice none 0 0]) ?_ 1 _ rfl; (with_reducible repeat (first | refine kn ?_ _ | refine ke ?_ | refine ka ?_ _)); refine kp (cs := #[.int .i64 0, .string (⟨#[]⟩ : ByteArray), .int .i64 0, .bool false, .slice none 0 0]) ?_ 0 _ rfl; (with_reducible repeat (first | refine kn ?_ _ | refine ke ?_ | refine ka ?_ _)); exact BK164.out) hb); have n8_ := Am (bt (by repeat (first | (with_reducible first | exact HB.out | apply ba | apply bn | apply be | refine bs ?_ GE130.out | refine bs ?_ GE131.out | refine bs ?_ GE156.out | refine bs ?_ GE164.out) | exact HB.out)) hb); clear HO140; clear HO147; clear HO155; clear HO163; clear BK130; clear BK131; clear BK156; clear BK164; clear HB; have HO140 := n0_; have HO147 := n1_; have HO155 := n2_; have HO163 := n3_; have BK130 := n4_; have BK131 := n5_; have BK156 := n6_; have BK164 := n7_; have HB := n8_; clear n0_ n1_ n2_ n3_ n4_ n5_ n6_ n7_ n8_; (try clear hb); (try clear hb2); (try clear hk); (try clear hi)))
      have n0_ := Am (re HO140.out)
      have n1_ := Am (re HO147.out)
      have n2_ := Am (re HO155.out)
      have n3_ := Am (re HO163.out)
      have n4_ := Am (ke BK130.out)
      have n5_ := Am (ke BK131.out)
      have n6_ := Am (ke BK156.out)
      have n7_ := Am (ke BK164.out)
      have n8_ := Am (be HB.out)
      clear HO140
      clear HO147
      clear HO155
      clear HO163
      clear BK130
      clear BK131
      clear BK156
      clear BK164
      clear HB
      have HO140 := n0_
      have HO147 := n1_
      have HO155 := n2_
      have HO163 := n3_
      have BK130 := n4_
      have BK131 := n5_
      have BK156 := n6_
      have BK164 := n7_
      have HB := n8_
      clear n0_ n1_ n2_ n3_ n4_ n5_ n6_ n7_ n8_
      refine start_ (n := 5) (S := fun w' => w'.cell? ⟨gb156, 0, none⟩ = some (.int .i64 t149) ∧ w'.cell? ⟨gb156, 1, none⟩ = some (.string t150) ∧ w'.cell? ⟨gb156, 2, none⟩ = some (.int .i64 t151) ∧ w'.cell? ⟨gb156, 3, none⟩ = some (.bool t152) ∧ w'.cell? ⟨gb156, 4, none⟩ = some (.slice Ao81 t153.length co81) ∧ w'.cell? ⟨gb130, 0, none⟩ = some (.int .i64 a0_0) ∧ w'.cell? ⟨gb130, 1, none⟩ = some (.string a0_1) ∧ w'.cell? ⟨gb130, 2, none⟩ = some (.int .i64 a0_2) ∧ w'.cell? ⟨gb130, 3, none⟩ = some (.bool a0_3) ∧ w'.cell? ⟨gb130, 4, none⟩ = some (.slice A0_4 l0_4.length c0_4)) (ds := []) #[false, false, false, false, false] (by kernel_rfl) rfl rfl ⟨(kc BK156.out 0).trans rfl, (kc BK156.out 1).trans rfl, (kc BK156.out 2).trans rfl, (kc BK156.out 3).trans rfl, (kc BK156.out 4).trans rfl, (kc BK130.out 0).trans rfl, (kc BK130.out 1).trans rfl, (kc BK130.out 2).trans rfl, (kc BK130.out 3).trans rfl, (kc BK130.out 4).trans rfl⟩ (fun hHeld => ?_)
      generalize w91.drew = w92 at HO140 HO147 HO155 HO163 BK130 BK131 BK156 BK164 HB hHeld ⊢
      refine take_ (i := 0) (N := some 35) (v := ?_) (a' := ?_) #[true, false, false, false, false] rfl rfl (by kernel_rfl) (fun _ _ _ h => h) (Or.inl ⟨by rfl, ?_⟩) hHeld ?_ ?_
      rotate_left
      ·rintro w' ⟨s0, s1, s2, s3, s4, s5, s6, s7, s8, s9⟩
       go_simp
       with_reducible rfl
      rotate_left
      ·simp only [Act.put, List.setIfInBounds_toArray, List.set_cons_zero, List.set_cons_succ, i64_w, i32_w]
       rfl
      refine take_ (i := 1) (N := some 36) (v := ?_) (a' := ?_) #[true, true, false, false, false] rfl rfl (by kernel_rfl) (fun _ _ _ h => h) (Or.inl ⟨by rfl, ?_⟩) hHeld ?_ ?_
      rotate_left
      ·rintro w' ⟨s0, s1, s2, s3, s4, s5, s6, s7, s8, s9⟩
       go_simp
       with_reducible rfl
      rotate_left
      ·simp only [Act.put, List.setIfInBounds_toArray, List.set_cons_zero, List.set_cons_succ, i64_w, i32_w]
       rfl
      refine one_ (i := 2) (N := some 37) #[true, true, true, false, false] rfl rfl (by kernel_rfl) (by decide) (fun K hK => ?_)
      refine goes_ Try.func30 (by kernel_rfl) rfl #[.agg #[.int .i64 a0_0, .string a0_1, .int .i64 a0_2, .bool a0_3, .slice A0_4 l0_4.length c0_4]] (by rfl) rfl rfl (by (try simp only [List.map_toArray, List.map_cons, List.map_nil]); first | done | rfl | (simp only [List.length_drop, List.length_take]; rfl)) ?_
      with_reducible refine (laws_toResult.calls k a0_0 a0_1 a0_2 a0_3 _ _ l0_4 t166 t167 t168 t169 t170 _ ?side1 ?side2 A56.out).mono ?_
      (case side1 => repeat (first | exact (cb HR0_4.out HB.out) | (with_reducible refine ca ?_ _) | (with_reducible refine cn ?_ _) | (with_reducible refine ce ?_)))
      (case side2 => exact HC0_4.out)
      rintro e w93 ⟨v171, rfl, ho0, hb⟩
      refine ⟨_, rfl, ?_⟩
      have n0_ := Am (Kd.R_elder' (by (with_reducible repeat (first | apply ra | apply rn | apply re)); exact HO140.out) (Kd.R_base ho0) hb)
      have n1_ := Am (Kd.R_elder' (by (with_reducible repeat (first | apply ra | apply rn | apply re)); exact HO147.out) (Kd.R_base ho0) hb)
      have n2_ := Am (Kd.R_elder' (by (with_reducible repeat (first | apply ra | apply rn | apply re)); exact HO155.out) (Kd.R_base ho0) hb)
      have n3_ := Am (Kd.R_elder' (by (with_reducible repeat (first | apply ra | apply rn | apply re)); exact HO163.out) (Kd.R_base ho0) hb)
      have n4_ := Am (Kd.R_lower (Kd.R_new' (Kd.R_new' (Kd.R_new' (Kd.R_new' ho0 (Kd.R_lt (by (with_reducible repeat (first | apply ra | apply rn | apply re)); exact HO140.out))) (Kd.R_lt (by (with_reducible repeat (first | apply ra | apply rn | apply re)); exact HO147.out))) (Kd.R_lt (by (with_reducible repeat (first | apply ra | apply rn | apply re)); exact HO155.out))) (Kd.R_lt (by (with_reducible repeat (first | apply ra | apply rn | apply re)); exact HO163.out))) (bz (by repeat (first | (with_reducible first | exact HB.out | apply ba | apply bn | apply be | refine bs ?_ GE130.out | refine bs ?_ GE131.out | refine bs ?_ GE156.out | refine bs ?_ GE164.out) | exact HB.out))))
      have n5_ := Am (kb (g := gb130) (o := ob0 a0_0 a0_1 a0_2 a0_3 A0_4 l0_4.length c0_4) (by (with_reducible repeat (first | refine kn ?_ _ | refine ke ?_ | refine ka ?_ _)); exact BK130.out) hb)
      have n6_ := Am (kb (g := gb131) (o := ob1 a1_0 a1_1 a1_2 a1_3 A1_4 l1_4.length c1_4) (by (with_reducible repeat (first | refine kn ?_ _ | refine ke ?_ | refine ka ?_ _)); exact BK131.out) hb)
      have n7_ := Am (kb (g := gb156) (o := ob2 t149 t150 t151 t152 Ao81 t153.length co81) (by (with_reducible repeat (first | refine kn ?_ _ | refine ke ?_ | refine ka ?_ _)); exact BK156.out) hb)
      have n8_ := Am (kb (g := gb164) (o := ob6 t157 t158 t159 t160 Ao89 t161.length co89) (by (with_reducible repeat (first | refine kn ?_ _ | refine ke ?_ | refine ka ?_ _)); exact BK164.out) hb)
      have n9_ := Am (bt (by repeat (first | (with_reducible first | exact HB.out | apply ba | apply bn | apply be | refine bs ?_ GE130.out | refine bs ?_ GE131.out | refine bs ?_ GE156.out | refine bs ?_ GE164.out) | exact HB.out)) hb)
      clear HO140
      clear HO147
      clear HO155
      clear HO163
      clear BK130
      clear BK131
      clear BK156
      clear BK164
      clear HB
      have HO140 := n0_
      have HO147 := n1_
      have HO155 := n2_
      have HO163 := n3_
      have HO172 := n4_
      have BK130 := n5_
      have BK131 := n6_
      have BK156 := n7_
      have BK164 := n8_
      have HB := n9_
      clear n0_ n1_ n2_ n3_ n4_ n5_ n6_ n7_ n8_ n9_
      (try clear hb)
      (try clear hb2)
      (try clear hk)
      (try clear hi)
      (try clear ho0)
      obtain ⟨Ao94, co94, eo94⟩ := Kd.R_slice HO172.out
      (first | subst eo94 | (injection eo94 with f1_ f2_ f3_; have f4_ := f1_.symm; have f5_ := f3_.symm; clear f1_ f2_ f3_; subst f4_; subst f5_))
      refine hK.out _ _ ⟨(kc BK156.out 0).trans rfl, (kc BK156.out 1).trans rfl, (kc BK156.out 2).trans rfl, (kc BK156.out 3).trans rfl, (kc BK156.out 4).trans rfl, (kc BK130.out 0).trans rfl, (kc BK130.out 1).trans rfl, (kc BK130.out 2).trans rfl, (kc BK130.out 3).trans rfl, (kc BK130.out 4).trans rfl⟩ (fun hHeld => ?_)
      clear hK K
      refine norm_ (a' := ?_) ?_ ?_
      rotate_left
      ·show Act.put _ (some 37) _ = _
       simp only [Act.put, List.setIfInBounds_toArray, List.set_cons_zero, List.set_cons_succ, i64_w, i32_w]
       rfl
      refine one_ (i := 3) (N := some 38) #[true, true, true, true, false] rfl rfl (by kernel_rfl) (by decide) (fun K hK => ?_)
      refine goes_ Try.func32 (by kernel_rfl) rfl #[.agg #[.int .i64 t149, .string t150, .int .i64 t151, .bool t152, .slice Ao81 t153.length co81], .agg #[.int .i64 t166, .string t167, .int .i64 t168, .bool t169, .slice Ao94 t170.length co94]] (by rfl) rfl rfl (by (try simp only [List.map_toArray, List.map_cons, List.map_nil]); first | done | rfl | (simp only [List.length_drop, List.length_take]; rfl)) ?_
      with_reducible refine (laws_eqResult.calls k t149 t150 t151 t152 _ _ t153 t166 t167 t168 t169 _ _ t170 true _ ?side1 ?side2 ?side3 ?side4 A57.out).mono ?_
      (case side1 => repeat (first | exact (Kd.R_reads' HO155.out).2.2 | (with_reducible refine ca ?_ _) | (with_reducible refine cn ?_ _) | (with_reducible refine ce ?_)))
      (case side2 => exact (Kd.R_reads' HO155.out).2.1)
      (case side3 => repeat (first | exact (Kd.R_reads' HO172.out).2.2 | (with_reducible refine ca ?_ _) | (with_reducible refine cn ?_ _) | (with_reducible refine ce ?_)))
      (case side4 => exact (Kd.R_reads' HO172.out).2.1)
      rintro e w95 ⟨rfl, hb⟩
      refine ⟨_, rfl, ?_⟩
      have n0_ := Am (rb (by (with_reducible repeat (first | apply ra | apply rn | apply re)); exact HO140.out) hb)
      have n1_ := Am (rb (by (with_reducible repeat (first | apply ra | apply rn | apply re)); exact HO147.out) hb)
      have n2_ := Am (rb (by (with_reducible repeat (first | apply ra | apply rn | apply re)); exact HO155.out) hb)
      have n3_ := Am (rb (by (with_reducible repeat (first | apply ra | apply rn | apply re)); exact HO163.out) hb)
      have n4_ := Am (rb (by (with_reducible repeat (first | apply ra | apply rn | apply re)); exact HO172.out) hb)
      have n5_ := Am (kb (g := gb130) (o := ob0 a0_0 a0_1 a0_2 a0_3 A0_4 l0_4.length c0_4) (by (with_reducible repeat (first | refine kn ?_ _ | refine ke ?_ | refine ka ?_ _)); exact BK130.out) hb)
      have n6_ := Am (kb (g := gb131) (o := ob1 a1_0 a1_1 a1_2 a1_3 A1_4 l1_4.length c1_4) (by (with_reducible repeat (first | refine kn ?_ _ | refine ke ?_ | refine ka ?_ _)); exact BK131.out) hb)
      have n7_ := Am (kb (g := gb156) (o := ob2 t149 t150 t151 t152 Ao81 t153.length co81) (by (with_reducible repeat (first | refine kn ?_ _ | refine ke ?_ | refine ka ?_ _)); exact BK156.out) hb)
      have n8_ := Am (kb (g := gb164) (o := ob6 t157 t158 t159 t160 Ao89 t161.length co89) (by (with_reducible repeat (first | refine kn ?_ _ | refine ke ?_ | refine ka ?_ _)); exact BK164.out) hb)
      have n9_ := Am (bt (by repeat (first | (with_reducible first | exact HB.out | apply ba | apply bn | apply be | refine bs ?_ GE130.out | refine bs ?_ GE131.out | refine bs ?_ GE156.out | refine bs ?_ GE164.out) | exact HB.out)) hb)
      clear HO140
      clear HO147
      clear HO155
      clear HO163
      clear HO172
      clear BK130
      clear BK131
      clear BK156
      clear BK164
      clear HB
      have HO140 := n0_
      have HO147 := n1_
      have HO155 := n2_
      have HO163 := n3_
      have HO172 := n4_
      have BK130 := n5_
      have BK131 := n6_
      have BK156 := n7_
      have BK164 := n8_
      have HB := n9_
      clear n0_ n1_ n2_ n3_ n4_ n5_ n6_ n7_ n8_ n9_
      (try clear hb)
      (try clear hb2)
      (try clear hk)
      (try clear hi)
      refine hK.out _ _ ⟨(kc BK156.out 0).trans rfl, (kc BK156.out 1).trans rfl, (kc BK156.out 2).trans rfl, (kc BK156.out 3).trans rfl, (kc BK156.out 4).trans rfl, (kc BK130.out 0).trans rfl, (kc BK130.out 1).trans rfl, (kc BK130.out 2).trans rfl, (kc BK130.out 3).trans rfl, (kc BK130.out 4).trans rfl⟩ (fun hHeld => ?_)
      clear hK K
      refine norm_ (a' := ?_) ?_ ?_
      rotate_left
      ·show Act.put _ (some 38) _ = _
       simp only [Act.put, List.setIfInBounds_toArray, List.set_cons_zero, List.set_cons_succ, i64_w, i32_w]
       rfl
      refine pure_ (i := 4) (N := some 39) (v := ?_) (a' := ?_) #[true, true, true, true, true] rfl rfl (by kernel_rfl) (fun _ _ _ h => h) (Or.inl ⟨by rfl, ?_⟩) ?_ ?_
      rotate_left
      ·intro w'
       go_simp
       with_reducible rfl
      rotate_left
      ·simp only [Act.put, List.setIfInBounds_toArray, List.set_cons_zero, List.set_cons_succ, i64_w, i32_w]
       rfl
      refine done_ (by kernel_rfl) ?_
      try go_wp2
      have n0_ := Am (re HO140.out)
      have n1_ := Am (re HO147.out)
      have n2_ := Am (re HO155.out)
      have n3_ := Am (re HO163.out)
      have n4_ := Am (re HO172.out)
      have n5_ := Am (ke BK130.out)
      have n6_ := Am (ke BK131.out)
      have n7_ := Am (ke BK156.out)
      have n8_ := Am (ke BK164.out)
      have n9_ := Am (be HB.out)
      clear HO140
      clear HO147
      clear HO155
      clear HO163
      clear HO172
      clear BK130
      clear BK131
      clear BK156
      clear BK164
      clear HB
      have HO140 := n0_
      have HO147 := n1_
      have HO155 := n2_
      have HO163 := n3_
      have HO172 := n4_
      have BK130 := n5_
      have BK131 := n6_
      have BK156 := n7_
      have BK164 := n8_
      have HB := n9_
      clear n0_ n1_ n2_ n3_ n4_ n5_ n6_ n7_ n8_ n9_
      refine start_ (n := 5) (S := fun w' => w'.cell? ⟨gb164, 0, none⟩ = some (.int .i64 t157) ∧ w'.cell? ⟨gb164, 1, none⟩ = some (.string t158) ∧ w'.cell? ⟨gb164, 2, none⟩ = some (.int .i64 t159) ∧ w'.cell? ⟨gb164, 3, none⟩ = some (.bool t160) ∧ w'.cell? ⟨gb164, 4, none⟩ = some (.slice Ao89 t161.length co89) ∧ w'.cell? ⟨gb131, 0, none⟩ = some (.int .i64 a1_0) ∧ w'.cell? ⟨gb131, 1, none⟩ = some (.string a1_1) ∧ w'.cell? ⟨gb131, 2, none⟩ = some (.int .i64 a1_2) ∧ w'.cell? ⟨gb131, 3, none⟩ = some (.bool a1_3) ∧ w'.cell? ⟨gb131, 4, none⟩ = some (.slice A1_4 l1_4.length c1_4)) (ds := []) #[false, false, false, false, false] (by kernel_rfl) rfl rfl ⟨(kc BK164.out 0).trans rfl, (kc BK164.out 1).trans rfl, (kc BK164.out 2).trans rfl, (kc BK164.out 3).trans rfl, (kc BK164.out 4).trans rfl, (kc BK131.out 0).trans rfl, (kc BK131.out 1).trans rfl, (kc BK131.out 2).trans rfl, (kc BK131.out 3).trans rfl, (kc BK131.out 4).trans rfl⟩ (fun hHeld => ?_)
      generalize w95.drew = w96 at HO140 HO147 HO155 HO163 HO172 BK130 BK131 BK156 BK164 HB hHeld ⊢
      refine take_ (i := 0) (N := some 40) (v := ?_) (a' := ?_) #[true, false, false, false, false] rfl rfl (by kernel_rfl) (fun _ _ _ h => h) (Or.inl ⟨by rfl, ?_⟩) hHeld ?_ ?_
      rotate_left
      ·rintro w' ⟨s0, s1, s2, s3, s4, s5, s6, s7, s8, s9⟩
       go_simp
       with_reducible rfl
      rotate_left
      ·simp only [Act.put, List.setIfInBounds_toArray, List.set_cons_zero, List.set_cons_succ, i64_w, i32_w]
       rfl
      refine take_ (i := 1) (N := some 41) (v := ?_) (a' := ?_) #[true, true, false, false, false] rfl rfl (by kernel_rfl) (fun _ _ _ h => h) (Or.inl ⟨by rfl, ?_⟩) hHeld ?_ ?_
      rotate_left
      ·rintro w' ⟨s0, s1, s2, s3, s4, s5, s6, s7, s8, s9⟩
       go_simp
       with_reducible rfl
      rotate_left
      ·simp only [Act.put, List.setIfInBounds_toArray, List.set_cons_zero, List.set_cons_succ, i64_w, i32_w]
       rfl
      refine one_ (i := 2) (N := some 42) #[true, true, true, false, false] rfl rfl (by kernel_rfl) (by decide) (fun K hK => ?_)
      refine goes_ Try.func30 (by kernel_rfl) rfl #[.agg #[.int .i64 a1_0, .string a1_1, .int .i64 a1_2, .bool a1_3, .slice A1_4 l1_4.length c1_4]] (by rfl) rfl rfl (by (try simp only [List.map_toArray, List.map_cons, List.map_nil]); first | done | rfl | (simp only [List.length_drop, List.length_take]; rfl)) ?_
      with_reducible refine (laws_toResult.calls k a1_0 a1_1 a1_2 a1_3 _ _ l1_4 t174 t175 t176 t177 t178 _ ?side1 ?side2 A59.out).mono ?_
      (case side1 => repeat (first | exact (cb HR1_4.out HB.out) | (with_reducible refine ca ?_ _) | (with_reducible refine cn ?_ _) | (with_reducible refine ce ?_)))
      (case side2 => exact HC1_4.out)
      rintro e w97 ⟨v179, rfl, ho0, hb⟩
      refine ⟨_, rfl, ?_⟩
      have n0_ := Am (Kd.R_elder' (by (with_reducible repeat (first | apply ra | apply rn | apply re)); exact HO140.out) (Kd.R_base ho0) hb)
      have n1_ := Am (Kd.R_elder' (by (with_reducible repeat (first | apply ra | apply rn | apply re)); exact HO147.out) (Kd.R_base ho0) hb)
      have n2_ := Am (Kd.R_elder' (by (with_reducible repeat (first | apply ra | apply rn | apply re)); exact HO155.out) (Kd.R_base ho0) hb)
      have n3_ := Am (Kd.R_elder' (by (with_reducible repeat (first | apply ra | apply rn | apply re)); exact HO163.out) (Kd.R_base ho0) hb)
      have n4_ := Am (Kd.R_elder' (by (with_reducible repeat (first | apply ra | apply rn | apply re)); exact HO172.out) (Kd.R_base ho0) hb)
      have n5_ := Am (Kd.R_lower (Kd.R_new' (Kd.R_new' (Kd.R_new' (Kd.R_new' (Kd.R_new' ho0 (Kd.R_lt (by (with_reducible repeat (first | apply ra | apply rn | apply re)); exact HO140.out))) (Kd.R_lt (by (with_reducible repeat (first | apply ra | apply rn | apply re)); exact HO147.out))) (Kd.R_lt (by (with_reducible repeat (first | apply ra | apply rn | apply re)); exact HO155.out))) (Kd.R_lt (by (with_reducible repeat (first | apply ra | apply rn | apply re)); exact HO163.out))) (Kd.R_lt (by (with_reducible repeat (first | apply ra | apply rn | apply re)); exact HO172.out))) (bz (by repeat (first | (with_reducible first | exact HB.out | apply ba | apply bn | apply be | refine bs ?_ GE130.out | refine bs ?_ GE131.out | refine bs ?_ GE156.out | refine bs ?_ GE164.out) | exact HB.out))))
      have n6_ := Am (kb (g := gb130) (o := ob0 a0_0 a0_1 a0_2 a0_3 A0_4 l0_4.length c0_4) (by (with_reducible repeat (first | refine kn ?_ _ | refine ke ?_ | refine ka ?_ _)); exact BK130.out) hb)
      have n7_ := Am (kb (g := gb131) (o := ob1 a1_0 a1_1 a1_2 a1_3 A1_4 l1_4.length c1_4) (by (with_reducible repeat (first | refine kn ?_ _ | refine ke ?_ | refine ka ?_ _)); exact BK131.out) hb)
      have n8_ := Am (kb (g := gb156) (o := ob2 t149 t150 t151 t152 Ao81 t153.length co81) (by (with_reducible repeat (first | refine kn ?_ _ | refine ke ?_ | refine ka ?_ _)); exact BK156.out) hb)
      have n9_ := Am (kb (g := gb164) (o := ob6 t157 t158 t159 t160 Ao89 t161.length co89) (by (with_reducible repeat (first | refine kn ?_ _ | refine ke ?_ | refine ka ?_ _)); exact BK164.out) hb)
      have n10_ := Am (bt (by repeat (first | (with_reducible first | exact HB.out | apply ba | apply bn | apply be | refine bs ?_ GE130.out | refine bs ?_ GE131.out | refine bs ?_ GE156.out | refine bs ?_ GE164.out) | exact HB.out)) hb)
      clear HO140
      clear HO147
      clear HO155
      clear HO163
      clear HO172
      clear BK130
      clear BK131
      clear BK156
      clear BK164
      clear HB
      have HO140 := n0_
      have HO147 := n1_
      have HO155 := n2_
      have HO163 := n3_
      have HO172 := n4_
      have HO180 := n5_
      have BK130 := n6_
      have BK131 := n7_
      have BK156 := n8_
      have BK164 := n9_
      have HB := n10_
      clear n0_ n1_ n2_ n3_ n4_ n5_ n6_ n7_ n8_ n9_ n10_
      (try clear hb)
      (try clear hb2)
      (try clear hk)
      (try clear hi)
      (try clear ho0)
      obtain ⟨Ao98, co98, eo98⟩ := Kd.R_slice HO180.out
      (first | subst eo98 | (injection eo98 with f1_ f2_ f3_; have f4_ := f1_.symm; have f5_ := f3_.symm; clear f1_ f2_ f3_; subst f4_; subst f5_))
      refine hK.out _ _ ⟨(kc BK164.out 0).trans rfl, (kc BK164.out 1).trans rfl, (kc BK164.out 2).trans rfl, (kc BK164.out 3).trans rfl, (kc BK164.out 4).trans rfl, (kc BK131.out 0).trans rfl, (kc BK131.out 1).trans rfl, (kc BK131.out 2).trans rfl, (kc BK131.out 3).trans rfl, (kc BK131.out 4).trans rfl⟩ (fun hHeld => ?_)
      clear hK K
      refine norm_ (a' := ?_) ?_ ?_
      rotate_left
      ·show Act.put _ (some 42) _ = _
       simp only [Act.put, List.setIfInBounds_toArray, List.set_cons_zero, List.set_cons_succ, i64_w, i32_w]
       rfl
      refine one_ (i := 3) (N := some 43) #[true, true, true, true, false] rfl rfl (by kernel_rfl) (by decide) (fun K hK => ?_)
      refine goes_ Try.func32 (by kernel_rfl) rfl #[.agg #[.int .i64 t157, .string t158, .int .i64 t159, .bool t160, .slice Ao89 t161.length co89], .agg #[.int .i64 t174, .string t175, .int .i64 t176, .bool t177, .slice Ao98 t178.length co98]] (by rfl) rfl rfl (by (try simp only [List.map_toArray, List.map_cons, List.map_nil]); first | done | rfl | (simp only [List.length_drop, List.length_take]; rfl)) ?_
      with_reducible refine (laws_eqResult.calls k t157 t158 t159 t160 _ _ t161 t174 t175 t176 t177 _ _ t178 true _ ?side1 ?side2 ?side3 ?side4 A60.out).mono ?_
      (case side1 => repeat (first | exact (Kd.R_reads' HO163.out).2.2 | (with_reducible refine ca ?_ _) | (with_reducible refine cn ?_ _) | (with_reducible refine ce ?_)))
      (case side2 => exact (Kd.R_reads' HO163.out).2.1)
      (case side3 => repeat (first | exact (Kd.R_reads' HO180.out).2.2 | (with_reducible refine ca ?_ _) | (with_reducible refine cn ?_ _) | (with_reducible refine ce ?_)))
      (case side4 => exact (Kd.R_reads' HO180.out).2.1)
      rintro e w99 ⟨rfl, hb⟩
      refine ⟨_, rfl, ?_⟩
      have n0_ := Am (rb (by (with_reducible repeat (first | apply ra | apply rn | apply re)); exact HO140.out) hb)
      have n1_ := Am (rb (by (with_reducible repeat (first | apply ra | apply rn | apply re)); exact HO147.out) hb)
      have n2_ := Am (rb (by (with_reducible repeat (first | apply ra | apply rn | apply re)); exact HO155.out) hb)
      have n3_ := Am (rb (by (with_reducible repeat (first | apply ra | apply rn | apply re)); exact HO163.out) hb)
      have n4_ := Am (rb (by (with_reducible repeat (first | apply ra | apply rn | apply re)); exact HO172.out) hb)
      have n5_ := Am (rb (by (with_reducible repeat (first | apply ra | apply rn | apply re)); exact HO180.out) hb)
      have n6_ := Am (kb (g := gb130) (o := ob0 a0_0 a0_1 a0_2 a0_3 A0_4 l0_4.length c0_4) (by (with_reducible repeat (first | refine kn ?_ _ | refine ke ?_ | refine ka ?_ _)); exact BK130.out) hb)
      have n7_ := Am (kb (g := gb131) (o := ob1 a1_0 a1_1 a1_2 a1_3 A1_4 l1_4.length c1_4) (by (with_reducible repeat (first | refine kn ?_ _ | refine ke ?_ | refine ka ?_ _)); exact BK131.out) hb)
      have n8_ := Am (kb (g := gb156) (o := ob2 t149 t150 t151 t152 Ao81 t153.length co81) (by (with_reducible repeat (first | refine kn ?_ _ | refine ke ?_ | refine ka ?_ _)); exact BK156.out) hb)
      have n9_ := Am (kb (g := gb164) (o := ob6 t157 t158 t159 t160 Ao89 t161.length co89) (by (with_reducible repeat (first | refine kn ?_ _ | refine ke ?_ | refine ka ?_ _)); exact BK164.out) hb)
      have n10_ := Am (bt (by repeat (first | (with_reducible first | exact HB.out | apply ba | apply bn | apply be | refine bs ?_ GE130.out | refine bs ?_ GE131.out | refine bs ?_ GE156.out | refine bs ?_ GE164.out) | exact HB.out)) hb)
      clear HO140
      clear HO147
      clear HO155
      clear HO163
      clear HO172
      clear HO180
      clear BK130
      clear BK131
      clear BK156
      clear BK164
      clear HB
      have HO140 := n0_
      have HO147 := n1_
      have HO155 := n2_
      have HO163 := n3_
      have HO172 := n4_
      have HO180 := n5_
      have BK130 := n6_
      have BK131 := n7_
      have BK156 := n8_
      have BK164 := n9_
      have HB := n10_
      clear n0_ n1_ n2_ n3_ n4_ n5_ n6_ n7_ n8_ n9_ n10_
      (try clear hb)
      (try clear hb2)
      (try clear hk)
      (try clear hi)
      refine hK.out _ _ ⟨(kc BK164.out 0).trans rfl, (kc BK164.out 1).trans rfl, (kc BK164.out 2).trans rfl, (kc BK164.out 3).trans rfl, (kc BK164.out 4).trans rfl, (kc BK131.out 0).trans rfl, (kc BK131.out 1).trans rfl, (kc BK131.out 2).trans rfl, (kc BK131.out 3).trans rfl, (kc BK131.out 4).trans rfl⟩ (fun hHeld => ?_)
      clear hK K
      refine norm_ (a' := ?_) ?_ ?_
      rotate_left
      ·show Act.put _ (some 43) _ = _
       simp only [Act.put, List.setIfInBounds_toArray, List.set_cons_zero, List.set_cons_succ, i64_w, i32_w]
       rfl
      refine pure_ (i := 4) (N := some 44) (v := ?_) (a' := ?_) #[true, true, true, true, true] rfl rfl (by kernel_rfl) (fun _ _ _ h => h) (Or.inl ⟨by rfl, ?_⟩) ?_ ?_
      rotate_left
      ·intro w'
       go_simp
       with_reducible rfl
      rotate_left
      ·simp only [Act.put, List.setIfInBounds_toArray, List.set_cons_zero, List.set_cons_succ, i64_w, i32_w]
       rfl
      refine done_ (by kernel_rfl) ?_
      try go_wp2
      go_ret
      exact ⟨by first | rfl | (simp [errW_none, errW_some] <;> rfl) | (simp [*, errW_none, errW_some] <;> rfl), by repeat (first | (with_reducible first | exact HB.out | apply ba | apply bn | apply be | refine bs ?_ GE130.out | refine bs ?_ GE131.out | refine bs ?_ GE156.out | refine bs ?_ GE164.out) | exact HB.out)⟩
     ·replace c61 := Bool.eq_false_iff.mpr c61
      subst c61
      have H1 : (some false) = some r := by rw [if_neg (show ¬ (false = true) by decide)] at H; exact H
      clear H
      have H := H1
      clear H1
      obtain rfl := Option.some.inj H
      go_enter Try.func6, Try.ntmps6
      try go_wp2_with (first | ((with_reducible refine gate_dst (N := 2) rfl ?_); refine box_event ?hg (N := 2) ?hd (cs := #[.int .i64 a0_0, .string a0_1, .int .i64 a0_2, .bool a0_3, .slice A0_4 l0_4.length c0_4]) (t := 46) ?hr ?_; (case hd => rfl); (case hg => rfl); (case hr => first | (go_simp; done) | (go_simp; rfl)); intro gb130 hg w100 hbox hb; have n0_ := Am (bt (by repeat (first | (with_reducible first | exact HB.out | apply ba | apply bn | apply be) | exact HB.out)) hb); have n1_ := Am (hbox); have n2_ := Am ((by rw [hg]; exact (bz (by repeat (first | (with_reducible first | exact HB.out | apply ba | apply bn | apply be) | exact HB.out))) : w.heap.size ≤ gb130)); have n3_ := Am ((by rw [hg]; exact (bz (by repeat (first | (with_reducible first | exact HB.out | apply ba | apply bn | apply be) | exact HB.out))) : w.heap.size ≤ gb130)); clear HB; have HB := n0_; have BK130 := n1_; have GW130 := n2_; have GE130 := n3_; clear n0_ n1_ n2_ n3_; clear hb hbox hg) | ((with_reducible refine gate_dst (N := 3) rfl ?_); refine box_event ?hg (N := 3) ?hd (cs := #[.int .i64 a1_0, .string a1_1, .int .i64 a1_2, .bool a1_3, .slice A1_4 l1_4.length c1_4]) (t := 46) ?hr ?_; (case hd => rfl); (case hg => rfl); (case hr => first | (go_simp; done) | (go_simp; rfl)); intro gb131 hg w101 hbox hb; have n0_ := Am (kb (g := gb130) (o := ob0 a0_0 a0_1 a0_2 a0_3 A0_4 l0_4.length c0_4) (by (with_reducible repeat (first | refine kn ?_ _ | refine ke ?_ | refine ka ?_ _)); exact BK130.out) hb); have n1_ := Am (bt (by repeat (first | (with_reducible first | exact HB.out | apply ba | apply bn | apply be | refine bs ?_ GE130.out) | exact HB.out)) hb); have n2_ := Am (hbox); have n3_ := Am ((by rw [hg]; exact (bz (by repeat (first | (with_reducible first | exact HB.out | apply ba | apply bn | apply be | refine bs ?_ GE130.out) | exact HB.out))) : w.heap.size ≤ gb131)); have n4_ := Am ((by rw [hg]; exact (bz (by repeat (first | (with_reducible first | exact HB.out | apply ba | apply bn | apply be | refine bs ?_ GE130.out) | exact HB.out))) : w.heap.size ≤ gb131)); have n5_ := Am ((by rw [hg]; exact Nat.ne_of_lt (kl (g := gb130) (o := ob0 a0_0 a0_1 a0_2 a0_3 A0_4 l0_4.length c0_4) (by (with_reducible repeat (first | refine kn ?_ _ | refine ke ?_ | refine ka ?_ _)); exact BK130.out)) : gb130 ≠ gb131)); have n6_ := Am ((by rw [hg]; exact Nat.ne_of_gt (kl (g := gb130) (o := ob0 a0_0 a0_1 a0_2 a0_3 A0_4 l0_4.length c0_4) (by (with_reducible repeat (first | refine kn ?_ _ | refine ke ?_ | refine ka ?_ _)); exact BK130.out)) : gb131 ≠ gb130)); clear BK130; clear HB; have BK130 := n0_; have HB := n1_; have BK131 := n2_; have GW131 := n3_; have GE131 := n4_; have NB130_131 := n5_; have NB131_130 := n6_; clear n0_ n1_ n2_ n3_ n4_ n5_ n6_; clear hb hbox hg; have hnb102 := NB130_131.out; have hnc102 := NB131_130.out; have hcz103_0 : w101.cell? ⟨gb130, 0, none⟩ = some (.int .i64 a0_0) := (kc BK130.out 0).trans rfl; have hcz103_1 : w101.cell? ⟨gb130, 1, none⟩ = some (.string a0_1) := (kc BK130.out 1).trans rfl; have hcz103_2 : w101.cell? ⟨gb130, 2, none⟩ = some (.int .i64 a0_2) := (kc BK130.out 2).trans rfl; have hcz103_3 : w101.cell? ⟨gb130, 3, none⟩ = some (.bool a0_3) := (kc BK130.out 3).trans rfl; have hcz103_4 : w101.cell? ⟨gb130, 4, none⟩ = some (.slice A0_4 l0_4.length c0_4) := (kc BK130.out 4).trans rfl; have hfz103_0 := kf BK130.out 0; have hfz103_1 := kf BK130.out 1; have hfz103_2 := kf BK130.out 2; have hfz103_3 := kf BK130.out 3; have hfz103_4 := kf BK130.out 4) | ((with_reducible refine gate_callee (f := 28) rfl ?_); refine goesL_ (some 12) rfl rfl Try.func28 (by kernel_rfl) rfl #[.agg #[.int .i64 a0_0, .string a0_1, .int .i64 a0_2, .bool a0_3, .slice A0_4 l0_4.length c0_4], .int .i64 1048576] rfl (by (try simp only [List.map_toArray, List.map_cons, List.map_nil]); first | done | rfl | (simp only [List.length_drop, List.length_take]; rfl)) ?_; (with_reducible refine (laws_szResult.calls k a0_0 a0_1 a0_2 a0_3 _ _ l0_4 1048576 t132 _ ?side1 ?side2 A3.out).mono ?_); (case side1 => repeat (first | exact (cb HR0_4.out HB.out) | (with_reducible refine ca ?_ _) | (with_reducible refine cn ?_ _) | (with_reducible refine ce ?_))); (case side2 => exact HC0_4.out); rintro e w104 ⟨rfl, hb⟩; refine ⟨_, rfl, ?_⟩; have n0_ := Am (kb (g := gb130) (o := ob0 a0_0 a0_1 a0_2 a0_3 A0_4 l0_4.length c0_4) (by (with_reducible repeat (first | refine kn ?_ _ | refine ke ?_ | refine ka ?_ _)); exact BK130.out) hb); have n1_ := Am (kb (g := gb131) (o := ob1 a1_0 a1_1 a1_2 a1_3 A1_4 l1_4.length c1_4) (by (with_reducible repeat (first | refine kn ?_ _ | refine ke ?_ | refine ka ?_ _)); exact BK131.out) hb); have n2_ := Am (bt (by repeat (first | (with_reducible first | exact HB.out | apply ba | apply bn | apply be | refine bs ?_ GE130.out | refine bs ?_ GE131.out) | exact HB.out)) hb); clear BK130; clear BK131; clear HB; have BK130 := n0_; have BK131 := n1_; have HB := n2_; clear n0_ n1_ n2_; (try clear hb); (try clear hb2); (try clear hk); (try clear hi); have hcz105_0 : w104.cell? ⟨gb131, 0, none⟩ = some (.int .i64 a1_0) := (kc BK131.out 0).trans rfl; have hcz105_1 : w104.cell? ⟨gb131, 1, none⟩ = some (.string a1_1) := (kc BK131.out 1).trans rfl; have hcz105_2 : w104.cell? ⟨gb131, 2, none⟩ = some (.int .i64 a1_2) := (kc BK131.out 2).trans rfl; have hcz105_3 : w104.cell? ⟨gb131, 3, none⟩ = some (.bool a1_3) := (kc BK131.out 3).trans rfl; have hcz105_4 : w104.cell? ⟨gb131, 4, none⟩ = some (.slice A1_4 l1_4.length c1_4) := (kc BK131.out 4).trans rfl; have hfz105_0 := kf BK131.out 0; have hfz105_1 := kf BK131.out 1; have hfz105_2 := kf BK131.out 2; have hfz105_3 := kf BK131.out 3; have hfz105_4 := kf BK131.out 4) | ((with_reducible refine gate_callee (f := 28) rfl ?_); refine goesL_ (some 17) rfl rfl Try.func28 (by kernel_rfl) rfl #[.agg #[.int .i64 a1_0, .string a1_1, .int .i64 a1_2, .bool a1_3, .slice A1_4 l1_4.length c1_4], .int .i64 t132] rfl (by (try simp only [List.map_toArray, List.map_cons, List.map_nil]); first | done | rfl | (simp only [List.length_drop, List.length_take]; rfl)) ?_; (with_reducible refine (laws_szResult.calls k a1_0 a1_1 a1_2 a1_3 _ _ l1_4 t132 t133 _ ?side1 ?side2 A10.out).mono ?_); (case side1 => repeat (first | exact (cb HR1_4.out HB.out) | (with_reducible refine ca ?_ _) | (with_reducible refine cn ?_ _) | (with_reducible refine ce ?_))); (case side2 => exact HC1_4.out); rintro e w106 ⟨rfl, hb⟩; refine ⟨_, rfl, ?_⟩; have n0_ := Am (kb (g := gb130) (o := ob0 a0_0 a0_1 a0_2 a0_3 A0_4 l0_4.length c0_4) (by (with_reducible repeat (first | refine kn ?_ _ | refine ke ?_ | refine ka ?_ _)); exact BK130.out) hb); have n1_ := Am (kb (g := gb131) (o := ob1 a1_0 a1_1 a1_2 a1_3 A1_4 l1_4.length c1_4) (by (with_reducible repeat (first | refine kn ?_ _ | refine ke ?_ | refine ka ?_ _)); exact BK131.out) hb); have n2_ := Am (bt (by repeat (first | (with_reducible first | exact HB.out | apply ba | apply bn | apply be | refine bs ?_ GE130.out | refine bs ?_ GE131.out) | exact HB.out)) hb); clear BK130; clear BK131; clear HB; have BK130 := n0_; have BK131 := n1_; have HB := n2_; clear n0_ n1_ n2_; (try clear hb); (try clear hb2); (try clear hk); (try clear hi)))
      have n0_ := Am (ke BK130.out)
      have n1_ := Am (ke BK131.out)
      have n2_ := Am (be HB.out)
      clear BK130
      clear BK131
      clear HB
      have BK130 := n0_
      have BK131 := n1_
      have HB := n2_
      clear n0_ n1_ n2_
      refine start_ (n := 6) (S := fun w' => w'.cell? ⟨gb130, 0, none⟩ = some (.int .i64 a0_0) ∧ w'.cell? ⟨gb130, 1, none⟩ = some (.string a0_1) ∧ w'.cell? ⟨gb130, 2, none⟩ = some (.int .i64 a0_2) ∧ w'.cell? ⟨gb130, 3, none⟩ = some (.bool a0_3) ∧ w'.cell? ⟨gb130, 4, none⟩ = some (.slice A0_4 l0_4.length c0_4) ∧ w'.cell? ⟨gb131, 0, none⟩ = some (.int .i64 a1_0) ∧ w'.cell? ⟨gb131, 1, none⟩ = some (.string a1_1) ∧ w'.cell? ⟨gb131, 2, none⟩ = some (.int .i64 a1_2) ∧ w'.cell? ⟨gb131, 3, none⟩ = some (.bool a1_3) ∧ w'.cell? ⟨gb131, 4, none⟩ = some (.slice A1_4 l1_4.length c1_4)) (ds := []) #[false, false, false, false, false, false] (by kernel_rfl) rfl rfl ⟨(kc BK130.out 0).trans rfl, (kc BK130.out 1).trans rfl, (kc BK130.out 2).trans rfl, (kc BK130.out 3).trans rfl, (kc BK130.out 4).trans rfl, (kc BK131.out 0).trans rfl, (kc BK131.out 1).trans rfl, (kc BK131.out 2).trans rfl, (kc BK131.out 3).trans rfl, (kc BK131.out 4).trans rfl⟩ (fun hHeld => ?_)
      generalize w106.drew = w107 at BK130 BK131 HB hHeld ⊢
      refine take_ (i := 0) (N := some 20) (v := ?_) (a' := ?_) #[true, false, false, false, false, false] rfl rfl (by kernel_rfl) (fun _ _ _ h => h) (Or.inl ⟨by rfl, ?_⟩) hHeld ?_ ?_
      rotate_left
      ·rintro w' ⟨s0, s1, s2, s3, s4, s5, s6, s7, s8, s9⟩
       go_simp
       with_reducible rfl
      rotate_left
      ·simp only [Act.put, List.setIfInBounds_toArray, List.set_cons_zero, List.set_cons_succ, i64_w, i32_w]
       rfl
      refine take_ (i := 2) (N := some 22) (v := ?_) (a' := ?_) #[true, false, true, false, false, false] rfl rfl (by kernel_rfl) (fun _ _ _ h => h) (Or.inl ⟨by rfl, ?_⟩) hHeld ?_ ?_
      rotate_left
      ·rintro w' ⟨s0, s1, s2, s3, s4, s5, s6, s7, s8, s9⟩
       go_simp
       with_reducible rfl
      rotate_left
      ·simp only [Act.put, List.setIfInBounds_toArray, List.set_cons_zero, List.set_cons_succ, i64_w, i32_w]
       rfl
      refine one_ (i := 1) (N := some 21) #[true, true, true, false, false, false] rfl rfl (by kernel_rfl) (by decide) (fun K hK => ?_)
      refine goes_ Try.func30 (by kernel_rfl) rfl #[.agg #[.int .i64 a0_0, .string a0_1, .int .i64 a0_2, .bool a0_3, .slice A0_4 l0_4.length c0_4]] (by rfl) rfl rfl (by (try simp only [List.map_toArray, List.map_cons, List.map_nil]); first | done | rfl | (simp only [List.length_drop, List.length_take]; rfl)) ?_
      with_reducible refine (laws_toResult.calls k a0_0 a0_1 a0_2 a0_3 _ _ l0_4 t134 t135 t136 t137 t138 _ ?side1 ?side2 A19.out).mono ?_
      (case side1 => repeat (first | exact (cb HR0_4.out HB.out) | (with_reducible refine ca ?_ _) | (with_reducible refine cn ?_ _) | (with_reducible refine ce ?_)))
      (case side2 => exact HC0_4.out)
      rintro e w108 ⟨v139, rfl, ho0, hb⟩
      refine ⟨_, rfl, ?_⟩
      have n0_ := Am (Kd.R_lower ho0 (bz (by repeat (first | (with_reducible first | exact HB.out | apply ba | apply bn | apply be | refine bs ?_ GE130.out | refine bs ?_ GE131.out) | exact HB.out))))
      have n1_ := Am (kb (g := gb130) (o := ob0 a0_0 a0_1 a0_2 a0_3 A0_4 l0_4.length c0_4) (by (with_reducible repeat (first | refine kn ?_ _ | refine ke ?_ | refine ka ?_ _)); exact BK130.out) hb)
      have n2_ := Am (kb (g := gb131) (o := ob1 a1_0 a1_1 a1_2 a1_3 A1_4 l1_4.length c1_4) (by (with_reducible repeat (first | refine kn ?_ _ | refine ke ?_ | refine ka ?_ _)); exact BK131.out) hb)
      have n3_ := Am (bt (by repeat (first | (with_reducible first | exact HB.out | apply ba | apply bn | apply be | refine bs ?_ GE130.out | refine bs ?_ GE131.out) | exact HB.out)) hb)
      clear BK130
      clear BK131
      clear HB
      have HO140 := n0_
      have BK130 := n1_
      have BK131 := n2_
      have HB := n3_
      clear n0_ n1_ n2_ n3_
      (try clear hb)
      (try clear hb2)
      (try clear hk)
      (try clear hi)
      (try clear ho0)
      refine hK.out _ _ ⟨(kc BK130.out 0).trans rfl, (kc BK130.out 1).trans rfl, (kc BK130.out 2).trans rfl, (kc BK130.out 3).trans rfl, (kc BK130.out 4).trans rfl, (kc BK131.out 0).trans rfl, (kc BK131.out 1).trans rfl, (kc BK131.out 2).trans rfl, (kc BK131.out 3).trans rfl, (kc BK131.out 4).trans rfl⟩ (fun hHeld => ?_)
      clear hK K
      refine norm_ (a' := ?_) ?_ ?_
      rotate_left
      ·show Act.put _ (some 21) _ = _
       simp only [Act.put, List.setIfInBounds_toArray, List.set_cons_zero, List.set_cons_succ, i64_w, i32_w]
       rfl
      refine one_ (i := 3) (N := some 23) #[true, true, true, true, false, false] rfl rfl (by kernel_rfl) (by decide) (fun K hK => ?_)
      refine goes_ Try.func30 (by kernel_rfl) rfl #[.agg #[.int .i64 a1_0, .string a1_1, .int .i64 a1_2, .bool a1_3, .slice A1_4 l1_4.length c1_4]] (by rfl) rfl rfl (by (try simp only [List.map_toArray, List.map_cons, List.map_nil]); first | done | rfl | (simp only [List.length_drop, List.length_take]; rfl)) ?_
      with_reducible refine (laws_toResult.calls k a1_0 a1_1 a1_2 a1_3 _ _ l1_4 t141 t142 t143 t144 t145 _ ?side1 ?side2 A20.out).mono ?_
      (case side1 => repeat (first | exact (cb HR1_4.out HB.out) | (with_reducible refine ca ?_ _) | (with_reducible refine cn ?_ _) | (with_reducible refine ce ?_)))
      (case side2 => exact HC1_4.out)
      rintro e w109 ⟨v146, rfl, ho0, hb⟩
      refine ⟨_, rfl, ?_⟩
      have n0_ := Am (Kd.R_elder' (by (with_reducible repeat (first | apply ra | apply rn | apply re)); exact HO140.out) (Kd.R_base ho0) hb)
      have n1_ := Am (Kd.R_lower (Kd.R_new' ho0 (Kd.R_lt (by (with_reducible repeat (first | apply ra | apply rn | apply re)); exact HO140.out))) (bz (by repeat (first | (with_reducible first | exact HB.out | apply ba | apply bn | apply be | refine bs ?_ GE130.out | refine bs ?_ GE131.out) | exact HB.out))))
      have n2_ := Am (kb (g := gb130) (o := ob0 a0_0 a0_1 a0_2 a0_3 A0_4 l0_4.length c0_4) (by (with_reducible repeat (first | refine kn ?_ _ | refine ke ?_ | refine ka ?_ _)); exact BK130.out) hb)
      have n3_ := Am (kb (g := gb131) (o := ob1 a1_0 a1_1 a1_2 a1_3 A1_4 l1_4.length c1_4) (by (with_reducible repeat (first | refine kn ?_ _ | refine ke ?_ | refine ka ?_ _)); exact BK131.out) hb)
      have n4_ := Am (bt (by repeat (first | (with_reducible first | exact HB.out | apply ba | apply bn | apply be | refine bs ?_ GE130.out | refine bs ?_ GE131.out) | exact HB.out)) hb)
      clear HO140
      clear BK130
      clear BK131
      clear HB
      have HO140 := n0_
      have HO147 := n1_
      have BK130 := n2_
      have BK131 := n3_
      have HB := n4_
      clear n0_ n1_ n2_ n3_ n4_
      (try clear hb)
      (try clear hb2)
      (try clear hk)
      (try clear hi)
      (try clear ho0)
      obtain ⟨Ao110, co110, eo110⟩ := Kd.R_slice HO140.out
      (first | subst eo110 | (injection eo110 with f1_ f2_ f3_; have f4_ := f1_.symm; have f5_ := f3_.symm; clear f1_ f2_ f3_; subst f4_; subst f5_))
      obtain ⟨Ao111, co111, eo111⟩ := Kd.R_slice HO147.out
      (first | subst eo111 | (injection eo111 with f1_ f2_ f3_; have f4_ := f1_.symm; have f5_ := f3_.symm; clear f1_ f2_ f3_; subst f4_; subst f5_))
      refine hK.out _ _ ⟨(kc BK130.out 0).trans rfl, (kc BK130.out 1).trans rfl, (kc BK130.out 2).trans rfl, (kc BK130.out 3).trans rfl, (kc BK130.out 4).trans rfl, (kc BK131.out 0).trans rfl, (kc BK131.out 1).trans rfl, (kc BK131.out 2).trans rfl, (kc BK131.out 3).trans rfl, (kc BK131.out 4).trans rfl⟩ (fun hHeld => ?_)
      clear hK K
      refine norm_ (a' := ?_) ?_ ?_
      rotate_left
      ·show Act.put _ (some 23) _ = _
       simp only [Act.put, List.setIfInBounds_toArray, List.set_cons_zero, List.set_cons_succ, i64_w, i32_w]
       rfl
      refine one_ (i := 4) (N := some 24) #[true, true, true, true, true, false] rfl rfl (by kernel_rfl) (by decide) (fun K hK => ?_)
      refine goes_ Try.func29 (by kernel_rfl) rfl #[.agg #[.int .i64 t134, .string t135, .int .i64 t136, .bool t137, .slice Ao110 t138.length co110], .agg #[.int .i64 t141, .string t142, .int .i64 t143, .bool t144, .slice Ao111 t145.length co111]] (by rfl) rfl rfl (by (try simp only [List.map_toArray, List.map_cons, List.map_nil]); first | done | rfl | (simp only [List.length_drop, List.length_take]; rfl)) ?_
      with_reducible refine (spec_SameResult.calls k t134 t135 t136 t137 _ _ t138 t141 t142 t143 t144 _ _ t145 t148 _ ?side1 ?side2 ?side3 ?side4 A21.out).mono ?_
      (case side1 => repeat (first | exact (Kd.R_reads' HO140.out).2.2 | (with_reducible refine ca ?_ _) | (with_reducible refine cn ?_ _) | (with_reducible refine ce ?_)))
      (case side2 => exact (Kd.R_reads' HO140.out).2.1)
      (case side3 => repeat (first | exact (Kd.R_reads' HO147.out).2.2 | (with_reducible refine ca ?_ _) | (with_reducible refine cn ?_ _) | (with_reducible refine ce ?_)))
      (case side4 => exact (Kd.R_reads' HO147.out).2.1)
      rintro e w112 ⟨rfl, hb⟩
      refine ⟨_, rfl, ?_⟩
      have n0_ := Am (rb (by (with_reducible repeat (first | apply ra | apply rn | apply re)); exact HO140.out) hb)
      have n1_ := Am (rb (by (with_reducible repeat (first | apply ra | apply rn | apply re)); exact HO147.out) hb)
      have n2_ := Am (kb (g := gb130) (o := ob0 a0_0 a0_1 a0_2 a0_3 A0_4 l0_4.length c0_4) (by (with_reducible repeat (first | refine kn ?_ _ | refine ke ?_ | refine ka ?_ _)); exact BK130.out) hb)
      have n3_ := Am (kb (g := gb131) (o := ob1 a1_0 a1_1 a1_2 a1_3 A1_4 l1_4.length c1_4) (by (with_reducible repeat (first | refine kn ?_ _ | refine ke ?_ | refine ka ?_ _)); exact BK131.out) hb)
      have n4_ := Am (bt (by repeat (first | (with_reducible first | exact HB.out | apply ba | apply bn | apply be | refine bs ?_ GE130.out | refine bs ?_ GE131.out) | exact HB.out)) hb)
      clear HO140
      clear HO147
      clear BK130
      clear BK131
      clear HB
      have HO140 := n0_
      have HO147 := n1_
      have BK130 := n2_
      have BK131 := n3_
      have HB := n4_
      clear n0_ n1_ n2_ n3_ n4_
      (try clear hb)
      (try clear hb2)
      (try clear hk)
      (try clear hi)
      refine hK.out _ _ ⟨(kc BK130.out 0).trans rfl, (kc BK130.out 1).trans rfl, (kc BK130.out 2).trans rfl, (kc BK130.out 3).trans rfl, (kc BK130.out 4).trans rfl, (kc BK131.out 0).trans rfl, (kc BK131.out 1).trans rfl, (kc BK131.out 2).trans rfl, (kc BK131.out 3).trans rfl, (kc BK131.out 4).trans rfl⟩ (fun hHeld => ?_)
      clear hK K
      refine norm_ (a' := ?_) ?_ ?_
      rotate_left
      ·show Act.put _ (some 24) _ = _
       simp only [Act.put, List.setIfInBounds_toArray, List.set_cons_zero, List.set_cons_succ, i64_w, i32_w]
       rfl
      refine pure_ (i := 5) (N := some 6) (v := ?_) (a' := ?_) #[true, true, true, true, true, true] rfl rfl (by kernel_rfl) (fun _ _ _ h => h) (Or.inl ⟨by rfl, ?_⟩) ?_ ?_
      rotate_left
      ·intro w'
       go_simp
       with_reducible rfl
      rotate_left
      ·simp only [Act.put, List.setIfInBounds_toArray, List.set_cons_zero, List.set_cons_succ, i64_w, i32_w]
       rfl
      refine done_ (by kernel_rfl) ?_
      have hcz113_0 : w112.cell? ⟨gb130, 0, none⟩ = some (.int .i64 a0_0) := (kc BK130.out 0).trans rfl
      have hcz113_1 : w112.cell? ⟨gb130, 1, none⟩ = some (.string a0_1) := (kc BK130.out 1).trans rfl
      have hcz113_2 : w112.cell? ⟨gb130, 2, none⟩ = some (.int .i64 a0_2) := (kc BK130.out 2).trans rfl
      have hcz113_3 : w112.cell? ⟨gb130, 3, none⟩ = some (.bool a0_3) := (kc BK130.out 3).trans rfl
      have hcz113_4 : w112.cell? ⟨gb130, 4, none⟩ = some (.slice A0_4 l0_4.length c0_4) := (kc BK130.out 4).trans rfl
      have hfz113_0 := kf BK130.out 0
      have hfz113_1 := kf BK130.out 1
      have hfz113_2 := kf BK130.out 2
      have hfz113_3 := kf BK130.out 3
      have hfz113_4 := kf BK130.out 4
      try go_wp2_with (first | ((with_reducible refine gate_callee (f := 30) rfl ?_); refine goesL_ (some 26) rfl rfl Try.func30 (by kernel_rfl) rfl #[.agg #[.int .i64 a0_0, .string a0_1, .int .i64 a0_2, .bool a0_3, .slice A0_4 l0_4.length c0_4]] rfl (by (try simp only [List.map_toArray, List.map_cons, List.map_nil]); first | done | rfl | (simp only [List.length_drop, List.length_take]; rfl)) ?_; (with_reducible refine (laws_toResult.calls k a0_0 a0_1 a0_2 a0_3 _ _ l0_4 t149 t150 t151 t152 t153 _ ?side1 ?side2 A22.out).mono ?_); (case side1 => repeat (first | exact (cb HR0_4.out HB.out) | (with_reducible refine ca ?_ _) | (with_reducible refine cn ?_ _) | (with_reducible refine ce ?_))); (case side2 => exact HC0_4.out); rintro e w114 ⟨v154, rfl, ho0, hb⟩; refine ⟨_, rfl, ?_⟩; have n0_ := Am (Kd.R_elder' (by (with_reducible repeat (first | apply ra | apply rn | apply re)); exact HO140.out) (Kd.R_base ho0) hb); have n1_ := Am (Kd.R_elder' (by (with_reducible repeat (first | apply ra | apply rn | apply re)); exact HO147.out) (Kd.R_base ho0) hb); have n2_ := Am (Kd.R_lower (Kd.R_new' (Kd.R_new' ho0 (Kd.R_lt (by (with_reducible repeat (first | apply ra | apply rn | apply re)); exact HO140.out))) (Kd.R_lt (by (with_reducible repeat (first | apply ra | apply rn | apply re)); exact HO147.out))) (bz (by repeat (first | (with_reducible first | exact HB.out | apply ba | apply bn | apply be | refine bs ?_ GE130.out | refine bs ?_ GE131.out) | exact HB.out)))); have n3_ := Am (kb (g := gb130) (o := ob0 a0_0 a0_1 a0_2 a0_3 A0_4 l0_4.length c0_4) (by (with_reducible repeat (first | refine kn ?_ _ | refine ke ?_ | refine ka ?_ _)); exact BK130.out) hb); have n4_ := Am (kb (g := gb131) (o := ob1 a1_0 a1_1 a1_2 a1_3 A1_4 l1_4.length c1_4) (by (with_reducible repeat (first | refine kn ?_ _ | refine ke ?_ | refine ka ?_ _)); exact BK131.out) hb); have n5_ := Am (bt (by repeat (first | (with_reducible first | exact HB.out | apply ba | apply bn | apply be | refine bs ?_ GE130.out | refine bs ?_ GE131.out) | exact HB.out)) hb); clear HO140; clear HO147; clear BK130; clear BK131; clear HB; have HO140 := n0_; have HO147 := n1_; have HO155 := n2_; have BK130 := n3_; have BK131 := n4_; have HB := n5_; clear n0_ n1_ n2_ n3_ n4_ n5_; (try clear hb); (try clear hb2); (try clear hk); (try clear hi); (try clear ho0)) | ((with_reducible refine gate_dst (N := 7) rfl ?_); refine box_event ?hg (N := 7) ?hd (cs := #[.int .i64 0, .string (⟨#[]⟩ : ByteArray), .int .i64 0, .bool false, .slice none 0 0]) (t := 49) ?hr ?_; (case hd => rfl); (case hg => rfl); (case hr => first | (go_simp; done) | (go_simp; rfl)); intro gb156 hg w115 hbox hb; have n0_ := Am (rb (by (with_reducible repeat (first | apply ra | apply rn | apply re)); exact HO140.out) hb); have n1_ := Am (rb (by (with_reducible repeat (first | apply ra | apply rn | apply re)); exact HO147.out) hb); have n2_ := Am (rb (by (with_reducible repeat (first | apply ra | apply rn | apply re)); exact HO155.out) hb); have n3_ := Am (kb (g := gb130) (o := ob0 a0_0 a0_1 a0_2 a0_3 A0_4 l0_4.length c0_4) (by (with_reducible repeat (first | refine kn ?_ _ | refine ke ?_ | refine ka ?_ _)); exact BK130.out) hb); have n4_ := Am (kb (g := gb131) (o := ob1 a1_0 a1_1 a1_2 a1_3 A1_4 l1_4.length c1_4) (by (with_reducible repeat (first | refine kn ?_ _ | refine ke ?_ | refine ka ?_ _)); exact BK131.out) hb); have n5_ := Am (bt (by repeat (first | (with_reducible first | exact HB.out | apply ba | apply bn | apply be | refine bs ?_ GE130.out | refine bs ?_ GE131.out) | exact HB.out)) hb); have n6_ := Am (hbox); have n7_ := Am ((by rw [hg]; exact (bz (by repeat (first | (with_reducible first | exact HB.out | apply ba | apply bn | apply be | refine bs ?_ GE130.out | refine bs ?_ GE131.out) | exact HB.out))) : w.heap.size ≤ gb156)); have n8_ := Am ((by rw [hg]; exact (bz (by repeat (first | (with_reducible first | exact HB.out | apply ba | apply bn | apply be | refine bs ?_ GE130.out | refine bs ?_ GE131.out) | exact HB.out))) : w.heap.size ≤ gb156)); have n9_ := Am ((by rw [hg]; exact Nat.ne_of_lt (kl (g := gb130) (o := ob0 a0_0 a0_1 a0_2 a0_3 A0_4 l0_4.length c0_4) (by (with_reducible repeat (first | refine kn ?_ _ | refine ke ?_ | refine ka ?_ _)); exact BK130.out)) : gb130 ≠ gb156)); have n10_ := Am ((by rw [hg]; exact Nat.ne_of_gt (kl (g := gb130) (o := ob0 a0_0 a0_1 a0_2 a0_3 A0_4 l0_4.length c0_4) (by (with_reducible repeat (first | refine kn ?_ _ | refine ke ?_ | refine ka ?_ _)); exact BK130.out)) : gb156 ≠ gb130)); have n11_ := Am ((by rw [hg]; exact Nat.ne_of_lt (kl (g := gb131) (o := ob1 a1_0 a1_1 a1_2 a1_3 A1_4 l1_4.length c1_4) (by (with_reducible repeat (first | refine kn ?_ _ | refine ke ?_ | refine ka ?_ _)); exact BK131.out)) : gb131 ≠ gb156)); have n12_ := Am ((by rw [hg]; exact Nat.ne_of_gt (kl (g := gb131) (o := ob1 a1_0 a1_1 a1_2 a1_3 A1_4 l1_4.length c1_4) (by (with_reducible repeat (first | refine kn ?_ _ | refine ke ?_ | refine ka ?_ _)); exact BK131.out)) : gb156 ≠ gb131)); clear HO140; clear HO147; clear HO155; clear BK130; clear BK131; clear HB; have HO140 := n0_; have HO147 := n1_; have HO155 := n2_; have BK130 := n3_; have BK131 := n4_; have HB := n5_; have BK156 := n6_; have GW156 := n7_; have GE156 := n8_; have NB130_156 := n9_; have NB156_130 := n10_; have NB131_156 := n11_; have NB156_131 := n12_; clear n0_ n1_ n2_ n3_ n4_ n5_ n6_ n7_ n8_ n9_ n10_ n11_ n12_; clear hb hbox hg; have hnb116 := NB156_130.out; have hnc116 := NB130_156.out; have hnb117 := NB156_131.out; have hnc117 := NB131_156.out; have hcz118_0 : w115.cell? ⟨gb156, 0, none⟩ = some (.int .i64 0) := (kc BK156.out 0).trans rfl; have hcz118_1 : w115.cell? ⟨gb156, 1, none⟩ = some (.string (⟨#[]⟩ : ByteArray)) := (kc BK156.out 1).trans rfl; have hcz118_2 : w115.cell? ⟨gb156, 2, none⟩ = some (.int .i64 0) := (kc BK156.out 2).trans rfl; have hcz118_3 : w115.cell? ⟨gb156, 3, none⟩ = some (.bool false) := (kc BK156.out 3).trans rfl; have hcz118_4 : w115.cell? ⟨gb156, 4, none⟩ = some (.slice none 0 0) := (kc BK156.out 4).trans rfl; have hfz118_0 := kf BK156.out 0; have hfz118_1 := kf BK156.out 1; have hfz118_2 := kf BK156.out 2; have hfz118_3 := kf BK156.out 3; have hfz118_4 := kf BK156.out 4; obtain ⟨Ao119, co119, eo119⟩ := Kd.R_slice HO155.out; subst eo119; have hcz120_0 : w115.cell? ⟨gb131, 0, none⟩ = some (.int .i64 a1_0) := (kc BK131.out 0).trans rfl; have hcz120_1 : w115.cell? ⟨gb131, 1, none⟩ = some (.string a1_1) := (kc BK131.out 1).trans rfl; have hcz120_2 : w115.cell? ⟨gb131, 2, none⟩ = some (.int .i64 a1_2) := (kc BK131.out 2).trans rfl; have hcz120_3 : w115.cell? ⟨gb131, 3, none⟩ = some (.bool a1_3) := (kc BK131.out 3).trans rfl; have hcz120_4 : w115.cell? ⟨gb131, 4, none⟩ = some (.slice A1_4 l1_4.length c1_4) := (kc BK131.out 4).trans rfl; have hfz120_0 := kf BK131.out 0; have hfz120_1 := kf BK131.out 1; have hfz120_2 := kf BK131.out 2; have hfz120_3 := kf BK131.out 3; have hfz120_4 := kf BK131.out 4) | ((with_reducible refine gate_callee (f := 30) rfl ?_); refine goesL_ (some 28) rfl rfl Try.func30 (by kernel_rfl) rfl #[.agg #[.int .i64 a1_0, .string a1_1, .int .i64 a1_2, .bool a1_3, .slice A1_4 l1_4.length c1_4]] rfl (by (try simp only [List.map_toArray, List.map_cons, List.map_nil]); first | done | rfl | (simp only [List.length_drop, List.length_take]; rfl)) ?_; (with_reducible refine (laws_toResult.calls k a1_0 a1_1 a1_2 a1_3 _ _ l1_4 t157 t158 t159 t160 t161 _ ?side1 ?side2 A23.out).mono ?_); (case side1 => exact cb HR1_4.out (by repeat (first | (with_reducible first | exact HB.out | apply ba | apply bn | apply be | refine bs ?_ GE130.out | refine bs ?_ GE131.out | refine bs ?_ GE156.out) | exact HB.out))); (case side2 => exact HC1_4.out); rintro e w121 ⟨v162, rfl, ho0, hb⟩; refine ⟨_, rfl, ?_⟩; have n0_ := Am (Kd.R_elder' (by (with_reducible repeat (first | apply ra | apply rn | apply re)); exact (Kd.R_mono (Kd.R_far (p := ⟨gb156, 4, none⟩) (Kd.R_far (p := ⟨gb156, 3, none⟩) (Kd.R_far (p := ⟨gb156, 2, none⟩) (Kd.R_far (p := ⟨gb156, 1, none⟩) (Kd.R_far (p := ⟨gb156, 0, none⟩) (Kd.R_types HO140.out BK156.out (by decide)) (fun _ hk => hk.2) (.int .i64 t149)) (fun _ hk => hk.2) (.string t150)) (fun _ hk => hk.2) (.int .i64 t151)) (fun _ hk => hk.2) (.bool t152)) (fun _ hk => hk.2) (.slice Ao119 t153.length co119)) (fun _ h_ => h_.1))) (Kd.R_base ho0) hb); have n1_ := Am (Kd.R_elder' (by (with_reducible repeat (first | apply ra | apply rn | apply re)); exact (Kd.R_mono (Kd.R_far (p := ⟨gb156, 4, none⟩) (Kd.R_far (p := ⟨gb156, 3, none⟩) (Kd.R_far (p := ⟨gb156, 2, none⟩) (Kd.R_far (p := ⟨gb156, 1, none⟩) (Kd.R_far (p := ⟨gb156, 0, none⟩) (Kd.R_types HO147.out BK156.out (by decide)) (fun _ hk => hk.2) (.int .i64 t149)) (fun _ hk => hk.2) (.string t150)) (fun _ hk => hk.2) (.int .i64 t151)) (fun _ hk => hk.2) (.bool t152)) (fun _ hk => hk.2) (.slice Ao119 t153.length co119)) (fun _ h_ => h_.1))) (Kd.R_base ho0) hb); have n2_ := Am (Kd.R_elder' (by (with_reducible repeat (first | apply ra | apply rn | apply re)); exact (Kd.R_mono (Kd.R_far (p := ⟨gb156, 4, none⟩) (Kd.R_far (p := ⟨gb156, 3, none⟩) (Kd.R_far (p := ⟨gb156, 2, none⟩) (Kd.R_far (p := ⟨gb156, 1, none⟩) (Kd.R_far (p := ⟨gb156, 0, none⟩) (Kd.R_types HO155.out BK156.out (by decide)) (fun _ hk => hk.2) (.int .i64 t149)) (fun _ hk => hk.2) (.string t150)) (fun _ hk => hk.2) (.int .i64 t151)) (fun _ hk => hk.2) (.bool t152)) (fun _ hk => hk.2) (.slice Ao119 t153.length co119)) (fun _ h_ => h_.1))) (Kd.R_base ho0) hb); have n3_ := Am (Kd.R_lower (Kd.R_new' (Kd.R_new' (Kd.R_new' ho0 (Kd.R_lt (by (with_reducible repeat (first | apply ra | apply rn | apply re)); exact (Kd.R_mono (Kd.R_far (p := ⟨gb156, 4, none⟩) (Kd.R_far (p := ⟨gb156, 3, none⟩) (Kd.R_far (p := ⟨gb156, 2, none⟩) (Kd.R_far (p := ⟨gb156, 1, none⟩) (Kd.R_far (p := ⟨gb156, 0, none⟩) (Kd.R_types HO140.out BK156.out (by decide)) (fun _ hk => hk.2) (.int .i64 t149)) (fun _ hk => hk.2) (.string t150)) (fun _ hk => hk.2) (.int .i64 t151)) (fun _ hk => hk.2) (.bool t152)) (fun _ hk => hk.2) (.slice Ao119 t153.length co119)) (fun _ h_ => h_.1))))) (Kd.R_lt (by (with_reducible repeat (first | apply ra | apply rn | apply re)); exact (Kd.R_mono (Kd.R_far (p := ⟨gb156, 4, none⟩) (Kd.R_far (p := ⟨gb156, 3, none⟩) (Kd.R_far (p := ⟨gb156, 2, none⟩) (Kd.R_far (p := ⟨gb156, 1, none⟩) (Kd.R_far (p := ⟨gb156, 0, none⟩) (Kd.R_types HO147.out BK156.out (by decide)) (fun _ hk => hk.2) (.int .i64 t149)) (fun _ hk => hk.2) (.string t150)) (fun _ hk => hk.2) (.int .i64 t151)) (fun _ hk => hk.2) (.bool t152)) (fun _ hk => hk.2) (.slice Ao119 t153.length co119)) (fun _ h_ => h_.1))))) (Kd.R_lt (by (with_reducible repeat (first | apply ra | apply rn | apply re)); exact (Kd.R_mono (Kd.R_far (p := ⟨gb156, 4, none⟩) (Kd.R_far (p := ⟨gb156, 3, none⟩) (Kd.R_far (p := ⟨gb156, 2, none⟩) (Kd.R_far (p := ⟨gb156, 1, none⟩) (Kd.R_far (p := ⟨gb156, 0, none⟩) (Kd.R_types HO155.out BK156.out (by decide)) (fun _ hk => hk.2) (.int .i64 t149)) (fun _ hk => hk.2) (.string t150)) (fun _ hk => hk.2) (.int .i64 t151)) (fun _ hk => hk.2) (.bool t152)) (fun _ hk => hk.2) (.slice Ao119 t153.length co119)) (fun _ h_ => h_.1))))) (bz (by repeat (first | (with_reducible first | exact HB.out | apply ba | apply bn | apply be | refine bs ?_ GE130.out | refine bs ?_ GE131.out | refine bs ?_ GE156.out) | exact HB.out)))); have n4_ := Am (kb (g := gb130) (o := ob0 a0_0 a0_1 a0_2 a0_3 A0_4 l0_4.length c0_4) (by (with_reducible repeat (first | refine kn ?_ _ | refine ke ?_ | refine ka ?_ _)); refine blk_far ?_ NB130_156.out _; (with_reducible repeat (first | refine kn ?_ _ | refine ke ?_ | refine ka ?_ _)); refine blk_far ?_ NB130_156.out _; (with_reducible repeat (first | refine kn ?_ _ | refine ke ?_ | refine ka ?_ _)); refine blk_far ?_ NB130_156.out _; (with_reducible repeat (first | refine kn ?_ _ | refine ke ?_ | refine ka ?_ _)); refine blk_far ?_ NB130_156.out _; (with_reducible repeat (first | refine kn ?_ _ | refine ke ?_ | refine ka ?_ _)); refine blk_far ?_ NB130_156.out _; (with_reducible repeat (first | refine kn ?_ _ | refine ke ?_ | refine ka ?_ _)); exact BK130.out) hb); have n5_ := Am (kb (g := gb131) (o := ob1 a1_0 a1_1 a1_2 a1_3 A1_4 l1_4.length c1_4) (by (with_reducible repeat (first | refine kn ?_ _ | refine ke ?_ | refine ka ?_ _)); refine blk_far ?_ NB131_156.out _; (with_reducible repeat (first | refine kn ?_ _ | refine ke ?_ | refine ka ?_ _)); refine blk_far ?_ NB131_156.out _; (with_reducible repeat (first | refine kn ?_ _ | refine ke ?_ | refine ka ?_ _)); refine blk_far ?_ NB131_156.out _; (with_reducible repeat (first | refine kn ?_ _ | refine ke ?_ | refine ka ?_ _)); refine blk_far ?_ NB131_156.out _; (with_reducible repeat (first | refine kn ?_ _ | refine ke ?_ | refine ka ?_ _)); refine blk_far ?_ NB131_156.out _; (with_reducible repeat (first | refine kn ?_ _ | refine ke ?_ | refine ka ?_ _)); exact BK131.out) hb); have n6_ := Am (kb (g := gb156) (o := ob3 t149 t150 t151 t152 Ao119 t153.length co119) (by (with_reducible repeat (first | refine kn ?_ _ | refine ke ?_ | refine ka ?_ _)); refine kp (cs := #[.int .i64 t149, .string t150, .int .i64 t151, .bool t152, .slice none 0 0]) ?_ 4 _ rfl; (with_reducible repeat (first | refine kn ?_ _ | refine ke ?_ | refine ka ?_ _)); refine kp (cs := #[.int .i64 t149, .string t150, .int .i64 t151, .bool false, .slice none 0 0]) ?_ 3 _ rfl; (with_reducible repeat (first | refine kn ?_ _ | refine ke ?_ | refine ka ?_ _)); refine kp (cs := #[.int .i64 t149, .string t150, .int .i64 0, .bool false, .slice none 0 0]) ?_ 2 _ rfl; (with_reducible repeat (first | refine kn ?_ _ | refine ke ?_ | refine ka ?_ _)); refine kp (cs := #[.int .i64 t149, .string (⟨#[]⟩ : ByteArray), .int .i64 0, .bool false, .slice none 0 0]) ?_ 1 _ rfl; (with_reducible repeat (first | refine kn ?_ _ | refine ke ?_ | refine ka ?_ _)); refine kp (cs := #[.int .i64 0, .string (⟨#[]⟩ : ByteArray), .int .i64 0, .bool false, .slice none 0 0]) ?_ 0 _ rfl; (with_reducible repeat (first | refine kn ?_ _ | refine ke ?_ | refine ka ?_ _)); exact BK156.out) hb); have n7_ := Am (bt (by repeat (first | (with_reducible first | exact HB.out | apply ba | apply bn | apply be | refine bs ?_ GE130.out | refine bs ?_ GE131.out | refine bs ?_ GE156.out) | exact HB.out)) hb); clear HO140; clear HO147; clear HO155; clear BK130; clear BK131; clear BK156; clear HB; have HO140 := n0_; have HO147 := n1_; have HO155 := n2_; have HO163 := n3_; have BK130 := n4_; have BK131 := n5_; have BK156 := n6_; have HB := n7_; clear n0_ n1_ n2_ n3_ n4_ n5_ n6_ n7_; (try clear hb); (try clear hb2); (try clear hk); (try clear hi); (try clear ho0)) | ((with_reducible refine gate_dst (N := 8) rfl ?_); refine box_event ?hg (N := 8) ?hd (cs := #[.int .i64 0, .string (⟨#[]⟩ : ByteArray), .int .i64 0, .bool false, .slice none 0 0]) (t := 49) ?hr ?_; (case hd => rfl); (case hg => rfl); (case hr => first | (go_simp; done) | (go_simp; rfl)); intro gb164 hg w122 hbox hb; have n0_ := Am (rb (by (with_reducible repeat (first | apply ra | apply rn | apply re)); exact HO140.out) hb); have n1_ := Am (rb (by (with_reducible repeat (first | apply ra | apply rn | apply re)); exact HO147.out) hb); have n2_ := Am (rb (by (with_reducible repeat (first | apply ra | apply rn | apply re)); exact HO155.out) hb); have n3_ := Am (rb (by (with_reducible repeat (first | apply ra | apply rn | apply re)); exact HO163.out) hb); have n4_ := Am (kb (g := gb130) (o := ob0 a0_0 a0_1 a0_2 a0_3 A0_4 l0_4.length c0_4) (by (with_reducible repeat (first | refine kn ?_ _ | refine ke ?_ | refine ka ?_ _)); exact BK130.out) hb); have n5_ := Am (kb (g := gb131) (o := ob1 a1_0 a1_1 a1_2 a1_3 A1_4 l1_4.length c1_4) (by (with_reducible repeat (first | refine kn ?_ _ | refine ke ?_ | refine ka ?_ _)); exact BK131.out) hb); have n6_ := Am (kb (g := gb156) (o := ob3 t149 t150 t151 t152 Ao119 t153.length co119) (by (with_reducible repeat (first | refine kn ?_ _ | refine ke ?_ | refine ka ?_ _)); exact BK156.out) hb); have n7_ := Am (bt (by repeat (first | (with_reducible first | exact HB.out | apply ba | apply bn | apply be | refine bs ?_ GE130.out | refine bs ?_ GE131.out | refine bs ?_ GE156.out) | exact HB.out)) hb); have n8_ := Am (hbox); have n9_ := Am ((by rw [hg]; exact (bz (by repeat (first | (with_reducible first | exact HB.out | apply ba | apply bn | apply be | refine bs ?_ GE130.out | refine bs ?_ GE131.out | refine bs ?_ GE156.out) | exact HB.out))) : w.heap.size ≤ gb164)); have n10_ := Am ((by rw [hg]; exact (bz (by repeat (first | (with_reducible first | exact HB.out | apply ba | apply bn | apply be | refine bs ?_ GE130.out | refine bs ?_ GE131.out | refine bs ?_ GE156.out) | exact HB.out))) : w.heap.size ≤ gb164)); have n11_ := Am ((by rw [hg]; exact Nat.ne_of_lt (kl (g := gb130) (o := ob0 a0_0 a0_1 a0_2 a0_3 A0_4 l0_4.length c0_4) (by (with_reducible repeat (first | refine kn ?_ _ | refine ke ?_ | refine ka ?_ _)); exact BK130.out)) : gb130 ≠ gb164)); have n12_ := Am ((by rw [hg]; exact Nat.ne_of_gt (kl (g := gb130) (o := ob0 a0_0 a0_1 a0_2 a0_3 A0_4 l0_4.length c0_4) (by (with_reducible repeat (first | refine kn ?_ _ | refine ke ?_ | refine ka ?_ _)); exact BK130.out)) : gb164 ≠ gb130)); have n13_ := Am ((by rw [hg]; exact Nat.ne_of_lt (kl (g := gb131) (o := ob1 a1_0 a1_1 a1_2 a1_3 A1_4 l1_4.length c1_4) (by (with_reducible repeat (first | refine kn ?_ _ | refine ke ?_ | refine ka ?_ _)); exact BK131.out)) : gb131 ≠ gb164)); have n14_ := Am ((by rw [hg]; exact Nat.ne_of_gt (kl (g := gb131) (o := ob1 a1_0 a1_1 a1_2 a1_3 A1_4 l1_4.length c1_4) (by (with_reducible repeat (first | refine kn ?_ _ | refine ke ?_ | refine ka ?_ _)); exact BK131.out)) : gb164 ≠ gb131)); have n15_ := Am ((by rw [hg]; exact Nat.ne_of_lt (kl (g := gb156) (o := ob3 t149 t150 t151 t152 Ao119 t153.length co119) (by (with_reducible repeat (first | refine kn ?_ _ | refine ke ?_ | refine ka ?_ _)); exact BK156.out)) : gb156 ≠ gb164)); have n16_ := Am ((by rw [hg]; exact Nat.ne_of_gt (kl (g := gb156) (o := ob3 t149 t150 t151 t152 Ao119 t153.length co119) (by (with_reducible repeat (first | refine kn ?_ _ | refine ke ?_ | refine ka ?_ _)); exact BK156.out)) : gb164 ≠ gb156)); clear HO140; clear HO147; clear HO155; clear HO163; clear BK130; clear BK131; clear BK156; clear HB; have HO140 := n0_; have HO147 := n1_; have HO155 := n2_; have HO163 := n3_; have BK130 := n4_; have BK131 := n5_; have BK156 := n6_; have HB := n7_; have BK164 := n8_; have GW164 := n9_; have GE164 := n10_; have NB130_164 := n11_; have NB164_130 := n12_; have NB131_164 := n13_; have NB164_131 := n14_; have NB156_164 := n15_; have NB164_156 := n16_; clear n0_ n1_ n2_ n3_ n4_ n5_ n6_ n7_ n8_ n9_ n10_ n11_ n12_ n13_ n14_ n15_ n16_; clear hb hbox hg; have hnb123 := NB164_130.out; have hnc123 := NB130_164.out; have hnb124 := NB164_131.out; have hnc124 := NB131_164.out; have hnb125 := NB164_156.out; have hnc125 := NB156_164.out; have hcz126_0 : w122.cell? ⟨gb164, 0, none⟩ = some (.int .i64 0) := (kc BK164.out 0).trans rfl; have hcz126_1 : w122.cell? ⟨gb164, 1, none⟩ = some (.string (⟨#[]⟩ : ByteArray)) := (kc BK164.out 1).trans rfl; have hcz126_2 : w122.cell? ⟨gb164, 2, none⟩ = some (.int .i64 0) := (kc BK164.out 2).trans rfl; have hcz126_3 : w122.cell? ⟨gb164, 3, none⟩ = some (.bool false) := (kc BK164.out 3).trans rfl; have hcz126_4 : w122.cell? ⟨gb164, 4, none⟩ = some (.slice none 0 0) := (kc BK164.out 4).trans rfl; have hfz126_0 := kf BK164.out 0; have hfz126_1 := kf BK164.out 1; have hfz126_2 := kf BK164.out 2; have hfz126_3 := kf BK164.out 3; have hfz126_4 := kf BK164.out 4; obtain ⟨Ao127, co127, eo127⟩ := Kd.R_slice HO163.out; subst eo127; have hcz128_0 : w122.cell? ⟨gb156, 0, none⟩ = some (.int .i64 t149) := (kc BK156.out 0).trans rfl; have hcz128_1 : w122.cell? ⟨gb156, 1, none⟩ = some (.string t150) := (kc BK156.out 1).trans rfl; have hcz128_2 : w122.cell? ⟨gb156, 2, none⟩ = some (.int .i64 t151) := (kc BK156.out 2).trans rfl; have hcz128_3 : w122.cell? ⟨gb156, 3, none⟩ = some (.bool t152) := (kc BK156.out 3).trans rfl; have hcz128_4 : w122.cell? ⟨gb156, 4, none⟩ = some (.slice Ao119 t153.length co119) := (kc BK156.out 4).trans rfl; have hfz128_0 := kf BK156.out 0; have hfz128_1 := kf BK156.out 1; have hfz128_2 := kf BK156.out 2; have hfz128_3 := kf BK156.out 3; have hfz128_4 := kf BK156.out 4) | ((with_reducible refine gate_callee (f := 31) rfl ?_); refine goesL_ (some 31) rfl rfl Try.func31 (by kernel_rfl) rfl #[.agg #[.int .i64 t149, .string t150, .int .i64 t151, .bool t152, .slice Ao119 t153.length co119], .agg #[.int .i64 t157, .string t158, .int .i64 t159, .bool t160, .slice Ao127 t161.length co127]] rfl (by (try simp only [List.map_toArray, List.map_cons, List.map_nil]); first | done | rfl | (simp only [List.length_drop, List.length_take]; rfl)) ?_; (with_reducible refine (impl_SameResult.calls k t149 t150 t151 t152 _ _ t153 t157 t158 t159 t160 _ _ t161 t165 _ ?side1 ?side2 ?side3 ?side4 A24.out).mono ?_); (case side1 => refine (Kd.R_reads' (e := 9) (base := w.heap.size) (ok := fun k_ => (((True ∧ some k_ ≠ (.slice Ao110 t138.length co110 : Value).ownBlock) ∧ some k_ ≠ (.slice Ao111 t145.length co111 : Value).ownBlock) ∧ some k_ ≠ (.slice Ao127 t161.length co127 : Value).ownBlock)) (n := t153.length) (c := co119) ?_).2.2; exact (by (with_reducible repeat (first | apply ra | apply rn | apply re)); exact (Kd.R_mono (Kd.R_far (p := ⟨gb164, 4, none⟩) (Kd.R_far (p := ⟨gb164, 3, none⟩) (Kd.R_far (p := ⟨gb164, 2, none⟩) (Kd.R_far (p := ⟨gb164, 1, none⟩) (Kd.R_far (p := ⟨gb164, 0, none⟩) (Kd.R_types HO155.out BK164.out (by decide)) (fun _ hk => hk.2) (.int .i64 t157)) (fun _ hk => hk.2) (.string t158)) (fun _ hk => hk.2) (.int .i64 t159)) (fun _ hk => hk.2) (.bool t160)) (fun _ hk => hk.2) (.slice Ao127 t161.length co127)) (fun _ h_ => h_.1)))); (case side2 => exact (Kd.R_reads' HO155.out).2.1); (case side3 => refine (Kd.R_reads' (e := 9) (base := w.heap.size) (ok := fun k_ => (((True ∧ some k_ ≠ (.slice Ao110 t138.length co110 : Value).ownBlock) ∧ some k_ ≠ (.slice Ao111 t145.length co111 : Value).ownBlock) ∧ some k_ ≠ (.slice Ao119 t153.length co119 : Value).ownBlock)) (n := t161.length) (c := co127) ?_).2.2; exact (by (with_reducible repeat (first | apply ra | apply rn | apply re)); exact (Kd.R_mono (Kd.R_far (p := ⟨gb164, 4, none⟩) (Kd.R_far (p := ⟨gb164, 3, none⟩) (Kd.R_far (p := ⟨gb164, 2, none⟩) (Kd.R_far (p := ⟨gb164, 1, none⟩) (Kd.R_far (p := ⟨gb164, 0, none⟩) (Kd.R_types HO163.out BK164.out (by decide)) (fun _ hk => hk.2) (.int .i64 t157)) (fun _ hk => hk.2) (.string t158)) (fun _ hk => hk.2) (.int .i64 t159)) (fun _ hk => hk.2) (.bool t160)) (fun _ hk => hk.2) (.slice Ao127 t161.length co127)) (fun _ h_ => h_.1)))); (case side4 => exact (Kd.R_reads' HO163.out).2.1); rintro e w129 ⟨rfl, hb⟩; refine ⟨_, rfl, ?_⟩; have n0_ := Am (rb (by (with_reducible repeat (first | apply ra | apply rn | apply re)); exact (Kd.R_mono (Kd.R_far (p := ⟨gb164, 4, none⟩) (Kd.R_far (p := ⟨gb164, 3, none⟩) (Kd.R_far (p := ⟨gb164, 2, none⟩) (Kd.R_far (p := ⟨gb164, 1, none⟩) (Kd.R_far (p := ⟨gb164, 0, none⟩) (Kd.R_types HO140.out BK164.out (by decide)) (fun _ hk => hk.2) (.int .i64 t157)) (fun _ hk => hk.2) (.string t158)) (fun _ hk => hk.2) (.int .i64 t159)) (fun _ hk => hk.2) (.bool t160)) (fun _ hk => hk.2) (.slice Ao127 t161.length co127)) (fun _ h_ => h_.1))) hb); have n1_ := Am (rb (by (with_reducible repeat (first | apply ra | apply rn | apply re)); exact (Kd.R_mono (Kd.R_far (p := ⟨gb164, 4, none⟩) (Kd.R_far (p := ⟨gb164, 3, none⟩) (Kd.R_far (p := ⟨gb164, 2, none⟩) (Kd.R_far (p := ⟨gb164, 1, none⟩) (Kd.R_far (p := ⟨gb164, 0, none⟩) (Kd.R_types HO147.out BK164.out (by decide)) (fun _ hk => hk.2) (.int .i64 t157)) (fun _ hk => hk.2) (.string t158)) (fun _ hk => hk.2) (.int .i64 t159)) (fun _ hk => hk.2) (.bool t160)) (fun _ hk => hk.2) (.slice Ao127 t161.length co127)) (fun _ h_ => h_.1))) hb); have n2_ := Am (rb (by (with_reducible repeat (first | apply ra | apply rn | apply re)); exact (Kd.R_mono (Kd.R_far (p := ⟨gb164, 4, none⟩) (Kd.R_far (p := ⟨gb164, 3, none⟩) (Kd.R_far (p := ⟨gb164, 2, none⟩) (Kd.R_far (p := ⟨gb164, 1, none⟩) (Kd.R_far (p := ⟨gb164, 0, none⟩) (Kd.R_types HO155.out BK164.out (by decide)) (fun _ hk => hk.2) (.int .i64 t157)) (fun _ hk => hk.2) (.string t158)) (fun _ hk => hk.2) (.int .i64 t159)) (fun _ hk => hk.2) (.bool t160)) (fun _ hk => hk.2) (.slice Ao127 t161.length co127)) (fun _ h_ => h_.1))) hb); have n3_ := Am (rb (by (with_reducible repeat (first | apply ra | apply rn | apply re)); exact (Kd.R_mono (Kd.R_far (p := ⟨gb164, 4, none⟩) (Kd.R_far (p := ⟨gb164, 3, none⟩) (Kd.R_far (p := ⟨gb164, 2, none⟩) (Kd.R_far (p := ⟨gb164, 1, none⟩) (Kd.R_far (p := ⟨gb164, 0, none⟩) (Kd.R_types HO163.out BK164.out (by decide)) (fun _ hk => hk.2) (.int .i64 t157)) (fun _ hk => hk.2) (.string t158)) (fun _ hk => hk.2) (.int .i64 t159)) (fun _ hk => hk.2) (.bool t160)) (fun _ hk => hk.2) (.slice Ao127 t161.length co127)) (fun _ h_ => h_.1))) hb); have n4_ := Am (kb (g := gb130) (o := ob0 a0_0 a0_1 a0_2 a0_3 A0_4 l0_4.length c0_4) (by (with_reducible repeat (first | refine kn ?_ _ | refine ke ?_ | refine ka ?_ _)); refine blk_far ?_ NB130_164.out _; (with_reducible repeat (first | refine kn ?_ _ | refine ke ?_ | refine ka ?_ _)); refine blk_far ?_ NB130_164.out _; (with_reducible repeat (first | refine kn ?_ _ | refine ke ?_ | refine ka ?_ _)); refine blk_far ?_ NB130_164.out _; (with_reducible repeat (first | refine kn ?_ _ | refine ke ?_ | refine ka ?_ _)); refine blk_far ?_ NB130_164.out _; (with_reducible repeat (first | refine kn ?_ _ | refine ke ?_ | refine ka ?_ _)); refine blk_far ?_ NB130_164.out _; (with_reducible repeat (first | refine kn ?_ _ | refine ke ?_ | refine ka ?_ _)); exact BK130.out) hb); have n5_ := Am (kb (g := gb131) (o := ob1 a1_0 a1_1 a1_2 a1_3 A1_4 l1_4.length c1_4) (by (with_reducible repeat (first | refine kn ?_ _ | refine ke ?_ | refine ka ?_ _)); refine blk_far ?_ NB131_164.out _; (with_reducible repeat (first | refine kn ?_ _ | refine ke ?_ | refine ka ?_ _)); refine blk_far ?_ NB131_164.out _; (with_reducible repeat (first | refine kn ?_ _ | refine ke ?_ | refine ka ?_ _)); refine blk_far ?_ NB131_164.out _; (with_reducible repeat (first | refine kn ?_ _ | refine ke ?_ | refine ka ?_ _)); refine blk_far ?_ NB131_164.out _; (with_reducible repeat (first | refine kn ?_ _ | refine ke ?_ | refine ka ?_ _)); refine blk_far ?_ NB131_164.out _; (with_reducible repeat (first | refine kn ?_ _ | refine ke ?_ | refine ka ?_ _)); exact BK131.out) hb); have n6_ := Am (kb (g := gb156) (o := ob3 t149 t150 t151 t152 Ao119 t153.length co119) (by (with_reducible repeat (first | refine kn ?_ _ | refine ke ?_ | refine ka ?_ _)); refine blk_far ?_ NB156_164.out _; (with_reducible repeat (first | refine kn ?_ _ | refine ke ?_ | refine ka ?_ _)); refine blk_far ?_ NB156_164.out _; (with_reducible repeat (first | refine kn ?_ _ | refine ke ?_ | refine ka ?_ _)); refine blk_far ?_ NB156_164.out _; (with_reducible repeat (first | refine kn ?_ _ | refine ke ?_ | refine ka ?_ _)); refine blk_far ?_ NB156_164.out _; (with_reducible repeat (first | refine kn ?_ _ | refine ke ?_ | refine ka ?_ _)); refine blk_far ?_ NB156_164.out _; (with_reducible repeat (first | refine kn ?_ _ | refine ke ?_ | refine ka ?_ _)); exact BK156.out) hb); have n7_ := Am (kb (g := gb164) (o := ob7 t157 t158 t159 t160 Ao127 t161.length co127) (by (with_reducible repeat (first | refine kn ?_ _ | refine ke ?_ | refine ka ?_ _)); refine kp (cs := #[.int .i64 t157, .string t158, .int .i64 t159, .bool t160, .slice none 0 0]) ?_ 4 _ rfl; (with_reducible repeat (first | refine kn ?_ _ | refine ke ?_ | refine ka ?_ _)); refine kp (cs := #[.int .i64 t157, .string t158, .int .i64 t159, .bool false, .slice none 0 0]) ?_ 3 _ rfl; (with_reducible repeat (first | refine kn ?_ _ | refine ke ?_ | refine ka ?_ _)); refine kp (cs := #[.int .i64 t157, .string t158, .int .i64 0, .bool false, .slice none 0 0]) ?_ 2 _ rfl; (with_reducible repeat (first | refine kn ?_ _ | refine ke ?_ | refine ka ?_ _)); refine kp (cs := #[.int .i64 t157, .string (⟨#[]⟩ : ByteArray), .int .i64 0, .bool false, .slice none 0 0]) ?_ 1 _ rfl; (with_reducible repeat (first | refine kn ?_ _ | refine ke ?_ | refine ka ?_ _)); refine kp (cs := #[.int .i64 0, .string (⟨#[]⟩ : ByteArray), .int .i64 0, .bool false, .slice none 0 0]) ?_ 0 _ rfl; (with_reducible repeat (first | refine kn ?_ _ | refine ke ?_ | refine ka ?_ _)); exact BK164.out) hb); have n8_ := Am (bt (by repeat (first | (with_reducible first | exact HB.out | apply ba | apply bn | apply be | refine bs ?_ GE130.out | refine bs ?_ GE131.out | refine bs ?_ GE156.out | refine bs ?_ GE164.out) | exact HB.out)) hb); clear HO140; clear HO147; clear HO155; clear HO163; clear BK130; clear BK131; clear BK156; clear BK164; clear HB; have HO140 := n0_; have HO147 := n1_; have HO155 := n2_; have HO163 := n3_; have BK130 := n4_; have BK131 := n5_; have BK156 := n6_; have BK164 := n7_; have HB := n8_; clear n0_ n1_ n2_ n3_ n4_ n5_ n6_ n7_ n8_; (try clear hb); (try clear hb2); (try clear hk); (try clear hi)))
      have n0_ := Am (re HO140.out)
      have n1_ := Am (re HO147.out)
      have n2_ := Am (re HO155.out)
      have n3_ := Am (re HO163.out)
      have n4_ := Am (ke BK130.out)
      have n5_ := Am (ke BK131.out)
      have n6_ := Am (ke BK156.out)
      have n7_ := Am (ke BK164.out)
      have n8_ := Am (be HB.out)
      clear HO140
      clear HO147
      clear HO155
      clear HO163
      clear BK130
      clear BK131
      clear BK156
      clear BK164
      clear HB
      have HO140 := n0_
      have HO147 := n1_
      have HO155 := n2_
      have HO163 := n3_
      have BK130 := n4_
      have BK131 := n5_
      have BK156 := n6_
      have BK164 := n7_
      have HB := n8_
      clear n0_ n1_ n2_ n3_ n4_ n5_ n6_ n7_ n8_
      refine start_ (n := 5) (S := fun w' => w'.cell? ⟨gb156, 0, none⟩ = some (.int .i64 t149) ∧ w'.cell? ⟨gb156, 1, none⟩ = some (.string t150) ∧ w'.cell? ⟨gb156, 2, none⟩ = some (.int .i64 t151) ∧ w'.cell? ⟨gb156, 3, none⟩ = some (.bool t152) ∧ w'.cell? ⟨gb156, 4, none⟩ = some (.slice Ao119 t153.length co119) ∧ w'.cell? ⟨gb130, 0, none⟩ = some (.int .i64 a0_0) ∧ w'.cell? ⟨gb130, 1, none⟩ = some (.string a0_1) ∧ w'.cell? ⟨gb130, 2, none⟩ = some (.int .i64 a0_2) ∧ w'.cell? ⟨gb130, 3, none⟩ = some (.bool a0_3) ∧ w'.cell? ⟨gb130, 4, none⟩ = some (.slice A0_4 l0_4.length c0_4)) (ds := []) #[false, false, false, false, false] (by kernel_rfl) rfl rfl ⟨(kc BK156.out 0).trans rfl, (kc BK156.out 1).trans rfl, (kc BK156.out 2).trans rfl, (kc BK156.out 3).trans rfl, (kc BK156.out 4).trans rfl, (kc BK130.out 0).trans rfl, (kc BK130.out 1).trans rfl, (kc BK130.out 2).trans rfl, (kc BK130.out 3).trans rfl, (kc BK130.out 4).trans rfl⟩ (fun hHeld => ?_)
      generalize w129.drew = w130 at HO140 HO147 HO155 HO163 BK130 BK131 BK156 BK164 HB hHeld ⊢
      refine take_ (i := 0) (N := some 35) (v := ?_) (a' := ?_) #[true, false, false, false, false] rfl rfl (by kernel_rfl) (fun _ _ _ h => h) (Or.inl ⟨by rfl, ?_⟩) hHeld ?_ ?_
      rotate_left
      ·rintro w' ⟨s0, s1, s2, s3, s4, s5, s6, s7, s8, s9⟩
       go_simp
       with_reducible rfl
      rotate_left
      ·simp only [Act.put, List.setIfInBounds_toArray, List.set_cons_zero, List.set_cons_succ, i64_w, i32_w]
       rfl
      refine take_ (i := 1) (N := some 36) (v := ?_) (a' := ?_) #[true, true, false, false, false] rfl rfl (by kernel_rfl) (fun _ _ _ h => h) (Or.inl ⟨by rfl, ?_⟩) hHeld ?_ ?_
      rotate_left
      ·rintro w' ⟨s0, s1, s2, s3, s4, s5, s6, s7, s8, s9⟩
       go_simp
       with_reducible rfl
      rotate_left
      ·simp only [Act.put, List.setIfInBounds_toArray, List.set_cons_zero, List.set_cons_succ, i64_w, i32_w]
       rfl
      refine one_ (i := 2) (N := some 37) #[true, true, true, false, false] rfl rfl (by kernel_rfl) (by decide) (fun K hK => ?_)
      refine goes_ Try.func30 (by kernel_rfl) rfl #[.agg #[.int .i64 a0_0, .string a0_1, .int .i64 a0_2, .bool a0_3, .slice A0_4 l0_4.length c0_4]] (by rfl) rfl rfl (by (try simp only [List.map_toArray, List.map_cons, List.map_nil]); first | done | rfl | (simp only [List.length_drop, List.length_take]; rfl)) ?_
      with_reducible refine (laws_toResult.calls k a0_0 a0_1 a0_2 a0_3 _ _ l0_4 t166 t167 t168 t169 t170 _ ?side1 ?side2 A56.out).mono ?_
      (case side1 => repeat (first | exact (cb HR0_4.out HB.out) | (with_reducible refine ca ?_ _) | (with_reducible refine cn ?_ _) | (with_reducible refine ce ?_)))
      (case side2 => exact HC0_4.out)
      rintro e w131 ⟨v171, rfl, ho0, hb⟩
      refine ⟨_, rfl, ?_⟩
      have n0_ := Am (Kd.R_elder' (by (with_reducible repeat (first | apply ra | apply rn | apply re)); exact HO140.out) (Kd.R_base ho0) hb)
      have n1_ := Am (Kd.R_elder' (by (with_reducible repeat (first | apply ra | apply rn | apply re)); exact HO147.out) (Kd.R_base ho0) hb)
      have n2_ := Am (Kd.R_elder' (by (with_reducible repeat (first | apply ra | apply rn | apply re)); exact HO155.out) (Kd.R_base ho0) hb)
      have n3_ := Am (Kd.R_elder' (by (with_reducible repeat (first | apply ra | apply rn | apply re)); exact HO163.out) (Kd.R_base ho0) hb)
      have n4_ := Am (Kd.R_lower (Kd.R_new' (Kd.R_new' (Kd.R_new' (Kd.R_new' ho0 (Kd.R_lt (by (with_reducible repeat (first | apply ra | apply rn | apply re)); exact HO140.out))) (Kd.R_lt (by (with_reducible repeat (first | apply ra | apply rn | apply re)); exact HO147.out))) (Kd.R_lt (by (with_reducible repeat (first | apply ra | apply rn | apply re)); exact HO155.out))) (Kd.R_lt (by (with_reducible repeat (first | apply ra | apply rn | apply re)); exact HO163.out))) (bz (by repeat (first | (with_reducible first | exact HB.out | apply ba | apply bn | apply be | refine bs ?_ GE130.out | refine bs ?_ GE131.out | refine bs ?_ GE156.out | refine bs ?_ GE164.out) | exact HB.out))))
      have n5_ := Am (kb (g := gb130) (o := ob0 a0_0 a0_1 a0_2 a0_3 A0_4 l0_4.length c0_4) (by (with_reducible repeat (first | refine kn ?_ _ | refine ke ?_ | refine ka ?_ _)); exact BK130.out) hb)
      have n6_ := Am (kb (g := gb131) (o := ob1 a1_0 a1_1 a1_2 a1_3 A1_4 l1_4.length c1_4) (by (with_reducible repeat (first | refine kn ?_ _ | refine ke ?_ | refine ka ?_ _)); exact BK131.out) hb)
      have n7_ := Am (kb (g := gb156) (o := ob3 t149 t150 t151 t152 Ao119 t153.length co119) (by (with_reducible repeat (first | refine kn ?_ _ | refine ke ?_ | refine ka ?_ _)); exact BK156.out) hb)
      have n8_ := Am (kb (g := gb164) (o := ob7 t157 t158 t159 t160 Ao127 t161.length co127) (by (with_reducible repeat (first | refine kn ?_ _ | refine ke ?_ | refine ka ?_ _)); exact BK164.out) hb)
      have n9_ := Am (bt (by repeat (first | (with_reducible first | exact HB.out | apply ba | apply bn | apply be | refine bs ?_ GE130.out | refine bs ?_ GE131.out | refine bs ?_ GE156.out | refine bs ?_ GE164.out) | exact HB.out)) hb)
      clear HO140
      clear HO147
      clear HO155
      clear HO163
      clear BK130
      clear BK131
      clear BK156
      clear BK164
      clear HB
      have HO140 := n0_
      have HO147 := n1_
      have HO155 := n2_
      have HO163 := n3_
      have HO172 := n4_
      have BK130 := n5_
      have BK131 := n6_
      have BK156 := n7_
      have BK164 := n8_
      have HB := n9_
      clear n0_ n1_ n2_ n3_ n4_ n5_ n6_ n7_ n8_ n9_
      (try clear hb)
      (try clear hb2)
      (try clear hk)
      (try clear hi)
      (try clear ho0)
      obtain ⟨Ao132, co132, eo132⟩ := Kd.R_slice HO172.out
      (first | subst eo132 | (injection eo132 with f1_ f2_ f3_; have f4_ := f1_.symm; have f5_ := f3_.symm; clear f1_ f2_ f3_; subst f4_; subst f5_))
      refine hK.out _ _ ⟨(kc BK156.out 0).trans rfl, (kc BK156.out 1).trans rfl, (kc BK156.out 2).trans rfl, (kc BK156.out 3).trans rfl, (kc BK156.out 4).trans rfl, (kc BK130.out 0).trans rfl, (kc BK130.out 1).trans rfl, (kc BK130.out 2).trans rfl, (kc BK130.out 3).trans rfl, (kc BK130.out 4).trans rfl⟩ (fun hHeld => ?_)
      clear hK K
      refine norm_ (a' := ?_) ?_ ?_
      rotate_left
      ·show Act.put _ (some 37) _ = _
       simp only [Act.put, List.setIfInBounds_toArray, List.set_cons_zero, List.set_cons_succ, i64_w, i32_w]
       rfl
      refine one_ (i := 3) (N := some 38) #[true, true, true, true, false] rfl rfl (by kernel_rfl) (by decide) (fun K hK => ?_)
      refine goes_ Try.func32 (by kernel_rfl) rfl #[.agg #[.int .i64 t149, .string t150, .int .i64 t151, .bool t152, .slice Ao119 t153.length co119], .agg #[.int .i64 t166, .string t167, .int .i64 t168, .bool t169, .slice Ao132 t170.length co132]] (by rfl) rfl rfl (by (try simp only [List.map_toArray, List.map_cons, List.map_nil]); first | done | rfl | (simp only [List.length_drop, List.length_take]; rfl)) ?_
      with_reducible refine (laws_eqResult.calls k t149 t150 t151 t152 _ _ t153 t166 t167 t168 t169 _ _ t170 true _ ?side1 ?side2 ?side3 ?side4 A57.out).mono ?_
      (case side1 => repeat (first | exact (Kd.R_reads' HO155.out).2.2 | (with_reducible refine ca ?_ _) | (with_reducible refine cn ?_ _) | (with_reducible refine ce ?_)))
      (case side2 => exact (Kd.R_reads' HO155.out).2.1)
      (case side3 => repeat (first | exact (Kd.R_reads' HO172.out).2.2 | (with_reducible refine ca ?_ _) | (with_reducible refine cn ?_ _) | (with_reducible refine ce ?_)))
      (case side4 => exact (Kd.R_reads' HO172.out).2.1)
      rintro e w133 ⟨rfl, hb⟩
      refine ⟨_, rfl, ?_⟩
      have n0_ := Am (rb (by (with_reducible repeat (first | apply ra | apply rn | apply re)); exact HO140.out) hb)
      have n1_ := Am (rb (by (with_reducible repeat (first | apply ra | apply rn | apply re)); exact HO147.out) hb)
      have n2_ := Am (rb (by (with_reducible repeat (first | apply ra | apply rn | apply re)); exact HO155.out) hb)
      have n3_ := Am (rb (by (with_reducible repeat (first | apply ra | apply rn | apply re)); exact HO163.out) hb)
      have n4_ := Am (rb (by (with_reducible repeat (first | apply ra | apply rn | apply re)); exact HO172.out) hb)
      have n5_ := Am (kb (g := gb130) (o := ob0 a0_0 a0_1 a0_2 a0_3 A0_4 l0_4.length c0_4) (by (with_reducible repeat (first | refine kn ?_ _ | refine ke ?_ | refine ka ?_ _)); exact BK130.out) hb)
      have n6_ := Am (kb (g := gb131) (o := ob1 a1_0 a1_1 a1_2 a1_3 A1_4 l1_4.length c1_4) (by (with_reducible repeat (first | refine kn ?_ _ | refine ke ?_ | refine ka ?_ _)); exact BK131.out) hb)
      have n7_ := Am (kb (g := gb156) (o := ob3 t149 t150 t151 t152 Ao119 t153.length co119) (by (with_reducible repeat (first | refine kn ?_ _ | refine ke ?_ | refine ka ?_ _)); exact BK156.out) hb)
      have n8_ := Am (kb (g := gb164) (o := ob7 t157 t158 t159 t160 Ao127 t161.length co127) (by (with_reducible repeat (first | refine kn ?_ _ | refine ke ?_ | refine ka ?_ _)); exact BK164.out) hb)
      have n9_ := Am (bt (by repeat (first | (with_reducible first | exact HB.out | apply ba | apply bn | apply be | refine bs ?_ GE130.out | refine bs ?_ GE131.out | refine bs ?_ GE156.out | refine bs ?_ GE164.out) | exact HB.out)) hb)
      clear HO140
      clear HO147
      clear HO155
      clear HO163
      clear HO172
      clear BK130
      clear BK131
      clear BK156
      clear BK164
      clear HB
      have HO140 := n0_
      have HO147 := n1_
      have HO155 := n2_
      have HO163 := n3_
      have HO172 := n4_
      have BK130 := n5_
      have BK131 := n6_
      have BK156 := n7_
      have BK164 := n8_
      have HB := n9_
      clear n0_ n1_ n2_ n3_ n4_ n5_ n6_ n7_ n8_ n9_
      (try clear hb)
      (try clear hb2)
      (try clear hk)
      (try clear hi)
      refine hK.out _ _ ⟨(kc BK156.out 0).trans rfl, (kc BK156.out 1).trans rfl, (kc BK156.out 2).trans rfl, (kc BK156.out 3).trans rfl, (kc BK156.out 4).trans rfl, (kc BK130.out 0).trans rfl, (kc BK130.out 1).trans rfl, (kc BK130.out 2).trans rfl, (kc BK130.out 3).trans rfl, (kc BK130.out 4).trans rfl⟩ (fun hHeld => ?_)
      clear hK K
      refine norm_ (a' := ?_) ?_ ?_
      rotate_left
      ·show Act.put _ (some 38) _ = _
       simp only [Act.put, List.setIfInBounds_toArray, List.set_cons_zero, List.set_cons_succ, i64_w, i32_w]
       rfl
      refine pure_ (i := 4) (N := some 39) (v := ?_) (a' := ?_) #[true, true, true, true, true] rfl rfl (by kernel_rfl) (fun _ _ _ h => h) (Or.inl ⟨by rfl, ?_⟩) ?_ ?_
      rotate_left
      ·intro w'
       go_simp
       with_reducible rfl
      rotate_left
      ·simp only [Act.put, List.setIfInBounds_toArray, List.set_cons_zero, List.set_cons_succ, i64_w, i32_w]
       rfl
      refine done_ (by kernel_rfl) ?_
      try go_wp2
      have n0_ := Am (re HO140.out)
      have n1_ := Am (re HO147.out)
      have n2_ := Am (re HO155.out)
      have n3_ := Am (re HO163.out)
      have n4_ := Am (re HO172.out)
      have n5_ := Am (ke BK130.out)
      have n6_ := Am (ke BK131.out)
      have n7_ := Am (ke BK156.out)
      have n8_ := Am (ke BK164.out)
      have n9_ := Am (be HB.out)
      clear HO140
      clear HO147
      clear HO155
      clear HO163
      clear HO172
      clear BK130
      clear BK131
      clear BK156
      clear BK164
      clear HB
      have HO140 := n0_
      have HO147 := n1_
      have HO155 := n2_
      have HO163 := n3_
      have HO172 := n4_
      have BK130 := n5_
      have BK131 := n6_
      have BK156 := n7_
      have BK164 := n8_
      have HB := n9_
      clear n0_ n1_ n2_ n3_ n4_ n5_ n6_ n7_ n8_ n9_
      refine start_ (n := 5) (S := fun w' => w'.cell? ⟨gb164, 0, none⟩ = some (.int .i64 t157) ∧ w'.cell? ⟨gb164, 1, none⟩ = some (.string t158) ∧ w'.cell? ⟨gb164, 2, none⟩ = some (.int .i64 t159) ∧ w'.cell? ⟨gb164, 3, none⟩ = some (.bool t160) ∧ w'.cell? ⟨gb164, 4, none⟩ = some (.slice Ao127 t161.length co127) ∧ w'.cell? ⟨gb131, 0, none⟩ = some (.int .i64 a1_0) ∧ w'.cell? ⟨gb131, 1, none⟩ = some (.string a1_1) ∧ w'.cell? ⟨gb131, 2, none⟩ = some (.int .i64 a1_2) ∧ w'.cell? ⟨gb131, 3, none⟩ = some (.bool a1_3) ∧ w'.cell? ⟨gb131, 4, none⟩ = some (.slice A1_4 l1_4.length c1_4)) (ds := []) #[false, false, false, false, false] (by kernel_rfl) rfl rfl ⟨(kc BK164.out 0).trans rfl, (kc BK164.out 1).trans rfl, (kc BK164.out 2).trans rfl, (kc BK164.out 3).trans rfl, (kc BK164.out 4).trans rfl, (kc BK131.out 0).trans rfl, (kc BK131.out 1).trans rfl, (kc BK131.out 2).trans rfl, (kc BK131.out 3).trans rfl, (kc BK131.out 4).trans rfl⟩ (fun hHeld => ?_)
      generalize w133.drew = w134 at HO140 HO147 HO155 HO163 HO172 BK130 BK131 BK156 BK164 HB hHeld ⊢
      refine take_ (i := 0) (N := some 40) (v := ?_) (a' := ?_) #[true, false, false, false, false] rfl rfl (by kernel_rfl) (fun _ _ _ h => h) (Or.inl ⟨by rfl, ?_⟩) hHeld ?_ ?_
      rotate_left
      ·rintro w' ⟨s0, s1, s2, s3, s4, s5, s6, s7, s8, s9⟩
       go_simp
       with_reducible rfl
      rotate_left
      ·simp only [Act.put, List.setIfInBounds_toArray, List.set_cons_zero, List.set_cons_succ, i64_w, i32_w]
       rfl
      refine take_ (i := 1) (N := some 41) (v := ?_) (a' := ?_) #[true, true, false, false, false] rfl rfl (by kernel_rfl) (fun _ _ _ h => h) (Or.inl ⟨by rfl, ?_⟩) hHeld ?_ ?_
      rotate_left
      ·rintro w' ⟨s0, s1, s2, s3, s4, s5, s6, s7, s8, s9⟩
       go_simp
       with_reducible rfl
      rotate_left
      ·simp only [Act.put, List.setIfInBounds_toArray, List.set_cons_zero, List.set_cons_succ, i64_w, i32_w]
       rfl
      refine one_ (i := 2) (N := some 42) #[true, true, true, false, false] rfl rfl (by kernel_rfl) (by decide) (fun K hK => ?_)
      refine goes_ Try.func30 (by kernel_rfl) rfl #[.agg #[.int .i64 a1_0, .string a1_1, .int .i64 a1_2, .bool a1_3, .slice A1_4 l1_4.length c1_4]] (by rfl) rfl rfl (by (try simp only [List.map_toArray, List.map_cons, List.map_nil]); first | done | rfl | (simp only [List.length_drop, List.length_take]; rfl)) ?_
      with_reducible refine (laws_toResult.calls k a1_0 a1_1 a1_2 a1_3 _ _ l1_4 t174 t175 t176 t177 t178 _ ?side1 ?side2 A59.out).mono ?_
      (case side1 => repeat (first | exact (cb HR1_4.out HB.out) | (with_reducible refine ca ?_ _) | (with_reducible refine cn ?_ _) | (with_reducible refine ce ?_)))
      (case side2 => exact HC1_4.out)
      rintro e w135 ⟨v179, rfl, ho0, hb⟩
      refine ⟨_, rfl, ?_⟩
      have n0_ := Am (Kd.R_elder' (by (with_reducible repeat (first | apply ra | apply rn | apply re)); exact HO140.out) (Kd.R_base ho0) hb)
      have n1_ := Am (Kd.R_elder' (by (with_reducible repeat (first | apply ra | apply rn | apply re)); exact HO147.out) (Kd.R_base ho0) hb)
      have n2_ := Am (Kd.R_elder' (by (with_reducible repeat (first | apply ra | apply rn | apply re)); exact HO155.out) (Kd.R_base ho0) hb)
      have n3_ := Am (Kd.R_elder' (by (with_reducible repeat (first | apply ra | apply rn | apply re)); exact HO163.out) (Kd.R_base ho0) hb)
      have n4_ := Am (Kd.R_elder' (by (with_reducible repeat (first | apply ra | apply rn | apply re)); exact HO172.out) (Kd.R_base ho0) hb)
      have n5_ := Am (Kd.R_lower (Kd.R_new' (Kd.R_new' (Kd.R_new' (Kd.R_new' (Kd.R_new' ho0 (Kd.R_lt (by (with_reducible repeat (first | apply ra | apply rn | apply re)); exact HO140.out))) (Kd.R_lt (by (with_reducible repeat (first | apply ra | apply rn | apply re)); exact HO147.out))) (Kd.R_lt (by (with_reducible repeat (first | apply ra | apply rn | apply re)); exact HO155.out))) (Kd.R_lt (by (with_reducible repeat (first | apply ra | apply rn | apply re)); exact HO163.out))) (Kd.R_lt (by (with_reducible repeat (first | apply ra | apply rn | apply re)); exact HO172.out))) (bz (by repeat (first | (with_reducible first | exact HB.out | apply ba | apply bn | apply be | refine bs ?_ GE130.out | refine bs ?_ GE131.out | refine bs ?_ GE156.out | refine bs ?_ GE164.out) | exact HB.out))))
      have n6_ := Am (kb (g := gb130) (o := ob0 a0_0 a0_1 a0_2 a0_3 A0_4 l0_4.length c0_4) (by (with_reducible repeat (first | refine kn ?_ _ | refine ke ?_ | refine ka ?_ _)); exact BK130.out) hb)
      have n7_ := Am (kb (g := gb131) (o := ob1 a1_0 a1_1 a1_2 a1_3 A1_4 l1_4.length c1_4) (by (with_reducible repeat (first | refine kn ?_ _ | refine ke ?_ | refine ka ?_ _)); exact BK131.out) hb)
      have n8_ := Am (kb (g := gb156) (o := ob3 t149 t150 t151 t152 Ao119 t153.length co119) (by (with_reducible repeat (first | refine kn ?_ _ | refine ke ?_ | refine ka ?_ _)); exact BK156.out) hb)
      have n9_ := Am (kb (g := gb164) (o := ob7 t157 t158 t159 t160 Ao127 t161.length co127) (by (with_reducible repeat (first | refine kn ?_ _ | refine ke ?_ | refine ka ?_ _)); exact BK164.out) hb)
      have n10_ := Am (bt (by repeat (first | (with_reducible first | exact HB.out | apply ba | apply bn | apply be | refine bs ?_ GE130.out | refine bs ?_ GE131.out | refine bs ?_ GE156.out | refine bs ?_ GE164.out) | exact HB.out)) hb)
      clear HO140
      clear HO147
      clear HO155
      clear HO163
      clear HO172
      clear BK130
      clear BK131
      clear BK156
      clear BK164
      clear HB
      have HO140 := n0_
      have HO147 := n1_
      have HO155 := n2_
      have HO163 := n3_
      have HO172 := n4_
      have HO180 := n5_
      have BK130 := n6_
      have BK131 := n7_
      have BK156 := n8_
      have BK164 := n9_
      have HB := n10_
      clear n0_ n1_ n2_ n3_ n4_ n5_ n6_ n7_ n8_ n9_ n10_
      (try clear hb)
      (try clear hb2)
      (try clear hk)
      (try clear hi)
      (try clear ho0)
      obtain ⟨Ao136, co136, eo136⟩ := Kd.R_slice HO180.out
      (first | subst eo136 | (injection eo136 with f1_ f2_ f3_; have f4_ := f1_.symm; have f5_ := f3_.symm; clear f1_ f2_ f3_; subst f4_; subst f5_))
      refine hK.out _ _ ⟨(kc BK164.out 0).trans rfl, (kc BK164.out 1).trans rfl, (kc BK164.out 2).trans rfl, (kc BK164.out 3).trans rfl, (kc BK164.out 4).trans rfl, (kc BK131.out 0).trans rfl, (kc BK131.out 1).trans rfl, (kc BK131.out 2).trans rfl, (kc BK131.out 3).trans rfl, (kc BK131.out 4).trans rfl⟩ (fun hHeld => ?_)
      clear hK K
      refine norm_ (a' := ?_) ?_ ?_
      rotate_left
      ·show Act.put _ (some 42) _ = _
       simp only [Act.put, List.setIfInBounds_toArray, List.set_cons_zero, List.set_cons_succ, i64_w, i32_w]
       rfl
      refine one_ (i := 3) (N := some 43) #[true, true, true, true, false] rfl rfl (by kernel_rfl) (by decide) (fun K hK => ?_)
      refine goes_ Try.func32 (by kernel_rfl) rfl #[.agg #[.int .i64 t157, .string t158, .int .i64 t159, .bool t160, .slice Ao127 t161.length co127], .agg #[.int .i64 t174, .string t175, .int .i64 t176, .bool t177, .slice Ao136 t178.length co136]] (by rfl) rfl rfl (by (try simp only [List.map_toArray, List.map_cons, List.map_nil]); first | done | rfl | (simp only [List.length_drop, List.length_take]; rfl)) ?_
      with_reducible refine (laws_eqResult.calls k t157 t158 t159 t160 _ _ t161 t174 t175 t176 t177 _ _ t178 false _ ?side1 ?side2 ?side3 ?side4 A60.out).mono ?_
      (case side1 => repeat (first | exact (Kd.R_reads' HO163.out).2.2 | (with_reducible refine ca ?_ _) | (with_reducible refine cn ?_ _) | (with_reducible refine ce ?_)))
      (case side2 => exact (Kd.R_reads' HO163.out).2.1)
      (case side3 => repeat (first | exact (Kd.R_reads' HO180.out).2.2 | (with_reducible refine ca ?_ _) | (with_reducible refine cn ?_ _) | (with_reducible refine ce ?_)))
      (case side4 => exact (Kd.R_reads' HO180.out).2.1)
      rintro e w137 ⟨rfl, hb⟩
      refine ⟨_, rfl, ?_⟩
      have n0_ := Am (rb (by (with_reducible repeat (first | apply ra | apply rn | apply re)); exact HO140.out) hb)
      have n1_ := Am (rb (by (with_reducible repeat (first | apply ra | apply rn | apply re)); exact HO147.out) hb)
      have n2_ := Am (rb (by (with_reducible repeat (first | apply ra | apply rn | apply re)); exact HO155.out) hb)
      have n3_ := Am (rb (by (with_reducible repeat (first | apply ra | apply rn | apply re)); exact HO163.out) hb)
      have n4_ := Am (rb (by (with_reducible repeat (first | apply ra | apply rn | apply re)); exact HO172.out) hb)
      have n5_ := Am (rb (by (with_reducible repeat (first | apply ra | apply rn | apply re)); exact HO180.out) hb)
      have n6_ := Am (kb (g := gb130) (o := ob0 a0_0 a0_1 a0_2 a0_3 A0_4 l0_4.length c0_4) (by (with_reducible repeat (first | refine kn ?_ _ | refine ke ?_ | refine ka ?_ _)); exact BK130.out) hb)
      have n7_ := Am (kb (g := gb131) (o := ob1 a1_0 a1_1 a1_2 a1_3 A1_4 l1_4.length c1_4) (by (with_reducible repeat (first | refine kn ?_ _ | refine ke ?_ | refine ka ?_ _)); exact BK131.out) hb)
      have n8_ := Am (kb (g := gb156) (o := ob3 t149 t150 t151 t152 Ao119 t153.length co119) (by (with_reducible repeat (first | refine kn ?_ _ | refine ke ?_ | refine ka ?_ _)); exact BK156.out) hb)
      have n9_ := Am (kb (g := gb164) (o := ob7 t157 t158 t159 t160 Ao127 t161.length co127) (by (with_reducible repeat (first | refine kn ?_ _ | refine ke ?_ | refine ka ?_ _)); exact BK164.out) hb)
      have n10_ := Am (bt (by repeat (first | (with_reducible first | exact HB.out | apply ba | apply bn | apply be | refine bs ?_ GE130.out | refine bs ?_ GE131.out | refine bs ?_ GE156.out | refine bs ?_ GE164.out) | exact HB.out)) hb)
      clear HO140
      clear HO147
      clear HO155
      clear HO163
      clear HO172
      clear HO180
      clear BK130
      clear BK131
      clear BK156
      clear BK164
      clear HB
      have HO140 := n0_
      have HO147 := n1_
      have HO155 := n2_
      have HO163 := n3_
      have HO172 := n4_
      have HO180 := n5_
      have BK130 := n6_
      have BK131 := n7_
      have BK156 := n8_
      have BK164 := n9_
      have HB := n10_
      clear n0_ n1_ n2_ n3_ n4_ n5_ n6_ n7_ n8_ n9_ n10_
      (try clear hb)
      (try clear hb2)
      (try clear hk)
      (try clear hi)
      refine hK.out _ _ ⟨(kc BK164.out 0).trans rfl, (kc BK164.out 1).trans rfl, (kc BK164.out 2).trans rfl, (kc BK164.out 3).trans rfl, (kc BK164.out 4).trans rfl, (kc BK131.out 0).trans rfl, (kc BK131.out 1).trans rfl, (kc BK131.out 2).trans rfl, (kc BK131.out 3).trans rfl, (kc BK131.out 4).trans rfl⟩ (fun hHeld => ?_)
      clear hK K
      refine norm_ (a' := ?_) ?_ ?_
      rotate_left
      ·show Act.put _ (some 43) _ = _
       simp only [Act.put, List.setIfInBounds_toArray, List.set_cons_zero, List.set_cons_succ, i64_w, i32_w]
       rfl
      refine pure_ (i := 4) (N := some 44) (v := ?_) (a' := ?_) #[true, true, true, true, true] rfl rfl (by kernel_rfl) (fun _ _ _ h => h) (Or.inl ⟨by rfl, ?_⟩) ?_ ?_
      rotate_left
      ·intro w'
       go_simp
       with_reducible rfl
      rotate_left
      ·simp only [Act.put, List.setIfInBounds_toArray, List.set_cons_zero, List.set_cons_succ, i64_w, i32_w]
       rfl
      refine done_ (by kernel_rfl) ?_
      try go_wp2
      go_ret
      exact ⟨by first | rfl | (simp [errW_none, errW_some] <;> rfl) | (simp [*, errW_none, errW_some] <;> rfl), by repeat (first | (with_reducible first | exact HB.out | apply ba | apply bn | apply be | refine bs ?_ GE130.out | refine bs ?_ GE131.out | refine bs ?_ GE156.out | refine bs ?_ GE164.out) | exact HB.out)⟩
    ·replace c58 := Bool.eq_false_iff.mpr c58
     subst c58
     have H1 : (some false) = some r := by rw [if_neg (show ¬ (false = true) by decide)] at H; exact H
     clear H
     have H := H1
     clear H1
     obtain rfl := Option.some.inj H
     go_enter Try.func6, Try.ntmps6
     try go_wp2_with (first | ((with_reducible refine gate_dst (N := 2) rfl ?_); refine box_event ?hg (N := 2) ?hd (cs := #[.int .i64 a0_0, .string a0_1, .int .i64 a0_2, .bool a0_3, .slice A0_4 l0_4.length c0_4]) (t := 46) ?hr ?_; (case hd => rfl); (case hg => rfl); (case hr => first | (go_simp; done) | (go_simp; rfl)); intro gb130 hg w138 hbox hb; have n0_ := Am (bt (by repeat (first | (with_reducible first | exact HB.out | apply ba | apply bn | apply be) | exact HB.out)) hb); have n1_ := Am (hbox); have n2_ := Am ((by rw [hg]; exact (bz (by repeat (first | (with_reducible first | exact HB.out | apply ba | apply bn | apply be) | exact HB.out))) : w.heap.size ≤ gb130)); have n3_ := Am ((by rw [hg]; exact (bz (by repeat (first | (with_reducible first | exact HB.out | apply ba | apply bn | apply be) | exact HB.out))) : w.heap.size ≤ gb130)); clear HB; have HB := n0_; have BK130 := n1_; have GW130 := n2_; have GE130 := n3_; clear n0_ n1_ n2_ n3_; clear hb hbox hg) | ((with_reducible refine gate_dst (N := 3) rfl ?_); refine box_event ?hg (N := 3) ?hd (cs := #[.int .i64 a1_0, .string a1_1, .int .i64 a1_2, .bool a1_3, .slice A1_4 l1_4.length c1_4]) (t := 46) ?hr ?_; (case hd => rfl); (case hg => rfl); (case hr => first | (go_simp; done) | (go_simp; rfl)); intro gb131 hg w139 hbox hb; have n0_ := Am (kb (g := gb130) (o := ob0 a0_0 a0_1 a0_2 a0_3 A0_4 l0_4.length c0_4) (by (with_reducible repeat (first | refine kn ?_ _ | refine ke ?_ | refine ka ?_ _)); exact BK130.out) hb); have n1_ := Am (bt (by repeat (first | (with_reducible first | exact HB.out | apply ba | apply bn | apply be | refine bs ?_ GE130.out) | exact HB.out)) hb); have n2_ := Am (hbox); have n3_ := Am ((by rw [hg]; exact (bz (by repeat (first | (with_reducible first | exact HB.out | apply ba | apply bn | apply be | refine bs ?_ GE130.out) | exact HB.out))) : w.heap.size ≤ gb131)); have n4_ := Am ((by rw [hg]; exact (bz (by repeat (first | (with_reducible first | exact HB.out | apply ba | apply bn | apply be | refine bs ?_ GE130.out) | exact HB.out))) : w.heap.size ≤ gb131)); have n5_ := Am ((by rw [hg]; exact Nat.ne_of_lt (kl (g := gb130) (o := ob0 a0_0 a0_1 a0_2 a0_3 A0_4 l0_4.length c0_4) (by (with_reducible repeat (first | refine kn ?_ _ | refine ke ?_ | refine ka ?_ _)); exact BK130.out)) : gb130 ≠ gb131)); have n6_ := Am ((by rw [hg]; exact Nat.ne_of_gt (kl (g := gb130) (o := ob0 a0_0 a0_1 a0_2 a0_3 A0_4 l0_4.length c0_4) (by (with_reducible repeat (first | refine kn ?_ _ | refine ke ?_ | refine ka ?_ _)); exact BK130.out)) : gb131 ≠ gb130)); clear BK130; clear HB; have BK130 := n0_; have HB := n1_; have BK131 := n2_; have GW131 := n3_; have GE131 := n4_; have NB130_131 := n5_; have NB131_130 := n6_; clear n0_ n1_ n2_ n3_ n4_ n5_ n6_; clear hb hbox hg; have hnb140 := NB130_131.out; have hnc140 := NB131_130.out; have hcz141_0 : w139.cell? ⟨gb130, 0, none⟩ = some (.int .i64 a0_0) := (kc BK130.out 0).trans rfl; have hcz141_1 : w139.cell? ⟨gb130, 1, none⟩ = some (.string a0_1) := (kc BK130.out 1).trans rfl; have hcz141_2 : w139.cell? ⟨gb130, 2, none⟩ = some (.int .i64 a0_2) := (kc BK130.out 2).trans rfl; have hcz141_3 : w139.cell? ⟨gb130, 3, none⟩ = some (.bool a0_3) := (kc BK130.out 3).trans rfl; have hcz141_4 : w139.cell? ⟨gb130, 4, none⟩ = some (.slice A0_4 l0_4.length c0_4) := (kc BK130.out 4).trans rfl; have hfz141_0 := kf BK130.out 0; have hfz141_1 := kf BK130.out 1; have hfz141_2 := kf BK130.out 2; have hfz141_3 := kf BK130.out 3; have hfz141_4 := kf BK130.out 4) | ((with_reducible refine gate_callee (f := 28) rfl ?_); refine goesL_ (some 12) rfl rfl Try.func28 (by kernel_rfl) rfl #[.agg #[.int .i64 a0_0, .string a0_1, .int .i64 a0_2, .bool a0_3, .slice A0_4 l0_4.length c0_4], .int .i64 1048576] rfl (by (try simp only [List.map_toArray, List.map_cons, List.map_nil]); first | done | rfl | (simp only [List.length_drop, List.length_take]; rfl)) ?_; (with_reducible refine (laws_szResult.calls k a0_0 a0_1 a0_2 a0_3 _ _ l0_4 1048576 t132 _ ?side1 ?side2 A3.out).mono ?_); (case side1 => repeat (first | exact (cb HR0_4.out HB.out) | (with_reducible refine ca ?_ _) | (with_reducible refine cn ?_ _) | (with_reducible refine ce ?_))); (case side2 => exact HC0_4.out); rintro e w142 ⟨rfl, hb⟩; refine ⟨_, rfl, ?_⟩; have n0_ := Am (kb (g := gb130) (o := ob0 a0_0 a0_1 a0_2 a0_3 A0_4 l0_4.length c0_4) (by (with_reducible repeat (first | refine kn ?_ _ | refine ke ?_ | refine ka ?_ _)); exact BK130.out) hb); have n1_ := Am (kb (g := gb131) (o := ob1 a1_0 a1_1 a1_2 a1_3 A1_4 l1_4.length c1_4) (by (with_reducible repeat (first | refine kn ?_ _ | refine ke ?_ | refine ka ?_ _)); exact BK131.out) hb); have n2_ := Am (bt (by repeat (first | (with_reducible first | exact HB.out | apply ba | apply bn | apply be | refine bs ?_ GE130.out | refine bs ?_ GE131.out) | exact HB.out)) hb); clear BK130; clear BK131; clear HB; have BK130 := n0_; have BK131 := n1_; have HB := n2_; clear n0_ n1_ n2_; (try clear hb); (try clear hb2); (try clear hk); (try clear hi); have hcz143_0 : w142.cell? ⟨gb131, 0, none⟩ = some (.int .i64 a1_0) := (kc BK131.out 0).trans rfl; have hcz143_1 : w142.cell? ⟨gb131, 1, none⟩ = some (.string a1_1) := (kc BK131.out 1).trans rfl; have hcz143_2 : w142.cell? ⟨gb131, 2, none⟩ = some (.int .i64 a1_2) := (kc BK131.out 2).trans rfl; have hcz143_3 : w142.cell? ⟨gb131, 3, none⟩ = some (.bool a1_3) := (kc BK131.out 3).trans rfl; have hcz143_4 : w142.cell? ⟨gb131, 4, none⟩ = some (.slice A1_4 l1_4.length c1_4) := (kc BK131.out 4).trans rfl; have hfz143_0 := kf BK131.out 0; have hfz143_1 := kf BK131.out 1; have hfz143_2 := kf BK131.out 2; have hfz143_3 := kf BK131.out 3; have hfz143_4 := kf BK131.out 4) | ((with_reducible refine gate_callee (f := 28) rfl ?_); refine goesL_ (some 17) rfl rfl Try.func28 (by kernel_rfl) rfl #[.agg #[.int .i64 a1_0, .string a1_1, .int .i64 a1_2, .bool a1_3, .slice A1_4 l1_4.length c1_4], .int .i64 t132] rfl (by (try simp only [List.map_toArray, List.map_cons, List.map_nil]); first | done | rfl | (simp only [List.length_drop, List.length_take]; rfl)) ?_; (with_reducible refine (laws_szResult.calls k a1_0 a1_1 a1_2 a1_3 _ _ l1_4 t132 t133 _ ?side1 ?side2 A10.out).mono ?_); (case side1 => repeat (first | exact (cb HR1_4.out HB.out) | (with_reducible refine ca ?_ _) | (with_reducible refine cn ?_ _) | (with_reducible refine ce ?_))); (case side2 => exact HC1_4.out); rintro e w144 ⟨rfl, hb⟩; refine ⟨_, rfl, ?_⟩; have n0_ := Am (kb (g := gb130) (o := ob0 a0_0 a0_1 a0_2 a0_3 A0_4 l0_4.length c0_4) (by (with_reducible repeat (first | refine kn ?_ _ | refine ke ?_ | refine ka ?_ _)); exact BK130.out) hb); have n1_ := Am (kb (g := gb131) (o := ob1 a1_0 a1_1 a1_2 a1_3 A1_4 l1_4.length c1_4) (by (with_reducible repeat (first | refine kn ?_ _ | refine ke ?_ | refine ka ?_ _)); exact BK131.out) hb); have n2_ := Am (bt (by repeat (first | (with_reducible first | exact HB.out | apply ba | apply bn | apply be | refine bs ?_ GE130.out | refine bs ?_ GE131.out) | exact HB.out)) hb); clear BK130; clear BK131; clear HB; have BK130 := n0_; have BK131 := n1_; have HB := n2_; clear n0_ n1_ n2_; (try clear hb); (try clear hb2); (try clear hk); (try clear hi)))
     have n0_ := Am (ke BK130.out)
     have n1_ := Am (ke BK131.out)
     have n2_ := Am (be HB.out)
     clear BK130
     clear BK131
     clear HB
     have BK130 := n0_
     have BK131 := n1_
     have HB := n2_
     clear n0_ n1_ n2_
     refine start_ (n := 6) (S := fun w' => w'.cell? ⟨gb130, 0, none⟩ = some (.int .i64 a0_0) ∧ w'.cell? ⟨gb130, 1, none⟩ = some (.string a0_1) ∧ w'.cell? ⟨gb130, 2, none⟩ = some (.int .i64 a0_2) ∧ w'.cell? ⟨gb130, 3, none⟩ = some (.bool a0_3) ∧ w'.cell? ⟨gb130, 4, none⟩ = some (.slice A0_4 l0_4.length c0_4) ∧ w'.cell? ⟨gb131, 0, none⟩ = some (.int .i64 a1_0) ∧ w'.cell? ⟨gb131, 1, none⟩ = some (.string a1_1) ∧ w'.cell? ⟨gb131, 2, none⟩ = some (.int .i64 a1_2) ∧ w'.cell? ⟨gb131, 3, none⟩ = some (.bool a1_3) ∧ w'.cell? ⟨gb131, 4, none⟩ = some (.slice A1_4 l1_4.length c1_4)) (ds := []) #[false, false, false, false, false, false] (by kernel_rfl) rfl rfl ⟨(kc BK130.out 0).trans rfl, (kc BK130.out 1).trans rfl, (kc BK130.out 2).trans rfl, (kc BK130.out 3).trans rfl, (kc BK130.out 4).trans rfl, (kc BK131.out 0).trans rfl, (kc BK131.out 1).trans rfl, (kc BK131.out 2).trans rfl, (kc BK131.out 3).trans rfl, (kc BK131.out 4).trans rfl⟩ (fun hHeld => ?_)
     generalize w144.drew = w145 at BK130 BK131 HB hHeld ⊢
     refine take_ (i := 0) (N := some 20) (v := ?_) (a' := ?_) #[true, false, false, false, false, false] rfl rfl (by kernel_rfl) (fun _ _ _ h => h) (Or.inl ⟨by rfl, ?_⟩) hHeld ?_ ?_
     rotate_left
     ·rintro w' ⟨s0, s1, s2, s3, s4, s5, s6, s7, s8, s9⟩
      go_simp
      with_reducible rfl
     rotate_left
     ·simp only [Act.put, List.setIfInBounds_toArray, List.set_cons_zero, List.set_cons_succ, i64_w, i32_w]
      rfl
     refine take_ (i := 2) (N := some 22) (v := ?_) (a' := ?_) #[true, false, true, false, false, false] rfl rfl (by kernel_rfl) (fun _ _ _ h => h) (Or.inl ⟨by rfl, ?_⟩) hHeld ?_ ?_
     rotate_left
     ·rintro w' ⟨s0, s1, s2, s3, s4, s5, s6, s7, s8, s9⟩
      go_simp
      with_reducible rfl
     rotate_left
     ·simp only [Act.put, List.setIfInBounds_toArray, List.set_cons_zero, List.set_cons_succ, i64_w, i32_w]
      rfl
     refine one_ (i := 1) (N := some 21) #[true, true, true, false, false, false] rfl rfl (by kernel_rfl) (by decide) (fun K hK => ?_)
     refine goes_ Try.func30 (by kernel_rfl) rfl #[.agg #[.int .i64 a0_0, .string a0_1, .int .i64 a0_2, .bool a0_3, .slice A0_4 l0_4.length c0_4]] (by rfl) rfl rfl (by (try simp only [List.map_toArray, List.map_cons, List.map_nil]); first | done | rfl | (simp only [List.length_drop, List.length_take]; rfl)) ?_
     with_reducible refine (laws_toResult.calls k a0_0 a0_1 a0_2 a0_3 _ _ l0_4 t134 t135 t136 t137 t138 _ ?side1 ?side2 A19.out).mono ?_
     (case side1 => repeat (first | exact (cb HR0_4.out HB.out) | (with_reducible refine ca ?_ _) | (with_reducible refine cn ?_ _) | (with_reducible refine ce ?_)))
     (case side2 => exact HC0_4.out)
     rintro e w146 ⟨v139, rfl, ho0, hb⟩
     refine ⟨_, rfl, ?_⟩
     have n0_ := Am (Kd.R_lower ho0 (bz (by repeat (first | (with_reducible first | exact HB.out | apply ba | apply bn | apply be | refine bs ?_ GE130.out | refine bs ?_ GE131.out) | exact HB.out))))
     have n1_ := Am (kb (g := gb130) (o := ob0 a0_0 a0_1 a0_2 a0_3 A0_4 l0_4.length c0_4) (by (with_reducible repeat (first | refine kn ?_ _ | refine ke ?_ | refine ka ?_ _)); exact BK130.out) hb)
     have n2_ := Am (kb (g := gb131) (o := ob1 a1_0 a1_1 a1_2 a1_3 A1_4 l1_4.length c1_4) (by (with_reducible repeat (first | refine kn ?_ _ | refine ke ?_ | refine ka ?_ _)); exact BK131.out) hb)
     have n3_ := Am (bt (by repeat (first | (with_reducible first | exact HB.out | apply ba | apply bn | apply be | refine bs ?_ GE130.out | refine bs ?_ GE131.out) | exact HB.out)) hb)
     clear BK130
     clear BK131
     clear HB
     have HO140 := n0_
     have BK130 := n1_
     have BK131 := n2_
     have HB := n3_
     clear n0_ n1_ n2_ n3_
     (try clear hb)
     (try clear hb2)
     (try clear hk)
     (try clear hi)
     (try clear ho0)
     refine hK.out _ _ ⟨(kc BK130.out 0).trans rfl, (kc BK130.out 1).trans rfl, (kc BK130.out 2).trans rfl, (kc BK130.out 3).trans rfl, (kc BK130.out 4).trans rfl, (kc BK131.out 0).trans rfl, (kc BK131.out 1).trans rfl, (kc BK131.out 2).trans rfl, (kc BK131.out 3).trans rfl, (kc BK131.out 4).trans rfl⟩ (fun hHeld => ?_)
     clear hK K
     refine norm_ (a' := ?_) ?_ ?_
     rotate_left
     ·show Act.put _ (some 21) _ = _
      simp only [Act.put, List.setIfInBounds_toArray, List.set_cons_zero, List.set_cons_succ, i64_w, i32_w]
      rfl
     refine one_ (i := 3) (N := some 23) #[true, true, true, true, false, false] rfl rfl (by kernel_rfl) (by decide) (fun K hK => ?_)
     refine goes_ Try.func30 (by kernel_rfl) rfl #[.agg #[.int .i64 a1_0, .string a1_1, .int .i64 a1_2, .bool a1_3, .slice A1_4 l1_4.length c1_4]] (by rfl) rfl rfl (by (try simp only [List.map_toArray, List.map_cons, List.map_nil]); first | done | rfl | (simp only [List.length_drop, List.length_take]; rfl)) ?_
     with_reducible refine (laws_toResult.calls k a1_0 a1_1 a1_2 a1_3 _ _ l1_4 t141 t142 t143 t144 t145 _ ?side1 ?side2 A20.out).mono ?_
     (case side1 => repeat (first | exact (cb HR1_4.out HB.out) | (with_reducible refine ca ?_ _) | (with_reducible refine cn ?_ _) | (with_reducible refine ce ?_)))
     (case side2 => exact HC1_4.out)
     rintro e w147 ⟨v146, rfl, ho0, hb⟩
     refine ⟨_, rfl, ?_⟩
     have n0_ := Am (Kd.R_elder' (by (with_reducible repeat (first | apply ra | apply rn | apply re)); exact HO140.out) (Kd.R_base ho0) hb)
     have n1_ := Am (Kd.R_lower (Kd.R_new' ho0 (Kd.R_lt (by (with_reducible repeat (first | apply ra | apply rn | apply re)); exact HO140.out))) (bz (by repeat (first | (with_reducible first | exact HB.out | apply ba | apply bn | apply be | refine bs ?_ GE130.out | refine bs ?_ GE131.out) | exact HB.out))))
     have n2_ := Am (kb (g := gb130) (o := ob0 a0_0 a0_1 a0_2 a0_3 A0_4 l0_4.length c0_4) (by (with_reducible repeat (first | refine kn ?_ _ | refine ke ?_ | refine ka ?_ _)); exact BK130.out) hb)
     have n3_ := Am (kb (g := gb131) (o := ob1 a1_0 a1_1 a1_2 a1_3 A1_4 l1_4.length c1_4) (by (with_reducible repeat (first | refine kn ?_ _ | refine ke ?_ | refine ka ?_ _)); exact BK131.out) hb)
     have n4_ := Am (bt (by repeat (first | (with_reducible first | exact HB.out | apply ba | apply bn | apply be | refine bs ?_ GE130.out | refine bs ?_ GE131.out) | exact HB.out)) hb)
     clear HO140
     clear BK130
     clear BK131
     clear HB
     have HO140 := n0_
     have HO147 := n1_
     have BK130 := n2_
     have BK131 := n3_
     have HB := n4_
     clear n0_ n1_ n2_ n3_ n4_
     (try clear hb)
     (try clear hb2)
     (try clear hk)
     (try clear hi)
     (try clear ho0)
     obtain ⟨Ao148, co148, eo148⟩ := Kd.R_slice HO140.out
     (first | subst eo148 | (injection eo148 with f1_ f2_ f3_; have f4_ := f1_.symm; have f5_ := f3_.symm; clear f1_ f2_ f3_; subst f4_; subst f5_))
     obtain ⟨Ao149, co149, eo149⟩ := Kd.R_slice HO147.out
     (first | subst eo149 | (injection eo149 with f1_ f2_ f3_; have f4_ := f1_.symm; have f5_ := f3_.symm; clear f1_ f2_ f3_; subst f4_; subst f5_))
     refine hK.out _ _ ⟨(kc BK130.out 0).trans rfl, (kc BK130.out 1).trans rfl, (kc BK130.out 2).trans rfl, (kc BK130.out 3).trans rfl, (kc BK130.out 4).trans rfl, (kc BK131.out 0).trans rfl, (kc BK131.out 1).trans rfl, (kc BK131.out 2).trans rfl, (kc BK131.out 3).trans rfl, (kc BK131.out 4).trans rfl⟩ (fun hHeld => ?_)
     clear hK K
     refine norm_ (a' := ?_) ?_ ?_
     rotate_left
     ·show Act.put _ (some 23) _ = _
      simp only [Act.put, List.setIfInBounds_toArray, List.set_cons_zero, List.set_cons_succ, i64_w, i32_w]
      rfl
     refine one_ (i := 4) (N := some 24) #[true, true, true, true, true, false] rfl rfl (by kernel_rfl) (by decide) (fun K hK => ?_)
     refine goes_ Try.func29 (by kernel_rfl) rfl #[.agg #[.int .i64 t134, .string t135, .int .i64 t136, .bool t137, .slice Ao148 t138.length co148], .agg #[.int .i64 t141, .string t142, .int .i64 t143, .bool t144, .slice Ao149 t145.length co149]] (by rfl) rfl rfl (by (try simp only [List.map_toArray, List.map_cons, List.map_nil]); first | done | rfl | (simp only [List.length_drop, List.length_take]; rfl)) ?_
     with_reducible refine (spec_SameResult.calls k t134 t135 t136 t137 _ _ t138 t141 t142 t143 t144 _ _ t145 t148 _ ?side1 ?side2 ?side3 ?side4 A21.out).mono ?_
     (case side1 => repeat (first | exact (Kd.R_reads' HO140.out).2.2 | (with_reducible refine ca ?_ _) | (with_reducible refine cn ?_ _) | (with_reducible refine ce ?_)))
     (case side2 => exact (Kd.R_reads' HO140.out).2.1)
     (case side3 => repeat (first | exact (Kd.R_reads' HO147.out).2.2 | (with_reducible refine ca ?_ _) | (with_reducible refine cn ?_ _) | (with_reducible refine ce ?_)))
     (case side4 => exact (Kd.R_reads' HO147.out).2.1)
     rintro e w150 ⟨rfl, hb⟩
     refine ⟨_, rfl, ?_⟩
     have n0_ := Am (rb (by (with_reducible repeat (first | apply ra | apply rn | apply re)); exact HO140.out) hb)
     have n1_ := Am (rb (by (with_reducible repeat (first | apply ra | apply rn | apply re)); exact HO147.out) hb)
     have n2_ := Am (kb (g := gb130) (o := ob0 a0_0 a0_1 a0_2 a0_3 A0_4 l0_4.length c0_4) (by (with_reducible repeat (first | refine kn ?_ _ | refine ke ?_ | refine ka ?_ _)); exact BK130.out) hb)
     have n3_ := Am (kb (g := gb131) (o := ob1 a1_0 a1_1 a1_2 a1_3 A1_4 l1_4.length c1_4) (by (with_reducible repeat (first | refine kn ?_ _ | refine ke ?_ | refine ka ?_ _)); exact BK131.out) hb)
     have n4_ := Am (bt (by repeat (first | (with_reducible first | exact HB.out | apply ba | apply bn | apply be | refine bs ?_ GE130.out | refine bs ?_ GE131.out) | exact HB.out)) hb)
     clear HO140
     clear HO147
     clear BK130
     clear BK131
     clear HB
     have HO140 := n0_
     have HO147 := n1_
     have BK130 := n2_
     have BK131 := n3_
     have HB := n4_
     clear n0_ n1_ n2_ n3_ n4_
     (try clear hb)
     (try clear hb2)
     (try clear hk)
     (try clear hi)
     refine hK.out _ _ ⟨(kc BK130.out 0).trans rfl, (kc BK130.out 1).trans rfl, (kc BK130.out 2).trans rfl, (kc BK130.out 3).trans rfl, (kc BK130.out 4).trans rfl, (kc BK131.out 0).trans rfl, (kc BK131.out 1).trans rfl, (kc BK131.out 2).trans rfl, (kc BK131.out 3).trans rfl, (kc BK131.out 4).trans rfl⟩ (fun hHeld => ?_)
     clear hK K
     refine norm_ (a' := ?_) ?_ ?_
     rotate_left
     ·show Act.put _ (some 24) _ = _
      simp only [Act.put, List.setIfInBounds_toArray, List.set_cons_zero, List.set_cons_succ, i64_w, i32_w]
      rfl
     refine pure_ (i := 5) (N := some 6) (v := ?_) (a' := ?_) #[true, true, true, true, true, true] rfl rfl (by kernel_rfl) (fun _ _ _ h => h) (Or.inl ⟨by rfl, ?_⟩) ?_ ?_
     rotate_left
     ·intro w'
      go_simp
      with_reducible rfl
     rotate_left
     ·simp only [Act.put, List.setIfInBounds_toArray, List.set_cons_zero, List.set_cons_succ, i64_w, i32_w]
      rfl
     refine done_ (by kernel_rfl) ?_
     have hcz151_0 : w150.cell? ⟨gb130, 0, none⟩ = some (.int .i64 a0_0) := (kc BK130.out 0).trans rfl
     have hcz151_1 : w150.cell? ⟨gb130, 1, none⟩ = some (.string a0_1) := (kc BK130.out 1).trans rfl
     have hcz151_2 : w150.cell? ⟨gb130, 2, none⟩ = some (.int .i64 a0_2) := (kc BK130.out 2).trans rfl
     have hcz151_3 : w150.cell? ⟨gb130, 3, none⟩ = some (.bool a0_3) := (kc BK130.out 3).trans rfl
     have hcz151_4 : w150.cell? ⟨gb130, 4, none⟩ = some (.slice A0_4 l0_4.length c0_4) := (kc BK130.out 4).trans rfl
     have hfz151_0 := kf BK130.out 0
     have hfz151_1 := kf BK130.out 1
     have hfz151_2 := kf BK130.out 2
     have hfz151_3 := kf BK130.out 3
     have hfz151_4 := kf BK130.out 4
     try go_wp2_with (first | ((with_reducible refine gate_callee (f := 30) rfl ?_); refine goesL_ (some 26) rfl rfl Try.func30 (by kernel_rfl) rfl #[.agg #[.int .i64 a0_0, .string a0_1, .int .i64 a0_2, .bool a0_3, .slice A0_4 l0_4.length c0_4]] rfl (by (try simp only [List.map_toArray, List.map_cons, List.map_nil]); first | done | rfl | (simp only [List.length_drop, List.length_take]; rfl)) ?_; (with_reducible refine (laws_toResult.calls k a0_0 a0_1 a0_2 a0_3 _ _ l0_4 t149 t150 t151 t152 t153 _ ?side1 ?side2 A22.out).mono ?_); (case side1 => repeat (first | exact (cb HR0_4.out HB.out) | (with_reducible refine ca ?_ _) | (with_reducible refine cn ?_ _) | (with_reducible refine ce ?_))); (case side2 => exact HC0_4.out); rintro e w152 ⟨v154, rfl, ho0, hb⟩; refine ⟨_, rfl, ?_⟩; have n0_ := Am (Kd.R_elder' (by (with_reducible repeat (first | apply ra | apply rn | apply re)); exact HO140.out) (Kd.R_base ho0) hb); have n1_ := Am (Kd.R_elder' (by (with_reducible repeat (first | apply ra | apply rn | apply re)); exact HO147.out) (Kd.R_base ho0) hb); have n2_ := Am (Kd.R_lower (Kd.R_new' (Kd.R_new' ho0 (Kd.R_lt (by (with_reducible repeat (first | apply ra | apply rn | apply re)); exact HO140.out))) (Kd.R_lt (by (with_reducible repeat (first | apply ra | apply rn | apply re)); exact HO147.out))) (bz (by repeat (first | (with_reducible first | exact HB.out | apply ba | apply bn | apply be | refine bs ?_ GE130.out | refine bs ?_ GE131.out) | exact HB.out)))); have n3_ := Am (kb (g := gb130) (o := ob0 a0_0 a0_1 a0_2 a0_3 A0_4 l0_4.length c0_4) (by (with_reducible repeat (first | refine kn ?_ _ | refine ke ?_ | refine ka ?_ _)); exact BK130.out) hb); have n4_ := Am (kb (g := gb131) (o := ob1 a1_0 a1_1 a1_2 a1_3 A1_4 l1_4.length c1_4) (by (with_reducible repeat (first | refine kn ?_ _ | refine ke ?_ | refine ka ?_ _)); exact BK131.out) hb); have n5_ := Am (bt (by repeat (first | (with_reducible first | exact HB.out | apply ba | apply bn | apply be | refine bs ?_ GE130.out | refine bs ?_ GE131.out) | exact HB.out)) hb); clear HO140; clear HO147; clear BK130; clear BK131; clear HB; have HO140 := n0_; have HO147 := n1_; have HO155 := n2_; have BK130 := n3_; have BK131 := n4_; have HB := n5_; clear n0_ n1_ n2_ n3_ n4_ n5_; (try clear hb); (try clear hb2); (try clear hk); (try clear hi); (try clear ho0)) | ((with_reducible refine gate_dst (N := 7) rfl ?_); refine box_event ?hg (N := 7) ?hd (cs := #[.int .i64 0, .string (⟨#[]⟩ : ByteArray), .int .i64 0, .bool false, .slice none 0 0]) (t := 49) ?hr ?_; (case hd => rfl); (case hg => rfl); (case hr => first | (go_simp; done) | (go_simp; rfl)); intro gb156 hg w153 hbox hb; have n0_ := Am (rb (by (with_reducible repeat (first | apply ra | apply rn | apply re)); exact HO140.out) hb); have n1_ := Am (rb (by (with_reducible repeat (first | apply ra | apply rn | apply re)); exact HO147.out) hb); have n2_ := Am (rb (by (with_reducible repeat (first | apply ra | apply rn | apply re)); exact HO155.out) hb); have n3_ := Am (kb (g := gb130) (o := ob0 a0_0 a0_1 a0_2 a0_3 A0_4 l0_4.length c0_4) (by (with_reducible repeat (first | refine kn ?_ _ | refine ke ?_ | refine ka ?_ _)); exact BK130.out) hb); have n4_ := Am (kb (g := gb131) (o := ob1 a1_0 a1_1 a1_2 a1_3 A1_4 l1_4.length c1_4) (by (with_reducible repeat (first | refine kn ?_ _ | refine ke ?_ | refine ka ?_ _)); exact BK131.out) hb); have n5_ := Am (bt (by repeat (first | (with_reducible first | exact HB.out | apply ba | apply bn | apply be | refine bs ?_ GE130.out | refine bs ?_ GE131.out) | exact HB.out)) hb); have n6_ := Am (hbox); have n7_ := Am ((by rw [hg]; exact (bz (by repeat (first | (with_reducible first | exact HB.out | apply ba | apply bn | apply be | refine bs ?_ GE130.out | refine bs ?_ GE131.out) | exact HB.out))) : w.heap.size ≤ gb156)); have n8_ := Am ((by rw [hg]; exact (bz (by repeat (first | (with_reducible first | exact HB.out | apply ba | apply bn | apply be | refine bs ?_ GE130.out | refine bs ?_ GE131.out) | exact HB.out))) : w.heap.size ≤ gb156)); have n9_ := Am ((by rw [hg]; exact Nat.ne_of_lt (kl (g := gb130) (o := ob0 a0_0 a0_1 a0_2 a0_3 A0_4 l0_4.length c0_4) (by (with_reducible repeat (first | refine kn ?_ _ | refine ke ?_ | refine ka ?_ _)); exact BK130.out)) : gb130 ≠ gb156)); have n10_ := Am ((by rw [hg]; exact Nat.ne_of_gt (kl (g := gb130) (o := ob0 a0_0 a0_1 a0_2 a0_3 A0_4 l0_4.length c0_4) (by (with_reducible repeat (first | refine kn ?_ _ | refine ke ?_ | refine ka ?_ _)); exact BK130.out)) : gb156 ≠ gb130)); have n11_ := Am ((by rw [hg]; exact Nat.ne_of_lt (kl (g := gb131) (o := ob1 a1_0 a1_1 a1_2 a1_3 A1_4 l1_4.length c1_4) (by (with_reducible repeat (first | refine kn ?_ _ | refine ke ?_ | refine ka ?_ _)); exact BK131.out)) : gb131 ≠ gb156)); have n12_ := Am ((by rw [hg]; exact Nat.ne_of_gt (kl (g := gb131) (o := ob1 a1_0 a1_1 a1_2 a1_3 A1_4 l1_4.length c1_4) (by (with_reducible repeat (first | refine kn ?_ _ | refine ke ?_ | refine ka ?_ _)); exact BK131.out)) : gb156 ≠ gb131)); clear HO140; clear HO147; clear HO155; clear BK130; clear BK131; clear HB; have HO140 := n0_; have HO147 := n1_; have HO155 := n2_; have BK130 := n3_; have BK131 := n4_; have HB := n5_; have BK156 := n6_; have GW156 := n7_; have GE156 := n8_; have NB130_156 := n9_; have NB156_130 := n10_; have NB131_156 := n11_; have NB156_131 := n12_; clear n0_ n1_ n2_ n3_ n4_ n5_ n6_ n7_ n8_ n9_ n10_ n11_ n12_; clear hb hbox hg; have hnb154 := NB156_130.out; have hnc154 := NB130_156.out; have hnb155 := NB156_131.out; have hnc155 := NB131_156.out; have hcz156_0 : w153.cell? ⟨gb156, 0, none⟩ = some (.int .i64 0) := (kc BK156.out 0).trans rfl; have hcz156_1 : w153.cell? ⟨gb156, 1, none⟩ = some (.string (⟨#[]⟩ : ByteArray)) := (kc BK156.out 1).trans rfl; have hcz156_2 : w153.cell? ⟨gb156, 2, none⟩ = some (.int .i64 0) := (kc BK156.out 2).trans rfl; have hcz156_3 : w153.cell? ⟨gb156, 3, none⟩ = some (.bool false) := (kc BK156.out 3).trans rfl; have hcz156_4 : w153.cell? ⟨gb156, 4, none⟩ = some (.slice none 0 0) := (kc BK156.out 4).trans rfl; have hfz156_0 := kf BK156.out 0; have hfz156_1 := kf BK156.out 1; have hfz156_2 := kf BK156.out 2; have hfz156_3 := kf BK156.out 3; have hfz156_4 := kf BK156.out 4; obtain ⟨Ao157, co157, eo157⟩ := Kd.R_slice HO155.out; subst eo157; have hcz158_0 : w153.cell? ⟨gb131, 0, none⟩ = some (.int .i64 a1_0) := (kc BK131.out 0).trans rfl; have hcz158_1 : w153.cell? ⟨gb131, 1, none⟩ = some (.string a1_1) := (kc BK131.out 1).trans rfl; have hcz158_2 : w153.cell? ⟨gb131, 2, none⟩ = some (.int .i64 a1_2) := (kc BK131.out 2).trans rfl; have hcz158_3 : w153.cell? ⟨gb131, 3, none⟩ = some (.bool a1_3) := (kc BK131.out 3).trans rfl; have hcz158_4 : w153.cell? ⟨gb131, 4, none⟩ = some (.slice A1_4 l1_4.length c1_4) := (kc BK131.out 4).trans rfl; have hfz158_0 := kf BK131.out 0; have hfz158_1 := kf BK131.out 1; have hfz158_2 := kf BK131.out 2; have hfz158_3 := kf BK131.out 3; have hfz158_4 := kf BK131.out 4) | ((with_reducible refine gate_callee (f := 30) rfl ?_); refine goesL_ (some 28) rfl rfl Try.func30 (by kernel_rfl) rfl #[.agg #[.int .i64 a1_0, .string a1_1, .int .i64 a1_2, .bool a1_3, .slice A1_4 l1_4.length c1_4]] rfl (by (try simp only [List.map_toArray, List.map_cons, List.map_nil]); first | done | rfl | (simp only [List.length_drop, List.length_take]; rfl)) ?_; (with_reducible refine (laws_toResult.calls k a1_0 a1_1 a1_2 a1_3 _ _ l1_4 t157 t158 t159 t160 t161 _ ?side1 ?side2 A23.out).mono ?_); (case side1 => exact cb HR1_4.out (by repeat (first | (with_reducible first | exact HB.out | apply ba | apply bn | apply be | refine bs ?_ GE130.out | refine bs ?_ GE131.out | refine bs ?_ GE156.out) | exact HB.out))); (case side2 => exact HC1_4.out); rintro e w159 ⟨v162, rfl, ho0, hb⟩; refine ⟨_, rfl, ?_⟩; have n0_ := Am (Kd.R_elder' (by (with_reducible repeat (first | apply ra | apply rn | apply re)); exact (Kd.R_mono (Kd.R_far (p := ⟨gb156, 4, none⟩) (Kd.R_far (p := ⟨gb156, 3, none⟩) (Kd.R_far (p := ⟨gb156, 2, none⟩) (Kd.R_far (p := ⟨gb156, 1, none⟩) (Kd.R_far (p := ⟨gb156, 0, none⟩) (Kd.R_types HO140.out BK156.out (by decide)) (fun _ hk => hk.2) (.int .i64 t149)) (fun _ hk => hk.2) (.string t150)) (fun _ hk => hk.2) (.int .i64 t151)) (fun _ hk => hk.2) (.bool t152)) (fun _ hk => hk.2) (.slice Ao157 t153.length co157)) (fun _ h_ => h_.1))) (Kd.R_base ho0) hb); have n1_ := Am (Kd.R_elder' (by (with_reducible repeat (first | apply ra | apply rn | apply re)); exact (Kd.R_mono (Kd.R_far (p := ⟨gb156, 4, none⟩) (Kd.R_far (p := ⟨gb156, 3, none⟩) (Kd.R_far (p := ⟨gb156, 2, none⟩) (Kd.R_far (p := ⟨gb156, 1, none⟩) (Kd.R_far (p := ⟨gb156, 0, none⟩) (Kd.R_types HO147.out BK156.out (by decide)) (fun _ hk => hk.2) (.int .i64 t149)) (fun _ hk => hk.2) (.string t150)) (fun _ hk => hk.2) (.int .i64 t151)) (fun _ hk => hk.2) (.bool t152)) (fun _ hk => hk.2) (.slice Ao157 t153.length co157)) (fun _ h_ => h_.1))) (Kd.R_base ho0) hb); have n2_ := Am (Kd.R_elder' (by (with_reducible repeat (first | apply ra | apply rn | apply re)); exact (Kd.R_mono (Kd.R_far (p := ⟨gb156, 4, none⟩) (Kd.R_far (p := ⟨gb156, 3, none⟩) (Kd.R_far (p := ⟨gb156, 2, none⟩) (Kd.R_far (p := ⟨gb156, 1, none⟩) (Kd.R_far (p := ⟨gb156, 0, none⟩) (Kd.R_types HO155.out BK156.out (by decide)) (fun _ hk => hk.2) (.int .i64 t149)) (fun _ hk => hk.2) (.string t150)) (fun _ hk => hk.2) (.int .i64 t151)) (fun _ hk => hk.2) (.bool t152)) (fun _ hk => hk.2) (.slice Ao157 t153.length co157)) (fun _ h_ => h_.1))) (Kd.R_base ho0) hb); have n3_ := Am (Kd.R_lower (Kd.R_new' (Kd.R_new' (Kd.R_new' ho0 (Kd.R_lt (by (with_reducible repeat (first | apply ra | apply rn | apply re)); exact (Kd.R_mono (Kd.R_far (p := ⟨gb156, 4, none⟩) (Kd.R_far (p := ⟨gb156, 3, none⟩) (Kd.R_far (p := ⟨gb156, 2, none⟩) (Kd.R_far (p := ⟨gb156, 1, none⟩) (Kd.R_far (p := ⟨gb156, 0, none⟩) (Kd.R_types HO140.out BK156.out (by decide)) (fun _ hk => hk.2) (.int .i64 t149)) (fun _ hk => hk.2) (.string t150)) (fun _ hk => hk.2) (.int .i64 t151)) (fun _ hk => hk.2) (.bool t152)) (fun _ hk => hk.2) (.slice Ao157 t153.length co157)) (fun _ h_ => h_.1))))) (Kd.R_lt (by (with_reducible repeat (first | apply ra | apply rn | apply re)); exact (Kd.R_mono (Kd.R_far (p := ⟨gb156, 4, none⟩) (Kd.R_far (p := ⟨gb156, 3, none⟩) (Kd.R_far (p := ⟨gb156, 2, none⟩) (Kd.R_far (p := ⟨gb156, 1, none⟩) (Kd.R_far (p := ⟨gb156, 0, none⟩) (Kd.R_types HO147.out BK156.out (by decide)) (fun _ hk => hk.2) (.int .i64 t149)) (fun _ hk => hk.2) (.string t150)) (fun _ hk => hk.2) (.int .i64 t151)) (fun _ hk => hk.2) (.bool t152)) (fun _ hk => hk.2) (.slice Ao157 t153.length co157)) (fun _ h_ => h_.1))))) (Kd.R_lt (by (with_reducible repeat (first | apply ra | apply rn | apply re)); exact (Kd.R_mono (Kd.R_far (p := ⟨gb156, 4, none⟩) (Kd.R_far (p := ⟨gb156, 3, none⟩) (Kd.R_far (p := ⟨gb156, 2, none⟩) (Kd.R_far (p := ⟨gb156, 1, none⟩) (Kd.R_far (p := ⟨gb156, 0, none⟩) (Kd.R_types HO155.out BK156.out (by decide)) (fun _ hk => hk.2) (.int .i64 t149)) (fun _ hk => hk.2) (.string t150)) (fun _ hk => hk.2) (.int .i64 t151)) (fun _ hk => hk.2) (.bool t152)) (fun _ hk => hk.2) (.slice Ao157 t153.length co157)) (fun _ h_ => h_.1))))) (bz (by repeat (first | (with_reducible first | exact HB.out | apply ba | apply bn | apply be | refine bs ?_ GE130.out | refine bs ?_ GE131.out | refine bs ?_ GE156.out) | exact HB.out)))); have n4_ := Am (kb (g := gb130) (o := ob0 a0_0 a0_1 a0_2 a0_3 A0_4 l0_4.length c0_4) (by (with_reducible repeat (first | refine kn ?_ _ | refine ke ?_ | refine ka ?_ _)); refine blk_far ?_ NB130_156.out _; (with_reducible repeat (first | refine kn ?_ _ | refine ke ?_ | refine ka ?_ _)); refine blk_far ?_ NB130_156.out _; (with_reducible repeat (first | refine kn ?_ _ | refine ke ?_ | refine ka ?_ _)); refine blk_far ?_ NB130_156.out _; (with_reducible repeat (first | refine kn ?_ _ | refine ke ?_ | refine ka ?_ _)); refine blk_far ?_ NB130_156.out _; (with_reducible repeat (first | refine kn ?_ _ | refine ke ?_ | refine ka ?_ _)); refine blk_far ?_ NB130_156.out _; (with_reducible repeat (first | refine kn ?_ _ | refine ke ?_ | refine ka ?_ _)); exact BK130.out) hb); have n5_ := Am (kb (g := gb131) (o := ob1 a1_0 a1_1 a1_2 a1_3 A1_4 l1_4.length c1_4) (by (with_reducible repeat (first | refine kn ?_ _ | refine ke ?_ | refine ka ?_ _)); refine blk_far ?_ NB131_156.out _; (with_reducible repeat (first | refine kn ?_ _ | refine ke ?_ | refine ka ?_ _)); refine blk_far ?_ NB131_156.out _; (with_reducible repeat (first | refine kn ?_ _ | refine ke ?_ | refine ka ?_ _)); refine blk_far ?_ NB131_156.out _; (with_reducible repeat (first | refine kn ?_ _ | refine ke ?_ | refine ka ?_ _)); refine blk_far ?_ NB131_156.out _; (with_reducible repeat (first | refine kn ?_ _ | refine ke ?_ | refine ka ?_ _)); refine blk_far ?_ NB131_156.out _; (with_reducible repeat (first | refine kn ?_ _ | refine ke ?_ | refine ka ?_ _)); exact BK131.out) hb); have n6_ := Am (kb (g := gb156) (o := ob4 t149 t150 t151 t152 Ao157 t153.length co157) (by (with_reducible repeat (first | refine kn ?_ _ | refine ke ?_ | refine ka ?_ _)); refine kp (cs := #[.int .i64 t149, .string t150, .int .i64 t151, .bool t152, .slice none 0 0]) ?_ 4 _ rfl; (with_reducible repeat (first | refine kn ?_ _ | refine ke ?_ | refine ka ?_ _)); refine kp (cs := #[.int .i64 t149, .string t150, .int .i64 t151, .bool false, .slice none 0 0]) ?_ 3 _ rfl; (with_reducible repeat (first | refine kn ?_ _ | refine ke ?_ | refine ka ?_ _)); refine kp (cs := #[.int .i64 t149, .string t150, .int .i64 0, .bool false, .slice none 0 0]) ?_ 2 _ rfl; (with_reducible repeat (first | refine kn ?_ _ | refine ke ?_ | refine ka ?_ _)); refine kp (cs := #[.int .i64 t149, .string (⟨#[]⟩ : ByteArray), .int .i64 0, .bool false, .slice none 0 0]) ?_ 1 _ rfl; (with_reducible repeat (first | refine kn ?_ _ | refine ke ?_ | refine ka ?_ _)); refine kp (cs := #[.int .i64 0, .string (⟨#[]⟩ : ByteArray), .int .i64 0, .bool false, .slice none 0 0]) ?_ 0 _ rfl; (with_reducible repeat (first | refine kn ?_ _ | refine ke ?_ | refine ka ?_ _)); exact BK156.out) hb); have n7_ := Am (bt (by repeat (first | (with_reducible first | exact HB.out | apply ba | apply bn | apply be | refine bs ?_ GE130.out | refine bs ?_ GE131.out | refine bs ?_ GE156.out) | exact HB.out)) hb); clear HO140; clear HO147; clear HO155; clear BK130; clear BK131; clear BK156; clear HB; have HO140 := n0_; have HO147 := n1_; have HO155 := n2_; have HO163 := n3_; have BK130 := n4_; have BK131 := n5_; have BK156 := n6_; have HB := n7_; clear n0_ n1_ n2_ n3_ n4_ n5_ n6_ n7_; (try clear hb); (try clear hb2); (try clear hk); (try clear hi); (try clear ho0)) | ((with_reducible refine gate_dst (N := 8) rfl ?_); refine box_event ?hg (N := 8) ?hd (cs := #[.int .i64 0, .string (⟨#[]⟩ : ByteArray), .int .i64 0, .bool false, .slice none 0 0]) (t := 49) ?hr ?_; (case hd => rfl); (case hg => rfl); (case hr => first | (go_simp; done) | (go_simp; rfl)); intro gb164 hg w160 hbox hb; have n0_ := Am (rb (by (with_reducible repeat (first | apply ra | apply rn | apply re)); exact HO140.out) hb); have n1_ := Am (rb (by (with_reducible repeat (first | apply ra | apply rn | apply re)); exact HO147.out) hb); have n2_ := Am (rb (by (with_reducible repeat (first | apply ra | apply rn | apply re)); exact HO155.out) hb); have n3_ := Am (rb (by (with_reducible repeat (first | apply ra | apply rn | apply re)); exact HO163.out) hb); have n4_ := Am (kb (g := gb130) (o := ob0 a0_0 a0_1 a0_2 a0_3 A0_4 l0_4.length c0_4) (by (with_reducible repeat (first | refine kn ?_ _ | refine ke ?_ | refine ka ?_ _)); exact BK130.out) hb); have n5_ := Am (kb (g := gb131) (o := ob1 a1_0 a1_1 a1_2 a1_3 A1_4 l1_4.length c1_4) (by (with_reducible repeat (first | refine kn ?_ _ | refine ke ?_ | refine ka ?_ _)); exact BK131.out) hb); have n6_ := Am (kb (g := gb156) (o := ob4 t149 t150 t151 t152 Ao157 t153.length co157) (by (with_reducible repeat (first | refine kn ?_ _ | refine ke ?_ | refine ka ?_ _)); exact BK156.out) hb); have n7_ := Am (bt (by repeat (first | (with_reducible first | exact HB.out | apply ba | apply bn | apply be | refine bs ?_ GE130.out | refine bs ?_ GE131.out | refine bs ?_ GE156.out) | exact HB.out)) hb); have n8_ := Am (hbox); have n9_ := Am ((by rw [hg]; exact (bz (by repeat (first | (with_reducible first | exact HB.out | apply ba | apply bn | apply be | refine bs ?_ GE130.out | refine bs ?_ GE131.out | refine bs ?_ GE156.out) | exact HB.out))) : w.heap.size ≤ gb164)); have n10_ := Am ((by rw [hg]; exact (bz (by repeat (first | (with_reducible first | exact HB.out | apply ba | apply bn | apply be | refine bs ?_ GE130.out | refine bs ?_ GE131.out | refine bs ?_ GE156.out) | exact HB.out))) : w.heap.size ≤ gb164)); have n11_ := Am ((by rw [hg]; exact Nat.ne_of_lt (kl (g := gb130) (o := ob0 a0_0 a0_1 a0_2 a0_3 A0_4 l0_4.length c0_4) (by (with_reducible repeat (first | refine kn ?_ _ | refine ke ?_ | refine ka ?_ _)); exact BK130.out)) : gb130 ≠ gb164)); have n12_ := Am ((by rw [hg]; exact Nat.ne_of_gt (kl (g := gb130) (o := ob0 a0_0 a0_1 a0_2 a0_3 A0_4 l0_4.length c0_4) (by (with_reducible repeat (first | refine kn ?_ _ | refine ke ?_ | refine ka ?_ _)); exact BK130.out)) : gb164 ≠ gb130)); have n13_ := Am ((by rw [hg]; exact Nat.ne_of_lt (kl (g := gb131) (o := ob1 a1_0 a1_1 a1_2 a1_3 A1_4 l1_4.length c1_4) (by (with_reducible repeat (first | refine kn ?_ _ | refine ke ?_ | refine ka ?_ _)); exact BK131.out)) : gb131 ≠ gb164)); have n14_ := Am ((by rw [hg]; exact Nat.ne_of_gt (kl (g := gb131) (o := ob1 a1_0 a1_1 a1_2 a1_3 A1_4 l1_4.length c1_4) (by (with_reducible repeat (first | refine kn ?_ _ | refine ke ?_ | refine ka ?_ _)); exact BK131.out)) : gb164 ≠ gb131)); have n15_ := Am ((by rw [hg]; exact Nat.ne_of_lt (kl (g := gb156) (o := ob4 t149 t150 t151 t152 Ao157 t153.length co157) (by (with_reducible repeat (first | refine kn ?_ _ | refine ke ?_ | refine ka ?_ _)); exact BK156.out)) : gb156 ≠ gb164)); have n16_ := Am ((by rw [hg]; exact Nat.ne_of_gt (kl (g := gb156) (o := ob4 t149 t150 t151 t152 Ao157 t153.length co157) (by (with_reducible repeat (first | refine kn ?_ _ | refine ke ?_ | refine ka ?_ _)); exact BK156.out)) : gb164 ≠ gb156)); clear HO140; clear HO147; clear HO155; clear HO163; clear BK130; clear BK131; clear BK156; clear HB; have HO140 := n0_; have HO147 := n1_; have HO155 := n2_; have HO163 := n3_; have BK130 := n4_; have BK131 := n5_; have BK156 := n6_; have HB := n7_; have BK164 := n8_; have GW164 := n9_; have GE164 := n10_; have NB130_164 := n11_; have NB164_130 := n12_; have NB131_164 := n13_; have NB164_131 := n14_; have NB156_164 := n15_; have NB164_156 := n16_; clear n0_ n1_ n2_ n3_ n4_ n5_ n6_ n7_ n8_ n9_ n10_ n11_ n12_ n13_ n14_ n15_ n16_; clear hb hbox hg; have hnb161 := NB164_130.out; have hnc161 := NB130_164.out; have hnb162 := NB164_131.out; have hnc162 := NB131_164.out; have hnb163 := NB164_156.out; have hnc163 := NB156_164.out; have hcz164_0 : w160.cell? ⟨gb164, 0, none⟩ = some (.int .i64 0) := (kc BK164.out 0).trans rfl; have hcz164_1 : w160.cell? ⟨gb164, 1, none⟩ = some (.string (⟨#[]⟩ : ByteArray)) := (kc BK164.out 1).trans rfl; have hcz164_2 : w160.cell? ⟨gb164, 2, none⟩ = some (.int .i64 0) := (kc BK164.out 2).trans rfl; have hcz164_3 : w160.cell? ⟨gb164, 3, none⟩ = some (.bool false) := (kc BK164.out 3).trans rfl; have hcz164_4 : w160.cell? ⟨gb164, 4, none⟩ = some (.slice none 0 0) := (kc BK164.out 4).trans rfl; have hfz164_0 := kf BK164.out 0; have hfz164_1 := kf BK164.out 1; have hfz164_2 := kf BK164.out 2; have hfz164_3 := kf BK164.out 3; have hfz164_4 := kf BK164.out 4; obtain ⟨Ao165, co165, eo165⟩ := Kd.R_slice HO163.out; subst eo165; have hcz166_0 : w160.cell? ⟨gb156, 0, none⟩ = some (.int .i64 t149) := (kc BK156.out 0).trans rfl; have hcz166_1 : w160.cell? ⟨gb156, 1, none⟩ = some (.string t150) := (kc BK156.out 1).trans rfl; have hcz166_2 : w160.cell? ⟨gb156, 2, none⟩ = some (.int .i64 t151) := (kc BK156.out 2).trans rfl; have hcz166_3 : w160.cell? ⟨gb156, 3, none⟩ = some (.bool t152) := (kc BK156.out 3).trans rfl; have hcz166_4 : w160.cell? ⟨gb156, 4, none⟩ = some (.slice Ao157 t153.length co157) := (kc BK156.out 4).trans rfl; have hfz166_0 := kf BK156.out 0; have hfz166_1 := kf BK156.out 1; have hfz166_2 := kf BK156.out 2; have hfz166_3 := kf BK156.out 3; have hfz166_4 := kf BK156.out 4) | ((with_reducible refine gate_callee (f := 31) rfl ?_); refine goesL_ (some 31) rfl rfl Try.func31 (by kernel_rfl) rfl #[.agg #[.int .i64 t149, .string t150, .int .i64 t151, .bool t152, .slice Ao157 t153.length co157], .agg #[.int .i64 t157, .string t158, .int .i64 t159, .bool t160, .slice Ao165 t161.length co165]] rfl (by (try simp only [List.map_toArray, List.map_cons, List.map_nil]); first | done | rfl | (simp only [List.length_drop, List.length_take]; rfl)) ?_; (with_reducible refine (impl_SameResult.calls k t149 t150 t151 t152 _ _ t153 t157 t158 t159 t160 _ _ t161 t165 _ ?side1 ?side2 ?side3 ?side4 A24.out).mono ?_); (case side1 => refine (Kd.R_reads' (e := 9) (base := w.heap.size) (ok := fun k_ => (((True ∧ some k_ ≠ (.slice Ao148 t138.length co148 : Value).ownBlock) ∧ some k_ ≠ (.slice Ao149 t145.length co149 : Value).ownBlock) ∧ some k_ ≠ (.slice Ao165 t161.length co165 : Value).ownBlock)) (n := t153.length) (c := co157) ?_).2.2; exact (by (with_reducible repeat (first | apply ra | apply rn | apply re)); exact (Kd.R_mono (Kd.R_far (p := ⟨gb164, 4, none⟩) (Kd.R_far (p := ⟨gb164, 3, none⟩) (Kd.R_far (p := ⟨gb164, 2, none⟩) (Kd.R_far (p := ⟨gb164, 1, none⟩) (Kd.R_far (p := ⟨gb164, 0, none⟩) (Kd.R_types HO155.out BK164.out (by decide)) (fun _ hk => hk.2) (.int .i64 t157)) (fun _ hk => hk.2) (.string t158)) (fun _ hk => hk.2) (.int .i64 t159)) (fun _ hk => hk.2) (.bool t160)) (fun _ hk => hk.2) (.slice Ao165 t161.length co165)) (fun _ h_ => h_.1)))); (case side2 => exact (Kd.R_reads' HO155.out).2.1); (case side3 => refine (Kd.R_reads' (e := 9) (base := w.heap.size) (ok := fun k_ => (((True ∧ some k_ ≠ (.slice Ao148 t138.length co148 : Value).ownBlock) ∧ some k_ ≠ (.slice Ao149 t145.length co149 : Value).ownBlock) ∧ some k_ ≠ (.slice Ao157 t153.length co157 : Value).ownBlock)) (n := t161.length) (c := co165) ?_).2.2; exact (by (with_reducible repeat (first | apply ra | apply rn | apply re)); exact (Kd.R_mono (Kd.R_far (p := ⟨gb164, 4, none⟩) (Kd.R_far (p := ⟨gb164, 3, none⟩) (Kd.R_far (p := ⟨gb164, 2, none⟩) (Kd.R_far (p := ⟨gb164, 1, none⟩) (Kd.R_far (p := ⟨gb164, 0, none⟩) (Kd.R_types HO163.out BK164.out (by decide)) (fun _ hk => hk.2) (.int .i64 t157)) (fun _ hk => hk.2) (.string t158)) (fun _ hk => hk.2) (.int .i64 t159)) (fun _ hk => hk.2) (.bool t160)) (fun _ hk => hk.2) (.slice Ao165 t161.length co165)) (fun _ h_ => h_.1)))); (case side4 => exact (Kd.R_reads' HO163.out).2.1); rintro e w167 ⟨rfl, hb⟩; refine ⟨_, rfl, ?_⟩; have n0_ := Am (rb (by (with_reducible repeat (first | apply ra | apply rn | apply re)); exact (Kd.R_mono (Kd.R_far (p := ⟨gb164, 4, none⟩) (Kd.R_far (p := ⟨gb164, 3, none⟩) (Kd.R_far (p := ⟨gb164, 2, none⟩) (Kd.R_far (p := ⟨gb164, 1, none⟩) (Kd.R_far (p := ⟨gb164, 0, none⟩) (Kd.R_types HO140.out BK164.out (by decide)) (fun _ hk => hk.2) (.int .i64 t157)) (fun _ hk => hk.2) (.string t158)) (fun _ hk => hk.2) (.int .i64 t159)) (fun _ hk => hk.2) (.bool t160)) (fun _ hk => hk.2) (.slice Ao165 t161.length co165)) (fun _ h_ => h_.1))) hb); have n1_ := Am (rb (by (with_reducible repeat (first | apply ra | apply rn | apply re)); exact (Kd.R_mono (Kd.R_far (p := ⟨gb164, 4, none⟩) (Kd.R_far (p := ⟨gb164, 3, none⟩) (Kd.R_far (p := ⟨gb164, 2, none⟩) (Kd.R_far (p := ⟨gb164, 1, none⟩) (Kd.R_far (p := ⟨gb164, 0, none⟩) (Kd.R_types HO147.out BK164.out (by decide)) (fun _ hk => hk.2) (.int .i64 t157)) (fun _ hk => hk.2) (.string t158)) (fun _ hk => hk.2) (.int .i64 t159)) (fun _ hk => hk.2) (.bool t160)) (fun _ hk => hk.2) (.slice Ao165 t161.length co165)) (fun _ h_ => h_.1))) hb); have n2_ := Am (rb (by (with_reducible repeat (first | apply ra | apply rn | apply re)); exact (Kd.R_mono (Kd.R_far (p := ⟨gb164, 4, none⟩) (Kd.R_far (p := ⟨gb164, 3, none⟩) (Kd.R_far (p := ⟨gb164, 2, none⟩) (Kd.R_far (p := ⟨gb164, 1, none⟩) (Kd.R_far (p := ⟨gb164, 0, none⟩) (Kd.R_types HO155.out BK164.out (by decide)) (fun _ hk => hk.2) (.int .i64 t157)) (fun _ hk => hk.2) (.string t158)) (fun _ hk => hk.2) (.int .i64 t159)) (fun _ hk => hk.2) (.bool t160)) (fun _ hk => hk.2) (.slice Ao165 t161.length co165)) (fun _ h_ => h_.1))) hb); have n3_ := Am (rb (by (with_reducible repeat (first | apply ra | apply rn | apply re)); exact (Kd.R_mono (Kd.R_far (p := ⟨gb164, 4, none⟩) (Kd.R_far (p := ⟨gb164, 3, none⟩) (Kd.R_far (p := ⟨gb164, 2, none⟩) (Kd.R_far (p := ⟨gb164, 1, none⟩) (Kd.R_far (p := ⟨gb164, 0, none⟩) (Kd.R_types HO163.out BK164.out (by decide)) (fun _ hk => hk.2) (.int .i64 t157)) (fun _ hk => hk.2) (.string t158)) (fun _ hk => hk.2) (.int .i64 t159)) (fun _ hk => hk.2) (.bool t160)) (fun _ hk => hk.2) (.slice Ao165 t161.length co165)) (fun _ h_ => h_.1))) hb); have n4_ := Am (kb (g := gb130) (o := ob0 a0_0 a0_1 a0_2 a0_3 A0_4 l0_4.length c0_4) (by (with_reducible repeat (first | refine kn ?_ _ | refine ke ?_ | refine ka ?_ _)); refine blk_far ?_ NB130_164.out _; (with_reducible repeat (first | refine kn ?_ _ | refine ke ?_ | refine ka ?_ _)); refine blk_far ?_ NB130_164.out _; (with_reducible repeat (first | refine kn ?_ _ | refine ke ?_ | refine ka ?_ _)); refine blk_far ?_ NB130_164.out _; (with_reducible repeat (first | refine kn ?_ _ | refine ke ?_ | refine ka ?_ _)); refine blk_far ?_ NB130_164.out _; (with_reducible repeat (first | refine kn ?_ _ | refine ke ?_ | refine ka ?_ _)); refine blk_far ?_ NB130_164.out _; (with_reducible repeat (first | refine kn ?_ _ | refine ke ?_ | refine ka ?_ _)); exact BK130.out) hb); have n5_ := Am (kb (g := gb131) (o := ob1 a1_0 a1_1 a1_2 a1_3 A1_4 l1_4.length c1_4) (by (with_reducible repeat (first | refine kn ?_ _ | refine ke ?_ | refine ka ?_ _)); refine blk_far ?_ NB131_164.out _; (with_reducible repeat (first | refine kn ?_ _ | refine ke ?_ | refine ka ?_ _)); refine blk_far ?_ NB131_164.out _; (with_reducible repeat (first | refine kn ?_ _ | refine ke ?_ | refine ka ?_ _)); refine blk_far ?_ NB131_164.out _; (with_reducible repeat (first | refine kn ?_ _ | refine ke ?_ | refine ka ?_ _)); refine blk_far ?_ NB131_164.out _; (with_reducible repeat (first | refine kn ?_ _ | refine ke ?_ | refine ka ?_ _)); refine blk_far ?_ NB131_164.out _; (with_reducible repeat (first | refine kn ?_ _ | refine ke ?_ | refine ka ?_ _)); exact BK131.out) hb); have n6_ := Am (kb (g := gb156) (o := ob4 t149 t150 t151 t152 Ao157 t153.length co157) (by (with_reducible repeat (first | refine kn ?_ _ | refine ke ?_ | refine ka ?_ _)); refine blk_far ?_ NB156_164.out _; (with_reducible repeat (first | refine kn ?_ _ | refine ke ?_ | refine ka ?_ _)); refine blk_far ?_ NB156_164.out _; (with_reducible repeat (first | refine kn ?_ _ | refine ke ?_ | refine ka ?_ _)); refine blk_far ?_ NB156_164.out _; (with_reducible repeat (first | refine kn ?_ _ | refine ke ?_ | refine ka ?_ _)); refine blk_far ?_ NB156_164.out _; (with_reducible repeat (first | refine kn ?_ _ | refine ke ?_ | refine ka ?_ _)); refine blk_far ?_ NB156_164.out _; (with_reducible repeat (first | refine kn ?_ _ | refine ke ?_ | refine ka ?_ _)); exact BK156.out) hb); have n7_ := Am (kb (g := gb164) (o := .cells #[.int .i64 t157, .string t158, .int .i64 t159, .bool t160, .slice Ao165 t161.length co165] 49 (0, 0)) (by (with_reducible repeat (first | refine kn ?_ _ | refine ke ?_ | refine ka ?_ _)); refine kp (cs := #[.int .i64 t157, .string t158, .int .i64 t159, .bool t160, .slice none 0 0]) ?_ 4 _ rfl; (with_reducible repeat (first | refine kn ?_ _ | refine ke ?_ | refine ka ?_ _)); refine kp (cs := #[.int .i64 t157, .string t158, .int .i64 t159, .bool false, .slice none 0 0]) ?_ 3 _ rfl; (with_reducible repeat (first | refine kn ?_ _ | refine ke ?_ | refine ka ?_ _)); refine kp (cs := #[.int .i64 t157, .string t158, .int .i64 0, .bool false, .slice none 0 0]) ?_ 2 _ rfl; (with_reducible repeat (first | refine kn ?_ _ | refine ke ?_ | refine ka ?_ _)); refine kp (cs := #[.int .i64 t157, .string (⟨#[]⟩ : ByteArray), .int .i64 0, .bool false, .slice none 0 0]) ?_ 1 _ rfl; (with_reducible repeat (first | refine kn ?_ _ | refine ke ?_ | refine ka ?_ _)); refine kp (cs := #[.int .i64 0, .string (⟨#[]⟩ : ByteArray), .int .i64 0, .bool false, .slice none 0 0]) ?_ 0 _ rfl; (with_reducible repeat (first | refine kn ?_ _ | refine ke ?_ | refine ka ?_ _)); exact BK164.out) hb); have n8_ := Am (bt (by repeat (first | (with_reducible first | exact HB.out | apply ba | apply bn | apply be | refine bs ?_ GE130.out | refine bs ?_ GE131.out | refine bs ?_ GE156.out | refine bs ?_ GE164.out) | exact HB.out)) hb); clear HO140; clear HO147; clear HO155; clear HO163; clear BK130; clear BK131; clear BK156; clear BK164; clear HB; have HO140 := n0_; have HO147 := n1_; have HO155 := n2_; have HO163 := n3_; have BK130 := n4_; have BK131 := n5_; have BK156 := n6_; have BK164 := n7_; have HB := n8_; clear n0_ n1_ n2_ n3_ n4_ n5_ n6_ n7_ n8_; (try clear hb); (try clear hb2); (try clear hk); (try clear hi)))
     have n0_ := Am (re HO140.out)
     have n1_ := Am (re HO147.out)
     have n2_ := Am (re HO155.out)
     have n3_ := Am (re HO163.out)
     have n4_ := Am (ke BK130.out)
     have n5_ := Am (ke BK131.out)
     have n6_ := Am (ke BK156.out)
     have n7_ := Am (ke BK164.out)
     have n8_ := Am (be HB.out)
     clear HO140
     clear HO147
     clear HO155
     clear HO163
     clear BK130
     clear BK131
     clear BK156
     clear BK164
     clear HB
     have HO140 := n0_
     have HO147 := n1_
     have HO155 := n2_
     have HO163 := n3_
     have BK130 := n4_
     have BK131 := n5_
     have BK156 := n6_
     have BK164 := n7_
     have HB := n8_
     clear n0_ n1_ n2_ n3_ n4_ n5_ n6_ n7_ n8_
     refine start_ (n := 5) (S := fun w' => w'.cell? ⟨gb156, 0, none⟩ = some (.int .i64 t149) ∧ w'.cell? ⟨gb156, 1, none⟩ = some (.string t150) ∧ w'.cell? ⟨gb156, 2, none⟩ = some (.int .i64 t151) ∧ w'.cell? ⟨gb156, 3, none⟩ = some (.bool t152) ∧ w'.cell? ⟨gb156, 4, none⟩ = some (.slice Ao157 t153.length co157) ∧ w'.cell? ⟨gb130, 0, none⟩ = some (.int .i64 a0_0) ∧ w'.cell? ⟨gb130, 1, none⟩ = some (.string a0_1) ∧ w'.cell? ⟨gb130, 2, none⟩ = some (.int .i64 a0_2) ∧ w'.cell? ⟨gb130, 3, none⟩ = some (.bool a0_3) ∧ w'.cell? ⟨gb130, 4, none⟩ = some (.slice A0_4 l0_4.length c0_4)) (ds := []) #[false, false, false, false, false] (by kernel_rfl) rfl rfl ⟨(kc BK156.out 0).trans rfl, (kc BK156.out 1).trans rfl, (kc BK156.out 2).trans rfl, (kc BK156.out 3).trans rfl, (kc BK156.out 4).trans rfl, (kc BK130.out 0).trans rfl, (kc BK130.out 1).trans rfl, (kc BK130.out 2).trans rfl, (kc BK130.out 3).trans rfl, (kc BK130.out 4).trans rfl⟩ (fun hHeld => ?_)
     generalize w167.drew = w168 at HO140 HO147 HO155 HO163 BK130 BK131 BK156 BK164 HB hHeld ⊢
     refine take_ (i := 0) (N := some 35) (v := ?_) (a' := ?_) #[true, false, false, false, false] rfl rfl (by kernel_rfl) (fun _ _ _ h => h) (Or.inl ⟨by rfl, ?_⟩) hHeld ?_ ?_
     rotate_left
     ·rintro w' ⟨s0, s1, s2, s3, s4, s5, s6, s7, s8, s9⟩
      go_simp
      with_reducible rfl
     rotate_left
     ·simp only [Act.put, List.setIfInBounds_toArray, List.set_cons_zero, List.set_cons_succ, i64_w, i32_w]
      rfl
     refine take_ (i := 1) (N := some 36) (v := ?_) (a' := ?_) #[true, true, false, false, false] rfl rfl (by kernel_rfl) (fun _ _ _ h => h) (Or.inl ⟨by rfl, ?_⟩) hHeld ?_ ?_
     rotate_left
     ·rintro w' ⟨s0, s1, s2, s3, s4, s5, s6, s7, s8, s9⟩
      go_simp
      with_reducible rfl
     rotate_left
     ·simp only [Act.put, List.setIfInBounds_toArray, List.set_cons_zero, List.set_cons_succ, i64_w, i32_w]
      rfl
     refine one_ (i := 2) (N := some 37) #[true, true, true, false, false] rfl rfl (by kernel_rfl) (by decide) (fun K hK => ?_)
     refine goes_ Try.func30 (by kernel_rfl) rfl #[.agg #[.int .i64 a0_0, .string a0_1, .int .i64 a0_2, .bool a0_3, .slice A0_4 l0_4.length c0_4]] (by rfl) rfl rfl (by (try simp only [List.map_toArray, List.map_cons, List.map_nil]); first | done | rfl | (simp only [List.length_drop, List.length_take]; rfl)) ?_
     with_reducible refine (laws_toResult.calls k a0_0 a0_1 a0_2 a0_3 _ _ l0_4 t166 t167 t168 t169 t170 _ ?side1 ?side2 A56.out).mono ?_
     (case side1 => repeat (first | exact (cb HR0_4.out HB.out) | (with_reducible refine ca ?_ _) | (with_reducible refine cn ?_ _) | (with_reducible refine ce ?_)))
     (case side2 => exact HC0_4.out)
     rintro e w169 ⟨v171, rfl, ho0, hb⟩
     refine ⟨_, rfl, ?_⟩
     have n0_ := Am (Kd.R_elder' (by (with_reducible repeat (first | apply ra | apply rn | apply re)); exact HO140.out) (Kd.R_base ho0) hb)
     have n1_ := Am (Kd.R_elder' (by (with_reducible repeat (first | apply ra | apply rn | apply re)); exact HO147.out) (Kd.R_base ho0) hb)
     have n2_ := Am (Kd.R_elder' (by (with_reducible repeat (first | apply ra | apply rn | apply re)); exact HO155.out) (Kd.R_base ho0) hb)
     have n3_ := Am (Kd.R_elder' (by (with_reducible repeat (first | apply ra | apply rn | apply re)); exact HO163.out) (Kd.R_base ho0) hb)
     have n4_ := Am (Kd.R_lower (Kd.R_new' (Kd.R_new' (Kd.R_new' (Kd.R_new' ho0 (Kd.R_lt (by (with_reducible repeat (first | apply ra | apply rn | apply re)); exact HO140.out))) (Kd.R_lt (by (with_reducible repeat (first | apply ra | apply rn | apply re)); exact HO147.out))) (Kd.R_lt (by (with_reducible repeat (first | apply ra | apply rn | apply re)); exact HO155.out))) (Kd.R_lt (by (with_reducible repeat (first | apply ra | apply rn | apply re)); exact HO163.out))) (bz (by repeat (first | (with_reducible first | exact HB.out | apply ba | apply bn | apply be | refine bs ?_ GE130.out | refine bs ?_ GE131.out | refine bs ?_ GE156.out | refine bs ?_ GE164.out) | exact HB.out))))
     have n5_ := Am (kb (g := gb130) (o := ob0 a0_0 a0_1 a0_2 a0_3 A0_4 l0_4.length c0_4) (by (with_reducible repeat (first | refine kn ?_ _ | refine ke ?_ | refine ka ?_ _)); exact BK130.out) hb)
     have n6_ := Am (kb (g := gb131) (o := ob1 a1_0 a1_1 a1_2 a1_3 A1_4 l1_4.length c1_4) (by (with_reducible repeat (first | refine kn ?_ _ | refine ke ?_ | refine ka ?_ _)); exact BK131.out) hb)
     have n7_ := Am (kb (g := gb156) (o := ob4 t149 t150 t151 t152 Ao157 t153.length co157) (by (with_reducible repeat (first | refine kn ?_ _ | refine ke ?_ | refine ka ?_ _)); exact BK156.out) hb)
     have n8_ := Am (kb (g := gb164) (o := .cells #[.int .i64 t157, .string t158, .int .i64 t159, .bool t160, .slice Ao165 t161.length co165] 49 (0, 0)) (by (with_reducible repeat (first | refine kn ?_ _ | refine ke ?_ | refine ka ?_ _)); exact BK164.out) hb)
     have n9_ := Am (bt (by repeat (first | (with_reducible first | exact HB.out | apply ba | apply bn | apply be | refine bs ?_ GE130.out | refine bs ?_ GE131.out | refine bs ?_ GE156.out | refine bs ?_ GE164.out) | exact HB.out)) hb)
     clear HO140
     clear HO147
     clear HO155
     clear HO163
     clear BK130
     clear BK131
     clear BK156
     clear BK164
     clear HB
     have HO140 := n0_
     have HO147 := n1_
     have HO155 := n2_
     have HO163 := n3_
     have HO172 := n4_
     have BK130 := n5_
     have BK131 := n6_
     have BK156 := n7_
     have BK164 := n8_
     have HB := n9_
     clear n0_ n1_ n2_ n3_ n4_ n5_ n6_ n7_ n8_ n9_
     (try clear hb)
     (try clear hb2)
     (try clear hk)
     (try clear hi)
     (try clear ho0)
     obtain ⟨Ao170, co170, eo170⟩ := Kd.R_slice HO172.out
     (first | subst eo170 | (injection eo170 with f1_ f2_ f3_; have f4_ := f1_.symm; have f5_ := f3_.symm; clear f1_ f2_ f3_; subst f4_; subst f5_))
     refine hK.out _ _ ⟨(kc BK156.out 0).trans rfl, (kc BK156.out 1).trans rfl, (kc BK156.out 2).trans rfl, (kc BK156.out 3).trans rfl, (kc BK156.out 4).trans rfl, (kc BK130.out 0).trans rfl, (kc BK130.out 1).trans rfl, (kc BK130.out 2).trans rfl, (kc BK130.out 3).trans rfl, (kc BK130.out 4).trans rfl⟩ (fun hHeld => ?_)
     clear hK K
     refine norm_ (a' := ?_) ?_ ?_
     rotate_left
     ·show Act.put _ (some 37) _ = _
      simp only [Act.put, List.setIfInBounds_toArray, List.set_cons_zero, List.set_cons_succ, i64_w, i32_w]
      rfl
     refine one_ (i := 3) (N := some 38) #[true, true, true, true, false] rfl rfl (by kernel_rfl) (by decide) (fun K hK => ?_)
     refine goes_ Try.func32 (by kernel_rfl) rfl #[.agg #[.int .i64 t149, .string t150, .int .i64 t151, .bool t152, .slice Ao157 t153.length co157], .agg #[.int .i64 t166, .string t167, .int .i64 t168, .bool t169, .slice Ao170 t170.length co170]] (by rfl) rfl rfl (by (try simp only [List.map_toArray, List.map_cons, List.map_nil]); first | done | rfl | (simp only [List.length_drop, List.length_take]; rfl)) ?_
     with_reducible refine (laws_eqResult.calls k t149 t150 t151 t152 _ _ t153 t166 t167 t168 t169 _ _ t170 false _ ?side1 ?side2 ?side3 ?side4 A57.out).mono ?_
     (case side1 => repeat (first | exact (Kd.R_reads' HO155.out).2.2 | (with_reducible refine ca ?_ _) | (with_reducible refine cn ?_ _) | (with_reducible refine ce ?_)))
     (case side2 => exact (Kd.R_reads' HO155.out).2.1)
     (case side3 => repeat (first | exact (Kd.R_reads' HO172.out).2.2 | (with_reducible refine ca ?_ _) | (with_reducible refine cn ?_ _) | (with_reducible refine ce ?_)))
     (case side4 => exact (Kd.R_reads' HO172.out).2.1)
     rintro e w171 ⟨rfl, hb⟩
     refine ⟨_, rfl, ?_⟩
     have n0_ := Am (rb (by (with_reducible repeat (first | apply ra | apply rn | apply re)); exact HO140.out) hb)
     have n1_ := Am (rb (by (with_reducible repeat (first | apply ra | apply rn | apply re)); exact HO147.out) hb)
     have n2_ := Am (rb (by (with_reducible repeat (first | apply ra | apply rn | apply re)); exact HO155.out) hb)
     have n3_ := Am (rb (by (with_reducible repeat (first | apply ra | apply rn | apply re)); exact HO163.out) hb)
     have n4_ := Am (rb (by (with_reducible repeat (first | apply ra | apply rn | apply re)); exact HO172.out) hb)
     have n5_ := Am (kb (g := gb130) (o := ob0 a0_0 a0_1 a0_2 a0_3 A0_4 l0_4.length c0_4) (by (with_reducible repeat (first | refine kn ?_ _ | refine ke ?_ | refine ka ?_ _)); exact BK130.out) hb)
     have n6_ := Am (kb (g := gb131) (o := ob1 a1_0 a1_1 a1_2 a1_3 A1_4 l1_4.length c1_4) (by (with_reducible repeat (first | refine kn ?_ _ | refine ke ?_ | refine ka ?_ _)); exact BK131.out) hb)
     have n7_ := Am (kb (g := gb156) (o := ob4 t149 t150 t151 t152 Ao157 t153.length co157) (by (with_reducible repeat (first | refine kn ?_ _ | refine ke ?_ | refine ka ?_ _)); exact BK156.out) hb)
     have n8_ := Am (kb (g := gb164) (o := .cells #[.int .i64 t157, .string t158, .int .i64 t159, .bool t160, .slice Ao165 t161.length co165] 49 (0, 0)) (by (with_reducible repeat (first | refine kn ?_ _ | refine ke ?_ | refine ka ?_ _)); exact BK164.out) hb)
     have n9_ := Am (bt (by repeat (first | (with_reducible first | exact HB.out | apply ba | apply bn | apply be | refine bs ?_ GE130.out | refine bs ?_ GE131.out | refine bs ?_ GE156.out | refine bs ?_ GE164.out) | exact HB.out)) hb)
     clear HO140
     clear HO147
     clear HO155
     clear HO163
     clear HO172
     clear BK130
     clear BK131
     clear BK156
     clear BK164
     clear HB
     have HO140 := n0_
     have HO147 := n1_
     have HO155 := n2_
     have HO163 := n3_
     have HO172 := n4_
     have BK130 := n5_
     have BK131 := n6_
     have BK156 := n7_
     have BK164 := n8_
     have HB := n9_
     clear n0_ n1_ n2_ n3_ n4_ n5_ n6_ n7_ n8_ n9_
     (try clear hb)
     (try clear hb2)
     (try clear hk)
     (try clear hi)
     refine hK.out _ _ ⟨(kc BK156.out 0).trans rfl, (kc BK156.out 1).trans rfl, (kc BK156.out 2).trans rfl, (kc BK156.out 3).trans rfl, (kc BK156.out 4).trans rfl, (kc BK130.out 0).trans rfl, (kc BK130.out 1).trans rfl, (kc BK130.out 2).trans rfl, (kc BK130.out 3).trans rfl, (kc BK130.out 4).trans rfl⟩ (fun hHeld => ?_)
     clear hK K
     refine norm_ (a' := ?_) ?_ ?_
     rotate_left
     ·show Act.put _ (some 38) _ = _
      simp only [Act.put, List.setIfInBounds_toArray, List.set_cons_zero, List.set_cons_succ, i64_w, i32_w]
      rfl
     refine pure_ (i := 4) (N := some 39) (v := ?_) (a' := ?_) #[true, true, true, true, true] rfl rfl (by kernel_rfl) (fun _ _ _ h => h) (Or.inl ⟨by rfl, ?_⟩) ?_ ?_
     rotate_left
     ·intro w'
      go_simp
      with_reducible rfl
     rotate_left
     ·simp only [Act.put, List.setIfInBounds_toArray, List.set_cons_zero, List.set_cons_succ, i64_w, i32_w]
      rfl
     refine done_ (by kernel_rfl) ?_
     try go_wp2
     go_ret
     exact ⟨by first | rfl | (simp [errW_none, errW_some] <;> rfl) | (simp [*, errW_none, errW_some] <;> rfl), by repeat (first | (with_reducible first | exact HB.out | apply ba | apply bn | apply be | refine bs ?_ GE130.out | refine bs ?_ GE131.out | refine bs ?_ GE156.out | refine bs ?_ GE164.out) | exact HB.out)⟩

end Go.Proofs.Ytakelegiamdmaaa.QFnExactSameResult
