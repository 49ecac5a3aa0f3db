/- Go functions as Lean functions, and their contracts. Own text: written by wip/gen/pr.py (a turned copy of the print). -/
import Derived.Test.YtconffflmbakgaaQFnExactOneOfx0
import Derived.Test.YtconffflmbakgaaQFnExactOneOfx2
namespace Go.Proofs.Ytconffflmbakgaa.QFnExactOneOf
open Go.RowKit Go.Proofs.YtconffflmbakgaaW.PrintWords Go.Proofs.YtconffflmbakgaaW.PrintLast Go.Proofs.YtconffflmbakgaaW.PrintMore
attribute [local go_sem] max2_int min2_int max_two min_two max_three min_three max_four min_four   -- for this text's walks alone
open Go.Proofs.YtconffflmbakgaaW.PrintWords renaming below_alloc → ba, pw_below_drewN → bn, below_drew1 → be, below_set → bs, blk_drewN → kn, blk_drew → ke, blk_alloc → ka, blk_below → kb, blk_frozen → kf, blk_cell → kc, below_step → bq, below_size → bz
open Go.Proofs.YtconffflmbakgaaW.PrintWords.Kd renaming C_alloc → ca, C_drewN → cn, C_drew → ce, C_below → cb
open Go.Proofs.YtconffflmbakgaaW.PrintWords.Aside0 renaming mk → Am
set_option linter.unusedVariables false
set_option linter.unusedSimpArgs false

theorem cl3 {w w2 : World} {a : Addr} {v : Value} (h : Aside0 (Below w.heap.size w w2)) (e : w.cell? a = some v) : w2.cell? a = some v := (h.out.cell (World.block_lt_of_cell? w _ e)).trans e
def o3b0 (p0 : Int) (p1 : ByteArray) (p2 : ByteArray) (p3 : Int) (p4 : Int) (p5 : ByteArray) (p6 : Int) (p7 : ByteArray) (p8 : Int) (p9 : Bool) (p10 : Option Addr) (p11 p12 : Nat) (p13 : Option Addr) (p14 p15 : Nat) (p16 : Option Addr) (p17 p18 : Nat) (p19 : Int) (p20 : Bool) (p21 : Bool) : Obj := .cells #[.int .i64 p0, .string p1, .string p2, .int .i64 p3, .int .i64 p4, .string p5, .int .i64 p6, .string p7, .int .i64 p8, .bool p9, .slice p10 p11 p12, .slice p13 p14 p15, .slice p16 p17 p18, .int .i64 p19, .bool p20, .bool p21] 161 (0, 0)
def o3b1 (p0 : Int) (p1 : Int) (p2 : Int) (p3 : Int) (p4 : ByteArray) (p5 : Option Addr) (p6 p7 : Nat) (p8 : Option Addr) (p9 p10 : Nat) (p11 : Option Addr) (p12 p13 : Nat) : Obj := .cells #[.int .i64 p0, .int .i64 p1, .int .i64 p2, .int .i64 p3, .string p4, .slice p5 p6 p7, .slice p8 p9 p10, .slice p11 p12 p13] 40 (0, 0)
def o3b2 (p0 : Int) (p1 : Int) (p2 : Int) (p3 : Int) (p4 : ByteArray) (p5 : Option Addr) (p6 p7 : Nat) (p8 : Option Addr) (p9 p10 : Nat) (p11 : Option Addr) (p12 p13 : Nat) (p14 : Option Addr) (p15 p16 : Nat) (p17 : Option Addr) (p18 p19 : Nat) (p20 : Int) : Obj := .cells #[.int .i64 p0, .int .i64 p1, .int .i64 p2, .int .i64 p3, .string p4, .slice p5 p6 p7, .slice p8 p9 p10, .slice p11 p12 p13, .slice p14 p15 p16, .slice p17 p18 p19, .int .i64 p20] 52 (0, 0)
/-! ### laws_szJob: function 114 -/
def laws_szJob.f (k : Nat) (a0_0 : Int) (a0_1 : ByteArray) (a0_2 : ByteArray) (a0_3 : Int) (a0_4 : Int) (a0_5 : ByteArray) (a0_6 : Int) (a0_7 : ByteArray) (a0_8 : Int) (a0_9 : Bool) (l0_10 : List ByteArray) (l0_11 : List (S201)) (l0_12 : List (S164)) (a0_13 : Int) (a0_14 : Bool) (a0_15 : Bool) (a1 : Int) : Option (Int) := (laws_szAsk.f a0_0 a0_1 a0_2 a0_3 a0_4 a0_5 a1).bind fun t117 => (if t117 < 0 then (some (-1)) else ((laws_szResult.f k a0_6 a0_7 a0_8 a0_9 l0_10 t117).bind fun t118 => (if t118 < 0 then (some (-1)) else ((laws_szStepS.f k l0_11 t118).bind fun t119 => (if t119 < 0 then (some (-1)) else ((laws_szSealingS.f k l0_12 t119).bind fun t120 => (if t120 < 0 then (some (-1)) else (some t120))))))))
theorem laws_szJob.mono : ∀ a0 a1 a2 a3 a4 a5 a6 a7 a8 a9 a10 a11 a12 a13 a14 a15 a16 k, LeO (laws_szJob.f k a0 a1 a2 a3 a4 a5 a6 a7 a8 a9 a10 a11 a12 a13 a14 a15 a16) (laws_szJob.f (k + 1) a0 a1 a2 a3 a4 a5 a6 a7 a8 a9 a10 a11 a12 a13 a14 a15 a16) := by
 intro a0 a1 a2 a3 a4 a5 a6 a7 a8 a9 a10 a11 a12 a13 a14 a15 a16 k
 unfold laws_szJob.f
 repeat' first
   | (with_reducible exact laws_szResult.mono _ _ _ _ _ _ _)
   | (with_reducible exact laws_szSealingS.mono _ _ _)
   | (with_reducible exact laws_szStepS.mono _ _ _)
   | (with_reducible exact LeO.refl _)
   | (with_reducible exact LeO.none _)
   | (with_reducible refine LeO.ite ?_ ?_)
   | (with_reducible refine LeO.bind ?_ (fun _ => ?_))
   | exact laws_szResult.mono _ _ _ _ _ _ _
   | exact laws_szSealingS.mono _ _ _
   | exact laws_szStepS.mono _ _ _
   | exact LeO.none _
   | refine LeO.ite ?_ ?_
   | refine LeO.bind ?_ (fun _ => ?_)
set_option maxHeartbeats 8000000 in
set_option maxRecDepth 100000 in
theorem laws_szJob.calls (k : Nat) (a0_0 : Int) (a0_1 : ByteArray) (a0_2 : ByteArray) (a0_3 : Int) (a0_4 : Int) (a0_5 : ByteArray) (a0_6 : Int) (a0_7 : ByteArray) (a0_8 : Int) (a0_9 : Bool) (A0_10 : Option Addr) (c0_10 : Nat) (l0_10 : List ByteArray) (A0_11 : Option Addr) (c0_11 : Nat) (l0_11 : List (S201)) (A0_12 : Option Addr) (c0_12 : Nat) (l0_12 : List (S164)) (a0_13 : Int) (a0_14 : Bool) (a0_15 : Bool) (a1 : Int) (r : Int) (w : World) (hr0_10 : Kd.C Kd.string w A0_10 l0_10.length l0_10) (hc0_10 : l0_10.length ≤ c0_10) (hr0_11 : Kd.C k201 w A0_11 l0_11.length l0_11) (hc0_11 : l0_11.length ≤ c0_11) (hr0_12 : Kd.C k164 w A0_12 l0_12.length l0_12) (hc0_12 : l0_12.length ≤ c0_12) (h : laws_szJob.f k a0_0 a0_1 a0_2 a0_3 a0_4 a0_5 a0_6 a0_7 a0_8 a0_9 l0_10 l0_11 l0_12 a0_13 a0_14 a0_15 a1 = some r) :
  Calls Try.prog 114 #[.agg #[.int .i64 a0_0, .string a0_1, .string a0_2, .int .i64 a0_3, .int .i64 a0_4, .string a0_5, .int .i64 a0_6, .string a0_7, .int .i64 a0_8, .bool a0_9, .slice A0_10 l0_10.length c0_10, .slice A0_11 l0_11.length c0_11, .slice A0_12 l0_12.length c0_12, .int .i64 a0_13, .bool a0_14, .bool a0_15], .int .i64 a1] w fun e w' => e = .returned (.int .i64 r) ∧ Below w.heap.size w w' := by
 have hu161 := Try.underlying161
 have hu126 := Try.underlying126
 have hu121 := Try.underlying121
 have HR0_10 := Am hr0_10
 have HC0_10 := Am hc0_10
 clear hr0_10 hc0_10
 have HR0_11 := Am hr0_11
 have HC0_11 := Am hc0_11
 clear hr0_11 hc0_11
 have HR0_12 := Am hr0_12
 have HC0_12 := Am hc0_12
 clear hr0_12 hc0_12
 have HB := Am (Below.refl w.heap.size w)
 have H : ((laws_szAsk.f a0_0 a0_1 a0_2 a0_3 a0_4 a0_5 a1).bind fun t117 => (if t117 < 0 then (some (-1)) else ((laws_szResult.f k a0_6 a0_7 a0_8 a0_9 l0_10 t117).bind fun t118 => (if t118 < 0 then (some (-1)) else ((laws_szStepS.f k l0_11 t118).bind fun t119 => (if t119 < 0 then (some (-1)) else ((laws_szSealingS.f k l0_12 t119).bind fun t120 => (if t120 < 0 then (some (-1)) else (some t120))))))))) = some r := h
 clear h
 replace H := Option.bind_eq_some_iff.mp H
 obtain ⟨t117, A30, H⟩ := H
 replace H : (if t117 < 0 then (some (-1)) else ((laws_szResult.f k a0_6 a0_7 a0_8 a0_9 l0_10 t117).bind fun t118 => (if t118 < 0 then (some (-1)) else ((laws_szStepS.f k l0_11 t118).bind fun t119 => (if t119 < 0 then (some (-1)) else ((laws_szSealingS.f k l0_12 t119).bind fun t120 => (if t120 < 0 then (some (-1)) else (some t120)))))))) = some r := H
 have A3 := Am A30
 clear A30
 by_cases c4 : t117 < 0
 ·rw [if_pos c4] at H
  have c4b0 : decide (t117 < 0) = true := decide_eq_true c4
  clear c4
  obtain rfl := Option.some.inj H
  go_enter Try.func114, Try.ntmps114
  go_wp2_with (first | ((with_reducible refine gate_dst (N := 2) rfl ?_); refine box_event ?hg (N := 2) ?hd (cs := #[.int .i64 a0_0, .string a0_1, .string a0_2, .int .i64 a0_3, .int .i64 a0_4, .string a0_5, .int .i64 a0_6, .string a0_7, .int .i64 a0_8, .bool a0_9, .slice A0_10 l0_10.length c0_10, .slice A0_11 l0_11.length c0_11, .slice A0_12 l0_12.length c0_12, .int .i64 a0_13, .bool a0_14, .bool a0_15]) (t := 161) ?hr ?_; (case hd => rfl); (case hg => rfl); (case hr => first | (go_simp; done) | (go_simp; rfl)); intro gb116 hg w5 hbox hb; have BK116 := Am (hbox); have GW116 := Am ((by rw [hg]; exact (bz zB) : w.heap.size ≤ gb116)); have GE116 := Am ((by rw [hg]; exact (bz zB) : w.heap.size ≤ gb116)); replace HB := Am (bq zB hb); clear hb hbox hg; obtain ⟨hcz6_0, hcz6_1, hcz6_2, hcz6_3, hcz6_4, hcz6_5, hcz6_6, hcz6_7, hcz6_8, hcz6_9, hcz6_10, hcz6_11, hcz6_12, hcz6_13, hcz6_14, hcz6_15⟩ := kc16 (w := w5) BK116.out; have hfz6_0 := kf BK116.out) | ((with_reducible refine gate_callee (f := 130) rfl ?_); refine zC (some 8) rfl rfl Try.func130 rfl #[.agg #[.int .i64 a0_0, .string a0_1, .string a0_2, .int .i64 a0_3, .int .i64 a0_4, .string a0_5], .int .i64 a1] rfl ?_; (with_reducible refine (laws_szAsk.calls a0_0 a0_1 a0_2 a0_3 a0_4 a0_5 a1 t117 _ A3.out).mono ?_); rintro e w7 ⟨rfl, hb⟩; refine ⟨_, rfl, ?_⟩; have n0_ := Am (zK BK116 hb); have n1_ := Am (bq zG hb); clear BK116; clear HB; have BK116 := n0_; have HB := n1_; clear n0_ n1_; (try clear hb)))
  go_ret
  exact ⟨zR, zG⟩
 ·rw [if_neg c4] at H
  have c4b0 : decide (t117 < 0) = false := decide_eq_false c4
  clear c4
  replace H := Option.bind_eq_some_iff.mp H
  obtain ⟨t118, A80, H⟩ := H
  replace H : (if t118 < 0 then (some (-1)) else ((laws_szStepS.f k l0_11 t118).bind fun t119 => (if t119 < 0 then (some (-1)) else ((laws_szSealingS.f k l0_12 t119).bind fun t120 => (if t120 < 0 then (some (-1)) else (some t120)))))) = some r := H
  have A8 := Am A80
  clear A80
  by_cases c9 : t118 < 0
  ·rw [if_pos c9] at H
   have c9b0 : decide (t118 < 0) = true := decide_eq_true c9
   clear c9
   obtain rfl := Option.some.inj H
   go_enter Try.func114, Try.ntmps114
   go_wp2_with (first | ((with_reducible refine gate_dst (N := 2) rfl ?_); refine box_event ?hg (N := 2) ?hd (cs := #[.int .i64 a0_0, .string a0_1, .string a0_2, .int .i64 a0_3, .int .i64 a0_4, .string a0_5, .int .i64 a0_6, .string a0_7, .int .i64 a0_8, .bool a0_9, .slice A0_10 l0_10.length c0_10, .slice A0_11 l0_11.length c0_11, .slice A0_12 l0_12.length c0_12, .int .i64 a0_13, .bool a0_14, .bool a0_15]) (t := 161) ?hr ?_; (case hd => rfl); (case hg => rfl); (case hr => first | (go_simp; done) | (go_simp; rfl)); intro gb116 hg w10 hbox hb; have BK116 := Am (hbox); have GW116 := Am ((by rw [hg]; exact (bz zB) : w.heap.size ≤ gb116)); have GE116 := Am ((by rw [hg]; exact (bz zB) : w.heap.size ≤ gb116)); replace HB := Am (bq zB hb); clear hb hbox hg; obtain ⟨hcz11_0, hcz11_1, hcz11_2, hcz11_3, hcz11_4, hcz11_5, hcz11_6, hcz11_7, hcz11_8, hcz11_9, hcz11_10, hcz11_11, hcz11_12, hcz11_13, hcz11_14, hcz11_15⟩ := kc16 (w := w10) BK116.out; have hfz11_0 := kf BK116.out) | ((with_reducible refine gate_callee (f := 130) rfl ?_); refine zC (some 8) rfl rfl Try.func130 rfl #[.agg #[.int .i64 a0_0, .string a0_1, .string a0_2, .int .i64 a0_3, .int .i64 a0_4, .string a0_5], .int .i64 a1] rfl ?_; (with_reducible refine (laws_szAsk.calls a0_0 a0_1 a0_2 a0_3 a0_4 a0_5 a1 t117 _ A3.out).mono ?_); rintro e w12 ⟨rfl, hb⟩; refine ⟨_, rfl, ?_⟩; have n0_ := Am (zK BK116 hb); have n1_ := Am (bq zG hb); clear BK116; clear HB; have BK116 := n0_; have HB := n1_; clear n0_ n1_; (try clear hb); obtain ⟨hcz13_0, hcz13_1, hcz13_2, hcz13_3, hcz13_4, hcz13_5, hcz13_6, hcz13_7, hcz13_8, hcz13_9, hcz13_10, hcz13_11, hcz13_12, hcz13_13, hcz13_14, hcz13_15⟩ := kc16 (w := w12) BK116.out; have hfz13_0 := kf BK116.out) | ((with_reducible refine gate_callee (f := 77) rfl ?_); refine zC (some 14) rfl rfl Try.func77 rfl #[.agg #[.int .i64 a0_6, .string a0_7, .int .i64 a0_8, .bool a0_9, .slice A0_10 l0_10.length c0_10], .int .i64 t117] rfl ?_; (with_reducible refine (laws_szResult.calls k a0_6 a0_7 a0_8 a0_9 _ _ l0_10 t117 t118 _ ?side1 ?side2 A8.out).mono ?_); (case side1 => repeat (first | exact (cb HR0_10.out HB.out) | (with_reducible first | refine ca ?_ _ | refine cn ?_ _ | refine ce ?_))); (case side2 => exact HC0_10.out); rintro e w14 ⟨rfl, hb⟩; refine ⟨_, rfl, ?_⟩; have n0_ := Am (zK BK116 hb); have n1_ := Am (bq zG hb); clear BK116; clear HB; have BK116 := n0_; have HB := n1_; clear n0_ n1_; (try clear hb)))
   go_ret
   exact ⟨zR, zG⟩
  ·rw [if_neg c9] at H
   have c9b0 : decide (t118 < 0) = false := decide_eq_false c9
   clear c9
   replace H := Option.bind_eq_some_iff.mp H
   obtain ⟨t119, A150, H⟩ := H
   replace H : (if t119 < 0 then (some (-1)) else ((laws_szSealingS.f k l0_12 t119).bind fun t120 => (if t120 < 0 then (some (-1)) else (some t120)))) = some r := H
   have A15 := Am A150
   clear A150
   by_cases c16 : t119 < 0
   ·rw [if_pos c16] at H
    have c16b0 : decide (t119 < 0) = true := decide_eq_true c16
    clear c16
    obtain rfl := Option.some.inj H
    go_enter Try.func114, Try.ntmps114
    go_wp2_with (first | ((with_reducible refine gate_dst (N := 2) rfl ?_); refine box_event ?hg (N := 2) ?hd (cs := #[.int .i64 a0_0, .string a0_1, .string a0_2, .int .i64 a0_3, .int .i64 a0_4, .string a0_5, .int .i64 a0_6, .string a0_7, .int .i64 a0_8, .bool a0_9, .slice A0_10 l0_10.length c0_10, .slice A0_11 l0_11.length c0_11, .slice A0_12 l0_12.length c0_12, .int .i64 a0_13, .bool a0_14, .bool a0_15]) (t := 161) ?hr ?_; (case hd => rfl); (case hg => rfl); (case hr => first | (go_simp; done) | (go_simp; rfl)); intro gb116 hg w17 hbox hb; have BK116 := Am (hbox); have GW116 := Am ((by rw [hg]; exact (bz zB) : w.heap.size ≤ gb116)); have GE116 := Am ((by rw [hg]; exact (bz zB) : w.heap.size ≤ gb116)); replace HB := Am (bq zB hb); clear hb hbox hg; obtain ⟨hcz18_0, hcz18_1, hcz18_2, hcz18_3, hcz18_4, hcz18_5, hcz18_6, hcz18_7, hcz18_8, hcz18_9, hcz18_10, hcz18_11, hcz18_12, hcz18_13, hcz18_14, hcz18_15⟩ := kc16 (w := w17) BK116.out; have hfz18_0 := kf BK116.out) | ((with_reducible refine gate_callee (f := 130) rfl ?_); refine zC (some 8) rfl rfl Try.func130 rfl #[.agg #[.int .i64 a0_0, .string a0_1, .string a0_2, .int .i64 a0_3, .int .i64 a0_4, .string a0_5], .int .i64 a1] rfl ?_; (with_reducible refine (laws_szAsk.calls a0_0 a0_1 a0_2 a0_3 a0_4 a0_5 a1 t117 _ A3.out).mono ?_); rintro e w19 ⟨rfl, hb⟩; refine ⟨_, rfl, ?_⟩; have n0_ := Am (zK BK116 hb); have n1_ := Am (bq zG hb); clear BK116; clear HB; have BK116 := n0_; have HB := n1_; clear n0_ n1_; (try clear hb); obtain ⟨hcz20_0, hcz20_1, hcz20_2, hcz20_3, hcz20_4, hcz20_5, hcz20_6, hcz20_7, hcz20_8, hcz20_9, hcz20_10, hcz20_11, hcz20_12, hcz20_13, hcz20_14, hcz20_15⟩ := kc16 (w := w19) BK116.out; have hfz20_0 := kf BK116.out) | ((with_reducible refine gate_callee (f := 77) rfl ?_); refine zC (some 14) rfl rfl Try.func77 rfl #[.agg #[.int .i64 a0_6, .string a0_7, .int .i64 a0_8, .bool a0_9, .slice A0_10 l0_10.length c0_10], .int .i64 t117] rfl ?_; (with_reducible refine (laws_szResult.calls k a0_6 a0_7 a0_8 a0_9 _ _ l0_10 t117 t118 _ ?side1 ?side2 A8.out).mono ?_); (case side1 => repeat (first | exact (cb HR0_10.out HB.out) | (with_reducible first | refine ca ?_ _ | refine cn ?_ _ | refine ce ?_))); (case side2 => exact HC0_10.out); rintro e w21 ⟨rfl, hb⟩; refine ⟨_, rfl, ?_⟩; have n0_ := Am (zK BK116 hb); have n1_ := Am (bq zG hb); clear BK116; clear HB; have BK116 := n0_; have HB := n1_; clear n0_ n1_; (try clear hb); obtain ⟨hcz22_0, hcz22_1, hcz22_2, hcz22_3, hcz22_4, hcz22_5, hcz22_6, hcz22_7, hcz22_8, hcz22_9, hcz22_10, hcz22_11, hcz22_12, hcz22_13, hcz22_14, hcz22_15⟩ := kc16 (w := w21) BK116.out; have hfz22_0 := kf BK116.out) | ((with_reducible refine gate_callee (f := 144) rfl ?_); refine zC (some 20) rfl rfl Try.func144 rfl #[.slice A0_11 l0_11.length c0_11, .int .i64 t118] rfl ?_; (with_reducible refine (laws_szStepS.calls k _ _ l0_11 t118 t119 _ ?side1 ?side2 A15.out).mono ?_); (case side1 => repeat (first | exact (cb HR0_11.out HB.out) | (with_reducible first | refine ca ?_ _ | refine cn ?_ _ | refine ce ?_))); (case side2 => exact HC0_11.out); rintro e w23 ⟨rfl, hb⟩; refine ⟨_, rfl, ?_⟩; have n0_ := Am (zK BK116 hb); have n1_ := Am (bq zG hb); clear BK116; clear HB; have BK116 := n0_; have HB := n1_; clear n0_ n1_; (try clear hb)))
    go_ret
    exact ⟨zR, zG⟩
   ·rw [if_neg c16] at H
    have c16b0 : decide (t119 < 0) = false := decide_eq_false c16
    clear c16
    replace H := Option.bind_eq_some_iff.mp H
    obtain ⟨t120, A240, H⟩ := H
    replace H : (if t120 < 0 then (some (-1)) else (some t120)) = some r := H
    have A24 := Am A240
    clear A240
    by_cases c25 : t120 < 0
    ·rw [if_pos c25] at H
     have c25b0 : decide (t120 < 0) = true := decide_eq_true c25
     clear c25
     obtain rfl := Option.some.inj H
     go_enter Try.func114, Try.ntmps114
     go_wp2_with (first | ((with_reducible refine gate_dst (N := 2) rfl ?_); refine box_event ?hg (N := 2) ?hd (cs := #[.int .i64 a0_0, .string a0_1, .string a0_2, .int .i64 a0_3, .int .i64 a0_4, .string a0_5, .int .i64 a0_6, .string a0_7, .int .i64 a0_8, .bool a0_9, .slice A0_10 l0_10.length c0_10, .slice A0_11 l0_11.length c0_11, .slice A0_12 l0_12.length c0_12, .int .i64 a0_13, .bool a0_14, .bool a0_15]) (t := 161) ?hr ?_; (case hd => rfl); (case hg => rfl); (case hr => first | (go_simp; done) | (go_simp; rfl)); intro gb116 hg w26 hbox hb; have BK116 := Am (hbox); have GW116 := Am ((by rw [hg]; exact (bz zB) : w.heap.size ≤ gb116)); have GE116 := Am ((by rw [hg]; exact (bz zB) : w.heap.size ≤ gb116)); replace HB := Am (bq zB hb); clear hb hbox hg; obtain ⟨hcz27_0, hcz27_1, hcz27_2, hcz27_3, hcz27_4, hcz27_5, hcz27_6, hcz27_7, hcz27_8, hcz27_9, hcz27_10, hcz27_11, hcz27_12, hcz27_13, hcz27_14, hcz27_15⟩ := kc16 (w := w26) BK116.out; have hfz27_0 := kf BK116.out) | ((with_reducible refine gate_callee (f := 130) rfl ?_); refine zC (some 8) rfl rfl Try.func130 rfl #[.agg #[.int .i64 a0_0, .string a0_1, .string a0_2, .int .i64 a0_3, .int .i64 a0_4, .string a0_5], .int .i64 a1] rfl ?_; (with_reducible refine (laws_szAsk.calls a0_0 a0_1 a0_2 a0_3 a0_4 a0_5 a1 t117 _ A3.out).mono ?_); rintro e w28 ⟨rfl, hb⟩; refine ⟨_, rfl, ?_⟩; have n0_ := Am (zK BK116 hb); have n1_ := Am (bq zG hb); clear BK116; clear HB; have BK116 := n0_; have HB := n1_; clear n0_ n1_; (try clear hb); obtain ⟨hcz29_0, hcz29_1, hcz29_2, hcz29_3, hcz29_4, hcz29_5, hcz29_6, hcz29_7, hcz29_8, hcz29_9, hcz29_10, hcz29_11, hcz29_12, hcz29_13, hcz29_14, hcz29_15⟩ := kc16 (w := w28) BK116.out; have hfz29_0 := kf BK116.out) | ((with_reducible refine gate_callee (f := 77) rfl ?_); refine zC (some 14) rfl rfl Try.func77 rfl #[.agg #[.int .i64 a0_6, .string a0_7, .int .i64 a0_8, .bool a0_9, .slice A0_10 l0_10.length c0_10], .int .i64 t117] rfl ?_; (with_reducible refine (laws_szResult.calls k a0_6 a0_7 a0_8 a0_9 _ _ l0_10 t117 t118 _ ?side1 ?side2 A8.out).mono ?_); (case side1 => repeat (first | exact (cb HR0_10.out HB.out) | (with_reducible first | refine ca ?_ _ | refine cn ?_ _ | refine ce ?_))); (case side2 => exact HC0_10.out); rintro e w30 ⟨rfl, hb⟩; refine ⟨_, rfl, ?_⟩; have n0_ := Am (zK BK116 hb); have n1_ := Am (bq zG hb); clear BK116; clear HB; have BK116 := n0_; have HB := n1_; clear n0_ n1_; (try clear hb); obtain ⟨hcz31_0, hcz31_1, hcz31_2, hcz31_3, hcz31_4, hcz31_5, hcz31_6, hcz31_7, hcz31_8, hcz31_9, hcz31_10, hcz31_11, hcz31_12, hcz31_13, hcz31_14, hcz31_15⟩ := kc16 (w := w30) BK116.out; have hfz31_0 := kf BK116.out) | ((with_reducible refine gate_callee (f := 144) rfl ?_); refine zC (some 20) rfl rfl Try.func144 rfl #[.slice A0_11 l0_11.length c0_11, .int .i64 t118] rfl ?_; (with_reducible refine (laws_szStepS.calls k _ _ l0_11 t118 t119 _ ?side1 ?side2 A15.out).mono ?_); (case side1 => repeat (first | exact (cb HR0_11.out HB.out) | (with_reducible first | refine ca ?_ _ | refine cn ?_ _ | refine ce ?_))); (case side2 => exact HC0_11.out); rintro e w32 ⟨rfl, hb⟩; refine ⟨_, rfl, ?_⟩; have n0_ := Am (zK BK116 hb); have n1_ := Am (bq zG hb); clear BK116; clear HB; have BK116 := n0_; have HB := n1_; clear n0_ n1_; (try clear hb); obtain ⟨hcz33_0, hcz33_1, hcz33_2, hcz33_3, hcz33_4, hcz33_5, hcz33_6, hcz33_7, hcz33_8, hcz33_9, hcz33_10, hcz33_11, hcz33_12, hcz33_13, hcz33_14, hcz33_15⟩ := kc16 (w := w32) BK116.out; have hfz33_0 := kf BK116.out) | ((with_reducible refine gate_callee (f := 64) rfl ?_); refine zC (some 26) rfl rfl Try.func64 rfl #[.slice A0_12 l0_12.length c0_12, .int .i64 t119] rfl ?_; (with_reducible refine (laws_szSealingS.calls k _ _ l0_12 t119 t120 _ ?side1 ?side2 A24.out).mono ?_); (case side1 => repeat (first | exact (cb HR0_12.out HB.out) | (with_reducible first | refine ca ?_ _ | refine cn ?_ _ | refine ce ?_))); (case side2 => exact HC0_12.out); rintro e w34 ⟨rfl, hb⟩; refine ⟨_, rfl, ?_⟩; have n0_ := Am (zK BK116 hb); have n1_ := Am (bq zG hb); clear BK116; clear HB; have BK116 := n0_; have HB := n1_; clear n0_ n1_; (try clear hb)))
     go_ret
     exact ⟨zR, zG⟩
    ·rw [if_neg c25] at H
     have c25b0 : decide (t120 < 0) = false := decide_eq_false c25
     clear c25
     obtain rfl := Option.some.inj H
     go_enter Try.func114, Try.ntmps114
     go_wp2_with (first | ((with_reducible refine gate_dst (N := 2) rfl ?_); refine box_event ?hg (N := 2) ?hd (cs := #[.int .i64 a0_0, .string a0_1, .string a0_2, .int .i64 a0_3, .int .i64 a0_4, .string a0_5, .int .i64 a0_6, .string a0_7, .int .i64 a0_8, .bool a0_9, .slice A0_10 l0_10.length c0_10, .slice A0_11 l0_11.length c0_11, .slice A0_12 l0_12.length c0_12, .int .i64 a0_13, .bool a0_14, .bool a0_15]) (t := 161) ?hr ?_; (case hd => rfl); (case hg => rfl); (case hr => first | (go_simp; done) | (go_simp; rfl)); intro gb116 hg w35 hbox hb; have BK116 := Am (hbox); have GW116 := Am ((by rw [hg]; exact (bz zB) : w.heap.size ≤ gb116)); have GE116 := Am ((by rw [hg]; exact (bz zB) : w.heap.size ≤ gb116)); replace HB := Am (bq zB hb); clear hb hbox hg; obtain ⟨hcz36_0, hcz36_1, hcz36_2, hcz36_3, hcz36_4, hcz36_5, hcz36_6, hcz36_7, hcz36_8, hcz36_9, hcz36_10, hcz36_11, hcz36_12, hcz36_13, hcz36_14, hcz36_15⟩ := kc16 (w := w35) BK116.out; have hfz36_0 := kf BK116.out) | ((with_reducible refine gate_callee (f := 130) rfl ?_); refine zC (some 8) rfl rfl Try.func130 rfl #[.agg #[.int .i64 a0_0, .string a0_1, .string a0_2, .int .i64 a0_3, .int .i64 a0_4, .string a0_5], .int .i64 a1] rfl ?_; (with_reducible refine (laws_szAsk.calls a0_0 a0_1 a0_2 a0_3 a0_4 a0_5 a1 t117 _ A3.out).mono ?_); rintro e w37 ⟨rfl, hb⟩; refine ⟨_, rfl, ?_⟩; have n0_ := Am (zK BK116 hb); have n1_ := Am (bq zG hb); clear BK116; clear HB; have BK116 := n0_; have HB := n1_; clear n0_ n1_; (try clear hb); obtain ⟨hcz38_0, hcz38_1, hcz38_2, hcz38_3, hcz38_4, hcz38_5, hcz38_6, hcz38_7, hcz38_8, hcz38_9, hcz38_10, hcz38_11, hcz38_12, hcz38_13, hcz38_14, hcz38_15⟩ := kc16 (w := w37) BK116.out; have hfz38_0 := kf BK116.out) | ((with_reducible refine gate_callee (f := 77) rfl ?_); refine zC (some 14) rfl rfl Try.func77 rfl #[.agg #[.int .i64 a0_6, .string a0_7, .int .i64 a0_8, .bool a0_9, .slice A0_10 l0_10.length c0_10], .int .i64 t117] rfl ?_; (with_reducible refine (laws_szResult.calls k a0_6 a0_7 a0_8 a0_9 _ _ l0_10 t117 t118 _ ?side1 ?side2 A8.out).mono ?_); (case side1 => repeat (first | exact (cb HR0_10.out HB.out) | (with_reducible first | refine ca ?_ _ | refine cn ?_ _ | refine ce ?_))); (case side2 => exact HC0_10.out); rintro e w39 ⟨rfl, hb⟩; refine ⟨_, rfl, ?_⟩; have n0_ := Am (zK BK116 hb); have n1_ := Am (bq zG hb); clear BK116; clear HB; have BK116 := n0_; have HB := n1_; clear n0_ n1_; (try clear hb); obtain ⟨hcz40_0, hcz40_1, hcz40_2, hcz40_3, hcz40_4, hcz40_5, hcz40_6, hcz40_7, hcz40_8, hcz40_9, hcz40_10, hcz40_11, hcz40_12, hcz40_13, hcz40_14, hcz40_15⟩ := kc16 (w := w39) BK116.out; have hfz40_0 := kf BK116.out) | ((with_reducible refine gate_callee (f := 144) rfl ?_); refine zC (some 20) rfl rfl Try.func144 rfl #[.slice A0_11 l0_11.length c0_11, .int .i64 t118] rfl ?_; (with_reducible refine (laws_szStepS.calls k _ _ l0_11 t118 t119 _ ?side1 ?side2 A15.out).mono ?_); (case side1 => repeat (first | exact (cb HR0_11.out HB.out) | (with_reducible first | refine ca ?_ _ | refine cn ?_ _ | refine ce ?_))); (case side2 => exact HC0_11.out); rintro e w41 ⟨rfl, hb⟩; refine ⟨_, rfl, ?_⟩; have n0_ := Am (zK BK116 hb); have n1_ := Am (bq zG hb); clear BK116; clear HB; have BK116 := n0_; have HB := n1_; clear n0_ n1_; (try clear hb); obtain ⟨hcz42_0, hcz42_1, hcz42_2, hcz42_3, hcz42_4, hcz42_5, hcz42_6, hcz42_7, hcz42_8, hcz42_9, hcz42_10, hcz42_11, hcz42_12, hcz42_13, hcz42_14, hcz42_15⟩ := kc16 (w := w41) BK116.out; have hfz42_0 := kf BK116.out) | ((with_reducible refine gate_callee (f := 64) rfl ?_); refine zC (some 26) rfl rfl Try.func64 rfl #[.slice A0_12 l0_12.length c0_12, .int .i64 t119] rfl ?_; (with_reducible refine (laws_szSealingS.calls k _ _ l0_12 t119 t120 _ ?side1 ?side2 A24.out).mono ?_); (case side1 => repeat (first | exact (cb HR0_12.out HB.out) | (with_reducible first | refine ca ?_ _ | refine cn ?_ _ | refine ce ?_))); (case side2 => exact HC0_12.out); rintro e w43 ⟨rfl, hb⟩; refine ⟨_, rfl, ?_⟩; have n0_ := Am (zK BK116 hb); have n1_ := Am (bq zG hb); clear BK116; clear HB; have BK116 := n0_; have HB := n1_; clear n0_ n1_; (try clear hb)))
     go_ret
     exact ⟨zR, zG⟩

/-! ### laws_szJobS: function 63 -/
def laws_szJobS.l0 : Nat → List (S161) → Int → Int → Option (Int)
 | 0, _, _, _ => none
 | k + 1, x0, x1, x5 => if x5 < (x0.length : Int) then (if 0 ≤ x5 then ((laws_szJob.f k ((rd_T161 x0 x5).f0.f0) ((rd_T161 x0 x5).f0.f1) ((rd_T161 x0 x5).f0.f2) ((rd_T161 x0 x5).f0.f3) ((rd_T161 x0 x5).f0.f4) ((rd_T161 x0 x5).f0.f5) ((rd_T161 x0 x5).f1.f0) ((rd_T161 x0 x5).f1.f1) ((rd_T161 x0 x5).f1.f2) ((rd_T161 x0 x5).f1.f3) ((rd_T161 x0 x5).f1.f4) ((rd_T161 x0 x5).f2) ((rd_T161 x0 x5).f3) ((rd_T161 x0 x5).f4) ((rd_T161 x0 x5).f5) ((rd_T161 x0 x5).f6) x1).bind fun t122 => (if t122 < 0 then (some (-1)) else (laws_szJobS.l0 k x0 t122 (wrap64 (x5 + 1))))) else (none)) else (some x1)
def laws_szJobS.f (k : Nat) (l0 : List (S161)) (a1 : Int) : Option (Int) := if (wrap64 (a1 - (l0.length : Int))) < 0 then (some (-1)) else (laws_szJobS.l0 k l0 (wrap64 (a1 - (l0.length : Int))) 0)
theorem laws_szJobS.mono_l : ∀ k, (∀ y0 y1 y2, LeO (laws_szJobS.l0 k y0 y1 y2) (laws_szJobS.l0 (k + 1) y0 y1 y2))
 | 0 => fun _ _ _ r h => by simp [laws_szJobS.l0] at h
 | k + 1 => by
  have ih0 := laws_szJobS.mono_l k
  ·intro y0 y1 y2
   unfold laws_szJobS.l0
   repeat' first
   | (with_reducible exact ih0 _ _ _)
   | (with_reducible exact laws_szJob.mono _ _ _ _ _ _ _ _ _ _ _ _ _ _ _ _ _ _)
   | (with_reducible exact LeO.refl _)
   | (with_reducible exact LeO.none _)
   | (with_reducible refine LeO.ite ?_ ?_)
   | (with_reducible refine LeO.bind ?_ (fun _ => ?_))
   | exact ih0 _ _ _
   | exact laws_szJob.mono _ _ _ _ _ _ _ _ _ _ _ _ _ _ _ _ _ _
   | exact LeO.none _
   | refine LeO.ite ?_ ?_
   | refine LeO.bind ?_ (fun _ => ?_)
theorem laws_szJobS.mono : ∀ a0 a1 k, LeO (laws_szJobS.f k a0 a1) (laws_szJobS.f (k + 1) a0 a1) := by
 intro a0 a1 k
 have ih0 := laws_szJobS.mono_l k
 unfold laws_szJobS.f
 repeat' first
   | (with_reducible exact ih0 _ _ _)
   | (with_reducible exact laws_szJob.mono _ _ _ _ _ _ _ _ _ _ _ _ _ _ _ _ _ _)
   | (with_reducible exact LeO.refl _)
   | (with_reducible exact LeO.none _)
   | (with_reducible refine LeO.ite ?_ ?_)
   | (with_reducible refine LeO.bind ?_ (fun _ => ?_))
   | exact ih0 _ _ _
   | exact laws_szJob.mono _ _ _ _ _ _ _ _ _ _ _ _ _ _ _ _ _ _
   | exact LeO.none _
   | refine LeO.ite ?_ ?_
   | refine LeO.bind ?_ (fun _ => ?_)
set_option maxHeartbeats 8000000 in
set_option maxRecDepth 100000 in
theorem laws_szJobS.calls (k : Nat) (A0 : Option Addr) (c0 : Nat) (l0 : List (S161)) (a1 : Int) (r : Int) (w : World) (hr0 : Kd.C k161 w A0 l0.length l0) (hc0 : l0.length ≤ c0) (h : laws_szJobS.f k l0 a1 = some r) :
  Calls Try.prog 63 #[.slice A0 l0.length c0, .int .i64 a1] w fun e w' => e = .returned (.int .i64 r) ∧ Below w.heap.size w w' := by
 have hu161 := Try.underlying161
 have HR0 := Am hr0
 have HC0 := Am hc0
 clear hr0 hc0
 have HB := Am (Below.refl w.heap.size w)
 have H : (if (wrap64 (a1 - (l0.length : Int))) < 0 then (some (-1)) else (laws_szJobS.l0 k l0 (wrap64 (a1 - (l0.length : Int))) 0)) = some r := h
 clear h
 by_cases c3 : (wrap64 (a1 - (l0.length : Int))) < 0
 ·rw [if_pos c3] at H
  have c3b0 : decide ((wrap64 (a1 - (l0.length : Int))) < 0) = true := decide_eq_true c3
  clear c3
  obtain rfl := Option.some.inj H
  go_enter Try.func63, Try.ntmps63
  go_wp2
  go_ret
  exact ⟨zR, zB⟩
 ·rw [if_neg c3] at H
  have c3b0 : decide ((wrap64 (a1 - (l0.length : Int))) < 0) = false := decide_eq_false c3
  clear c3
  have H' := Am H
  clear H
  go_enter Try.func63, Try.ntmps63
  go_wp2
  go_loopg [1, 5] k (fun kq v1 v5 w' => ∃ (x1_1 : Int) (x5_1 : Int), v1 = .int .i64 x1_1 ∧ v5 = .int .i64 x5_1 ∧ Aside0 (laws_szJobS.l0 kq l0 x1_1 x5_1 = some r) ∧ Aside0 (kq ≤ k) ∧ Aside0 (Below w.heap.size w w'))
  case atStart => exact ⟨(wrap64 (a1 - (l0.length : Int))), (0), (by first | rfl | (simp; done) | (simp [*]; done)), (by first | rfl | (simp; done) | (simp [*]; done)), H', ⟨Nat.le_refl _⟩, ⟨zB⟩⟩
  case round =>
   clear H'
   try clear p2; try clear c3; try clear c3b0
   obtain ⟨x1_1, x5_1, rfl, rfl, HA, HK1, HB⟩ := hrel
   cases gk with
   | zero => exact absurd HA.out (by simp [laws_szJobS.l0])
   | succ k1 =>
    have H := HA.out
    clear HA
    simp only [laws_szJobS.l0] at H
    by_cases c4 : x5_1 < (l0.length : Int)
    ·rw [if_pos c4] at H
     have c4b0 : decide (x5_1 < (l0.length : Int)) = true := decide_eq_true c4
     clear c4
     by_cases c5 : 0 ≤ x5_1
     ·rw [if_pos c5] at H
      have c5b0 : decide (0 ≤ x5_1) = true := decide_eq_true c5
      clear c5
      replace H := Option.bind_eq_some_iff.mp H
      obtain ⟨t122, A60, H⟩ := H
      replace H : (if t122 < 0 then (some (-1)) else (laws_szJobS.l0 k1 l0 t122 (wrap64 (x5_1 + 1)))) = some r := H
      have A6 := Am A60
      clear A60
      by_cases c7 : t122 < 0
      ·rw [if_pos c7] at H
       have c7b0 : decide (t122 < 0) = true := decide_eq_true c7
       clear c7
       obtain rfl := Option.some.inj H
       have p121 : 0 ≤ (x5_1 : Int) := of_decide_eq_true (by first | (with_reducible assumption) | assumption)
       have q121 : x5_1 < (l0.length : Int) := of_decide_eq_true (by first | (with_reducible assumption) | assumption)
       obtain ⟨ad121, A121_10, c121_10, A121_11, c121_11, A121_12, c121_12, e121, hx121_0, hx121_1, hx121_2, hx121_3, hx121_4, hx121_5, hx121_6, hx121_7, hx121_8, hx121_9, hx121_10, hx121_11, hx121_12, hx121_13, hx121_14, hx121_15, hl121_10, hi121_10, hl121_11, hi121_11, hl121_12, hi121_12⟩ := at_T161 HR0.out x5_1 p121 q121
       cases e121
       replace hx121_0 := cl3 HB hx121_0
       replace hx121_1 := cl3 HB hx121_1
       replace hx121_2 := cl3 HB hx121_2
       replace hx121_3 := cl3 HB hx121_3
       replace hx121_4 := cl3 HB hx121_4
       replace hx121_5 := cl3 HB hx121_5
       replace hx121_6 := cl3 HB hx121_6
       replace hx121_7 := cl3 HB hx121_7
       replace hx121_8 := cl3 HB hx121_8
       replace hx121_9 := cl3 HB hx121_9
       replace hx121_10 := cl3 HB hx121_10
       replace hx121_11 := cl3 HB hx121_11
       replace hx121_12 := cl3 HB hx121_12
       replace hx121_13 := cl3 HB hx121_13
       replace hx121_14 := cl3 HB hx121_14
       replace hx121_15 := cl3 HB hx121_15
       have HR121_10 := Am hi121_10
       have HC121_10 := Am hl121_10
       clear hi121_10 hl121_10
       have HR121_11 := Am hi121_11
       have HC121_11 := Am hl121_11
       clear hi121_11 hl121_11
       have HR121_12 := Am hi121_12
       have HC121_12 := Am hl121_12
       clear hi121_12 hl121_12
       replace p121 := eq_true p121
       replace q121 := eq_true q121
       go_wp2_with (first | ((with_reducible refine gate_callee (f := 114) rfl ?_); refine zC (some 23) rfl rfl Try.func114 rfl #[.agg #[.int .i64 ((rd_T161 l0 x5_1).f0.f0), .string ((rd_T161 l0 x5_1).f0.f1), .string ((rd_T161 l0 x5_1).f0.f2), .int .i64 ((rd_T161 l0 x5_1).f0.f3), .int .i64 ((rd_T161 l0 x5_1).f0.f4), .string ((rd_T161 l0 x5_1).f0.f5), .int .i64 ((rd_T161 l0 x5_1).f1.f0), .string ((rd_T161 l0 x5_1).f1.f1), .int .i64 ((rd_T161 l0 x5_1).f1.f2), .bool ((rd_T161 l0 x5_1).f1.f3), .slice A121_10 ((rd_T161 l0 x5_1).f1.f4).length c121_10, .slice A121_11 ((rd_T161 l0 x5_1).f2).length c121_11, .slice A121_12 ((rd_T161 l0 x5_1).f3).length c121_12, .int .i64 ((rd_T161 l0 x5_1).f4), .bool ((rd_T161 l0 x5_1).f5), .bool ((rd_T161 l0 x5_1).f6)], .int .i64 x1_1] rfl ?_; (with_reducible refine (laws_szJob.calls k1 ((rd_T161 l0 x5_1).f0.f0) ((rd_T161 l0 x5_1).f0.f1) ((rd_T161 l0 x5_1).f0.f2) ((rd_T161 l0 x5_1).f0.f3) ((rd_T161 l0 x5_1).f0.f4) ((rd_T161 l0 x5_1).f0.f5) ((rd_T161 l0 x5_1).f1.f0) ((rd_T161 l0 x5_1).f1.f1) ((rd_T161 l0 x5_1).f1.f2) ((rd_T161 l0 x5_1).f1.f3) _ _ ((rd_T161 l0 x5_1).f1.f4) _ _ ((rd_T161 l0 x5_1).f2) _ _ ((rd_T161 l0 x5_1).f3) ((rd_T161 l0 x5_1).f4) ((rd_T161 l0 x5_1).f5) ((rd_T161 l0 x5_1).f6) x1_1 t122 _ ?side1 ?side2 ?side3 ?side4 ?side5 ?side6 A6.out).mono ?_); (case side1 => repeat (first | exact (cb HR121_10.out HB.out) | (with_reducible first | refine ca ?_ _ | refine cn ?_ _ | refine ce ?_))); (case side2 => exact HC121_10.out); (case side3 => repeat (first | exact (cb HR121_11.out HB.out) | (with_reducible first | refine ca ?_ _ | refine cn ?_ _ | refine ce ?_))); (case side4 => exact HC121_11.out); (case side5 => repeat (first | exact (cb HR121_12.out HB.out) | (with_reducible first | refine ca ?_ _ | refine cn ?_ _ | refine ce ?_))); (case side6 => exact HC121_12.out); rintro e w8 ⟨rfl, hb⟩; refine ⟨_, rfl, ?_⟩; replace HB := Am (bq zB hb); (try clear hb)))
       go_ret
       exact ⟨zR, zB⟩
      ·rw [if_neg c7] at H
       have c7b0 : decide (t122 < 0) = false := decide_eq_false c7
       clear c7
       have H' := Am H
       clear H
       have p121 : 0 ≤ (x5_1 : Int) := of_decide_eq_true (by first | (with_reducible assumption) | assumption)
       have q121 : x5_1 < (l0.length : Int) := of_decide_eq_true (by first | (with_reducible assumption) | assumption)
       obtain ⟨ad121, A121_10, c121_10, A121_11, c121_11, A121_12, c121_12, e121, hx121_0, hx121_1, hx121_2, hx121_3, hx121_4, hx121_5, hx121_6, hx121_7, hx121_8, hx121_9, hx121_10, hx121_11, hx121_12, hx121_13, hx121_14, hx121_15, hl121_10, hi121_10, hl121_11, hi121_11, hl121_12, hi121_12⟩ := at_T161 HR0.out x5_1 p121 q121
       cases e121
       replace hx121_0 := cl3 HB hx121_0
       replace hx121_1 := cl3 HB hx121_1
       replace hx121_2 := cl3 HB hx121_2
       replace hx121_3 := cl3 HB hx121_3
       replace hx121_4 := cl3 HB hx121_4
       replace hx121_5 := cl3 HB hx121_5
       replace hx121_6 := cl3 HB hx121_6
       replace hx121_7 := cl3 HB hx121_7
       replace hx121_8 := cl3 HB hx121_8
       replace hx121_9 := cl3 HB hx121_9
       replace hx121_10 := cl3 HB hx121_10
       replace hx121_11 := cl3 HB hx121_11
       replace hx121_12 := cl3 HB hx121_12
       replace hx121_13 := cl3 HB hx121_13
       replace hx121_14 := cl3 HB hx121_14
       replace hx121_15 := cl3 HB hx121_15
       have HR121_10 := Am hi121_10
       have HC121_10 := Am hl121_10
       clear hi121_10 hl121_10
       have HR121_11 := Am hi121_11
       have HC121_11 := Am hl121_11
       clear hi121_11 hl121_11
       have HR121_12 := Am hi121_12
       have HC121_12 := Am hl121_12
       clear hi121_12 hl121_12
       replace p121 := eq_true p121
       replace q121 := eq_true q121
       go_wp2_with (first | ((with_reducible refine gate_callee (f := 114) rfl ?_); refine zC (some 23) rfl rfl Try.func114 rfl #[.agg #[.int .i64 ((rd_T161 l0 x5_1).f0.f0), .string ((rd_T161 l0 x5_1).f0.f1), .string ((rd_T161 l0 x5_1).f0.f2), .int .i64 ((rd_T161 l0 x5_1).f0.f3), .int .i64 ((rd_T161 l0 x5_1).f0.f4), .string ((rd_T161 l0 x5_1).f0.f5), .int .i64 ((rd_T161 l0 x5_1).f1.f0), .string ((rd_T161 l0 x5_1).f1.f1), .int .i64 ((rd_T161 l0 x5_1).f1.f2), .bool ((rd_T161 l0 x5_1).f1.f3), .slice A121_10 ((rd_T161 l0 x5_1).f1.f4).length c121_10, .slice A121_11 ((rd_T161 l0 x5_1).f2).length c121_11, .slice A121_12 ((rd_T161 l0 x5_1).f3).length c121_12, .int .i64 ((rd_T161 l0 x5_1).f4), .bool ((rd_T161 l0 x5_1).f5), .bool ((rd_T161 l0 x5_1).f6)], .int .i64 x1_1] rfl ?_; (with_reducible refine (laws_szJob.calls k1 ((rd_T161 l0 x5_1).f0.f0) ((rd_T161 l0 x5_1).f0.f1) ((rd_T161 l0 x5_1).f0.f2) ((rd_T161 l0 x5_1).f0.f3) ((rd_T161 l0 x5_1).f0.f4) ((rd_T161 l0 x5_1).f0.f5) ((rd_T161 l0 x5_1).f1.f0) ((rd_T161 l0 x5_1).f1.f1) ((rd_T161 l0 x5_1).f1.f2) ((rd_T161 l0 x5_1).f1.f3) _ _ ((rd_T161 l0 x5_1).f1.f4) _ _ ((rd_T161 l0 x5_1).f2) _ _ ((rd_T161 l0 x5_1).f3) ((rd_T161 l0 x5_1).f4) ((rd_T161 l0 x5_1).f5) ((rd_T161 l0 x5_1).f6) x1_1 t122 _ ?side1 ?side2 ?side3 ?side4 ?side5 ?side6 A6.out).mono ?_); (case side1 => repeat (first | exact (cb HR121_10.out HB.out) | (with_reducible first | refine ca ?_ _ | refine cn ?_ _ | refine ce ?_))); (case side2 => exact HC121_10.out); (case side3 => repeat (first | exact (cb HR121_11.out HB.out) | (with_reducible first | refine ca ?_ _ | refine cn ?_ _ | refine ce ?_))); (case side4 => exact HC121_11.out); (case side5 => repeat (first | exact (cb HR121_12.out HB.out) | (with_reducible first | refine ca ?_ _ | refine cn ?_ _ | refine ce ?_))); (case side6 => exact HC121_12.out); rintro e w9 ⟨rfl, hb⟩; refine ⟨_, rfl, ?_⟩; replace HB := Am (bq zB hb); (try clear hb)))
       go_roundg k1
       case measure => have := HK1.out; omega
       case rel => exact ⟨(t122), (wrap64 (x5_1 + 1)), (by first | rfl | (simp; done) | (simp [*]; done)), (by first | rfl | (simp; done) | (simp [*]; done)), H', ⟨by have := HK1.out; omega⟩, ⟨zB⟩⟩
     ·rw [if_neg c5] at H
      exact absurd H (by simp)
    ·rw [if_neg c4] at H
     have c4b0 : decide (x5_1 < (l0.length : Int)) = false := decide_eq_false c4
     clear c4
     obtain rfl := Option.some.inj H
     go_wp2
     go_ret
     exact ⟨zR, zB⟩

/-! ### laws_szSystem: function 16 -/
def laws_szSystem.f (k : Nat) (a0_0 : Int) (a0_1 : Int) (a0_2 : Int) (a0_3 : Int) (a0_4 : ByteArray) (l0_5 : List (S149)) (l0_6 : List (S161)) (l0_7 : List (S164)) (a1 : Int) : Option (Int) := (laws_szMemory.f k a0_4 l0_5 a1).bind fun t124 => (if t124 < 0 then (some (-1)) else ((laws_szJobS.f k l0_6 t124).bind fun t125 => (if t125 < 0 then (some (-1)) else ((laws_szSealingS.f k l0_7 t125).bind fun t126 => (if t126 < 0 then (some (-1)) else (some t126))))))
theorem laws_szSystem.mono : ∀ a0 a1 a2 a3 a4 a5 a6 a7 a8 k, LeO (laws_szSystem.f k a0 a1 a2 a3 a4 a5 a6 a7 a8) (laws_szSystem.f (k + 1) a0 a1 a2 a3 a4 a5 a6 a7 a8) := by
 intro a0 a1 a2 a3 a4 a5 a6 a7 a8 k
 unfold laws_szSystem.f
 repeat' first
   | (with_reducible exact laws_szJobS.mono _ _ _)
   | (with_reducible exact laws_szMemory.mono _ _ _ _)
   | (with_reducible exact laws_szSealingS.mono _ _ _)
   | (with_reducible exact LeO.refl _)
   | (with_reducible exact LeO.none _)
   | (with_reducible refine LeO.ite ?_ ?_)
   | (with_reducible refine LeO.bind ?_ (fun _ => ?_))
   | exact laws_szJobS.mono _ _ _
   | exact laws_szMemory.mono _ _ _ _
   | exact laws_szSealingS.mono _ _ _
   | exact LeO.none _
   | refine LeO.ite ?_ ?_
   | refine LeO.bind ?_ (fun _ => ?_)
set_option maxHeartbeats 8000000 in
set_option maxRecDepth 100000 in
theorem laws_szSystem.calls (k : Nat) (a0_0 : Int) (a0_1 : Int) (a0_2 : Int) (a0_3 : Int) (a0_4 : ByteArray) (A0_5 : Option Addr) (c0_5 : Nat) (l0_5 : List (S149)) (A0_6 : Option Addr) (c0_6 : Nat) (l0_6 : List (S161)) (A0_7 : Option Addr) (c0_7 : Nat) (l0_7 : List (S164)) (a1 : Int) (r : Int) (w : World) (hr0_5 : Kd.C k149 w A0_5 l0_5.length l0_5) (hc0_5 : l0_5.length ≤ c0_5) (hr0_6 : Kd.C k161 w A0_6 l0_6.length l0_6) (hc0_6 : l0_6.length ≤ c0_6) (hr0_7 : Kd.C k164 w A0_7 l0_7.length l0_7) (hc0_7 : l0_7.length ≤ c0_7) (h : laws_szSystem.f k a0_0 a0_1 a0_2 a0_3 a0_4 l0_5 l0_6 l0_7 a1 = some r) :
  Calls Try.prog 16 #[.agg #[.int .i64 a0_0, .int .i64 a0_1, .int .i64 a0_2, .int .i64 a0_3, .string a0_4, .slice A0_5 l0_5.length c0_5, .slice A0_6 l0_6.length c0_6, .slice A0_7 l0_7.length c0_7], .int .i64 a1] w fun e w' => e = .returned (.int .i64 r) ∧ Below w.heap.size w w' := by
 have hu40 := Try.underlying40
 have hu26 := Try.underlying26
 have HR0_5 := Am hr0_5
 have HC0_5 := Am hc0_5
 clear hr0_5 hc0_5
 have HR0_6 := Am hr0_6
 have HC0_6 := Am hc0_6
 clear hr0_6 hc0_6
 have HR0_7 := Am hr0_7
 have HC0_7 := Am hc0_7
 clear hr0_7 hc0_7
 have HB := Am (Below.refl w.heap.size w)
 have H : ((laws_szMemory.f k a0_4 l0_5 a1).bind fun t124 => (if t124 < 0 then (some (-1)) else ((laws_szJobS.f k l0_6 t124).bind fun t125 => (if t125 < 0 then (some (-1)) else ((laws_szSealingS.f k l0_7 t125).bind fun t126 => (if t126 < 0 then (some (-1)) else (some t126))))))) = some r := h
 clear h
 replace H := Option.bind_eq_some_iff.mp H
 obtain ⟨t124, A30, H⟩ := H
 replace H : (if t124 < 0 then (some (-1)) else ((laws_szJobS.f k l0_6 t124).bind fun t125 => (if t125 < 0 then (some (-1)) else ((laws_szSealingS.f k l0_7 t125).bind fun t126 => (if t126 < 0 then (some (-1)) else (some t126)))))) = some r := H
 have A3 := Am A30
 clear A30
 by_cases c4 : t124 < 0
 ·rw [if_pos c4] at H
  have c4b0 : decide (t124 < 0) = true := decide_eq_true c4
  clear c4
  obtain rfl := Option.some.inj H
  go_enter Try.func16, Try.ntmps16
  go_wp2_with (first | ((with_reducible refine gate_dst (N := 2) rfl ?_); refine box_event ?hg (N := 2) ?hd (cs := #[.int .i64 a0_0, .int .i64 a0_1, .int .i64 a0_2, .int .i64 a0_3, .string a0_4, .slice A0_5 l0_5.length c0_5, .slice A0_6 l0_6.length c0_6, .slice A0_7 l0_7.length c0_7]) (t := 40) ?hr ?_; (case hd => rfl); (case hg => rfl); (case hr => first | (go_simp; done) | (go_simp; rfl)); intro gb123 hg w5 hbox hb; have BK123 := Am (hbox); have GW123 := Am ((by rw [hg]; exact (bz zB) : w.heap.size ≤ gb123)); have GE123 := Am ((by rw [hg]; exact (bz zB) : w.heap.size ≤ gb123)); replace HB := Am (bq zB hb); clear hb hbox hg; obtain ⟨hcz6_0, hcz6_1, hcz6_2, hcz6_3, hcz6_4, hcz6_5, hcz6_6, hcz6_7⟩ := kc8 (w := w5) BK123.out; have hfz6_0 := kf BK123.out) | ((with_reducible refine gate_callee (f := 10) rfl ?_); refine zC (some 8) rfl rfl Try.func10 rfl #[.agg #[.string a0_4, .slice A0_5 l0_5.length c0_5], .int .i64 a1] rfl ?_; (with_reducible refine (laws_szMemory.calls k a0_4 _ _ l0_5 a1 t124 _ ?side1 ?side2 A3.out).mono ?_); (case side1 => repeat (first | exact (cb HR0_5.out HB.out) | (with_reducible first | refine ca ?_ _ | refine cn ?_ _ | refine ce ?_))); (case side2 => exact HC0_5.out); rintro e w7 ⟨rfl, hb⟩; refine ⟨_, rfl, ?_⟩; have n0_ := Am (zK BK123 hb); have n1_ := Am (bq zG hb); clear BK123; clear HB; have BK123 := n0_; have HB := n1_; clear n0_ n1_; (try clear hb)))
  go_ret
  exact ⟨zR, zG⟩
 ·rw [if_neg c4] at H
  have c4b0 : decide (t124 < 0) = false := decide_eq_false c4
  clear c4
  replace H := Option.bind_eq_some_iff.mp H
  obtain ⟨t125, A80, H⟩ := H
  replace H : (if t125 < 0 then (some (-1)) else ((laws_szSealingS.f k l0_7 t125).bind fun t126 => (if t126 < 0 then (some (-1)) else (some t126)))) = some r := H
  have A8 := Am A80
  clear A80
  by_cases c9 : t125 < 0
  ·rw [if_pos c9] at H
   have c9b0 : decide (t125 < 0) = true := decide_eq_true c9
   clear c9
   obtain rfl := Option.some.inj H
   go_enter Try.func16, Try.ntmps16
   go_wp2_with (first | ((with_reducible refine gate_dst (N := 2) rfl ?_); refine box_event ?hg (N := 2) ?hd (cs := #[.int .i64 a0_0, .int .i64 a0_1, .int .i64 a0_2, .int .i64 a0_3, .string a0_4, .slice A0_5 l0_5.length c0_5, .slice A0_6 l0_6.length c0_6, .slice A0_7 l0_7.length c0_7]) (t := 40) ?hr ?_; (case hd => rfl); (case hg => rfl); (case hr => first | (go_simp; done) | (go_simp; rfl)); intro gb123 hg w10 hbox hb; have BK123 := Am (hbox); have GW123 := Am ((by rw [hg]; exact (bz zB) : w.heap.size ≤ gb123)); have GE123 := Am ((by rw [hg]; exact (bz zB) : w.heap.size ≤ gb123)); replace HB := Am (bq zB hb); clear hb hbox hg; obtain ⟨hcz11_0, hcz11_1, hcz11_2, hcz11_3, hcz11_4, hcz11_5, hcz11_6, hcz11_7⟩ := kc8 (w := w10) BK123.out; have hfz11_0 := kf BK123.out) | ((with_reducible refine gate_callee (f := 10) rfl ?_); refine zC (some 8) rfl rfl Try.func10 rfl #[.agg #[.string a0_4, .slice A0_5 l0_5.length c0_5], .int .i64 a1] rfl ?_; (with_reducible refine (laws_szMemory.calls k a0_4 _ _ l0_5 a1 t124 _ ?side1 ?side2 A3.out).mono ?_); (case side1 => repeat (first | exact (cb HR0_5.out HB.out) | (with_reducible first | refine ca ?_ _ | refine cn ?_ _ | refine ce ?_))); (case side2 => exact HC0_5.out); rintro e w12 ⟨rfl, hb⟩; refine ⟨_, rfl, ?_⟩; have n0_ := Am (zK BK123 hb); have n1_ := Am (bq zG hb); clear BK123; clear HB; have BK123 := n0_; have HB := n1_; clear n0_ n1_; (try clear hb); obtain ⟨hcz13_0, hcz13_1, hcz13_2, hcz13_3, hcz13_4, hcz13_5, hcz13_6, hcz13_7⟩ := kc8 (w := w12) BK123.out; have hfz13_0 := kf BK123.out) | ((with_reducible refine gate_callee (f := 63) rfl ?_); refine zC (some 14) rfl rfl Try.func63 rfl #[.slice A0_6 l0_6.length c0_6, .int .i64 t124] rfl ?_; (with_reducible refine (laws_szJobS.calls k _ _ l0_6 t124 t125 _ ?side1 ?side2 A8.out).mono ?_); (case side1 => repeat (first | exact (cb HR0_6.out HB.out) | (with_reducible first | refine ca ?_ _ | refine cn ?_ _ | refine ce ?_))); (case side2 => exact HC0_6.out); rintro e w14 ⟨rfl, hb⟩; refine ⟨_, rfl, ?_⟩; have n0_ := Am (zK BK123 hb); have n1_ := Am (bq zG hb); clear BK123; clear HB; have BK123 := n0_; have HB := n1_; clear n0_ n1_; (try clear hb)))
   go_ret
   exact ⟨zR, zG⟩
  ·rw [if_neg c9] at H
   have c9b0 : decide (t125 < 0) = false := decide_eq_false c9
   clear c9
   replace H := Option.bind_eq_some_iff.mp H
   obtain ⟨t126, A150, H⟩ := H
   replace H : (if t126 < 0 then (some (-1)) else (some t126)) = some r := H
   have A15 := Am A150
   clear A150
   by_cases c16 : t126 < 0
   ·rw [if_pos c16] at H
    have c16b0 : decide (t126 < 0) = true := decide_eq_true c16
    clear c16
    obtain rfl := Option.some.inj H
    go_enter Try.func16, Try.ntmps16
    go_wp2_with (first | ((with_reducible refine gate_dst (N := 2) rfl ?_); refine box_event ?hg (N := 2) ?hd (cs := #[.int .i64 a0_0, .int .i64 a0_1, .int .i64 a0_2, .int .i64 a0_3, .string a0_4, .slice A0_5 l0_5.length c0_5, .slice A0_6 l0_6.length c0_6, .slice A0_7 l0_7.length c0_7]) (t := 40) ?hr ?_; (case hd => rfl); (case hg => rfl); (case hr => first | (go_simp; done) | (go_simp; rfl)); intro gb123 hg w17 hbox hb; have BK123 := Am (hbox); have GW123 := Am ((by rw [hg]; exact (bz zB) : w.heap.size ≤ gb123)); have GE123 := Am ((by rw [hg]; exact (bz zB) : w.heap.size ≤ gb123)); replace HB := Am (bq zB hb); clear hb hbox hg; obtain ⟨hcz18_0, hcz18_1, hcz18_2, hcz18_3, hcz18_4, hcz18_5, hcz18_6, hcz18_7⟩ := kc8 (w := w17) BK123.out; have hfz18_0 := kf BK123.out) | ((with_reducible refine gate_callee (f := 10) rfl ?_); refine zC (some 8) rfl rfl Try.func10 rfl #[.agg #[.string a0_4, .slice A0_5 l0_5.length c0_5], .int .i64 a1] rfl ?_; (with_reducible refine (laws_szMemory.calls k a0_4 _ _ l0_5 a1 t124 _ ?side1 ?side2 A3.out).mono ?_); (case side1 => repeat (first | exact (cb HR0_5.out HB.out) | (with_reducible first | refine ca ?_ _ | refine cn ?_ _ | refine ce ?_))); (case side2 => exact HC0_5.out); rintro e w19 ⟨rfl, hb⟩; refine ⟨_, rfl, ?_⟩; have n0_ := Am (zK BK123 hb); have n1_ := Am (bq zG hb); clear BK123; clear HB; have BK123 := n0_; have HB := n1_; clear n0_ n1_; (try clear hb); obtain ⟨hcz20_0, hcz20_1, hcz20_2, hcz20_3, hcz20_4, hcz20_5, hcz20_6, hcz20_7⟩ := kc8 (w := w19) BK123.out; have hfz20_0 := kf BK123.out) | ((with_reducible refine gate_callee (f := 63) rfl ?_); refine zC (some 14) rfl rfl Try.func63 rfl #[.slice A0_6 l0_6.length c0_6, .int .i64 t124] rfl ?_; (with_reducible refine (laws_szJobS.calls k _ _ l0_6 t124 t125 _ ?side1 ?side2 A8.out).mono ?_); (case side1 => repeat (first | exact (cb HR0_6.out HB.out) | (with_reducible first | refine ca ?_ _ | refine cn ?_ _ | refine ce ?_))); (case side2 => exact HC0_6.out); rintro e w21 ⟨rfl, hb⟩; refine ⟨_, rfl, ?_⟩; have n0_ := Am (zK BK123 hb); have n1_ := Am (bq zG hb); clear BK123; clear HB; have BK123 := n0_; have HB := n1_; clear n0_ n1_; (try clear hb); obtain ⟨hcz22_0, hcz22_1, hcz22_2, hcz22_3, hcz22_4, hcz22_5, hcz22_6, hcz22_7⟩ := kc8 (w := w21) BK123.out; have hfz22_0 := kf BK123.out) | ((with_reducible refine gate_callee (f := 64) rfl ?_); refine zC (some 20) rfl rfl Try.func64 rfl #[.slice A0_7 l0_7.length c0_7, .int .i64 t125] rfl ?_; (with_reducible refine (laws_szSealingS.calls k _ _ l0_7 t125 t126 _ ?side1 ?side2 A15.out).mono ?_); (case side1 => repeat (first | exact (cb HR0_7.out HB.out) | (with_reducible first | refine ca ?_ _ | refine cn ?_ _ | refine ce ?_))); (case side2 => exact HC0_7.out); rintro e w23 ⟨rfl, hb⟩; refine ⟨_, rfl, ?_⟩; have n0_ := Am (zK BK123 hb); have n1_ := Am (bq zG hb); clear BK123; clear HB; have BK123 := n0_; have HB := n1_; clear n0_ n1_; (try clear hb)))
    go_ret
    exact ⟨zR, zG⟩
   ·rw [if_neg c16] at H
    have c16b0 : decide (t126 < 0) = false := decide_eq_false c16
    clear c16
    obtain rfl := Option.some.inj H
    go_enter Try.func16, Try.ntmps16
    go_wp2_with (first | ((with_reducible refine gate_dst (N := 2) rfl ?_); refine box_event ?hg (N := 2) ?hd (cs := #[.int .i64 a0_0, .int .i64 a0_1, .int .i64 a0_2, .int .i64 a0_3, .string a0_4, .slice A0_5 l0_5.length c0_5, .slice A0_6 l0_6.length c0_6, .slice A0_7 l0_7.length c0_7]) (t := 40) ?hr ?_; (case hd => rfl); (case hg => rfl); (case hr => first | (go_simp; done) | (go_simp; rfl)); intro gb123 hg w24 hbox hb; have BK123 := Am (hbox); have GW123 := Am ((by rw [hg]; exact (bz zB) : w.heap.size ≤ gb123)); have GE123 := Am ((by rw [hg]; exact (bz zB) : w.heap.size ≤ gb123)); replace HB := Am (bq zB hb); clear hb hbox hg; obtain ⟨hcz25_0, hcz25_1, hcz25_2, hcz25_3, hcz25_4, hcz25_5, hcz25_6, hcz25_7⟩ := kc8 (w := w24) BK123.out; have hfz25_0 := kf BK123.out) | ((with_reducible refine gate_callee (f := 10) rfl ?_); refine zC (some 8) rfl rfl Try.func10 rfl #[.agg #[.string a0_4, .slice A0_5 l0_5.length c0_5], .int .i64 a1] rfl ?_; (with_reducible refine (laws_szMemory.calls k a0_4 _ _ l0_5 a1 t124 _ ?side1 ?side2 A3.out).mono ?_); (case side1 => repeat (first | exact (cb HR0_5.out HB.out) | (with_reducible first | refine ca ?_ _ | refine cn ?_ _ | refine ce ?_))); (case side2 => exact HC0_5.out); rintro e w26 ⟨rfl, hb⟩; refine ⟨_, rfl, ?_⟩; have n0_ := Am (zK BK123 hb); have n1_ := Am (bq zG hb); clear BK123; clear HB; have BK123 := n0_; have HB := n1_; clear n0_ n1_; (try clear hb); obtain ⟨hcz27_0, hcz27_1, hcz27_2, hcz27_3, hcz27_4, hcz27_5, hcz27_6, hcz27_7⟩ := kc8 (w := w26) BK123.out; have hfz27_0 := kf BK123.out) | ((with_reducible refine gate_callee (f := 63) rfl ?_); refine zC (some 14) rfl rfl Try.func63 rfl #[.slice A0_6 l0_6.length c0_6, .int .i64 t124] rfl ?_; (with_reducible refine (laws_szJobS.calls k _ _ l0_6 t124 t125 _ ?side1 ?side2 A8.out).mono ?_); (case side1 => repeat (first | exact (cb HR0_6.out HB.out) | (with_reducible first | refine ca ?_ _ | refine cn ?_ _ | refine ce ?_))); (case side2 => exact HC0_6.out); rintro e w28 ⟨rfl, hb⟩; refine ⟨_, rfl, ?_⟩; have n0_ := Am (zK BK123 hb); have n1_ := Am (bq zG hb); clear BK123; clear HB; have BK123 := n0_; have HB := n1_; clear n0_ n1_; (try clear hb); obtain ⟨hcz29_0, hcz29_1, hcz29_2, hcz29_3, hcz29_4, hcz29_5, hcz29_6, hcz29_7⟩ := kc8 (w := w28) BK123.out; have hfz29_0 := kf BK123.out) | ((with_reducible refine gate_callee (f := 64) rfl ?_); refine zC (some 20) rfl rfl Try.func64 rfl #[.slice A0_7 l0_7.length c0_7, .int .i64 t125] rfl ?_; (with_reducible refine (laws_szSealingS.calls k _ _ l0_7 t125 t126 _ ?side1 ?side2 A15.out).mono ?_); (case side1 => repeat (first | exact (cb HR0_7.out HB.out) | (with_reducible first | refine ca ?_ _ | refine cn ?_ _ | refine ce ?_))); (case side2 => exact HC0_7.out); rintro e w30 ⟨rfl, hb⟩; refine ⟨_, rfl, ?_⟩; have n0_ := Am (zK BK123 hb); have n1_ := Am (bq zG hb); clear BK123; clear HB; have BK123 := n0_; have HB := n1_; clear n0_ n1_; (try clear hb)))
    go_ret
    exact ⟨zR, zG⟩

/-! ### laws_szItem: function 157 -/
def laws_szItem.f (a0_0 : ByteArray) (a0_1 : Bool) (a0_2 : ByteArray) (a1 : Int) : Option (Int) := if (wrap64 (a1 - (a0_0.size : Int))) < 0 then (some (-1)) else (if (wrap64 ((wrap64 (a1 - (a0_0.size : Int))) - (a0_2.size : Int))) < 0 then (some (-1)) else (some (wrap64 ((wrap64 (a1 - (a0_0.size : Int))) - (a0_2.size : Int)))))
set_option maxHeartbeats 8000000 in
set_option maxRecDepth 100000 in
theorem laws_szItem.calls (a0_0 : ByteArray) (a0_1 : Bool) (a0_2 : ByteArray) (a1 : Int) (r : Int) (w : World) (h : laws_szItem.f a0_0 a0_1 a0_2 a1 = some r) :
  Calls Try.prog 157 #[.agg #[.string a0_0, .bool a0_1, .string a0_2], .int .i64 a1] w fun e w' => e = .returned (.int .i64 r) ∧ Below w.heap.size w w' := by
 have hu205 := Try.underlying205
 have HB := Am (Below.refl w.heap.size w)
 have H : (if (wrap64 (a1 - (a0_0.size : Int))) < 0 then (some (-1)) else (if (wrap64 ((wrap64 (a1 - (a0_0.size : Int))) - (a0_2.size : Int))) < 0 then (some (-1)) else (some (wrap64 ((wrap64 (a1 - (a0_0.size : Int))) - (a0_2.size : Int)))))) = some r := h
 clear h
 by_cases c3 : (wrap64 (a1 - (a0_0.size : Int))) < 0
 ·rw [if_pos c3] at H
  have c3b0 : decide ((wrap64 (a1 - (a0_0.size : Int))) < 0) = true := decide_eq_true c3
  clear c3
  obtain rfl := Option.some.inj H
  go_enter Try.func157, Try.ntmps157
  go_wp2_with (first | ((with_reducible refine gate_dst (N := 2) rfl ?_); refine box_event ?hg (N := 2) ?hd (cs := #[.string a0_0, .bool a0_1, .string a0_2]) (t := 205) ?hr ?_; (case hd => rfl); (case hg => rfl); (case hr => first | (go_simp; done) | (go_simp; rfl)); intro gb127 hg w4 hbox hb; have BK127 := Am (hbox); have GW127 := Am ((by rw [hg]; exact (bz zB) : w.heap.size ≤ gb127)); have GE127 := Am ((by rw [hg]; exact (bz zB) : w.heap.size ≤ gb127)); replace HB := Am (bq zB hb); clear hb hbox hg; obtain ⟨hcz5_0, hcz5_1, hcz5_2⟩ := kc3 (w := w4) BK127.out; have hfz5_0 := kf BK127.out))
  go_ret
  exact ⟨zR, zG⟩
 ·rw [if_neg c3] at H
  have c3b0 : decide ((wrap64 (a1 - (a0_0.size : Int))) < 0) = false := decide_eq_false c3
  clear c3
  by_cases c6 : (wrap64 ((wrap64 (a1 - (a0_0.size : Int))) - (a0_2.size : Int))) < 0
  ·rw [if_pos c6] at H
   have c6b0 : decide ((wrap64 ((wrap64 (a1 - (a0_0.size : Int))) - (a0_2.size : Int))) < 0) = true := decide_eq_true c6
   clear c6
   obtain rfl := Option.some.inj H
   go_enter Try.func157, Try.ntmps157
   go_wp2_with (first | ((with_reducible refine gate_dst (N := 2) rfl ?_); refine box_event ?hg (N := 2) ?hd (cs := #[.string a0_0, .bool a0_1, .string a0_2]) (t := 205) ?hr ?_; (case hd => rfl); (case hg => rfl); (case hr => first | (go_simp; done) | (go_simp; rfl)); intro gb127 hg w7 hbox hb; have BK127 := Am (hbox); have GW127 := Am ((by rw [hg]; exact (bz zB) : w.heap.size ≤ gb127)); have GE127 := Am ((by rw [hg]; exact (bz zB) : w.heap.size ≤ gb127)); replace HB := Am (bq zB hb); clear hb hbox hg; obtain ⟨hcz8_0, hcz8_1, hcz8_2⟩ := kc3 (w := w7) BK127.out; have hfz8_0 := kf BK127.out))
   go_ret
   exact ⟨zR, zG⟩
  ·rw [if_neg c6] at H
   have c6b0 : decide ((wrap64 ((wrap64 (a1 - (a0_0.size : Int))) - (a0_2.size : Int))) < 0) = false := decide_eq_false c6
   clear c6
   obtain rfl := Option.some.inj H
   go_enter Try.func157, Try.ntmps157
   go_wp2_with (first | ((with_reducible refine gate_dst (N := 2) rfl ?_); refine box_event ?hg (N := 2) ?hd (cs := #[.string a0_0, .bool a0_1, .string a0_2]) (t := 205) ?hr ?_; (case hd => rfl); (case hg => rfl); (case hr => first | (go_simp; done) | (go_simp; rfl)); intro gb127 hg w9 hbox hb; have BK127 := Am (hbox); have GW127 := Am ((by rw [hg]; exact (bz zB) : w.heap.size ≤ gb127)); have GE127 := Am ((by rw [hg]; exact (bz zB) : w.heap.size ≤ gb127)); replace HB := Am (bq zB hb); clear hb hbox hg; obtain ⟨hcz10_0, hcz10_1, hcz10_2⟩ := kc3 (w := w9) BK127.out; have hfz10_0 := kf BK127.out))
   go_ret
   exact ⟨zR, zG⟩

/-! ### laws_szItemS: function 147 -/
def laws_szItemS.l0 : Nat → List (S205) → Int → Int → Option (Int)
 | 0, _, _, _ => none
 | k + 1, x0, x1, x5 => if x5 < (x0.length : Int) then (if 0 ≤ x5 then ((laws_szItem.f ((rd_T205 x0 x5).f0) ((rd_T205 x0 x5).f1) ((rd_T205 x0 x5).f2) x1).bind fun t129 => (if t129 < 0 then (some (-1)) else (laws_szItemS.l0 k x0 t129 (wrap64 (x5 + 1))))) else (none)) else (some x1)
def laws_szItemS.f (k : Nat) (l0 : List (S205)) (a1 : Int) : Option (Int) := if (wrap64 (a1 - (l0.length : Int))) < 0 then (some (-1)) else (laws_szItemS.l0 k l0 (wrap64 (a1 - (l0.length : Int))) 0)
theorem laws_szItemS.mono_l : ∀ k, (∀ y0 y1 y2, LeO (laws_szItemS.l0 k y0 y1 y2) (laws_szItemS.l0 (k + 1) y0 y1 y2))
 | 0 => fun _ _ _ r h => by simp [laws_szItemS.l0] at h
 | k + 1 => by
  have ih0 := laws_szItemS.mono_l k
  ·intro y0 y1 y2
   unfold laws_szItemS.l0
   repeat' first
   | (with_reducible exact ih0 _ _ _)
   | (with_reducible exact LeO.refl _)
   | (with_reducible exact LeO.none _)
   | (with_reducible refine LeO.ite ?_ ?_)
   | (with_reducible refine LeO.bind ?_ (fun _ => ?_))
   | exact ih0 _ _ _
   | exact LeO.none _
   | refine LeO.ite ?_ ?_
   | refine LeO.bind ?_ (fun _ => ?_)
theorem laws_szItemS.mono : ∀ a0 a1 k, LeO (laws_szItemS.f k a0 a1) (laws_szItemS.f (k + 1) a0 a1) := by
 intro a0 a1 k
 have ih0 := laws_szItemS.mono_l k
 unfold laws_szItemS.f
 repeat' first
   | (with_reducible exact ih0 _ _ _)
   | (with_reducible exact LeO.refl _)
   | (with_reducible exact LeO.none _)
   | (with_reducible refine LeO.ite ?_ ?_)
   | (with_reducible refine LeO.bind ?_ (fun _ => ?_))
   | exact ih0 _ _ _
   | exact LeO.none _
   | refine LeO.ite ?_ ?_
   | refine LeO.bind ?_ (fun _ => ?_)
set_option maxHeartbeats 8000000 in
set_option maxRecDepth 100000 in
theorem laws_szItemS.calls (k : Nat) (A0 : Option Addr) (c0 : Nat) (l0 : List (S205)) (a1 : Int) (r : Int) (w : World) (hr0 : Kd.C k205 w A0 l0.length l0) (hc0 : l0.length ≤ c0) (h : laws_szItemS.f k l0 a1 = some r) :
  Calls Try.prog 147 #[.slice A0 l0.length c0, .int .i64 a1] w fun e w' => e = .returned (.int .i64 r) ∧ Below w.heap.size w w' := by
 have hu205 := Try.underlying205
 have HR0 := Am hr0
 have HC0 := Am hc0
 clear hr0 hc0
 have HB := Am (Below.refl w.heap.size w)
 have H : (if (wrap64 (a1 - (l0.length : Int))) < 0 then (some (-1)) else (laws_szItemS.l0 k l0 (wrap64 (a1 - (l0.length : Int))) 0)) = some r := h
 clear h
 by_cases c3 : (wrap64 (a1 - (l0.length : Int))) < 0
 ·rw [if_pos c3] at H
  have c3b0 : decide ((wrap64 (a1 - (l0.length : Int))) < 0) = true := decide_eq_true c3
  clear c3
  obtain rfl := Option.some.inj H
  go_enter Try.func147, Try.ntmps147
  go_wp2
  go_ret
  exact ⟨zR, zB⟩
 ·rw [if_neg c3] at H
  have c3b0 : decide ((wrap64 (a1 - (l0.length : Int))) < 0) = false := decide_eq_false c3
  clear c3
  have H' := Am H
  clear H
  go_enter Try.func147, Try.ntmps147
  go_wp2
  go_loopg [1, 5] k (fun kq v1 v5 w' => ∃ (x1_1 : Int) (x5_1 : Int), v1 = .int .i64 x1_1 ∧ v5 = .int .i64 x5_1 ∧ Aside0 (laws_szItemS.l0 kq l0 x1_1 x5_1 = some r) ∧ Aside0 (kq ≤ k) ∧ Aside0 (Below w.heap.size w w'))
  case atStart => exact ⟨(wrap64 (a1 - (l0.length : Int))), (0), (by first | rfl | (simp; done) | (simp [*]; done)), (by first | rfl | (simp; done) | (simp [*]; done)), H', ⟨Nat.le_refl _⟩, ⟨zB⟩⟩
  case round =>
   clear H'
   try clear c1; try clear p2; try clear c3; try clear c3b0
   obtain ⟨x1_1, x5_1, rfl, rfl, HA, HK1, HB⟩ := hrel
   cases gk with
   | zero => exact absurd HA.out (by simp [laws_szItemS.l0])
   | succ k1 =>
    have H := HA.out
    clear HA
    simp only [laws_szItemS.l0] at H
    by_cases c4 : x5_1 < (l0.length : Int)
    ·rw [if_pos c4] at H
     have c4b0 : decide (x5_1 < (l0.length : Int)) = true := decide_eq_true c4
     clear c4
     by_cases c5 : 0 ≤ x5_1
     ·rw [if_pos c5] at H
      have c5b0 : decide (0 ≤ x5_1) = true := decide_eq_true c5
      clear c5
      replace H := Option.bind_eq_some_iff.mp H
      obtain ⟨t129, A60, H⟩ := H
      replace H : (if t129 < 0 then (some (-1)) else (laws_szItemS.l0 k1 l0 t129 (wrap64 (x5_1 + 1)))) = some r := H
      have A6 := Am A60
      clear A60
      by_cases c7 : t129 < 0
      ·rw [if_pos c7] at H
       have c7b0 : decide (t129 < 0) = true := decide_eq_true c7
       clear c7
       obtain rfl := Option.some.inj H
       have p128 : 0 ≤ (x5_1 : Int) := of_decide_eq_true (by first | (with_reducible assumption) | assumption)
       have q128 : x5_1 < (l0.length : Int) := of_decide_eq_true (by first | (with_reducible assumption) | assumption)
       obtain ⟨ad128, e128, hx128_0, hx128_1, hx128_2⟩ := at_T205 HR0.out x5_1 p128 q128
       cases e128
       replace hx128_0 := cl3 HB hx128_0
       replace hx128_1 := cl3 HB hx128_1
       replace hx128_2 := cl3 HB hx128_2
       replace p128 := eq_true p128
       replace q128 := eq_true q128
       go_wp2_with (first | ((with_reducible refine gate_callee (f := 157) rfl ?_); refine zC (some 23) rfl rfl Try.func157 rfl #[.agg #[.string ((rd_T205 l0 x5_1).f0), .bool ((rd_T205 l0 x5_1).f1), .string ((rd_T205 l0 x5_1).f2)], .int .i64 x1_1] rfl ?_; (with_reducible refine (laws_szItem.calls ((rd_T205 l0 x5_1).f0) ((rd_T205 l0 x5_1).f1) ((rd_T205 l0 x5_1).f2) x1_1 t129 _ A6.out).mono ?_); rintro e w8 ⟨rfl, hb⟩; refine ⟨_, rfl, ?_⟩; replace HB := Am (bq zB hb); (try clear hb)))
       go_ret
       exact ⟨zR, zB⟩
      ·rw [if_neg c7] at H
       have c7b0 : decide (t129 < 0) = false := decide_eq_false c7
       clear c7
       have H' := Am H
       clear H
       have p128 : 0 ≤ (x5_1 : Int) := of_decide_eq_true (by first | (with_reducible assumption) | assumption)
       have q128 : x5_1 < (l0.length : Int) := of_decide_eq_true (by first | (with_reducible assumption) | assumption)
       obtain ⟨ad128, e128, hx128_0, hx128_1, hx128_2⟩ := at_T205 HR0.out x5_1 p128 q128
       cases e128
       replace hx128_0 := cl3 HB hx128_0
       replace hx128_1 := cl3 HB hx128_1
       replace hx128_2 := cl3 HB hx128_2
       replace p128 := eq_true p128
       replace q128 := eq_true q128
       go_wp2_with (first | ((with_reducible refine gate_callee (f := 157) rfl ?_); refine zC (some 23) rfl rfl Try.func157 rfl #[.agg #[.string ((rd_T205 l0 x5_1).f0), .bool ((rd_T205 l0 x5_1).f1), .string ((rd_T205 l0 x5_1).f2)], .int .i64 x1_1] rfl ?_; (with_reducible refine (laws_szItem.calls ((rd_T205 l0 x5_1).f0) ((rd_T205 l0 x5_1).f1) ((rd_T205 l0 x5_1).f2) x1_1 t129 _ A6.out).mono ?_); rintro e w9 ⟨rfl, hb⟩; refine ⟨_, rfl, ?_⟩; replace HB := Am (bq zB hb); (try clear hb)))
       go_roundg k1
       case measure => have := HK1.out; omega
       case rel => exact ⟨(t129), (wrap64 (x5_1 + 1)), (by first | rfl | (simp; done) | (simp [*]; done)), (by first | rfl | (simp; done) | (simp [*]; done)), H', ⟨by have := HK1.out; omega⟩, ⟨zB⟩⟩
     ·rw [if_neg c5] at H
      exact absurd H (by simp)
    ·rw [if_neg c4] at H
     have c4b0 : decide (x5_1 < (l0.length : Int)) = false := decide_eq_false c4
     clear c4
     obtain rfl := Option.some.inj H
     go_wp2
     go_ret
     exact ⟨zR, zB⟩

/-! ### laws_szView: function 121 -/
def laws_szView.f (k : Nat) (l0_0 : List (S205)) (a1 : Int) : Option (Int) := (laws_szItemS.f k l0_0 a1).bind fun t131 => (if t131 < 0 then (some (-1)) else (some t131))
theorem laws_szView.mono : ∀ a0 a1 k, LeO (laws_szView.f k a0 a1) (laws_szView.f (k + 1) a0 a1) := by
 intro a0 a1 k
 unfold laws_szView.f
 repeat' first
   | (with_reducible exact laws_szItemS.mono _ _ _)
   | (with_reducible exact LeO.refl _)
   | (with_reducible exact LeO.none _)
   | (with_reducible refine LeO.ite ?_ ?_)
   | (with_reducible refine LeO.bind ?_ (fun _ => ?_))
   | exact laws_szItemS.mono _ _ _
   | exact LeO.none _
   | refine LeO.ite ?_ ?_
   | refine LeO.bind ?_ (fun _ => ?_)
set_option maxHeartbeats 8000000 in
set_option maxRecDepth 100000 in
theorem laws_szView.calls (k : Nat) (A0_0 : Option Addr) (c0_0 : Nat) (l0_0 : List (S205)) (a1 : Int) (r : Int) (w : World) (hr0_0 : Kd.C k205 w A0_0 l0_0.length l0_0) (hc0_0 : l0_0.length ≤ c0_0) (h : laws_szView.f k l0_0 a1 = some r) :
  Calls Try.prog 121 #[.agg #[.slice A0_0 l0_0.length c0_0], .int .i64 a1] w fun e w' => e = .returned (.int .i64 r) ∧ Below w.heap.size w w' := by
 have hu174 := Try.underlying174
 have HR0_0 := Am hr0_0
 have HC0_0 := Am hc0_0
 clear hr0_0 hc0_0
 have HB := Am (Below.refl w.heap.size w)
 have H : ((laws_szItemS.f k l0_0 a1).bind fun t131 => (if t131 < 0 then (some (-1)) else (some t131))) = some r := h
 clear h
 replace H := Option.bind_eq_some_iff.mp H
 obtain ⟨t131, A30, H⟩ := H
 replace H : (if t131 < 0 then (some (-1)) else (some t131)) = some r := H
 have A3 := Am A30
 clear A30
 by_cases c4 : t131 < 0
 ·rw [if_pos c4] at H
  have c4b0 : decide (t131 < 0) = true := decide_eq_true c4
  clear c4
  obtain rfl := Option.some.inj H
  go_enter Try.func121, Try.ntmps121
  go_wp2_with (first | ((with_reducible refine gate_dst (N := 2) rfl ?_); refine box_event ?hg (N := 2) ?hd (cs := #[.slice A0_0 l0_0.length c0_0]) (t := 174) ?hr ?_; (case hd => rfl); (case hg => rfl); (case hr => first | (go_simp; done) | (go_simp; rfl)); intro gb130 hg w5 hbox hb; have BK130 := Am (hbox); have GW130 := Am ((by rw [hg]; exact (bz zB) : w.heap.size ≤ gb130)); have GE130 := Am ((by rw [hg]; exact (bz zB) : w.heap.size ≤ gb130)); replace HB := Am (bq zB hb); clear hb hbox hg; have hcz6_0 : w5.cell? ⟨gb130, 0, none⟩ = some (.slice A0_0 l0_0.length c0_0) := (kc BK130.out 0).trans rfl; have hfz6_0 := kf BK130.out) | ((with_reducible refine gate_callee (f := 147) rfl ?_); refine zC (some 8) rfl rfl Try.func147 rfl #[.slice A0_0 l0_0.length c0_0, .int .i64 a1] rfl ?_; (with_reducible refine (laws_szItemS.calls k _ _ l0_0 a1 t131 _ ?side1 ?side2 A3.out).mono ?_); (case side1 => repeat (first | exact (cb HR0_0.out HB.out) | (with_reducible first | refine ca ?_ _ | refine cn ?_ _ | refine ce ?_))); (case side2 => exact HC0_0.out); rintro e w7 ⟨rfl, hb⟩; refine ⟨_, rfl, ?_⟩; have n0_ := Am (zK BK130 hb); have n1_ := Am (bq zG hb); clear BK130; clear HB; have BK130 := n0_; have HB := n1_; clear n0_ n1_; (try clear hb)))
  go_ret
  exact ⟨zR, zG⟩
 ·rw [if_neg c4] at H
  have c4b0 : decide (t131 < 0) = false := decide_eq_false c4
  clear c4
  obtain rfl := Option.some.inj H
  go_enter Try.func121, Try.ntmps121
  go_wp2_with (first | ((with_reducible refine gate_dst (N := 2) rfl ?_); refine box_event ?hg (N := 2) ?hd (cs := #[.slice A0_0 l0_0.length c0_0]) (t := 174) ?hr ?_; (case hd => rfl); (case hg => rfl); (case hr => first | (go_simp; done) | (go_simp; rfl)); intro gb130 hg w8 hbox hb; have BK130 := Am (hbox); have GW130 := Am ((by rw [hg]; exact (bz zB) : w.heap.size ≤ gb130)); have GE130 := Am ((by rw [hg]; exact (bz zB) : w.heap.size ≤ gb130)); replace HB := Am (bq zB hb); clear hb hbox hg; have hcz9_0 : w8.cell? ⟨gb130, 0, none⟩ = some (.slice A0_0 l0_0.length c0_0) := (kc BK130.out 0).trans rfl; have hfz9_0 := kf BK130.out) | ((with_reducible refine gate_callee (f := 147) rfl ?_); refine zC (some 8) rfl rfl Try.func147 rfl #[.slice A0_0 l0_0.length c0_0, .int .i64 a1] rfl ?_; (with_reducible refine (laws_szItemS.calls k _ _ l0_0 a1 t131 _ ?side1 ?side2 A3.out).mono ?_); (case side1 => repeat (first | exact (cb HR0_0.out HB.out) | (with_reducible first | refine ca ?_ _ | refine cn ?_ _ | refine ce ?_))); (case side2 => exact HC0_0.out); rintro e w10 ⟨rfl, hb⟩; refine ⟨_, rfl, ?_⟩; have n0_ := Am (zK BK130 hb); have n1_ := Am (bq zG hb); clear BK130; clear HB; have BK130 := n0_; have HB := n1_; clear n0_ n1_; (try clear hb)))
  go_ret
  exact ⟨zR, zG⟩

/-! ### laws_szViewS: function 72 -/
def laws_szViewS.l0 : Nat → List (S174) → Int → Int → Option (Int)
 | 0, _, _, _ => none
 | k + 1, x0, x1, x5 => if x5 < (x0.length : Int) then (if 0 ≤ x5 then ((laws_szView.f k ((rd_T174 x0 x5).f0) x1).bind fun t133 => (if t133 < 0 then (some (-1)) else (laws_szViewS.l0 k x0 t133 (wrap64 (x5 + 1))))) else (none)) else (some x1)
def laws_szViewS.f (k : Nat) (l0 : List (S174)) (a1 : Int) : Option (Int) := if (wrap64 (a1 - (l0.length : Int))) < 0 then (some (-1)) else (laws_szViewS.l0 k l0 (wrap64 (a1 - (l0.length : Int))) 0)
theorem laws_szViewS.mono_l : ∀ k, (∀ y0 y1 y2, LeO (laws_szViewS.l0 k y0 y1 y2) (laws_szViewS.l0 (k + 1) y0 y1 y2))
 | 0 => fun _ _ _ r h => by simp [laws_szViewS.l0] at h
 | k + 1 => by
  have ih0 := laws_szViewS.mono_l k
  ·intro y0 y1 y2
   unfold laws_szViewS.l0
   repeat' first
   | (with_reducible exact ih0 _ _ _)
   | (with_reducible exact laws_szView.mono _ _ _)
   | (with_reducible exact LeO.refl _)
   | (with_reducible exact LeO.none _)
   | (with_reducible refine LeO.ite ?_ ?_)
   | (with_reducible refine LeO.bind ?_ (fun _ => ?_))
   | exact ih0 _ _ _
   | exact laws_szView.mono _ _ _
   | exact LeO.none _
   | refine LeO.ite ?_ ?_
   | refine LeO.bind ?_ (fun _ => ?_)
theorem laws_szViewS.mono : ∀ a0 a1 k, LeO (laws_szViewS.f k a0 a1) (laws_szViewS.f (k + 1) a0 a1) := by
 intro a0 a1 k
 have ih0 := laws_szViewS.mono_l k
 unfold laws_szViewS.f
 repeat' first
   | (with_reducible exact ih0 _ _ _)
   | (with_reducible exact laws_szView.mono _ _ _)
   | (with_reducible exact LeO.refl _)
   | (with_reducible exact LeO.none _)
   | (with_reducible refine LeO.ite ?_ ?_)
   | (with_reducible refine LeO.bind ?_ (fun _ => ?_))
   | exact ih0 _ _ _
   | exact laws_szView.mono _ _ _
   | exact LeO.none _
   | refine LeO.ite ?_ ?_
   | refine LeO.bind ?_ (fun _ => ?_)
set_option maxHeartbeats 8000000 in
set_option maxRecDepth 100000 in
theorem laws_szViewS.calls (k : Nat) (A0 : Option Addr) (c0 : Nat) (l0 : List (S174)) (a1 : Int) (r : Int) (w : World) (hr0 : Kd.C k174 w A0 l0.length l0) (hc0 : l0.length ≤ c0) (h : laws_szViewS.f k l0 a1 = some r) :
  Calls Try.prog 72 #[.slice A0 l0.length c0, .int .i64 a1] w fun e w' => e = .returned (.int .i64 r) ∧ Below w.heap.size w w' := by
 have hu174 := Try.underlying174
 have HR0 := Am hr0
 have HC0 := Am hc0
 clear hr0 hc0
 have HB := Am (Below.refl w.heap.size w)
 have H : (if (wrap64 (a1 - (l0.length : Int))) < 0 then (some (-1)) else (laws_szViewS.l0 k l0 (wrap64 (a1 - (l0.length : Int))) 0)) = some r := h
 clear h
 by_cases c3 : (wrap64 (a1 - (l0.length : Int))) < 0
 ·rw [if_pos c3] at H
  have c3b0 : decide ((wrap64 (a1 - (l0.length : Int))) < 0) = true := decide_eq_true c3
  clear c3
  obtain rfl := Option.some.inj H
  go_enter Try.func72, Try.ntmps72
  go_wp2
  go_ret
  exact ⟨zR, zB⟩
 ·rw [if_neg c3] at H
  have c3b0 : decide ((wrap64 (a1 - (l0.length : Int))) < 0) = false := decide_eq_false c3
  clear c3
  have H' := Am H
  clear H
  go_enter Try.func72, Try.ntmps72
  go_wp2
  go_loopg [1, 5] k (fun kq v1 v5 w' => ∃ (x1_1 : Int) (x5_1 : Int), v1 = .int .i64 x1_1 ∧ v5 = .int .i64 x5_1 ∧ Aside0 (laws_szViewS.l0 kq l0 x1_1 x5_1 = some r) ∧ Aside0 (kq ≤ k) ∧ Aside0 (Below w.heap.size w w'))
  case atStart => exact ⟨(wrap64 (a1 - (l0.length : Int))), (0), (by first | rfl | (simp; done) | (simp [*]; done)), (by first | rfl | (simp; done) | (simp [*]; done)), H', ⟨Nat.le_refl _⟩, ⟨zB⟩⟩
  case round =>
   clear H'
   try clear p2; try clear c3; try clear c3b0
   obtain ⟨x1_1, x5_1, rfl, rfl, HA, HK1, HB⟩ := hrel
   cases gk with
   | zero => exact absurd HA.out (by simp [laws_szViewS.l0])
   | succ k1 =>
    have H := HA.out
    clear HA
    simp only [laws_szViewS.l0] at H
    by_cases c4 : x5_1 < (l0.length : Int)
    ·rw [if_pos c4] at H
     have c4b0 : decide (x5_1 < (l0.length : Int)) = true := decide_eq_true c4
     clear c4
     by_cases c5 : 0 ≤ x5_1
     ·rw [if_pos c5] at H
      have c5b0 : decide (0 ≤ x5_1) = true := decide_eq_true c5
      clear c5
      replace H := Option.bind_eq_some_iff.mp H
      obtain ⟨t133, A60, H⟩ := H
      replace H : (if t133 < 0 then (some (-1)) else (laws_szViewS.l0 k1 l0 t133 (wrap64 (x5_1 + 1)))) = some r := H
      have A6 := Am A60
      clear A60
      by_cases c7 : t133 < 0
      ·rw [if_pos c7] at H
       have c7b0 : decide (t133 < 0) = true := decide_eq_true c7
       clear c7
       obtain rfl := Option.some.inj H
       have p132 : 0 ≤ (x5_1 : Int) := of_decide_eq_true (by first | (with_reducible assumption) | assumption)
       have q132 : x5_1 < (l0.length : Int) := of_decide_eq_true (by first | (with_reducible assumption) | assumption)
       obtain ⟨ad132, A132_0, c132_0, e132, hx132_0, hl132_0, hi132_0⟩ := at_T174 HR0.out x5_1 p132 q132
       cases e132
       replace hx132_0 := cl3 HB hx132_0
       have HR132_0 := Am hi132_0
       have HC132_0 := Am hl132_0
       clear hi132_0 hl132_0
       replace p132 := eq_true p132
       replace q132 := eq_true q132
       go_wp2_with (first | ((with_reducible refine gate_callee (f := 121) rfl ?_); refine zC (some 23) rfl rfl Try.func121 rfl #[.agg #[.slice A132_0 ((rd_T174 l0 x5_1).f0).length c132_0], .int .i64 x1_1] rfl ?_; (with_reducible refine (laws_szView.calls k1 _ _ ((rd_T174 l0 x5_1).f0) x1_1 t133 _ ?side1 ?side2 A6.out).mono ?_); (case side1 => repeat (first | exact (cb HR132_0.out HB.out) | (with_reducible first | refine ca ?_ _ | refine cn ?_ _ | refine ce ?_))); (case side2 => exact HC132_0.out); rintro e w8 ⟨rfl, hb⟩; refine ⟨_, rfl, ?_⟩; replace HB := Am (bq zB hb); (try clear hb)))
       go_ret
       exact ⟨zR, zB⟩
      ·rw [if_neg c7] at H
       have c7b0 : decide (t133 < 0) = false := decide_eq_false c7
       clear c7
       have H' := Am H
       clear H
       have p132 : 0 ≤ (x5_1 : Int) := of_decide_eq_true (by first | (with_reducible assumption) | assumption)
       have q132 : x5_1 < (l0.length : Int) := of_decide_eq_true (by first | (with_reducible assumption) | assumption)
       obtain ⟨ad132, A132_0, c132_0, e132, hx132_0, hl132_0, hi132_0⟩ := at_T174 HR0.out x5_1 p132 q132
       cases e132
       replace hx132_0 := cl3 HB hx132_0
       have HR132_0 := Am hi132_0
       have HC132_0 := Am hl132_0
       clear hi132_0 hl132_0
       replace p132 := eq_true p132
       replace q132 := eq_true q132
       go_wp2_with (first | ((with_reducible refine gate_callee (f := 121) rfl ?_); refine zC (some 23) rfl rfl Try.func121 rfl #[.agg #[.slice A132_0 ((rd_T174 l0 x5_1).f0).length c132_0], .int .i64 x1_1] rfl ?_; (with_reducible refine (laws_szView.calls k1 _ _ ((rd_T174 l0 x5_1).f0) x1_1 t133 _ ?side1 ?side2 A6.out).mono ?_); (case side1 => repeat (first | exact (cb HR132_0.out HB.out) | (with_reducible first | refine ca ?_ _ | refine cn ?_ _ | refine ce ?_))); (case side2 => exact HC132_0.out); rintro e w9 ⟨rfl, hb⟩; refine ⟨_, rfl, ?_⟩; replace HB := Am (bq zB hb); (try clear hb)))
       go_roundg k1
       case measure => have := HK1.out; omega
       case rel => exact ⟨(t133), (wrap64 (x5_1 + 1)), (by first | rfl | (simp; done) | (simp [*]; done)), (by first | rfl | (simp; done) | (simp [*]; done)), H', ⟨by have := HK1.out; omega⟩, ⟨zB⟩⟩
     ·rw [if_neg c5] at H
      exact absurd H (by simp)
    ·rw [if_neg c4] at H
     have c4b0 : decide (x5_1 < (l0.length : Int)) = false := decide_eq_false c4
     clear c4
     obtain rfl := Option.some.inj H
     go_wp2
     go_ret
     exact ⟨zR, zB⟩

/-! ### laws_szWorld: function 21 -/
def laws_szWorld.f (k : Nat) (a0_0 : Int) (a0_1 : Int) (a0_2 : Int) (a0_3 : Int) (a0_4 : ByteArray) (l0_5 : List (S149)) (l0_6 : List (S161)) (l0_7 : List (S164)) (l0_8 : List (S174)) (l0_9 : List (S174)) (a0_10 : Int) (a1 : Int) : Option (Int) := (laws_szSystem.f k a0_0 a0_1 a0_2 a0_3 a0_4 l0_5 l0_6 l0_7 a1).bind fun t135 => (if t135 < 0 then (some (-1)) else ((laws_szViewS.f k l0_8 t135).bind fun t136 => (if t136 < 0 then (some (-1)) else ((laws_szViewS.f k l0_9 t136).bind fun t137 => (if t137 < 0 then (some (-1)) else (some t137))))))
theorem laws_szWorld.mono : ∀ a0 a1 a2 a3 a4 a5 a6 a7 a8 a9 a10 a11 k, LeO (laws_szWorld.f k a0 a1 a2 a3 a4 a5 a6 a7 a8 a9 a10 a11) (laws_szWorld.f (k + 1) a0 a1 a2 a3 a4 a5 a6 a7 a8 a9 a10 a11) := by
 intro a0 a1 a2 a3 a4 a5 a6 a7 a8 a9 a10 a11 k
 unfold laws_szWorld.f
 repeat' first
   | (with_reducible exact laws_szSystem.mono _ _ _ _ _ _ _ _ _ _)
   | (with_reducible exact laws_szViewS.mono _ _ _)
   | (with_reducible exact LeO.refl _)
   | (with_reducible exact LeO.none _)
   | (with_reducible refine LeO.ite ?_ ?_)
   | (with_reducible refine LeO.bind ?_ (fun _ => ?_))
   | exact laws_szSystem.mono _ _ _ _ _ _ _ _ _ _
   | exact laws_szViewS.mono _ _ _
   | exact LeO.none _
   | refine LeO.ite ?_ ?_
   | refine LeO.bind ?_ (fun _ => ?_)
set_option maxHeartbeats 8000000 in
set_option maxRecDepth 100000 in
theorem laws_szWorld.calls (k : Nat) (a0_0 : Int) (a0_1 : Int) (a0_2 : Int) (a0_3 : Int) (a0_4 : ByteArray) (A0_5 : Option Addr) (c0_5 : Nat) (l0_5 : List (S149)) (A0_6 : Option Addr) (c0_6 : Nat) (l0_6 : List (S161)) (A0_7 : Option Addr) (c0_7 : Nat) (l0_7 : List (S164)) (A0_8 : Option Addr) (c0_8 : Nat) (l0_8 : List (S174)) (A0_9 : Option Addr) (c0_9 : Nat) (l0_9 : List (S174)) (a0_10 : Int) (a1 : Int) (r : Int) (w : World) (hr0_5 : Kd.C k149 w A0_5 l0_5.length l0_5) (hc0_5 : l0_5.length ≤ c0_5) (hr0_6 : Kd.C k161 w A0_6 l0_6.length l0_6) (hc0_6 : l0_6.length ≤ c0_6) (hr0_7 : Kd.C k164 w A0_7 l0_7.length l0_7) (hc0_7 : l0_7.length ≤ c0_7) (hr0_8 : Kd.C k174 w A0_8 l0_8.length l0_8) (hc0_8 : l0_8.length ≤ c0_8) (hr0_9 : Kd.C k174 w A0_9 l0_9.length l0_9) (hc0_9 : l0_9.length ≤ c0_9) (h : laws_szWorld.f k a0_0 a0_1 a0_2 a0_3 a0_4 l0_5 l0_6 l0_7 l0_8 l0_9 a0_10 a1 = some r) :
  Calls Try.prog 21 #[.agg #[.int .i64 a0_0, .int .i64 a0_1, .int .i64 a0_2, .int .i64 a0_3, .string a0_4, .slice A0_5 l0_5.length c0_5, .slice A0_6 l0_6.length c0_6, .slice A0_7 l0_7.length c0_7, .slice A0_8 l0_8.length c0_8, .slice A0_9 l0_9.length c0_9, .int .i64 a0_10], .int .i64 a1] w fun e w' => e = .returned (.int .i64 r) ∧ Below w.heap.size w w' := by
 have hu52 := Try.underlying52
 have hu40 := Try.underlying40
 have HR0_5 := Am hr0_5
 have HC0_5 := Am hc0_5
 clear hr0_5 hc0_5
 have HR0_6 := Am hr0_6
 have HC0_6 := Am hc0_6
 clear hr0_6 hc0_6
 have HR0_7 := Am hr0_7
 have HC0_7 := Am hc0_7
 clear hr0_7 hc0_7
 have HR0_8 := Am hr0_8
 have HC0_8 := Am hc0_8
 clear hr0_8 hc0_8
 have HR0_9 := Am hr0_9
 have HC0_9 := Am hc0_9
 clear hr0_9 hc0_9
 have HB := Am (Below.refl w.heap.size w)
 have H : ((laws_szSystem.f k a0_0 a0_1 a0_2 a0_3 a0_4 l0_5 l0_6 l0_7 a1).bind fun t135 => (if t135 < 0 then (some (-1)) else ((laws_szViewS.f k l0_8 t135).bind fun t136 => (if t136 < 0 then (some (-1)) else ((laws_szViewS.f k l0_9 t136).bind fun t137 => (if t137 < 0 then (some (-1)) else (some t137))))))) = some r := h
 clear h
 replace H := Option.bind_eq_some_iff.mp H
 obtain ⟨t135, A30, H⟩ := H
 replace H : (if t135 < 0 then (some (-1)) else ((laws_szViewS.f k l0_8 t135).bind fun t136 => (if t136 < 0 then (some (-1)) else ((laws_szViewS.f k l0_9 t136).bind fun t137 => (if t137 < 0 then (some (-1)) else (some t137)))))) = some r := H
 have A3 := Am A30
 clear A30
 by_cases c4 : t135 < 0
 ·rw [if_pos c4] at H
  have c4b0 : decide (t135 < 0) = true := decide_eq_true c4
  clear c4
  obtain rfl := Option.some.inj H
  go_enter Try.func21, Try.ntmps21
  go_wp2_with (first | ((with_reducible refine gate_dst (N := 2) rfl ?_); refine box_event ?hg (N := 2) ?hd (cs := #[.int .i64 a0_0, .int .i64 a0_1, .int .i64 a0_2, .int .i64 a0_3, .string a0_4, .slice A0_5 l0_5.length c0_5, .slice A0_6 l0_6.length c0_6, .slice A0_7 l0_7.length c0_7, .slice A0_8 l0_8.length c0_8, .slice A0_9 l0_9.length c0_9, .int .i64 a0_10]) (t := 52) ?hr ?_; (case hd => rfl); (case hg => rfl); (case hr => first | (go_simp; done) | (go_simp; rfl)); intro gb134 hg w5 hbox hb; have BK134 := Am (hbox); have GW134 := Am ((by rw [hg]; exact (bz zB) : w.heap.size ≤ gb134)); have GE134 := Am ((by rw [hg]; exact (bz zB) : w.heap.size ≤ gb134)); replace HB := Am (bq zB hb); clear hb hbox hg; obtain ⟨hcz6_0, hcz6_1, hcz6_2, hcz6_3, hcz6_4, hcz6_5, hcz6_6, hcz6_7, hcz6_8, hcz6_9, hcz6_10⟩ := kc11 (w := w5) BK134.out; have hfz6_0 := kf BK134.out) | ((with_reducible refine gate_callee (f := 16) rfl ?_); refine zC (some 8) rfl rfl Try.func16 rfl #[.agg #[.int .i64 a0_0, .int .i64 a0_1, .int .i64 a0_2, .int .i64 a0_3, .string a0_4, .slice A0_5 l0_5.length c0_5, .slice A0_6 l0_6.length c0_6, .slice A0_7 l0_7.length c0_7], .int .i64 a1] rfl ?_; (with_reducible refine (laws_szSystem.calls k a0_0 a0_1 a0_2 a0_3 a0_4 _ _ l0_5 _ _ l0_6 _ _ l0_7 a1 t135 _ ?side1 ?side2 ?side3 ?side4 ?side5 ?side6 A3.out).mono ?_); (case side1 => repeat (first | exact (cb HR0_5.out HB.out) | (with_reducible first | refine ca ?_ _ | refine cn ?_ _ | refine ce ?_))); (case side2 => exact HC0_5.out); (case side3 => repeat (first | exact (cb HR0_6.out HB.out) | (with_reducible first | refine ca ?_ _ | refine cn ?_ _ | refine ce ?_))); (case side4 => exact HC0_6.out); (case side5 => repeat (first | exact (cb HR0_7.out HB.out) | (with_reducible first | refine ca ?_ _ | refine cn ?_ _ | refine ce ?_))); (case side6 => exact HC0_7.out); rintro e w7 ⟨rfl, hb⟩; refine ⟨_, rfl, ?_⟩; have n0_ := Am (zK BK134 hb); have n1_ := Am (bq zG hb); clear BK134; clear HB; have BK134 := n0_; have HB := n1_; clear n0_ n1_; (try clear hb)))
  go_ret
  exact ⟨zR, zG⟩
 ·rw [if_neg c4] at H
  have c4b0 : decide (t135 < 0) = false := decide_eq_false c4
  clear c4
  replace H := Option.bind_eq_some_iff.mp H
  obtain ⟨t136, A80, H⟩ := H
  replace H : (if t136 < 0 then (some (-1)) else ((laws_szViewS.f k l0_9 t136).bind fun t137 => (if t137 < 0 then (some (-1)) else (some t137)))) = some r := H
  have A8 := Am A80
  clear A80
  by_cases c9 : t136 < 0
  ·rw [if_pos c9] at H
   have c9b0 : decide (t136 < 0) = true := decide_eq_true c9
   clear c9
   obtain rfl := Option.some.inj H
   go_enter Try.func21, Try.ntmps21
   go_wp2_with (first | ((with_reducible refine gate_dst (N := 2) rfl ?_); refine box_event ?hg (N := 2) ?hd (cs := #[.int .i64 a0_0, .int .i64 a0_1, .int .i64 a0_2, .int .i64 a0_3, .string a0_4, .slice A0_5 l0_5.length c0_5, .slice A0_6 l0_6.length c0_6, .slice A0_7 l0_7.length c0_7, .slice A0_8 l0_8.length c0_8, .slice A0_9 l0_9.length c0_9, .int .i64 a0_10]) (t := 52) ?hr ?_; (case hd => rfl); (case hg => rfl); (case hr => first | (go_simp; done) | (go_simp; rfl)); intro gb134 hg w10 hbox hb; have BK134 := Am (hbox); have GW134 := Am ((by rw [hg]; exact (bz zB) : w.heap.size ≤ gb134)); have GE134 := Am ((by rw [hg]; exact (bz zB) : w.heap.size ≤ gb134)); replace HB := Am (bq zB hb); clear hb hbox hg; obtain ⟨hcz11_0, hcz11_1, hcz11_2, hcz11_3, hcz11_4, hcz11_5, hcz11_6, hcz11_7, hcz11_8, hcz11_9, hcz11_10⟩ := kc11 (w := w10) BK134.out; have hfz11_0 := kf BK134.out) | ((with_reducible refine gate_callee (f := 16) rfl ?_); refine zC (some 8) rfl rfl Try.func16 rfl #[.agg #[.int .i64 a0_0, .int .i64 a0_1, .int .i64 a0_2, .int .i64 a0_3, .string a0_4, .slice A0_5 l0_5.length c0_5, .slice A0_6 l0_6.length c0_6, .slice A0_7 l0_7.length c0_7], .int .i64 a1] rfl ?_; (with_reducible refine (laws_szSystem.calls k a0_0 a0_1 a0_2 a0_3 a0_4 _ _ l0_5 _ _ l0_6 _ _ l0_7 a1 t135 _ ?side1 ?side2 ?side3 ?side4 ?side5 ?side6 A3.out).mono ?_); (case side1 => repeat (first | exact (cb HR0_5.out HB.out) | (with_reducible first | refine ca ?_ _ | refine cn ?_ _ | refine ce ?_))); (case side2 => exact HC0_5.out); (case side3 => repeat (first | exact (cb HR0_6.out HB.out) | (with_reducible first | refine ca ?_ _ | refine cn ?_ _ | refine ce ?_))); (case side4 => exact HC0_6.out); (case side5 => repeat (first | exact (cb HR0_7.out HB.out) | (with_reducible first | refine ca ?_ _ | refine cn ?_ _ | refine ce ?_))); (case side6 => exact HC0_7.out); rintro e w12 ⟨rfl, hb⟩; refine ⟨_, rfl, ?_⟩; have n0_ := Am (zK BK134 hb); have n1_ := Am (bq zG hb); clear BK134; clear HB; have BK134 := n0_; have HB := n1_; clear n0_ n1_; (try clear hb); obtain ⟨hcz13_0, hcz13_1, hcz13_2, hcz13_3, hcz13_4, hcz13_5, hcz13_6, hcz13_7, hcz13_8, hcz13_9, hcz13_10⟩ := kc11 (w := w12) BK134.out; have hfz13_0 := kf BK134.out) | ((with_reducible refine gate_callee (f := 72) rfl ?_); refine zC (some 14) rfl rfl Try.func72 rfl #[.slice A0_8 l0_8.length c0_8, .int .i64 t135] rfl ?_; (with_reducible refine (laws_szViewS.calls k _ _ l0_8 t135 t136 _ ?side1 ?side2 A8.out).mono ?_); (case side1 => repeat (first | exact (cb HR0_8.out HB.out) | (with_reducible first | refine ca ?_ _ | refine cn ?_ _ | refine ce ?_))); (case side2 => exact HC0_8.out); rintro e w14 ⟨rfl, hb⟩; refine ⟨_, rfl, ?_⟩; have n0_ := Am (zK BK134 hb); have n1_ := Am (bq zG hb); clear BK134; clear HB; have BK134 := n0_; have HB := n1_; clear n0_ n1_; (try clear hb)))
   go_ret
   exact ⟨zR, zG⟩
  ·rw [if_neg c9] at H
   have c9b0 : decide (t136 < 0) = false := decide_eq_false c9
   clear c9
   replace H := Option.bind_eq_some_iff.mp H
   obtain ⟨t137, A150, H⟩ := H
   replace H : (if t137 < 0 then (some (-1)) else (some t137)) = some r := H
   have A15 := Am A150
   clear A150
   by_cases c16 : t137 < 0
   ·rw [if_pos c16] at H
    have c16b0 : decide (t137 < 0) = true := decide_eq_true c16
    clear c16
    obtain rfl := Option.some.inj H
    go_enter Try.func21, Try.ntmps21
    go_wp2_with (first | ((with_reducible refine gate_dst (N := 2) rfl ?_); refine box_event ?hg (N := 2) ?hd (cs := #[.int .i64 a0_0, .int .i64 a0_1, .int .i64 a0_2, .int .i64 a0_3, .string a0_4, .slice A0_5 l0_5.length c0_5, .slice A0_6 l0_6.length c0_6, .slice A0_7 l0_7.length c0_7, .slice A0_8 l0_8.length c0_8, .slice A0_9 l0_9.length c0_9, .int .i64 a0_10]) (t := 52) ?hr ?_; (case hd => rfl); (case hg => rfl); (case hr => first | (go_simp; done) | (go_simp; rfl)); intro gb134 hg w17 hbox hb; have BK134 := Am (hbox); have GW134 := Am ((by rw [hg]; exact (bz zB) : w.heap.size ≤ gb134)); have GE134 := Am ((by rw [hg]; exact (bz zB) : w.heap.size ≤ gb134)); replace HB := Am (bq zB hb); clear hb hbox hg; obtain ⟨hcz18_0, hcz18_1, hcz18_2, hcz18_3, hcz18_4, hcz18_5, hcz18_6, hcz18_7, hcz18_8, hcz18_9, hcz18_10⟩ := kc11 (w := w17) BK134.out; have hfz18_0 := kf BK134.out) | ((with_reducible refine gate_callee (f := 16) rfl ?_); refine zC (some 8) rfl rfl Try.func16 rfl #[.agg #[.int .i64 a0_0, .int .i64 a0_1, .int .i64 a0_2, .int .i64 a0_3, .string a0_4, .slice A0_5 l0_5.length c0_5, .slice A0_6 l0_6.length c0_6, .slice A0_7 l0_7.length c0_7], .int .i64 a1] rfl ?_; (with_reducible refine (laws_szSystem.calls k a0_0 a0_1 a0_2 a0_3 a0_4 _ _ l0_5 _ _ l0_6 _ _ l0_7 a1 t135 _ ?side1 ?side2 ?side3 ?side4 ?side5 ?side6 A3.out).mono ?_); (case side1 => repeat (first | exact (cb HR0_5.out HB.out) | (with_reducible first | refine ca ?_ _ | refine cn ?_ _ | refine ce ?_))); (case side2 => exact HC0_5.out); (case side3 => repeat (first | exact (cb HR0_6.out HB.out) | (with_reducible first | refine ca ?_ _ | refine cn ?_ _ | refine ce ?_))); (case side4 => exact HC0_6.out); (case side5 => repeat (first | exact (cb HR0_7.out HB.out) | (with_reducible first | refine ca ?_ _ | refine cn ?_ _ | refine ce ?_))); (case side6 => exact HC0_7.out); rintro e w19 ⟨rfl, hb⟩; refine ⟨_, rfl, ?_⟩; have n0_ := Am (zK BK134 hb); have n1_ := Am (bq zG hb); clear BK134; clear HB; have BK134 := n0_; have HB := n1_; clear n0_ n1_; (try clear hb); obtain ⟨hcz20_0, hcz20_1, hcz20_2, hcz20_3, hcz20_4, hcz20_5, hcz20_6, hcz20_7, hcz20_8, hcz20_9, hcz20_10⟩ := kc11 (w := w19) BK134.out; have hfz20_0 := kf BK134.out) | ((with_reducible refine gate_callee (f := 72) rfl ?_); refine zC (some 14) rfl rfl Try.func72 rfl #[.slice A0_8 l0_8.length c0_8, .int .i64 t135] rfl ?_; (with_reducible refine (laws_szViewS.calls k _ _ l0_8 t135 t136 _ ?side1 ?side2 A8.out).mono ?_); (case side1 => repeat (first | exact (cb HR0_8.out HB.out) | (with_reducible first | refine ca ?_ _ | refine cn ?_ _ | refine ce ?_))); (case side2 => exact HC0_8.out); rintro e w21 ⟨rfl, hb⟩; refine ⟨_, rfl, ?_⟩; have n0_ := Am (zK BK134 hb); have n1_ := Am (bq zG hb); clear BK134; clear HB; have BK134 := n0_; have HB := n1_; clear n0_ n1_; (try clear hb); obtain ⟨hcz22_0, hcz22_1, hcz22_2, hcz22_3, hcz22_4, hcz22_5, hcz22_6, hcz22_7, hcz22_8, hcz22_9, hcz22_10⟩ := kc11 (w := w21) BK134.out; have hfz22_0 := kf BK134.out) | ((with_reducible refine gate_callee (f := 72) rfl ?_); refine zC (some 20) rfl rfl Try.func72 rfl #[.slice A0_9 l0_9.length c0_9, .int .i64 t136] rfl ?_; (with_reducible refine (laws_szViewS.calls k _ _ l0_9 t136 t137 _ ?side1 ?side2 A15.out).mono ?_); (case side1 => repeat (first | exact (cb HR0_9.out HB.out) | (with_reducible first | refine ca ?_ _ | refine cn ?_ _ | refine ce ?_))); (case side2 => exact HC0_9.out); rintro e w23 ⟨rfl, hb⟩; refine ⟨_, rfl, ?_⟩; have n0_ := Am (zK BK134 hb); have n1_ := Am (bq zG hb); clear BK134; clear HB; have BK134 := n0_; have HB := n1_; clear n0_ n1_; (try clear hb)))
    go_ret
    exact ⟨zR, zG⟩
   ·rw [if_neg c16] at H
    have c16b0 : decide (t137 < 0) = false := decide_eq_false c16
    clear c16
    obtain rfl := Option.some.inj H
    go_enter Try.func21, Try.ntmps21
    go_wp2_with (first | ((with_reducible refine gate_dst (N := 2) rfl ?_); refine box_event ?hg (N := 2) ?hd (cs := #[.int .i64 a0_0, .int .i64 a0_1, .int .i64 a0_2, .int .i64 a0_3, .string a0_4, .slice A0_5 l0_5.length c0_5, .slice A0_6 l0_6.length c0_6, .slice A0_7 l0_7.length c0_7, .slice A0_8 l0_8.length c0_8, .slice A0_9 l0_9.length c0_9, .int .i64 a0_10]) (t := 52) ?hr ?_; (case hd => rfl); (case hg => rfl); (case hr => first | (go_simp; done) | (go_simp; rfl)); intro gb134 hg w24 hbox hb; have BK134 := Am (hbox); have GW134 := Am ((by rw [hg]; exact (bz zB) : w.heap.size ≤ gb134)); have GE134 := Am ((by rw [hg]; exact (bz zB) : w.heap.size ≤ gb134)); replace HB := Am (bq zB hb); clear hb hbox hg; obtain ⟨hcz25_0, hcz25_1, hcz25_2, hcz25_3, hcz25_4, hcz25_5, hcz25_6, hcz25_7, hcz25_8, hcz25_9, hcz25_10⟩ := kc11 (w := w24) BK134.out; have hfz25_0 := kf BK134.out) | ((with_reducible refine gate_callee (f := 16) rfl ?_); refine zC (some 8) rfl rfl Try.func16 rfl #[.agg #[.int .i64 a0_0, .int .i64 a0_1, .int .i64 a0_2, .int .i64 a0_3, .string a0_4, .slice A0_5 l0_5.length c0_5, .slice A0_6 l0_6.length c0_6, .slice A0_7 l0_7.length c0_7], .int .i64 a1] rfl ?_; (with_reducible refine (laws_szSystem.calls k a0_0 a0_1 a0_2 a0_3 a0_4 _ _ l0_5 _ _ l0_6 _ _ l0_7 a1 t135 _ ?side1 ?side2 ?side3 ?side4 ?side5 ?side6 A3.out).mono ?_); (case side1 => repeat (first | exact (cb HR0_5.out HB.out) | (with_reducible first | refine ca ?_ _ | refine cn ?_ _ | refine ce ?_))); (case side2 => exact HC0_5.out); (case side3 => repeat (first | exact (cb HR0_6.out HB.out) | (with_reducible first | refine ca ?_ _ | refine cn ?_ _ | refine ce ?_))); (case side4 => exact HC0_6.out); (case side5 => repeat (first | exact (cb HR0_7.out HB.out) | (with_reducible first | refine ca ?_ _ | refine cn ?_ _ | refine ce ?_))); (case side6 => exact HC0_7.out); rintro e w26 ⟨rfl, hb⟩; refine ⟨_, rfl, ?_⟩; have n0_ := Am (zK BK134 hb); have n1_ := Am (bq zG hb); clear BK134; clear HB; have BK134 := n0_; have HB := n1_; clear n0_ n1_; (try clear hb); obtain ⟨hcz27_0, hcz27_1, hcz27_2, hcz27_3, hcz27_4, hcz27_5, hcz27_6, hcz27_7, hcz27_8, hcz27_9, hcz27_10⟩ := kc11 (w := w26) BK134.out; have hfz27_0 := kf BK134.out) | ((with_reducible refine gate_callee (f := 72) rfl ?_); refine zC (some 14) rfl rfl Try.func72 rfl #[.slice A0_8 l0_8.length c0_8, .int .i64 t135] rfl ?_; (with_reducible refine (laws_szViewS.calls k _ _ l0_8 t135 t136 _ ?side1 ?side2 A8.out).mono ?_); (case side1 => repeat (first | exact (cb HR0_8.out HB.out) | (with_reducible first | refine ca ?_ _ | refine cn ?_ _ | refine ce ?_))); (case side2 => exact HC0_8.out); rintro e w28 ⟨rfl, hb⟩; refine ⟨_, rfl, ?_⟩; have n0_ := Am (zK BK134 hb); have n1_ := Am (bq zG hb); clear BK134; clear HB; have BK134 := n0_; have HB := n1_; clear n0_ n1_; (try clear hb); obtain ⟨hcz29_0, hcz29_1, hcz29_2, hcz29_3, hcz29_4, hcz29_5, hcz29_6, hcz29_7, hcz29_8, hcz29_9, hcz29_10⟩ := kc11 (w := w28) BK134.out; have hfz29_0 := kf BK134.out) | ((with_reducible refine gate_callee (f := 72) rfl ?_); refine zC (some 20) rfl rfl Try.func72 rfl #[.slice A0_9 l0_9.length c0_9, .int .i64 t136] rfl ?_; (with_reducible refine (laws_szViewS.calls k _ _ l0_9 t136 t137 _ ?side1 ?side2 A15.out).mono ?_); (case side1 => repeat (first | exact (cb HR0_9.out HB.out) | (with_reducible first | refine ca ?_ _ | refine cn ?_ _ | refine ce ?_))); (case side2 => exact HC0_9.out); rintro e w30 ⟨rfl, hb⟩; refine ⟨_, rfl, ?_⟩; have n0_ := Am (zK BK134 hb); have n1_ := Am (bq zG hb); clear BK134; clear HB; have BK134 := n0_; have HB := n1_; clear n0_ n1_; (try clear hb)))
    go_ret
    exact ⟨zR, zG⟩

end Go.Proofs.Ytconffflmbakgaa.QFnExactOneOf
