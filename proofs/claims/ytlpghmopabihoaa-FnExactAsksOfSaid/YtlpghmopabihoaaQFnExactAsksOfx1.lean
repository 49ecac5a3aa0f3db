/- Go functions as Lean functions, and their contracts. Own text: written by wip/gen/pr.py (a turned copy of the print). -/
import Derived.Test.YtlpghmopabihoaaQFnExactAsksOfx0
namespace Go.Proofs.Ytlpghmopabihoaa.QFnExactAsksOf
open Go.RowKit Go.Proofs.YtlpghmopabihoaaW.PrintWords Go.Proofs.YtlpghmopabihoaaW.PrintLast Go.Proofs.YtlpghmopabihoaaW.PrintMore
attribute [local go_sem] max2_int min2_int max_two min_two max_three min_three max_four min_four   -- for this text's walks alone
open Go.Proofs.YtlpghmopabihoaaW.PrintWords renaming below_alloc → ba, pw_below_drewN → bn, below_drew1 → be, below_set → bs, blk_drewN → kn, blk_drew → ke, blk_alloc → ka, blk_below → kb, blk_frozen → kf, blk_cell → kc, below_step → bq, below_size → bz
open Go.Proofs.YtlpghmopabihoaaW.PrintWords.Kd renaming C_alloc → ca, C_drewN → cn, C_drew → ce, C_below → cb
open Go.Proofs.YtlpghmopabihoaaW.PrintWords.Aside0 renaming mk → Am
set_option linter.unusedVariables false
set_option linter.unusedSimpArgs false

/-! ### laws_szAsk: function 145 -/
theorem cl1 {w w2 : World} {a : Addr} {v : Value} (h : Aside0 (Below w.heap.size w w2)) (e : w.cell? a = some v) : w2.cell? a = some v := (h.out.cell (World.block_lt_of_cell? w _ e)).trans e
def laws_szAsk.f (a0_0 : Int) (a0_1 : ByteArray) (a0_2 : ByteArray) (a0_3 : Int) (a0_4 : Int) (a0_5 : ByteArray) (a1 : Int) : Option (Int) := if (wrap64 (a1 - (a0_1.size : Int))) < 0 then (some (-1)) else (if (wrap64 ((wrap64 (a1 - (a0_1.size : Int))) - (a0_2.size : Int))) < 0 then (some (-1)) else (if (wrap64 ((wrap64 ((wrap64 (a1 - (a0_1.size : Int))) - (a0_2.size : Int))) - (a0_5.size : Int))) < 0 then (some (-1)) else (some (wrap64 ((wrap64 ((wrap64 (a1 - (a0_1.size : Int))) - (a0_2.size : Int))) - (a0_5.size : Int))))))
set_option maxHeartbeats 8000000 in
set_option maxRecDepth 100000 in
theorem laws_szAsk.calls (a0_0 : Int) (a0_1 : ByteArray) (a0_2 : ByteArray) (a0_3 : Int) (a0_4 : Int) (a0_5 : ByteArray) (a1 : Int) (r : Int) (w : World) (h : laws_szAsk.f a0_0 a0_1 a0_2 a0_3 a0_4 a0_5 a1 = some r) :
  Calls Try.prog 145 #[.agg #[.int .i64 a0_0, .string a0_1, .string a0_2, .int .i64 a0_3, .int .i64 a0_4, .string a0_5], .int .i64 a1] w fun e w' => e = .returned (.int .i64 r) ∧ Below w.heap.size w w' := by
 have hu115 := Try.underlying115
 have HB := Am (Below.refl w.heap.size w)
 have H : (if (wrap64 (a1 - (a0_1.size : Int))) < 0 then (some (-1)) else (if (wrap64 ((wrap64 (a1 - (a0_1.size : Int))) - (a0_2.size : Int))) < 0 then (some (-1)) else (if (wrap64 ((wrap64 ((wrap64 (a1 - (a0_1.size : Int))) - (a0_2.size : Int))) - (a0_5.size : Int))) < 0 then (some (-1)) else (some (wrap64 ((wrap64 ((wrap64 (a1 - (a0_1.size : Int))) - (a0_2.size : Int))) - (a0_5.size : Int))))))) = some r := h
 clear h
 by_cases c3 : (wrap64 (a1 - (a0_1.size : Int))) < 0
 ·rw [if_pos c3] at H
  have c3b0 : decide ((wrap64 (a1 - (a0_1.size : Int))) < 0) = true := decide_eq_true c3
  clear c3
  obtain rfl := Option.some.inj H
  go_enter Try.func145, Try.ntmps145
  go_wp2_with (first | ((with_reducible refine gate_dst (N := 2) rfl ?_); refine box_event ?hg (N := 2) ?hd (cs := #[.int .i64 a0_0, .string a0_1, .string a0_2, .int .i64 a0_3, .int .i64 a0_4, .string a0_5]) (t := 115) ?hr ?_; (case hd => rfl); (case hg => rfl); (case hr => first | (go_simp; done) | (go_simp; rfl)); intro gb101 hg w4 hbox hb; have BK101 := Am (hbox); have GW101 := Am ((by rw [hg]; exact (bz (by repeat (first | (with_reducible first | exact HB.out | apply ba | apply bn | apply be) | exact HB.out))) : w.heap.size ≤ gb101)); have GE101 := Am ((by rw [hg]; exact (bz (by repeat (first | (with_reducible first | exact HB.out | apply ba | apply bn | apply be) | exact HB.out))) : w.heap.size ≤ gb101)); replace HB := Am (bq (by repeat (first | (with_reducible first | exact HB.out | apply ba | apply bn | apply be) | exact HB.out)) hb); clear hb hbox hg; have hcz5_0 : w4.cell? ⟨gb101, 0, none⟩ = some (.int .i64 a0_0) := (kc BK101.out 0).trans rfl; have hcz5_1 : w4.cell? ⟨gb101, 1, none⟩ = some (.string a0_1) := (kc BK101.out 1).trans rfl; have hcz5_2 : w4.cell? ⟨gb101, 2, none⟩ = some (.string a0_2) := (kc BK101.out 2).trans rfl; have hcz5_3 : w4.cell? ⟨gb101, 3, none⟩ = some (.int .i64 a0_3) := (kc BK101.out 3).trans rfl; have hcz5_4 : w4.cell? ⟨gb101, 4, none⟩ = some (.int .i64 a0_4) := (kc BK101.out 4).trans rfl; have hcz5_5 : w4.cell? ⟨gb101, 5, none⟩ = some (.string a0_5) := (kc BK101.out 5).trans rfl; have hfz5_0 := kf BK101.out 0; have hfz5_1 := kf BK101.out 1; have hfz5_2 := kf BK101.out 2; have hfz5_3 := kf BK101.out 3; have hfz5_4 := kf BK101.out 4; have hfz5_5 := kf BK101.out 5))
  go_ret
  exact ⟨by first | rfl | (simp [errW_none, errW_some] <;> rfl) | (simp [*, errW_none, errW_some] <;> rfl), by repeat (first | (with_reducible first | exact HB.out | apply ba | apply bn | apply be | refine bs ?_ GE101.out) | exact HB.out)⟩
 ·rw [if_neg c3] at H
  have c3b0 : decide ((wrap64 (a1 - (a0_1.size : Int))) < 0) = false := decide_eq_false c3
  clear c3
  by_cases c6 : (wrap64 ((wrap64 (a1 - (a0_1.size : Int))) - (a0_2.size : Int))) < 0
  ·rw [if_pos c6] at H
   have c6b0 : decide ((wrap64 ((wrap64 (a1 - (a0_1.size : Int))) - (a0_2.size : Int))) < 0) = true := decide_eq_true c6
   clear c6
   obtain rfl := Option.some.inj H
   go_enter Try.func145, Try.ntmps145
   go_wp2_with (first | ((with_reducible refine gate_dst (N := 2) rfl ?_); refine box_event ?hg (N := 2) ?hd (cs := #[.int .i64 a0_0, .string a0_1, .string a0_2, .int .i64 a0_3, .int .i64 a0_4, .string a0_5]) (t := 115) ?hr ?_; (case hd => rfl); (case hg => rfl); (case hr => first | (go_simp; done) | (go_simp; rfl)); intro gb101 hg w7 hbox hb; have BK101 := Am (hbox); have GW101 := Am ((by rw [hg]; exact (bz (by repeat (first | (with_reducible first | exact HB.out | apply ba | apply bn | apply be) | exact HB.out))) : w.heap.size ≤ gb101)); have GE101 := Am ((by rw [hg]; exact (bz (by repeat (first | (with_reducible first | exact HB.out | apply ba | apply bn | apply be) | exact HB.out))) : w.heap.size ≤ gb101)); replace HB := Am (bq (by repeat (first | (with_reducible first | exact HB.out | apply ba | apply bn | apply be) | exact HB.out)) hb); clear hb hbox hg; have hcz8_0 : w7.cell? ⟨gb101, 0, none⟩ = some (.int .i64 a0_0) := (kc BK101.out 0).trans rfl; have hcz8_1 : w7.cell? ⟨gb101, 1, none⟩ = some (.string a0_1) := (kc BK101.out 1).trans rfl; have hcz8_2 : w7.cell? ⟨gb101, 2, none⟩ = some (.string a0_2) := (kc BK101.out 2).trans rfl; have hcz8_3 : w7.cell? ⟨gb101, 3, none⟩ = some (.int .i64 a0_3) := (kc BK101.out 3).trans rfl; have hcz8_4 : w7.cell? ⟨gb101, 4, none⟩ = some (.int .i64 a0_4) := (kc BK101.out 4).trans rfl; have hcz8_5 : w7.cell? ⟨gb101, 5, none⟩ = some (.string a0_5) := (kc BK101.out 5).trans rfl; have hfz8_0 := kf BK101.out 0; have hfz8_1 := kf BK101.out 1; have hfz8_2 := kf BK101.out 2; have hfz8_3 := kf BK101.out 3; have hfz8_4 := kf BK101.out 4; have hfz8_5 := kf BK101.out 5))
   go_ret
   exact ⟨by first | rfl | (simp [errW_none, errW_some] <;> rfl) | (simp [*, errW_none, errW_some] <;> rfl), by repeat (first | (with_reducible first | exact HB.out | apply ba | apply bn | apply be | refine bs ?_ GE101.out) | exact HB.out)⟩
  ·rw [if_neg c6] at H
   have c6b0 : decide ((wrap64 ((wrap64 (a1 - (a0_1.size : Int))) - (a0_2.size : Int))) < 0) = false := decide_eq_false c6
   clear c6
   by_cases c9 : (wrap64 ((wrap64 ((wrap64 (a1 - (a0_1.size : Int))) - (a0_2.size : Int))) - (a0_5.size : Int))) < 0
   ·rw [if_pos c9] at H
    have c9b0 : decide ((wrap64 ((wrap64 ((wrap64 (a1 - (a0_1.size : Int))) - (a0_2.size : Int))) - (a0_5.size : Int))) < 0) = true := decide_eq_true c9
    clear c9
    obtain rfl := Option.some.inj H
    go_enter Try.func145, Try.ntmps145
    go_wp2_with (first | ((with_reducible refine gate_dst (N := 2) rfl ?_); refine box_event ?hg (N := 2) ?hd (cs := #[.int .i64 a0_0, .string a0_1, .string a0_2, .int .i64 a0_3, .int .i64 a0_4, .string a0_5]) (t := 115) ?hr ?_; (case hd => rfl); (case hg => rfl); (case hr => first | (go_simp; done) | (go_simp; rfl)); intro gb101 hg w10 hbox hb; have BK101 := Am (hbox); have GW101 := Am ((by rw [hg]; exact (bz (by repeat (first | (with_reducible first | exact HB.out | apply ba | apply bn | apply be) | exact HB.out))) : w.heap.size ≤ gb101)); have GE101 := Am ((by rw [hg]; exact (bz (by repeat (first | (with_reducible first | exact HB.out | apply ba | apply bn | apply be) | exact HB.out))) : w.heap.size ≤ gb101)); replace HB := Am (bq (by repeat (first | (with_reducible first | exact HB.out | apply ba | apply bn | apply be) | exact HB.out)) hb); clear hb hbox hg; have hcz11_0 : w10.cell? ⟨gb101, 0, none⟩ = some (.int .i64 a0_0) := (kc BK101.out 0).trans rfl; have hcz11_1 : w10.cell? ⟨gb101, 1, none⟩ = some (.string a0_1) := (kc BK101.out 1).trans rfl; have hcz11_2 : w10.cell? ⟨gb101, 2, none⟩ = some (.string a0_2) := (kc BK101.out 2).trans rfl; have hcz11_3 : w10.cell? ⟨gb101, 3, none⟩ = some (.int .i64 a0_3) := (kc BK101.out 3).trans rfl; have hcz11_4 : w10.cell? ⟨gb101, 4, none⟩ = some (.int .i64 a0_4) := (kc BK101.out 4).trans rfl; have hcz11_5 : w10.cell? ⟨gb101, 5, none⟩ = some (.string a0_5) := (kc BK101.out 5).trans rfl; have hfz11_0 := kf BK101.out 0; have hfz11_1 := kf BK101.out 1; have hfz11_2 := kf BK101.out 2; have hfz11_3 := kf BK101.out 3; have hfz11_4 := kf BK101.out 4; have hfz11_5 := kf BK101.out 5))
    go_ret
    exact ⟨by first | rfl | (simp [errW_none, errW_some] <;> rfl) | (simp [*, errW_none, errW_some] <;> rfl), by repeat (first | (with_reducible first | exact HB.out | apply ba | apply bn | apply be | refine bs ?_ GE101.out) | exact HB.out)⟩
   ·rw [if_neg c9] at H
    have c9b0 : decide ((wrap64 ((wrap64 ((wrap64 (a1 - (a0_1.size : Int))) - (a0_2.size : Int))) - (a0_5.size : Int))) < 0) = false := decide_eq_false c9
    clear c9
    obtain rfl := Option.some.inj H
    go_enter Try.func145, Try.ntmps145
    go_wp2_with (first | ((with_reducible refine gate_dst (N := 2) rfl ?_); refine box_event ?hg (N := 2) ?hd (cs := #[.int .i64 a0_0, .string a0_1, .string a0_2, .int .i64 a0_3, .int .i64 a0_4, .string a0_5]) (t := 115) ?hr ?_; (case hd => rfl); (case hg => rfl); (case hr => first | (go_simp; done) | (go_simp; rfl)); intro gb101 hg w12 hbox hb; have BK101 := Am (hbox); have GW101 := Am ((by rw [hg]; exact (bz (by repeat (first | (with_reducible first | exact HB.out | apply ba | apply bn | apply be) | exact HB.out))) : w.heap.size ≤ gb101)); have GE101 := Am ((by rw [hg]; exact (bz (by repeat (first | (with_reducible first | exact HB.out | apply ba | apply bn | apply be) | exact HB.out))) : w.heap.size ≤ gb101)); replace HB := Am (bq (by repeat (first | (with_reducible first | exact HB.out | apply ba | apply bn | apply be) | exact HB.out)) hb); clear hb hbox hg; have hcz13_0 : w12.cell? ⟨gb101, 0, none⟩ = some (.int .i64 a0_0) := (kc BK101.out 0).trans rfl; have hcz13_1 : w12.cell? ⟨gb101, 1, none⟩ = some (.string a0_1) := (kc BK101.out 1).trans rfl; have hcz13_2 : w12.cell? ⟨gb101, 2, none⟩ = some (.string a0_2) := (kc BK101.out 2).trans rfl; have hcz13_3 : w12.cell? ⟨gb101, 3, none⟩ = some (.int .i64 a0_3) := (kc BK101.out 3).trans rfl; have hcz13_4 : w12.cell? ⟨gb101, 4, none⟩ = some (.int .i64 a0_4) := (kc BK101.out 4).trans rfl; have hcz13_5 : w12.cell? ⟨gb101, 5, none⟩ = some (.string a0_5) := (kc BK101.out 5).trans rfl; have hfz13_0 := kf BK101.out 0; have hfz13_1 := kf BK101.out 1; have hfz13_2 := kf BK101.out 2; have hfz13_3 := kf BK101.out 3; have hfz13_4 := kf BK101.out 4; have hfz13_5 := kf BK101.out 5))
    go_ret
    exact ⟨by first | rfl | (simp [errW_none, errW_some] <;> rfl) | (simp [*, errW_none, errW_some] <;> rfl), by repeat (first | (with_reducible first | exact HB.out | apply ba | apply bn | apply be | refine bs ?_ GE101.out) | exact HB.out)⟩

/-! ### laws_szAct: function 80 -/
def laws_szAct.f (a0_0 : Int) (a0_1 : Int) (a0_2 : Int) (a0_3 : ByteArray) (a0_4 : ByteArray) (a0_5 : Int) (a0_6 : Int) (a0_7 : ByteArray) (a0_8 : Int) (a1 : Int) : Option (Int) := (laws_szAsk.f a0_2 a0_3 a0_4 a0_5 a0_6 a0_7 a1).bind fun t103 => (if t103 < 0 then (some (-1)) else (some t103))
set_option maxHeartbeats 8000000 in
set_option maxRecDepth 100000 in
theorem laws_szAct.calls (a0_0 : Int) (a0_1 : Int) (a0_2 : Int) (a0_3 : ByteArray) (a0_4 : ByteArray) (a0_5 : Int) (a0_6 : Int) (a0_7 : ByteArray) (a0_8 : Int) (a1 : Int) (r : Int) (w : World) (h : laws_szAct.f a0_0 a0_1 a0_2 a0_3 a0_4 a0_5 a0_6 a0_7 a0_8 a1 = some r) :
  Calls Try.prog 80 #[.agg #[.int .i64 a0_0, .int .i64 a0_1, .int .i64 a0_2, .string a0_3, .string a0_4, .int .i64 a0_5, .int .i64 a0_6, .string a0_7, .int .i64 a0_8], .int .i64 a1] w fun e w' => e = .returned (.int .i64 r) ∧ Below w.heap.size w w' := by
 have hu117 := Try.underlying117
 have hu115 := Try.underlying115
 have HB := Am (Below.refl w.heap.size w)
 have H : ((laws_szAsk.f a0_2 a0_3 a0_4 a0_5 a0_6 a0_7 a1).bind fun t103 => (if t103 < 0 then (some (-1)) else (some t103))) = some r := h
 clear h
 replace H := Option.bind_eq_some_iff.mp H
 obtain ⟨t103, A30, H⟩ := H
 replace H : (if t103 < 0 then (some (-1)) else (some t103)) = some r := H
 have A3 := Am A30
 clear A30
 by_cases c4 : t103 < 0
 ·rw [if_pos c4] at H
  have c4b0 : decide (t103 < 0) = true := decide_eq_true c4
  clear c4
  obtain rfl := Option.some.inj H
  go_enter Try.func80, Try.ntmps80
  go_wp2_with (first | ((with_reducible refine gate_dst (N := 2) rfl ?_); refine box_event ?hg (N := 2) ?hd (cs := #[.int .i64 a0_0, .int .i64 a0_1, .int .i64 a0_2, .string a0_3, .string a0_4, .int .i64 a0_5, .int .i64 a0_6, .string a0_7, .int .i64 a0_8]) (t := 117) ?hr ?_; (case hd => rfl); (case hg => rfl); (case hr => first | (go_simp; done) | (go_simp; rfl)); intro gb102 hg w5 hbox hb; have BK102 := Am (hbox); have GW102 := Am ((by rw [hg]; exact (bz (by repeat (first | (with_reducible first | exact HB.out | apply ba | apply bn | apply be) | exact HB.out))) : w.heap.size ≤ gb102)); have GE102 := Am ((by rw [hg]; exact (bz (by repeat (first | (with_reducible first | exact HB.out | apply ba | apply bn | apply be) | exact HB.out))) : w.heap.size ≤ gb102)); replace HB := Am (bq (by repeat (first | (with_reducible first | exact HB.out | apply ba | apply bn | apply be) | exact HB.out)) hb); clear hb hbox hg; have hcz6_0 : w5.cell? ⟨gb102, 0, none⟩ = some (.int .i64 a0_0) := (kc BK102.out 0).trans rfl; have hcz6_1 : w5.cell? ⟨gb102, 1, none⟩ = some (.int .i64 a0_1) := (kc BK102.out 1).trans rfl; have hcz6_2 : w5.cell? ⟨gb102, 2, none⟩ = some (.int .i64 a0_2) := (kc BK102.out 2).trans rfl; have hcz6_3 : w5.cell? ⟨gb102, 3, none⟩ = some (.string a0_3) := (kc BK102.out 3).trans rfl; have hcz6_4 : w5.cell? ⟨gb102, 4, none⟩ = some (.string a0_4) := (kc BK102.out 4).trans rfl; have hcz6_5 : w5.cell? ⟨gb102, 5, none⟩ = some (.int .i64 a0_5) := (kc BK102.out 5).trans rfl; have hcz6_6 : w5.cell? ⟨gb102, 6, none⟩ = some (.int .i64 a0_6) := (kc BK102.out 6).trans rfl; have hcz6_7 : w5.cell? ⟨gb102, 7, none⟩ = some (.string a0_7) := (kc BK102.out 7).trans rfl; have hcz6_8 : w5.cell? ⟨gb102, 8, none⟩ = some (.int .i64 a0_8) := (kc BK102.out 8).trans rfl; have hfz6_0 := kf BK102.out 0; have hfz6_1 := kf BK102.out 1; have hfz6_2 := kf BK102.out 2; have hfz6_3 := kf BK102.out 3; have hfz6_4 := kf BK102.out 4; have hfz6_5 := kf BK102.out 5; have hfz6_6 := kf BK102.out 6; have hfz6_7 := kf BK102.out 7; have hfz6_8 := kf BK102.out 8) | ((with_reducible refine gate_callee (f := 145) rfl ?_); refine goesL_ (some 8) rfl rfl Try.func145 (by kernel_rfl) rfl #[.agg #[.int .i64 a0_2, .string a0_3, .string a0_4, .int .i64 a0_5, .int .i64 a0_6, .string a0_7], .int .i64 a1] rfl (by (try simp only [List.map_toArray, List.map_cons, List.map_nil]); first | done | rfl | (simp only [List.length_drop, List.length_take]; rfl)) ?_; (with_reducible refine (laws_szAsk.calls a0_2 a0_3 a0_4 a0_5 a0_6 a0_7 a1 t103 _ A3.out).mono ?_); rintro e w7 ⟨rfl, hb⟩; refine ⟨_, rfl, ?_⟩; have n0_ := Am (kb (g := gb102) (o := .cells #[.int .i64 a0_0, .int .i64 a0_1, .int .i64 a0_2, .string a0_3, .string a0_4, .int .i64 a0_5, .int .i64 a0_6, .string a0_7, .int .i64 a0_8] 117 (0, 0)) (by (with_reducible repeat (first | refine kn ?_ _ | refine ke ?_ | refine ka ?_ _)); exact BK102.out) hb); have n1_ := Am (bq (by repeat (first | (with_reducible first | exact HB.out | apply ba | apply bn | apply be | refine bs ?_ GE102.out) | exact HB.out)) hb); clear BK102; clear HB; have BK102 := n0_; have HB := n1_; clear n0_ n1_; (try clear hb)))
  go_ret
  exact ⟨by first | rfl | (simp [errW_none, errW_some] <;> rfl) | (simp [*, errW_none, errW_some] <;> rfl), by repeat (first | (with_reducible first | exact HB.out | apply ba | apply bn | apply be | refine bs ?_ GE102.out) | exact HB.out)⟩
 ·rw [if_neg c4] at H
  have c4b0 : decide (t103 < 0) = false := decide_eq_false c4
  clear c4
  obtain rfl := Option.some.inj H
  go_enter Try.func80, Try.ntmps80
  go_wp2_with (first | ((with_reducible refine gate_dst (N := 2) rfl ?_); refine box_event ?hg (N := 2) ?hd (cs := #[.int .i64 a0_0, .int .i64 a0_1, .int .i64 a0_2, .string a0_3, .string a0_4, .int .i64 a0_5, .int .i64 a0_6, .string a0_7, .int .i64 a0_8]) (t := 117) ?hr ?_; (case hd => rfl); (case hg => rfl); (case hr => first | (go_simp; done) | (go_simp; rfl)); intro gb102 hg w8 hbox hb; have BK102 := Am (hbox); have GW102 := Am ((by rw [hg]; exact (bz (by repeat (first | (with_reducible first | exact HB.out | apply ba | apply bn | apply be) | exact HB.out))) : w.heap.size ≤ gb102)); have GE102 := Am ((by rw [hg]; exact (bz (by repeat (first | (with_reducible first | exact HB.out | apply ba | apply bn | apply be) | exact HB.out))) : w.heap.size ≤ gb102)); replace HB := Am (bq (by repeat (first | (with_reducible first | exact HB.out | apply ba | apply bn | apply be) | exact HB.out)) hb); clear hb hbox hg; have hcz9_0 : w8.cell? ⟨gb102, 0, none⟩ = some (.int .i64 a0_0) := (kc BK102.out 0).trans rfl; have hcz9_1 : w8.cell? ⟨gb102, 1, none⟩ = some (.int .i64 a0_1) := (kc BK102.out 1).trans rfl; have hcz9_2 : w8.cell? ⟨gb102, 2, none⟩ = some (.int .i64 a0_2) := (kc BK102.out 2).trans rfl; have hcz9_3 : w8.cell? ⟨gb102, 3, none⟩ = some (.string a0_3) := (kc BK102.out 3).trans rfl; have hcz9_4 : w8.cell? ⟨gb102, 4, none⟩ = some (.string a0_4) := (kc BK102.out 4).trans rfl; have hcz9_5 : w8.cell? ⟨gb102, 5, none⟩ = some (.int .i64 a0_5) := (kc BK102.out 5).trans rfl; have hcz9_6 : w8.cell? ⟨gb102, 6, none⟩ = some (.int .i64 a0_6) := (kc BK102.out 6).trans rfl; have hcz9_7 : w8.cell? ⟨gb102, 7, none⟩ = some (.string a0_7) := (kc BK102.out 7).trans rfl; have hcz9_8 : w8.cell? ⟨gb102, 8, none⟩ = some (.int .i64 a0_8) := (kc BK102.out 8).trans rfl; have hfz9_0 := kf BK102.out 0; have hfz9_1 := kf BK102.out 1; have hfz9_2 := kf BK102.out 2; have hfz9_3 := kf BK102.out 3; have hfz9_4 := kf BK102.out 4; have hfz9_5 := kf BK102.out 5; have hfz9_6 := kf BK102.out 6; have hfz9_7 := kf BK102.out 7; have hfz9_8 := kf BK102.out 8) | ((with_reducible refine gate_callee (f := 145) rfl ?_); refine goesL_ (some 8) rfl rfl Try.func145 (by kernel_rfl) rfl #[.agg #[.int .i64 a0_2, .string a0_3, .string a0_4, .int .i64 a0_5, .int .i64 a0_6, .string a0_7], .int .i64 a1] rfl (by (try simp only [List.map_toArray, List.map_cons, List.map_nil]); first | done | rfl | (simp only [List.length_drop, List.length_take]; rfl)) ?_; (with_reducible refine (laws_szAsk.calls a0_2 a0_3 a0_4 a0_5 a0_6 a0_7 a1 t103 _ A3.out).mono ?_); rintro e w10 ⟨rfl, hb⟩; refine ⟨_, rfl, ?_⟩; have n0_ := Am (kb (g := gb102) (o := .cells #[.int .i64 a0_0, .int .i64 a0_1, .int .i64 a0_2, .string a0_3, .string a0_4, .int .i64 a0_5, .int .i64 a0_6, .string a0_7, .int .i64 a0_8] 117 (0, 0)) (by (with_reducible repeat (first | refine kn ?_ _ | refine ke ?_ | refine ka ?_ _)); exact BK102.out) hb); have n1_ := Am (bq (by repeat (first | (with_reducible first | exact HB.out | apply ba | apply bn | apply be | refine bs ?_ GE102.out) | exact HB.out)) hb); clear BK102; clear HB; have BK102 := n0_; have HB := n1_; clear n0_ n1_; (try clear hb)))
  go_ret
  exact ⟨by first | rfl | (simp [errW_none, errW_some] <;> rfl) | (simp [*, errW_none, errW_some] <;> rfl), by repeat (first | (with_reducible first | exact HB.out | apply ba | apply bn | apply be | refine bs ?_ GE102.out) | exact HB.out)⟩

/-! ### laws_szActS: function 11 -/
def laws_szActS.l0 : Nat → List (S117) → Int → Int → Option (Int)
 | 0, _, _, _ => none
 | k + 1, x0, x1, x5 => if x5 < (x0.length : Int) then (if 0 ≤ x5 then ((laws_szAct.f ((rd_T117 x0 x5).f0) ((rd_T117 x0 x5).f1) ((rd_T117 x0 x5).f2.f0) ((rd_T117 x0 x5).f2.f1) ((rd_T117 x0 x5).f2.f2) ((rd_T117 x0 x5).f2.f3) ((rd_T117 x0 x5).f2.f4) ((rd_T117 x0 x5).f2.f5) ((rd_T117 x0 x5).f3) x1).bind fun t105 => (if t105 < 0 then (some (-1)) else (laws_szActS.l0 k x0 t105 (wrap64 (x5 + 1))))) else (none)) else (some x1)
def laws_szActS.f (k : Nat) (l0 : List (S117)) (a1 : Int) : Option (Int) := if (wrap64 (a1 - (l0.length : Int))) < 0 then (some (-1)) else (laws_szActS.l0 k l0 (wrap64 (a1 - (l0.length : Int))) 0)
theorem laws_szActS.mono_l : ∀ k, (∀ y0 y1 y2, LeO (laws_szActS.l0 k y0 y1 y2) (laws_szActS.l0 (k + 1) y0 y1 y2))
 | 0 => fun _ _ _ r h => by simp [laws_szActS.l0] at h
 | k + 1 => by
  have ih0 := laws_szActS.mono_l k
  ·intro y0 y1 y2
   unfold laws_szActS.l0
   repeat' first
   | (with_reducible exact ih0 _ _ _)
   | (with_reducible exact LeO.refl _)
   | (with_reducible exact LeO.none _)
   | (with_reducible refine LeO.ite ?_ ?_)
   | (with_reducible refine LeO.bind ?_ (fun _ => ?_))
   | exact ih0 _ _ _
   | exact LeO.none _
   | refine LeO.ite ?_ ?_
   | refine LeO.bind ?_ (fun _ => ?_)
theorem laws_szActS.mono : ∀ a0 a1 k, LeO (laws_szActS.f k a0 a1) (laws_szActS.f (k + 1) a0 a1) := by
 intro a0 a1 k
 have ih0 := laws_szActS.mono_l k
 unfold laws_szActS.f
 repeat' first
   | (with_reducible exact ih0 _ _ _)
   | (with_reducible exact LeO.refl _)
   | (with_reducible exact LeO.none _)
   | (with_reducible refine LeO.ite ?_ ?_)
   | (with_reducible refine LeO.bind ?_ (fun _ => ?_))
   | exact ih0 _ _ _
   | exact LeO.none _
   | refine LeO.ite ?_ ?_
   | refine LeO.bind ?_ (fun _ => ?_)
set_option maxHeartbeats 8000000 in
set_option maxRecDepth 100000 in
theorem laws_szActS.calls (k : Nat) (A0 : Option Addr) (c0 : Nat) (l0 : List (S117)) (a1 : Int) (r : Int) (w : World) (hr0 : Kd.C k117 w A0 l0.length l0) (hc0 : l0.length ≤ c0) (h : laws_szActS.f k l0 a1 = some r) :
  Calls Try.prog 11 #[.slice A0 l0.length c0, .int .i64 a1] w fun e w' => e = .returned (.int .i64 r) ∧ Below w.heap.size w w' := by
 have hu117 := Try.underlying117
 have HR0 := Am hr0
 have HC0 := Am hc0
 clear hr0 hc0
 have HB := Am (Below.refl w.heap.size w)
 have H : (if (wrap64 (a1 - (l0.length : Int))) < 0 then (some (-1)) else (laws_szActS.l0 k l0 (wrap64 (a1 - (l0.length : Int))) 0)) = some r := h
 clear h
 by_cases c3 : (wrap64 (a1 - (l0.length : Int))) < 0
 ·rw [if_pos c3] at H
  have c3b0 : decide ((wrap64 (a1 - (l0.length : Int))) < 0) = true := decide_eq_true c3
  clear c3
  obtain rfl := Option.some.inj H
  go_enter Try.func11, Try.ntmps11
  go_wp2
  go_ret
  exact ⟨by first | rfl | (simp [errW_none, errW_some] <;> rfl) | (simp [*, errW_none, errW_some] <;> rfl), by repeat (first | (with_reducible first | exact HB.out | apply ba | apply bn | apply be) | exact HB.out)⟩
 ·rw [if_neg c3] at H
  have c3b0 : decide ((wrap64 (a1 - (l0.length : Int))) < 0) = false := decide_eq_false c3
  clear c3
  have H' := Am H
  clear H
  go_enter Try.func11, Try.ntmps11
  go_wp2
  go_loopg [1, 5] k (fun kq v1 v5 w' => ∃ (x1_1 : Int) (x5_1 : Int), v1 = .int .i64 x1_1 ∧ v5 = .int .i64 x5_1 ∧ Aside0 (laws_szActS.l0 kq l0 x1_1 x5_1 = some r) ∧ Aside0 (kq ≤ k) ∧ Aside0 (Below w.heap.size w w'))
  case atStart => exact ⟨(wrap64 (a1 - (l0.length : Int))), (0), (by first | rfl | (simp; done) | (simp [*]; done)), (by first | rfl | (simp; done) | (simp [*]; done)), H', ⟨Nat.le_refl _⟩, ⟨by repeat (first | (with_reducible first | exact HB.out | apply ba | apply bn | apply be) | exact HB.out)⟩⟩
  case round =>
   clear H'
   try clear c1
   try clear p2
   try clear c3
   try clear c3b0
   obtain ⟨x1_1, x5_1, rfl, rfl, HA, HK1, HB⟩ := hrel
   cases gk with
   | zero => exact absurd HA.out (by simp [laws_szActS.l0])
   | succ k1 =>
    have H := HA.out
    clear HA
    simp only [laws_szActS.l0] at H
    by_cases c4 : x5_1 < (l0.length : Int)
    ·rw [if_pos c4] at H
     have c4b0 : decide (x5_1 < (l0.length : Int)) = true := decide_eq_true c4
     clear c4
     by_cases c5 : 0 ≤ x5_1
     ·rw [if_pos c5] at H
      have c5b0 : decide (0 ≤ x5_1) = true := decide_eq_true c5
      clear c5
      replace H := Option.bind_eq_some_iff.mp H
      obtain ⟨t105, A60, H⟩ := H
      replace H : (if t105 < 0 then (some (-1)) else (laws_szActS.l0 k1 l0 t105 (wrap64 (x5_1 + 1)))) = some r := H
      have A6 := Am A60
      clear A60
      by_cases c7 : t105 < 0
      ·rw [if_pos c7] at H
       have c7b0 : decide (t105 < 0) = true := decide_eq_true c7
       clear c7
       obtain rfl := Option.some.inj H
       have p104 : 0 ≤ (x5_1 : Int) := of_decide_eq_true (by first | (with_reducible assumption) | assumption)
       have q104 : x5_1 < (l0.length : Int) := of_decide_eq_true (by first | (with_reducible assumption) | assumption)
       obtain ⟨ad104, e104, hx104_0, hx104_1, hx104_2, hx104_3, hx104_4, hx104_5, hx104_6, hx104_7, hx104_8⟩ := at_T117 HR0.out x5_1 p104 q104
       cases e104
       replace hx104_0 := cl1 HB hx104_0
       replace hx104_1 := cl1 HB hx104_1
       replace hx104_2 := cl1 HB hx104_2
       replace hx104_3 := cl1 HB hx104_3
       replace hx104_4 := cl1 HB hx104_4
       replace hx104_5 := cl1 HB hx104_5
       replace hx104_6 := cl1 HB hx104_6
       replace hx104_7 := cl1 HB hx104_7
       replace hx104_8 := cl1 HB hx104_8
       replace p104 := eq_true p104
       replace q104 := eq_true q104
       go_wp2_with (first | ((with_reducible refine gate_callee (f := 80) rfl ?_); refine goesL_ (some 23) rfl rfl Try.func80 (by kernel_rfl) rfl #[.agg #[.int .i64 ((rd_T117 l0 x5_1).f0), .int .i64 ((rd_T117 l0 x5_1).f1), .int .i64 ((rd_T117 l0 x5_1).f2.f0), .string ((rd_T117 l0 x5_1).f2.f1), .string ((rd_T117 l0 x5_1).f2.f2), .int .i64 ((rd_T117 l0 x5_1).f2.f3), .int .i64 ((rd_T117 l0 x5_1).f2.f4), .string ((rd_T117 l0 x5_1).f2.f5), .int .i64 ((rd_T117 l0 x5_1).f3)], .int .i64 x1_1] rfl (by (try simp only [List.map_toArray, List.map_cons, List.map_nil]); first | done | rfl | (simp only [List.length_drop, List.length_take]; rfl)) ?_; (with_reducible refine (laws_szAct.calls ((rd_T117 l0 x5_1).f0) ((rd_T117 l0 x5_1).f1) ((rd_T117 l0 x5_1).f2.f0) ((rd_T117 l0 x5_1).f2.f1) ((rd_T117 l0 x5_1).f2.f2) ((rd_T117 l0 x5_1).f2.f3) ((rd_T117 l0 x5_1).f2.f4) ((rd_T117 l0 x5_1).f2.f5) ((rd_T117 l0 x5_1).f3) x1_1 t105 _ A6.out).mono ?_); rintro e w8 ⟨rfl, hb⟩; refine ⟨_, rfl, ?_⟩; replace HB := Am (bq (by repeat (first | (with_reducible first | exact HB.out | apply ba | apply bn | apply be) | exact HB.out)) hb); (try clear hb)))
       go_ret
       exact ⟨by first | rfl | (simp [errW_none, errW_some] <;> rfl) | (simp [*, errW_none, errW_some] <;> rfl), by repeat (first | (with_reducible first | exact HB.out | apply ba | apply bn | apply be) | exact HB.out)⟩
      ·rw [if_neg c7] at H
       have c7b0 : decide (t105 < 0) = false := decide_eq_false c7
       clear c7
       have H' := Am H
       clear H
       have p104 : 0 ≤ (x5_1 : Int) := of_decide_eq_true (by first | (with_reducible assumption) | assumption)
       have q104 : x5_1 < (l0.length : Int) := of_decide_eq_true (by first | (with_reducible assumption) | assumption)
       obtain ⟨ad104, e104, hx104_0, hx104_1, hx104_2, hx104_3, hx104_4, hx104_5, hx104_6, hx104_7, hx104_8⟩ := at_T117 HR0.out x5_1 p104 q104
       cases e104
       replace hx104_0 := cl1 HB hx104_0
       replace hx104_1 := cl1 HB hx104_1
       replace hx104_2 := cl1 HB hx104_2
       replace hx104_3 := cl1 HB hx104_3
       replace hx104_4 := cl1 HB hx104_4
       replace hx104_5 := cl1 HB hx104_5
       replace hx104_6 := cl1 HB hx104_6
       replace hx104_7 := cl1 HB hx104_7
       replace hx104_8 := cl1 HB hx104_8
       replace p104 := eq_true p104
       replace q104 := eq_true q104
       go_wp2_with (first | ((with_reducible refine gate_callee (f := 80) rfl ?_); refine goesL_ (some 23) rfl rfl Try.func80 (by kernel_rfl) rfl #[.agg #[.int .i64 ((rd_T117 l0 x5_1).f0), .int .i64 ((rd_T117 l0 x5_1).f1), .int .i64 ((rd_T117 l0 x5_1).f2.f0), .string ((rd_T117 l0 x5_1).f2.f1), .string ((rd_T117 l0 x5_1).f2.f2), .int .i64 ((rd_T117 l0 x5_1).f2.f3), .int .i64 ((rd_T117 l0 x5_1).f2.f4), .string ((rd_T117 l0 x5_1).f2.f5), .int .i64 ((rd_T117 l0 x5_1).f3)], .int .i64 x1_1] rfl (by (try simp only [List.map_toArray, List.map_cons, List.map_nil]); first | done | rfl | (simp only [List.length_drop, List.length_take]; rfl)) ?_; (with_reducible refine (laws_szAct.calls ((rd_T117 l0 x5_1).f0) ((rd_T117 l0 x5_1).f1) ((rd_T117 l0 x5_1).f2.f0) ((rd_T117 l0 x5_1).f2.f1) ((rd_T117 l0 x5_1).f2.f2) ((rd_T117 l0 x5_1).f2.f3) ((rd_T117 l0 x5_1).f2.f4) ((rd_T117 l0 x5_1).f2.f5) ((rd_T117 l0 x5_1).f3) x1_1 t105 _ A6.out).mono ?_); rintro e w9 ⟨rfl, hb⟩; refine ⟨_, rfl, ?_⟩; replace HB := Am (bq (by repeat (first | (with_reducible first | exact HB.out | apply ba | apply bn | apply be) | exact HB.out)) hb); (try clear hb)))
       go_roundg k1
       case measure => have := HK1.out; omega
       case rel => exact ⟨(t105), (wrap64 (x5_1 + 1)), (by first | rfl | (simp; done) | (simp [*]; done)), (by first | rfl | (simp; done) | (simp [*]; done)), H', ⟨by have := HK1.out; omega⟩, ⟨by repeat (first | (with_reducible first | exact HB.out | apply ba | apply bn | apply be) | exact HB.out)⟩⟩
     ·rw [if_neg c5] at H
      exact absurd H (by simp)
    ·rw [if_neg c4] at H
     have c4b0 : decide (x5_1 < (l0.length : Int)) = false := decide_eq_false c4
     clear c4
     obtain rfl := Option.some.inj H
     go_wp2
     go_ret
     exact ⟨by first | rfl | (simp [errW_none, errW_some] <;> rfl) | (simp [*, errW_none, errW_some] <;> rfl), by repeat (first | (with_reducible first | exact HB.out | apply ba | apply bn | apply be) | exact HB.out)⟩

/-! ### laws_szStringS: function 184 -/
def laws_szStringS.l0 : Nat → List ByteArray → Int → Int → Option (Int)
 | 0, _, _, _ => none
 | k + 1, x0, x1, x5 => if x5 < (x0.length : Int) then (if 0 ≤ x5 then (if (wrap64 (x1 - ((rdOf ByteArray.empty x0 x5).size : Int))) < 0 then (some (-1)) else (laws_szStringS.l0 k x0 (wrap64 (x1 - ((rdOf ByteArray.empty x0 x5).size : Int))) (wrap64 (x5 + 1)))) else (none)) else (some x1)
def laws_szStringS.f (k : Nat) (l0 : List ByteArray) (a1 : Int) : Option (Int) := if (wrap64 (a1 - (l0.length : Int))) < 0 then (some (-1)) else (laws_szStringS.l0 k l0 (wrap64 (a1 - (l0.length : Int))) 0)
theorem laws_szStringS.mono_l : ∀ k, (∀ y0 y1 y2, LeO (laws_szStringS.l0 k y0 y1 y2) (laws_szStringS.l0 (k + 1) y0 y1 y2))
 | 0 => fun _ _ _ r h => by simp [laws_szStringS.l0] at h
 | k + 1 => by
  have ih0 := laws_szStringS.mono_l k
  ·intro y0 y1 y2
   unfold laws_szStringS.l0
   repeat' first
   | (with_reducible exact ih0 _ _ _)
   | (with_reducible exact LeO.refl _)
   | (with_reducible exact LeO.none _)
   | (with_reducible refine LeO.ite ?_ ?_)
   | (with_reducible refine LeO.bind ?_ (fun _ => ?_))
   | exact ih0 _ _ _
   | exact LeO.none _
   | refine LeO.ite ?_ ?_
   | refine LeO.bind ?_ (fun _ => ?_)
theorem laws_szStringS.mono : ∀ a0 a1 k, LeO (laws_szStringS.f k a0 a1) (laws_szStringS.f (k + 1) a0 a1) := by
 intro a0 a1 k
 have ih0 := laws_szStringS.mono_l k
 unfold laws_szStringS.f
 repeat' first
   | (with_reducible exact ih0 _ _ _)
   | (with_reducible exact LeO.refl _)
   | (with_reducible exact LeO.none _)
   | (with_reducible refine LeO.ite ?_ ?_)
   | (with_reducible refine LeO.bind ?_ (fun _ => ?_))
   | exact ih0 _ _ _
   | exact LeO.none _
   | refine LeO.ite ?_ ?_
   | refine LeO.bind ?_ (fun _ => ?_)
set_option maxHeartbeats 8000000 in
set_option maxRecDepth 100000 in
theorem laws_szStringS.calls (k : Nat) (A0 : Option Addr) (c0 : Nat) (l0 : List ByteArray) (a1 : Int) (r : Int) (w : World) (hr0 : Kd.C Kd.string w A0 l0.length l0) (hc0 : l0.length ≤ c0) (h : laws_szStringS.f k l0 a1 = some r) :
  Calls Try.prog 184 #[.slice A0 l0.length c0, .int .i64 a1] w fun e w' => e = .returned (.int .i64 r) ∧ Drawn0 w w' := by
 have HR0 := Am hr0
 have HC0 := Am hc0
 clear hr0 hc0
 have H : (if (wrap64 (a1 - (l0.length : Int))) < 0 then (some (-1)) else (laws_szStringS.l0 k l0 (wrap64 (a1 - (l0.length : Int))) 0)) = some r := h
 clear h
 by_cases c3 : (wrap64 (a1 - (l0.length : Int))) < 0
 ·rw [if_pos c3] at H
  have c3b0 : decide ((wrap64 (a1 - (l0.length : Int))) < 0) = true := decide_eq_true c3
  clear c3
  obtain rfl := Option.some.inj H
  go_enter Try.func184, Try.ntmps184
  go_wp2
  go_ret
  exact ⟨by first | rfl | (simp; done) | (simp [*]; done), by repeat (first | exact Drawn0.refl _ | apply Drawn0.step)⟩
 ·rw [if_neg c3] at H
  have c3b0 : decide ((wrap64 (a1 - (l0.length : Int))) < 0) = false := decide_eq_false c3
  clear c3
  have H' := Am H
  clear H
  go_enter Try.func184, Try.ntmps184
  go_wp2
  go_loopg [1, 5] k (fun kq v1 v5 w' => ∃ (x1_1 : Int) (x5_1 : Int), v1 = .int .i64 x1_1 ∧ v5 = .int .i64 x5_1 ∧ Aside0 (laws_szStringS.l0 kq l0 x1_1 x5_1 = some r) ∧ Aside0 (kq ≤ k) ∧ Drawn0 w w')
  case atStart => exact ⟨(wrap64 (a1 - (l0.length : Int))), (0), (by first | rfl | (simp; done) | (simp [*]; done)), (by first | rfl | (simp; done) | (simp [*]; done)), H', ⟨Nat.le_refl _⟩, by repeat (first | exact Drawn0.refl _ | apply Drawn0.step)⟩
  case round =>
   clear H'
   try clear c1
   try clear p2
   try clear c3
   try clear c3b0
   obtain ⟨x1_1, x5_1, rfl, rfl, HA, HK1, ⟨m1, rfl⟩⟩ := hrel
   cases gk with
   | zero => exact absurd HA.out (by simp [laws_szStringS.l0])
   | succ k1 =>
    have H := HA.out
    clear HA
    simp only [laws_szStringS.l0] at H
    by_cases c4 : x5_1 < (l0.length : Int)
    ·rw [if_pos c4] at H
     have c4b0 : decide (x5_1 < (l0.length : Int)) = true := decide_eq_true c4
     clear c4
     by_cases c5 : 0 ≤ x5_1
     ·rw [if_pos c5] at H
      have c5b0 : decide (0 ≤ x5_1) = true := decide_eq_true c5
      clear c5
      by_cases c6 : (wrap64 (x1_1 - ((rdOf ByteArray.empty l0 x5_1).size : Int))) < 0
      ·rw [if_pos c6] at H
       have c6b0 : decide ((wrap64 (x1_1 - ((rdOf ByteArray.empty l0 x5_1).size : Int))) < 0) = true := decide_eq_true c6
       clear c6
       obtain rfl := Option.some.inj H
       have p106 : 0 ≤ (x5_1 : Int) := of_decide_eq_true (by first | (with_reducible assumption) | assumption)
       have q106 : x5_1 < (l0.length : Int) := of_decide_eq_true (by first | (with_reducible assumption) | assumption)
       obtain ⟨ad106, e106, hx106_0⟩ := Kd.at_string HR0.out x5_1 p106 q106
       cases e106
       replace p106 := eq_true p106
       replace q106 := eq_true q106
       go_wp2
       go_ret
       exact ⟨by first | rfl | (simp; done) | (simp [*]; done), by repeat (first | exact Drawn0.refl _ | apply Drawn0.step)⟩
      ·rw [if_neg c6] at H
       have c6b0 : decide ((wrap64 (x1_1 - ((rdOf ByteArray.empty l0 x5_1).size : Int))) < 0) = false := decide_eq_false c6
       clear c6
       have H' := Am H
       clear H
       have p106 : 0 ≤ (x5_1 : Int) := of_decide_eq_true (by first | (with_reducible assumption) | assumption)
       have q106 : x5_1 < (l0.length : Int) := of_decide_eq_true (by first | (with_reducible assumption) | assumption)
       obtain ⟨ad106, e106, hx106_0⟩ := Kd.at_string HR0.out x5_1 p106 q106
       cases e106
       replace p106 := eq_true p106
       replace q106 := eq_true q106
       go_wp2
       go_roundg k1
       case measure => have := HK1.out; omega
       case rel => exact ⟨(wrap64 (x1_1 - ((rdOf ByteArray.empty l0 x5_1).size : Int))), (wrap64 (x5_1 + 1)), (by first | rfl | (simp; done) | (simp [*]; done)), (by first | rfl | (simp; done) | (simp [*]; done)), H', ⟨by have := HK1.out; omega⟩, by repeat (first | exact Drawn0.refl _ | apply Drawn0.step)⟩
     ·rw [if_neg c5] at H
      exact absurd H (by simp)
    ·rw [if_neg c4] at H
     have c4b0 : decide (x5_1 < (l0.length : Int)) = false := decide_eq_false c4
     clear c4
     obtain rfl := Option.some.inj H
     go_wp2
     go_ret
     exact ⟨by first | rfl | (simp; done) | (simp [*]; done), by repeat (first | exact Drawn0.refl _ | apply Drawn0.step)⟩

/-! ### laws_szResult: function 146 -/
def laws_szResult.f (k : Nat) (a0_0 : Int) (a0_1 : ByteArray) (a0_2 : Int) (a0_3 : Bool) (l0_4 : List ByteArray) (a1 : Int) : Option (Int) := if (wrap64 (a1 - (a0_1.size : Int))) < 0 then (some (-1)) else ((laws_szStringS.f k l0_4 (wrap64 (a1 - (a0_1.size : Int)))).bind fun t108 => (if t108 < 0 then (some (-1)) else (some t108)))
theorem laws_szResult.mono : ∀ a0 a1 a2 a3 a4 a5 k, LeO (laws_szResult.f k a0 a1 a2 a3 a4 a5) (laws_szResult.f (k + 1) a0 a1 a2 a3 a4 a5) := by
 intro a0 a1 a2 a3 a4 a5 k
 unfold laws_szResult.f
 repeat' first
   | (with_reducible exact laws_szStringS.mono _ _ _)
   | (with_reducible exact LeO.refl _)
   | (with_reducible exact LeO.none _)
   | (with_reducible refine LeO.ite ?_ ?_)
   | (with_reducible refine LeO.bind ?_ (fun _ => ?_))
   | exact laws_szStringS.mono _ _ _
   | exact LeO.none _
   | refine LeO.ite ?_ ?_
   | refine LeO.bind ?_ (fun _ => ?_)
set_option maxHeartbeats 8000000 in
set_option maxRecDepth 100000 in
theorem laws_szResult.calls (k : Nat) (a0_0 : Int) (a0_1 : ByteArray) (a0_2 : Int) (a0_3 : Bool) (A0_4 : Option Addr) (c0_4 : Nat) (l0_4 : List ByteArray) (a1 : Int) (r : Int) (w : World) (hr0_4 : Kd.C Kd.string w A0_4 l0_4.length l0_4) (hc0_4 : l0_4.length ≤ c0_4) (h : laws_szResult.f k a0_0 a0_1 a0_2 a0_3 l0_4 a1 = some r) :
  Calls Try.prog 146 #[.agg #[.int .i64 a0_0, .string a0_1, .int .i64 a0_2, .bool a0_3, .slice A0_4 l0_4.length c0_4], .int .i64 a1] w fun e w' => e = .returned (.int .i64 r) ∧ Below w.heap.size w w' := by
 have hu119 := Try.underlying119
 have HR0_4 := Am hr0_4
 have HC0_4 := Am hc0_4
 clear hr0_4 hc0_4
 have HB := Am (Below.refl w.heap.size w)
 have H : (if (wrap64 (a1 - (a0_1.size : Int))) < 0 then (some (-1)) else ((laws_szStringS.f k l0_4 (wrap64 (a1 - (a0_1.size : Int)))).bind fun t108 => (if t108 < 0 then (some (-1)) else (some t108)))) = some r := h
 clear h
 by_cases c3 : (wrap64 (a1 - (a0_1.size : Int))) < 0
 ·rw [if_pos c3] at H
  have c3b0 : decide ((wrap64 (a1 - (a0_1.size : Int))) < 0) = true := decide_eq_true c3
  clear c3
  obtain rfl := Option.some.inj H
  go_enter Try.func146, Try.ntmps146
  go_wp2_with (first | ((with_reducible refine gate_dst (N := 2) rfl ?_); refine box_event ?hg (N := 2) ?hd (cs := #[.int .i64 a0_0, .string a0_1, .int .i64 a0_2, .bool a0_3, .slice A0_4 l0_4.length c0_4]) (t := 119) ?hr ?_; (case hd => rfl); (case hg => rfl); (case hr => first | (go_simp; done) | (go_simp; rfl)); intro gb107 hg w4 hbox hb; have BK107 := Am (hbox); have GW107 := Am ((by rw [hg]; exact (bz (by repeat (first | (with_reducible first | exact HB.out | apply ba | apply bn | apply be) | exact HB.out))) : w.heap.size ≤ gb107)); have GE107 := Am ((by rw [hg]; exact (bz (by repeat (first | (with_reducible first | exact HB.out | apply ba | apply bn | apply be) | exact HB.out))) : w.heap.size ≤ gb107)); replace HB := Am (bq (by repeat (first | (with_reducible first | exact HB.out | apply ba | apply bn | apply be) | exact HB.out)) hb); clear hb hbox hg; have hcz5_0 : w4.cell? ⟨gb107, 0, none⟩ = some (.int .i64 a0_0) := (kc BK107.out 0).trans rfl; have hcz5_1 : w4.cell? ⟨gb107, 1, none⟩ = some (.string a0_1) := (kc BK107.out 1).trans rfl; have hcz5_2 : w4.cell? ⟨gb107, 2, none⟩ = some (.int .i64 a0_2) := (kc BK107.out 2).trans rfl; have hcz5_3 : w4.cell? ⟨gb107, 3, none⟩ = some (.bool a0_3) := (kc BK107.out 3).trans rfl; have hcz5_4 : w4.cell? ⟨gb107, 4, none⟩ = some (.slice A0_4 l0_4.length c0_4) := (kc BK107.out 4).trans rfl; have hfz5_0 := kf BK107.out 0; have hfz5_1 := kf BK107.out 1; have hfz5_2 := kf BK107.out 2; have hfz5_3 := kf BK107.out 3; have hfz5_4 := kf BK107.out 4))
  go_ret
  exact ⟨by first | rfl | (simp [errW_none, errW_some] <;> rfl) | (simp [*, errW_none, errW_some] <;> rfl), by repeat (first | (with_reducible first | exact HB.out | apply ba | apply bn | apply be | refine bs ?_ GE107.out) | exact HB.out)⟩
 ·rw [if_neg c3] at H
  have c3b0 : decide ((wrap64 (a1 - (a0_1.size : Int))) < 0) = false := decide_eq_false c3
  clear c3
  replace H := Option.bind_eq_some_iff.mp H
  obtain ⟨t108, A60, H⟩ := H
  replace H : (if t108 < 0 then (some (-1)) else (some t108)) = some r := H
  have A6 := Am A60
  clear A60
  by_cases c7 : t108 < 0
  ·rw [if_pos c7] at H
   have c7b0 : decide (t108 < 0) = true := decide_eq_true c7
   clear c7
   obtain rfl := Option.some.inj H
   go_enter Try.func146, Try.ntmps146
   go_wp2_with (first | ((with_reducible refine gate_dst (N := 2) rfl ?_); refine box_event ?hg (N := 2) ?hd (cs := #[.int .i64 a0_0, .string a0_1, .int .i64 a0_2, .bool a0_3, .slice A0_4 l0_4.length c0_4]) (t := 119) ?hr ?_; (case hd => rfl); (case hg => rfl); (case hr => first | (go_simp; done) | (go_simp; rfl)); intro gb107 hg w8 hbox hb; have BK107 := Am (hbox); have GW107 := Am ((by rw [hg]; exact (bz (by repeat (first | (with_reducible first | exact HB.out | apply ba | apply bn | apply be) | exact HB.out))) : w.heap.size ≤ gb107)); have GE107 := Am ((by rw [hg]; exact (bz (by repeat (first | (with_reducible first | exact HB.out | apply ba | apply bn | apply be) | exact HB.out))) : w.heap.size ≤ gb107)); replace HB := Am (bq (by repeat (first | (with_reducible first | exact HB.out | apply ba | apply bn | apply be) | exact HB.out)) hb); clear hb hbox hg; have hcz9_0 : w8.cell? ⟨gb107, 0, none⟩ = some (.int .i64 a0_0) := (kc BK107.out 0).trans rfl; have hcz9_1 : w8.cell? ⟨gb107, 1, none⟩ = some (.string a0_1) := (kc BK107.out 1).trans rfl; have hcz9_2 : w8.cell? ⟨gb107, 2, none⟩ = some (.int .i64 a0_2) := (kc BK107.out 2).trans rfl; have hcz9_3 : w8.cell? ⟨gb107, 3, none⟩ = some (.bool a0_3) := (kc BK107.out 3).trans rfl; have hcz9_4 : w8.cell? ⟨gb107, 4, none⟩ = some (.slice A0_4 l0_4.length c0_4) := (kc BK107.out 4).trans rfl; have hfz9_0 := kf BK107.out 0; have hfz9_1 := kf BK107.out 1; have hfz9_2 := kf BK107.out 2; have hfz9_3 := kf BK107.out 3; have hfz9_4 := kf BK107.out 4) | ((with_reducible refine gate_callee (f := 184) rfl ?_); refine goesL_ (some 15) rfl rfl Try.func184 (by kernel_rfl) rfl #[.slice A0_4 l0_4.length c0_4, .int .i64 (wrap64 (a1 - (a0_1.size : Int)))] rfl (by (try simp only [List.map_toArray, List.map_cons, List.map_nil]); first | done | rfl | (simp only [List.length_drop, List.length_take]; rfl)) ?_; (with_reducible refine (laws_szStringS.calls k _ _ l0_4 (wrap64 (a1 - (a0_1.size : Int))) t108 _ ?side1 ?side2 A6.out).mono ?_); (case side1 => repeat (first | exact (cb HR0_4.out HB.out) | (with_reducible first | refine ca ?_ _ | refine cn ?_ _ | refine ce ?_))); (case side2 => exact HC0_4.out); rintro e w' ⟨rfl, ⟨nd, rfl⟩⟩; refine ⟨_, rfl, ?_⟩))
   go_ret
   exact ⟨by first | rfl | (simp [errW_none, errW_some] <;> rfl) | (simp [*, errW_none, errW_some] <;> rfl), by repeat (first | (with_reducible first | exact HB.out | apply ba | apply bn | apply be | refine bs ?_ GE107.out) | exact HB.out)⟩
  ·rw [if_neg c7] at H
   have c7b0 : decide (t108 < 0) = false := decide_eq_false c7
   clear c7
   obtain rfl := Option.some.inj H
   go_enter Try.func146, Try.ntmps146
   go_wp2_with (first | ((with_reducible refine gate_dst (N := 2) rfl ?_); refine box_event ?hg (N := 2) ?hd (cs := #[.int .i64 a0_0, .string a0_1, .int .i64 a0_2, .bool a0_3, .slice A0_4 l0_4.length c0_4]) (t := 119) ?hr ?_; (case hd => rfl); (case hg => rfl); (case hr => first | (go_simp; done) | (go_simp; rfl)); intro gb107 hg w10 hbox hb; have BK107 := Am (hbox); have GW107 := Am ((by rw [hg]; exact (bz (by repeat (first | (with_reducible first | exact HB.out | apply ba | apply bn | apply be) | exact HB.out))) : w.heap.size ≤ gb107)); have GE107 := Am ((by rw [hg]; exact (bz (by repeat (first | (with_reducible first | exact HB.out | apply ba | apply bn | apply be) | exact HB.out))) : w.heap.size ≤ gb107)); replace HB := Am (bq (by repeat (first | (with_reducible first | exact HB.out | apply ba | apply bn | apply be) | exact HB.out)) hb); clear hb hbox hg; have hcz11_0 : w10.cell? ⟨gb107, 0, none⟩ = some (.int .i64 a0_0) := (kc BK107.out 0).trans rfl; have hcz11_1 : w10.cell? ⟨gb107, 1, none⟩ = some (.string a0_1) := (kc BK107.out 1).trans rfl; have hcz11_2 : w10.cell? ⟨gb107, 2, none⟩ = some (.int .i64 a0_2) := (kc BK107.out 2).trans rfl; have hcz11_3 : w10.cell? ⟨gb107, 3, none⟩ = some (.bool a0_3) := (kc BK107.out 3).trans rfl; have hcz11_4 : w10.cell? ⟨gb107, 4, none⟩ = some (.slice A0_4 l0_4.length c0_4) := (kc BK107.out 4).trans rfl; have hfz11_0 := kf BK107.out 0; have hfz11_1 := kf BK107.out 1; have hfz11_2 := kf BK107.out 2; have hfz11_3 := kf BK107.out 3; have hfz11_4 := kf BK107.out 4) | ((with_reducible refine gate_callee (f := 184) rfl ?_); refine goesL_ (some 15) rfl rfl Try.func184 (by kernel_rfl) rfl #[.slice A0_4 l0_4.length c0_4, .int .i64 (wrap64 (a1 - (a0_1.size : Int)))] rfl (by (try simp only [List.map_toArray, List.map_cons, List.map_nil]); first | done | rfl | (simp only [List.length_drop, List.length_take]; rfl)) ?_; (with_reducible refine (laws_szStringS.calls k _ _ l0_4 (wrap64 (a1 - (a0_1.size : Int))) t108 _ ?side1 ?side2 A6.out).mono ?_); (case side1 => repeat (first | exact (cb HR0_4.out HB.out) | (with_reducible first | refine ca ?_ _ | refine cn ?_ _ | refine ce ?_))); (case side2 => exact HC0_4.out); rintro e w' ⟨rfl, ⟨nd, rfl⟩⟩; refine ⟨_, rfl, ?_⟩))
   go_ret
   exact ⟨by first | rfl | (simp [errW_none, errW_some] <;> rfl) | (simp [*, errW_none, errW_some] <;> rfl), by repeat (first | (with_reducible first | exact HB.out | apply ba | apply bn | apply be | refine bs ?_ GE107.out) | exact HB.out)⟩

/-! ### laws_szTold: function 81 -/
def laws_szTold.f (k : Nat) (a0_0 : Int) (a0_1 : Int) (a0_2 : Bool) (a0_3 : Int) (a0_4 : ByteArray) (a0_5 : Int) (a0_6 : Bool) (l0_7 : List ByteArray) (a1 : Int) : Option (Int) := (laws_szResult.f k a0_3 a0_4 a0_5 a0_6 l0_7 a1).bind fun t110 => (if t110 < 0 then (some (-1)) else (some t110))
theorem laws_szTold.mono : ∀ a0 a1 a2 a3 a4 a5 a6 a7 a8 k, LeO (laws_szTold.f k a0 a1 a2 a3 a4 a5 a6 a7 a8) (laws_szTold.f (k + 1) a0 a1 a2 a3 a4 a5 a6 a7 a8) := by
 intro a0 a1 a2 a3 a4 a5 a6 a7 a8 k
 unfold laws_szTold.f
 repeat' first
   | (with_reducible exact laws_szResult.mono _ _ _ _ _ _ _)
   | (with_reducible exact LeO.refl _)
   | (with_reducible exact LeO.none _)
   | (with_reducible refine LeO.ite ?_ ?_)
   | (with_reducible refine LeO.bind ?_ (fun _ => ?_))
   | exact laws_szResult.mono _ _ _ _ _ _ _
   | exact LeO.none _
   | refine LeO.ite ?_ ?_
   | refine LeO.bind ?_ (fun _ => ?_)
set_option maxHeartbeats 8000000 in
set_option maxRecDepth 100000 in
theorem laws_szTold.calls (k : Nat) (a0_0 : Int) (a0_1 : Int) (a0_2 : Bool) (a0_3 : Int) (a0_4 : ByteArray) (a0_5 : Int) (a0_6 : Bool) (A0_7 : Option Addr) (c0_7 : Nat) (l0_7 : List ByteArray) (a1 : Int) (r : Int) (w : World) (hr0_7 : Kd.C Kd.string w A0_7 l0_7.length l0_7) (hc0_7 : l0_7.length ≤ c0_7) (h : laws_szTold.f k a0_0 a0_1 a0_2 a0_3 a0_4 a0_5 a0_6 l0_7 a1 = some r) :
  Calls Try.prog 81 #[.agg #[.int .i64 a0_0, .int .i64 a0_1, .bool a0_2, .int .i64 a0_3, .string a0_4, .int .i64 a0_5, .bool a0_6, .slice A0_7 l0_7.length c0_7], .int .i64 a1] w fun e w' => e = .returned (.int .i64 r) ∧ Below w.heap.size w w' := by
 have hu121 := Try.underlying121
 have hu119 := Try.underlying119
 have HR0_7 := Am hr0_7
 have HC0_7 := Am hc0_7
 clear hr0_7 hc0_7
 have HB := Am (Below.refl w.heap.size w)
 have H : ((laws_szResult.f k a0_3 a0_4 a0_5 a0_6 l0_7 a1).bind fun t110 => (if t110 < 0 then (some (-1)) else (some t110))) = some r := h
 clear h
 replace H := Option.bind_eq_some_iff.mp H
 obtain ⟨t110, A30, H⟩ := H
 replace H : (if t110 < 0 then (some (-1)) else (some t110)) = some r := H
 have A3 := Am A30
 clear A30
 by_cases c4 : t110 < 0
 ·rw [if_pos c4] at H
  have c4b0 : decide (t110 < 0) = true := decide_eq_true c4
  clear c4
  obtain rfl := Option.some.inj H
  go_enter Try.func81, Try.ntmps81
  go_wp2_with (first | ((with_reducible refine gate_dst (N := 2) rfl ?_); refine box_event ?hg (N := 2) ?hd (cs := #[.int .i64 a0_0, .int .i64 a0_1, .bool a0_2, .int .i64 a0_3, .string a0_4, .int .i64 a0_5, .bool a0_6, .slice A0_7 l0_7.length c0_7]) (t := 121) ?hr ?_; (case hd => rfl); (case hg => rfl); (case hr => first | (go_simp; done) | (go_simp; rfl)); intro gb109 hg w5 hbox hb; have BK109 := Am (hbox); have GW109 := Am ((by rw [hg]; exact (bz (by repeat (first | (with_reducible first | exact HB.out | apply ba | apply bn | apply be) | exact HB.out))) : w.heap.size ≤ gb109)); have GE109 := Am ((by rw [hg]; exact (bz (by repeat (first | (with_reducible first | exact HB.out | apply ba | apply bn | apply be) | exact HB.out))) : w.heap.size ≤ gb109)); replace HB := Am (bq (by repeat (first | (with_reducible first | exact HB.out | apply ba | apply bn | apply be) | exact HB.out)) hb); clear hb hbox hg; have hcz6_0 : w5.cell? ⟨gb109, 0, none⟩ = some (.int .i64 a0_0) := (kc BK109.out 0).trans rfl; have hcz6_1 : w5.cell? ⟨gb109, 1, none⟩ = some (.int .i64 a0_1) := (kc BK109.out 1).trans rfl; have hcz6_2 : w5.cell? ⟨gb109, 2, none⟩ = some (.bool a0_2) := (kc BK109.out 2).trans rfl; have hcz6_3 : w5.cell? ⟨gb109, 3, none⟩ = some (.int .i64 a0_3) := (kc BK109.out 3).trans rfl; have hcz6_4 : w5.cell? ⟨gb109, 4, none⟩ = some (.string a0_4) := (kc BK109.out 4).trans rfl; have hcz6_5 : w5.cell? ⟨gb109, 5, none⟩ = some (.int .i64 a0_5) := (kc BK109.out 5).trans rfl; have hcz6_6 : w5.cell? ⟨gb109, 6, none⟩ = some (.bool a0_6) := (kc BK109.out 6).trans rfl; have hcz6_7 : w5.cell? ⟨gb109, 7, none⟩ = some (.slice A0_7 l0_7.length c0_7) := (kc BK109.out 7).trans rfl; have hfz6_0 := kf BK109.out 0; have hfz6_1 := kf BK109.out 1; have hfz6_2 := kf BK109.out 2; have hfz6_3 := kf BK109.out 3; have hfz6_4 := kf BK109.out 4; have hfz6_5 := kf BK109.out 5; have hfz6_6 := kf BK109.out 6; have hfz6_7 := kf BK109.out 7) | ((with_reducible refine gate_callee (f := 146) rfl ?_); refine goesL_ (some 8) rfl rfl Try.func146 (by kernel_rfl) rfl #[.agg #[.int .i64 a0_3, .string a0_4, .int .i64 a0_5, .bool a0_6, .slice A0_7 l0_7.length c0_7], .int .i64 a1] rfl (by (try simp only [List.map_toArray, List.map_cons, List.map_nil]); first | done | rfl | (simp only [List.length_drop, List.length_take]; rfl)) ?_; (with_reducible refine (laws_szResult.calls k a0_3 a0_4 a0_5 a0_6 _ _ l0_7 a1 t110 _ ?side1 ?side2 A3.out).mono ?_); (case side1 => repeat (first | exact (cb HR0_7.out HB.out) | (with_reducible first | refine ca ?_ _ | refine cn ?_ _ | refine ce ?_))); (case side2 => exact HC0_7.out); rintro e w7 ⟨rfl, hb⟩; refine ⟨_, rfl, ?_⟩; have n0_ := Am (kb (g := gb109) (o := .cells #[.int .i64 a0_0, .int .i64 a0_1, .bool a0_2, .int .i64 a0_3, .string a0_4, .int .i64 a0_5, .bool a0_6, .slice A0_7 l0_7.length c0_7] 121 (0, 0)) (by (with_reducible repeat (first | refine kn ?_ _ | refine ke ?_ | refine ka ?_ _)); exact BK109.out) hb); have n1_ := Am (bq (by repeat (first | (with_reducible first | exact HB.out | apply ba | apply bn | apply be | refine bs ?_ GE109.out) | exact HB.out)) hb); clear BK109; clear HB; have BK109 := n0_; have HB := n1_; clear n0_ n1_; (try clear hb)))
  go_ret
  exact ⟨by first | rfl | (simp [errW_none, errW_some] <;> rfl) | (simp [*, errW_none, errW_some] <;> rfl), by repeat (first | (with_reducible first | exact HB.out | apply ba | apply bn | apply be | refine bs ?_ GE109.out) | exact HB.out)⟩
 ·rw [if_neg c4] at H
  have c4b0 : decide (t110 < 0) = false := decide_eq_false c4
  clear c4
  obtain rfl := Option.some.inj H
  go_enter Try.func81, Try.ntmps81
  go_wp2_with (first | ((with_reducible refine gate_dst (N := 2) rfl ?_); refine box_event ?hg (N := 2) ?hd (cs := #[.int .i64 a0_0, .int .i64 a0_1, .bool a0_2, .int .i64 a0_3, .string a0_4, .int .i64 a0_5, .bool a0_6, .slice A0_7 l0_7.length c0_7]) (t := 121) ?hr ?_; (case hd => rfl); (case hg => rfl); (case hr => first | (go_simp; done) | (go_simp; rfl)); intro gb109 hg w8 hbox hb; have BK109 := Am (hbox); have GW109 := Am ((by rw [hg]; exact (bz (by repeat (first | (with_reducible first | exact HB.out | apply ba | apply bn | apply be) | exact HB.out))) : w.heap.size ≤ gb109)); have GE109 := Am ((by rw [hg]; exact (bz (by repeat (first | (with_reducible first | exact HB.out | apply ba | apply bn | apply be) | exact HB.out))) : w.heap.size ≤ gb109)); replace HB := Am (bq (by repeat (first | (with_reducible first | exact HB.out | apply ba | apply bn | apply be) | exact HB.out)) hb); clear hb hbox hg; have hcz9_0 : w8.cell? ⟨gb109, 0, none⟩ = some (.int .i64 a0_0) := (kc BK109.out 0).trans rfl; have hcz9_1 : w8.cell? ⟨gb109, 1, none⟩ = some (.int .i64 a0_1) := (kc BK109.out 1).trans rfl; have hcz9_2 : w8.cell? ⟨gb109, 2, none⟩ = some (.bool a0_2) := (kc BK109.out 2).trans rfl; have hcz9_3 : w8.cell? ⟨gb109, 3, none⟩ = some (.int .i64 a0_3) := (kc BK109.out 3).trans rfl; have hcz9_4 : w8.cell? ⟨gb109, 4, none⟩ = some (.string a0_4) := (kc BK109.out 4).trans rfl; have hcz9_5 : w8.cell? ⟨gb109, 5, none⟩ = some (.int .i64 a0_5) := (kc BK109.out 5).trans rfl; have hcz9_6 : w8.cell? ⟨gb109, 6, none⟩ = some (.bool a0_6) := (kc BK109.out 6).trans rfl; have hcz9_7 : w8.cell? ⟨gb109, 7, none⟩ = some (.slice A0_7 l0_7.length c0_7) := (kc BK109.out 7).trans rfl; have hfz9_0 := kf BK109.out 0; have hfz9_1 := kf BK109.out 1; have hfz9_2 := kf BK109.out 2; have hfz9_3 := kf BK109.out 3; have hfz9_4 := kf BK109.out 4; have hfz9_5 := kf BK109.out 5; have hfz9_6 := kf BK109.out 6; have hfz9_7 := kf BK109.out 7) | ((with_reducible refine gate_callee (f := 146) rfl ?_); refine goesL_ (some 8) rfl rfl Try.func146 (by kernel_rfl) rfl #[.agg #[.int .i64 a0_3, .string a0_4, .int .i64 a0_5, .bool a0_6, .slice A0_7 l0_7.length c0_7], .int .i64 a1] rfl (by (try simp only [List.map_toArray, List.map_cons, List.map_nil]); first | done | rfl | (simp only [List.length_drop, List.length_take]; rfl)) ?_; (with_reducible refine (laws_szResult.calls k a0_3 a0_4 a0_5 a0_6 _ _ l0_7 a1 t110 _ ?side1 ?side2 A3.out).mono ?_); (case side1 => repeat (first | exact (cb HR0_7.out HB.out) | (with_reducible first | refine ca ?_ _ | refine cn ?_ _ | refine ce ?_))); (case side2 => exact HC0_7.out); rintro e w10 ⟨rfl, hb⟩; refine ⟨_, rfl, ?_⟩; have n0_ := Am (kb (g := gb109) (o := .cells #[.int .i64 a0_0, .int .i64 a0_1, .bool a0_2, .int .i64 a0_3, .string a0_4, .int .i64 a0_5, .bool a0_6, .slice A0_7 l0_7.length c0_7] 121 (0, 0)) (by (with_reducible repeat (first | refine kn ?_ _ | refine ke ?_ | refine ka ?_ _)); exact BK109.out) hb); have n1_ := Am (bq (by repeat (first | (with_reducible first | exact HB.out | apply ba | apply bn | apply be | refine bs ?_ GE109.out) | exact HB.out)) hb); clear BK109; clear HB; have BK109 := n0_; have HB := n1_; clear n0_ n1_; (try clear hb)))
  go_ret
  exact ⟨by first | rfl | (simp [errW_none, errW_some] <;> rfl) | (simp [*, errW_none, errW_some] <;> rfl), by repeat (first | (with_reducible first | exact HB.out | apply ba | apply bn | apply be | refine bs ?_ GE109.out) | exact HB.out)⟩

/-! ### laws_szToldS: function 12 -/
def laws_szToldS.l0 : Nat → List (S121) → Int → Int → Option (Int)
 | 0, _, _, _ => none
 | k + 1, x0, x1, x5 => if x5 < (x0.length : Int) then (if 0 ≤ x5 then ((laws_szTold.f k ((rd_T121 x0 x5).f0) ((rd_T121 x0 x5).f1) ((rd_T121 x0 x5).f2) ((rd_T121 x0 x5).f3.f0) ((rd_T121 x0 x5).f3.f1) ((rd_T121 x0 x5).f3.f2) ((rd_T121 x0 x5).f3.f3) ((rd_T121 x0 x5).f3.f4) x1).bind fun t112 => (if t112 < 0 then (some (-1)) else (laws_szToldS.l0 k x0 t112 (wrap64 (x5 + 1))))) else (none)) else (some x1)
def laws_szToldS.f (k : Nat) (l0 : List (S121)) (a1 : Int) : Option (Int) := if (wrap64 (a1 - (l0.length : Int))) < 0 then (some (-1)) else (laws_szToldS.l0 k l0 (wrap64 (a1 - (l0.length : Int))) 0)
theorem laws_szToldS.mono_l : ∀ k, (∀ y0 y1 y2, LeO (laws_szToldS.l0 k y0 y1 y2) (laws_szToldS.l0 (k + 1) y0 y1 y2))
 | 0 => fun _ _ _ r h => by simp [laws_szToldS.l0] at h
 | k + 1 => by
  have ih0 := laws_szToldS.mono_l k
  ·intro y0 y1 y2
   unfold laws_szToldS.l0
   repeat' first
   | (with_reducible exact ih0 _ _ _)
   | (with_reducible exact laws_szTold.mono _ _ _ _ _ _ _ _ _ _)
   | (with_reducible exact LeO.refl _)
   | (with_reducible exact LeO.none _)
   | (with_reducible refine LeO.ite ?_ ?_)
   | (with_reducible refine LeO.bind ?_ (fun _ => ?_))
   | exact ih0 _ _ _
   | exact laws_szTold.mono _ _ _ _ _ _ _ _ _ _
   | exact LeO.none _
   | refine LeO.ite ?_ ?_
   | refine LeO.bind ?_ (fun _ => ?_)
theorem laws_szToldS.mono : ∀ a0 a1 k, LeO (laws_szToldS.f k a0 a1) (laws_szToldS.f (k + 1) a0 a1) := by
 intro a0 a1 k
 have ih0 := laws_szToldS.mono_l k
 unfold laws_szToldS.f
 repeat' first
   | (with_reducible exact ih0 _ _ _)
   | (with_reducible exact laws_szTold.mono _ _ _ _ _ _ _ _ _ _)
   | (with_reducible exact LeO.refl _)
   | (with_reducible exact LeO.none _)
   | (with_reducible refine LeO.ite ?_ ?_)
   | (with_reducible refine LeO.bind ?_ (fun _ => ?_))
   | exact ih0 _ _ _
   | exact laws_szTold.mono _ _ _ _ _ _ _ _ _ _
   | exact LeO.none _
   | refine LeO.ite ?_ ?_
   | refine LeO.bind ?_ (fun _ => ?_)
set_option maxHeartbeats 8000000 in
set_option maxRecDepth 100000 in
theorem laws_szToldS.calls (k : Nat) (A0 : Option Addr) (c0 : Nat) (l0 : List (S121)) (a1 : Int) (r : Int) (w : World) (hr0 : Kd.C k121 w A0 l0.length l0) (hc0 : l0.length ≤ c0) (h : laws_szToldS.f k l0 a1 = some r) :
  Calls Try.prog 12 #[.slice A0 l0.length c0, .int .i64 a1] w fun e w' => e = .returned (.int .i64 r) ∧ Below w.heap.size w w' := by
 have hu121 := Try.underlying121
 have HR0 := Am hr0
 have HC0 := Am hc0
 clear hr0 hc0
 have HB := Am (Below.refl w.heap.size w)
 have H : (if (wrap64 (a1 - (l0.length : Int))) < 0 then (some (-1)) else (laws_szToldS.l0 k l0 (wrap64 (a1 - (l0.length : Int))) 0)) = some r := h
 clear h
 by_cases c3 : (wrap64 (a1 - (l0.length : Int))) < 0
 ·rw [if_pos c3] at H
  have c3b0 : decide ((wrap64 (a1 - (l0.length : Int))) < 0) = true := decide_eq_true c3
  clear c3
  obtain rfl := Option.some.inj H
  go_enter Try.func12, Try.ntmps12
  go_wp2
  go_ret
  exact ⟨by first | rfl | (simp [errW_none, errW_some] <;> rfl) | (simp [*, errW_none, errW_some] <;> rfl), by repeat (first | (with_reducible first | exact HB.out | apply ba | apply bn | apply be) | exact HB.out)⟩
 ·rw [if_neg c3] at H
  have c3b0 : decide ((wrap64 (a1 - (l0.length : Int))) < 0) = false := decide_eq_false c3
  clear c3
  have H' := Am H
  clear H
  go_enter Try.func12, Try.ntmps12
  go_wp2
  go_loopg [1, 5] k (fun kq v1 v5 w' => ∃ (x1_1 : Int) (x5_1 : Int), v1 = .int .i64 x1_1 ∧ v5 = .int .i64 x5_1 ∧ Aside0 (laws_szToldS.l0 kq l0 x1_1 x5_1 = some r) ∧ Aside0 (kq ≤ k) ∧ Aside0 (Below w.heap.size w w'))
  case atStart => exact ⟨(wrap64 (a1 - (l0.length : Int))), (0), (by first | rfl | (simp; done) | (simp [*]; done)), (by first | rfl | (simp; done) | (simp [*]; done)), H', ⟨Nat.le_refl _⟩, ⟨by repeat (first | (with_reducible first | exact HB.out | apply ba | apply bn | apply be) | exact HB.out)⟩⟩
  case round =>
   clear H'
   try clear c1
   try clear p2
   try clear c3
   try clear c3b0
   obtain ⟨x1_1, x5_1, rfl, rfl, HA, HK1, HB⟩ := hrel
   cases gk with
   | zero => exact absurd HA.out (by simp [laws_szToldS.l0])
   | succ k1 =>
    have H := HA.out
    clear HA
    simp only [laws_szToldS.l0] at H
    by_cases c4 : x5_1 < (l0.length : Int)
    ·rw [if_pos c4] at H
     have c4b0 : decide (x5_1 < (l0.length : Int)) = true := decide_eq_true c4
     clear c4
     by_cases c5 : 0 ≤ x5_1
     ·rw [if_pos c5] at H
      have c5b0 : decide (0 ≤ x5_1) = true := decide_eq_true c5
      clear c5
      replace H := Option.bind_eq_some_iff.mp H
      obtain ⟨t112, A60, H⟩ := H
      replace H : (if t112 < 0 then (some (-1)) else (laws_szToldS.l0 k1 l0 t112 (wrap64 (x5_1 + 1)))) = some r := H
      have A6 := Am A60
      clear A60
      by_cases c7 : t112 < 0
      ·rw [if_pos c7] at H
       have c7b0 : decide (t112 < 0) = true := decide_eq_true c7
       clear c7
       obtain rfl := Option.some.inj H
       have p111 : 0 ≤ (x5_1 : Int) := of_decide_eq_true (by first | (with_reducible assumption) | assumption)
       have q111 : x5_1 < (l0.length : Int) := of_decide_eq_true (by first | (with_reducible assumption) | assumption)
       obtain ⟨ad111, A111_7, c111_7, e111, hx111_0, hx111_1, hx111_2, hx111_3, hx111_4, hx111_5, hx111_6, hx111_7, hl111_7, hi111_7⟩ := at_T121 HR0.out x5_1 p111 q111
       cases e111
       replace hx111_0 := cl1 HB hx111_0
       replace hx111_1 := cl1 HB hx111_1
       replace hx111_2 := cl1 HB hx111_2
       replace hx111_3 := cl1 HB hx111_3
       replace hx111_4 := cl1 HB hx111_4
       replace hx111_5 := cl1 HB hx111_5
       replace hx111_6 := cl1 HB hx111_6
       replace hx111_7 := cl1 HB hx111_7
       have HR111_7 := Am hi111_7
       have HC111_7 := Am hl111_7
       clear hi111_7 hl111_7
       replace p111 := eq_true p111
       replace q111 := eq_true q111
       go_wp2_with (first | ((with_reducible refine gate_callee (f := 81) rfl ?_); refine goesL_ (some 23) rfl rfl Try.func81 (by kernel_rfl) rfl #[.agg #[.int .i64 ((rd_T121 l0 x5_1).f0), .int .i64 ((rd_T121 l0 x5_1).f1), .bool ((rd_T121 l0 x5_1).f2), .int .i64 ((rd_T121 l0 x5_1).f3.f0), .string ((rd_T121 l0 x5_1).f3.f1), .int .i64 ((rd_T121 l0 x5_1).f3.f2), .bool ((rd_T121 l0 x5_1).f3.f3), .slice A111_7 ((rd_T121 l0 x5_1).f3.f4).length c111_7], .int .i64 x1_1] rfl (by (try simp only [List.map_toArray, List.map_cons, List.map_nil]); first | done | rfl | (simp only [List.length_drop, List.length_take]; rfl)) ?_; (with_reducible refine (laws_szTold.calls k1 ((rd_T121 l0 x5_1).f0) ((rd_T121 l0 x5_1).f1) ((rd_T121 l0 x5_1).f2) ((rd_T121 l0 x5_1).f3.f0) ((rd_T121 l0 x5_1).f3.f1) ((rd_T121 l0 x5_1).f3.f2) ((rd_T121 l0 x5_1).f3.f3) _ _ ((rd_T121 l0 x5_1).f3.f4) x1_1 t112 _ ?side1 ?side2 A6.out).mono ?_); (case side1 => repeat (first | exact (cb HR111_7.out HB.out) | (with_reducible first | refine ca ?_ _ | refine cn ?_ _ | refine ce ?_))); (case side2 => exact HC111_7.out); rintro e w8 ⟨rfl, hb⟩; refine ⟨_, rfl, ?_⟩; replace HB := Am (bq (by repeat (first | (with_reducible first | exact HB.out | apply ba | apply bn | apply be) | exact HB.out)) hb); (try clear hb)))
       go_ret
       exact ⟨by first | rfl | (simp [errW_none, errW_some] <;> rfl) | (simp [*, errW_none, errW_some] <;> rfl), by repeat (first | (with_reducible first | exact HB.out | apply ba | apply bn | apply be) | exact HB.out)⟩
      ·rw [if_neg c7] at H
       have c7b0 : decide (t112 < 0) = false := decide_eq_false c7
       clear c7
       have H' := Am H
       clear H
       have p111 : 0 ≤ (x5_1 : Int) := of_decide_eq_true (by first | (with_reducible assumption) | assumption)
       have q111 : x5_1 < (l0.length : Int) := of_decide_eq_true (by first | (with_reducible assumption) | assumption)
       obtain ⟨ad111, A111_7, c111_7, e111, hx111_0, hx111_1, hx111_2, hx111_3, hx111_4, hx111_5, hx111_6, hx111_7, hl111_7, hi111_7⟩ := at_T121 HR0.out x5_1 p111 q111
       cases e111
       replace hx111_0 := cl1 HB hx111_0
       replace hx111_1 := cl1 HB hx111_1
       replace hx111_2 := cl1 HB hx111_2
       replace hx111_3 := cl1 HB hx111_3
       replace hx111_4 := cl1 HB hx111_4
       replace hx111_5 := cl1 HB hx111_5
       replace hx111_6 := cl1 HB hx111_6
       replace hx111_7 := cl1 HB hx111_7
       have HR111_7 := Am hi111_7
       have HC111_7 := Am hl111_7
       clear hi111_7 hl111_7
       replace p111 := eq_true p111
       replace q111 := eq_true q111
       go_wp2_with (first | ((with_reducible refine gate_callee (f := 81) rfl ?_); refine goesL_ (some 23) rfl rfl Try.func81 (by kernel_rfl) rfl #[.agg #[.int .i64 ((rd_T121 l0 x5_1).f0), .int .i64 ((rd_T121 l0 x5_1).f1), .bool ((rd_T121 l0 x5_1).f2), .int .i64 ((rd_T121 l0 x5_1).f3.f0), .string ((rd_T121 l0 x5_1).f3.f1), .int .i64 ((rd_T121 l0 x5_1).f3.f2), .bool ((rd_T121 l0 x5_1).f3.f3), .slice A111_7 ((rd_T121 l0 x5_1).f3.f4).length c111_7], .int .i64 x1_1] rfl (by (try simp only [List.map_toArray, List.map_cons, List.map_nil]); first | done | rfl | (simp only [List.length_drop, List.length_take]; rfl)) ?_; (with_reducible refine (laws_szTold.calls k1 ((rd_T121 l0 x5_1).f0) ((rd_T121 l0 x5_1).f1) ((rd_T121 l0 x5_1).f2) ((rd_T121 l0 x5_1).f3.f0) ((rd_T121 l0 x5_1).f3.f1) ((rd_T121 l0 x5_1).f3.f2) ((rd_T121 l0 x5_1).f3.f3) _ _ ((rd_T121 l0 x5_1).f3.f4) x1_1 t112 _ ?side1 ?side2 A6.out).mono ?_); (case side1 => repeat (first | exact (cb HR111_7.out HB.out) | (with_reducible first | refine ca ?_ _ | refine cn ?_ _ | refine ce ?_))); (case side2 => exact HC111_7.out); rintro e w9 ⟨rfl, hb⟩; refine ⟨_, rfl, ?_⟩; replace HB := Am (bq (by repeat (first | (with_reducible first | exact HB.out | apply ba | apply bn | apply be) | exact HB.out)) hb); (try clear hb)))
       go_roundg k1
       case measure => have := HK1.out; omega
       case rel => exact ⟨(t112), (wrap64 (x5_1 + 1)), (by first | rfl | (simp; done) | (simp [*]; done)), (by first | rfl | (simp; done) | (simp [*]; done)), H', ⟨by have := HK1.out; omega⟩, ⟨by repeat (first | (with_reducible first | exact HB.out | apply ba | apply bn | apply be) | exact HB.out)⟩⟩
     ·rw [if_neg c5] at H
      exact absurd H (by simp)
    ·rw [if_neg c4] at H
     have c4b0 : decide (x5_1 < (l0.length : Int)) = false := decide_eq_false c4
     clear c4
     obtain rfl := Option.some.inj H
     go_wp2
     go_ret
     exact ⟨by first | rfl | (simp [errW_none, errW_some] <;> rfl) | (simp [*, errW_none, errW_some] <;> rfl), by repeat (first | (with_reducible first | exact HB.out | apply ba | apply bn | apply be) | exact HB.out)⟩

end Go.Proofs.Ytlpghmopabihoaa.QFnExactAsksOf
