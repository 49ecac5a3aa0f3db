/- Go functions as Lean functions, and their contracts. Own text: written by wip/gen/pr.py (a turned copy of the print). -/
import Derived.Test.YtconffflmbakgaaQFnExactOneOfx0
import Derived.Test.YtconffflmbakgaaQFnExactOneOfx4
namespace Go.Proofs.Ytconffflmbakgaa.QFnExactOneOf
open Go.RowKit Go.Proofs.YtconffflmbakgaaW.PrintWords Go.Proofs.YtconffflmbakgaaW.PrintLast Go.Proofs.YtconffflmbakgaaW.PrintMore
attribute [local go_sem] max2_int min2_int max_two min_two max_three min_three max_four min_four   -- for this text's walks alone
open Go.Proofs.YtconffflmbakgaaW.PrintWords renaming below_alloc → ba, pw_below_drewN → bn, below_drew1 → be, below_set → bs, blk_drewN → kn, blk_drew → ke, blk_alloc → ka, blk_below → kb, blk_frozen → kf, blk_cell → kc, below_step → bq, below_size → bz, blk_lt → kl
open Go.Proofs.YtconffflmbakgaaW.PrintWords.Kd renaming C_alloc → ca, C_drewN → cn, C_drew → ce, C_below → cb
open Go.Proofs.YtconffflmbakgaaW.PrintWords.Aside0 renaming mk → Am
set_option linter.unusedVariables false
set_option linter.unusedSimpArgs false

/-! ### spec_OneOf: function 22 -/
theorem cl5 {w w2 : World} {a : Addr} {v : Value} (h : Aside0 (Below w.heap.size w w2)) (e : w.cell? a = some v) : w2.cell? a = some v := (h.out.cell (World.block_lt_of_cell? w _ e)).trans e
mutual
def spec_OneOf.j0 : Nat → Bool → Int → Int → Int → Int → ByteArray → List (S155) → List (S105) → List (S166) → List (S117) → List (S117) → Int → Int → Int → Int → Int → ByteArray → List (S155) → List (S105) → List (S166) → List (S117) → List (S117) → Int → Option (Bool)
 | 0, _, _, _, _, _, _, _, _, _, _, _, _, _, _, _, _, _, _, _, _, _, _, _ => none
 | k + 1, x21, x143000, x143001, x143002, x143003, x143004, x143005, x143006, x143007, x143008, x143009, x143010, x144000, x144001, x144002, x144003, x144004, x144005, x144006, x144007, x144008, x144009, x144010 => if x21 = true then (some false) else (spec_OneOf.l0 k 0 x143000 x143001 x143002 x143003 x143004 x143005 x143006 x143007 x143008 x143009 x143010 x144000 x144001 x144002 x144003 x144004 x144005 x144006 x144007 x144008 x144009 x144010)
def spec_OneOf.l0 : Nat → Int → Int → Int → Int → Int → ByteArray → List (S155) → List (S105) → List (S166) → List (S117) → List (S117) → Int → Int → Int → Int → Int → ByteArray → List (S155) → List (S105) → List (S166) → List (S117) → List (S117) → Int → Option (Bool)
 | 0, _, _, _, _, _, _, _, _, _, _, _, _, _, _, _, _, _, _, _, _, _, _, _ => none
 | k + 1, x5, x143000, x143001, x143002, x143003, x143004, x143005, x143006, x143007, x143008, x143009, x143010, x144000, x144001, x144002, x144003, x144004, x144005, x144006, x144007, x144008, x144009, x144010 => if x5 < (x144008.length : Int) then (if 0 ≤ x5 then (if x5 < (x143008.length : Int) then ((spec_SameView.f k ((rd_T117 x144008 x5).f0) ((rd_T117 x143008 x5).f0)).bind fun t146 => (if t146 = true then (spec_OneOf.l0 k (wrap64 (x5 + 1)) x143000 x143001 x143002 x143003 x143004 x143005 x143006 x143007 x143008 x143009 x143010 x144000 x144001 x144002 x144003 x144004 x144005 x144006 x144007 x144008 x144009 x144010) else (if x5 < (x143009.length : Int) then ((spec_SameView.f k ((rd_T117 x144008 x5).f0) ((rd_T117 x143009 x5).f0)).bind fun t149 => (if t149 = true then (spec_OneOf.l0 k (wrap64 (x5 + 1)) x143000 x143001 x143002 x143003 x143004 x143005 x143006 x143007 x143008 x143009 x143010 x144000 x144001 x144002 x144003 x144004 x144005 x144006 x144007 x144008 x144009 x144010) else (some false))) else (none)))) else (none)) else (none)) else (some true)
end
def spec_OneOf.f (k : Nat) (a0_0 : Int) (a0_1 : Int) (a0_2 : Int) (a0_3 : Int) (a0_4 : ByteArray) (l0_5 : List (S155)) (l0_6 : List (S105)) (l0_7 : List (S166)) (l0_8 : List (S117)) (l0_9 : List (S117)) (a0_10 : Int) (a1_0 : Int) (a1_1 : Int) (a1_2 : Int) (a1_3 : Int) (a1_4 : ByteArray) (l1_5 : List (S155)) (l1_6 : List (S105)) (l1_7 : List (S166)) (l1_8 : List (S117)) (l1_9 : List (S117)) (a1_10 : Int) : Option (Bool) := if (l0_8.length : Int) = (l1_8.length : Int) then (spec_OneOf.j0 k ((l0_9.length : Int) != (l1_8.length : Int)) a0_0 a0_1 a0_2 a0_3 a0_4 l0_5 l0_6 l0_7 l0_8 l0_9 a0_10 a1_0 a1_1 a1_2 a1_3 a1_4 l1_5 l1_6 l1_7 l1_8 l1_9 a1_10) else (spec_OneOf.j0 k true a0_0 a0_1 a0_2 a0_3 a0_4 l0_5 l0_6 l0_7 l0_8 l0_9 a0_10 a1_0 a1_1 a1_2 a1_3 a1_4 l1_5 l1_6 l1_7 l1_8 l1_9 a1_10)
theorem spec_OneOf.mono_l : ∀ k, (∀ y0 y1 y2 y3 y4 y5 y6 y7 y8 y9 y10 y11 y12 y13 y14 y15 y16 y17 y18 y19 y20 y21 y22, LeO (spec_OneOf.j0 k y0 y1 y2 y3 y4 y5 y6 y7 y8 y9 y10 y11 y12 y13 y14 y15 y16 y17 y18 y19 y20 y21 y22) (spec_OneOf.j0 (k + 1) y0 y1 y2 y3 y4 y5 y6 y7 y8 y9 y10 y11 y12 y13 y14 y15 y16 y17 y18 y19 y20 y21 y22)) ∧ (∀ y0 y1 y2 y3 y4 y5 y6 y7 y8 y9 y10 y11 y12 y13 y14 y15 y16 y17 y18 y19 y20 y21 y22, LeO (spec_OneOf.l0 k y0 y1 y2 y3 y4 y5 y6 y7 y8 y9 y10 y11 y12 y13 y14 y15 y16 y17 y18 y19 y20 y21 y22) (spec_OneOf.l0 (k + 1) y0 y1 y2 y3 y4 y5 y6 y7 y8 y9 y10 y11 y12 y13 y14 y15 y16 y17 y18 y19 y20 y21 y22))
 | 0 => ⟨fun _ _ _ _ _ _ _ _ _ _ _ _ _ _ _ _ _ _ _ _ _ _ _ r h => by simp [spec_OneOf.j0] at h, fun _ _ _ _ _ _ _ _ _ _ _ _ _ _ _ _ _ _ _ _ _ _ _ r h => by simp [spec_OneOf.l0] at h⟩
 | k + 1 => by
  obtain ⟨ih0, ih1⟩ := spec_OneOf.mono_l k
  refine ⟨?_, ?_⟩
  ·intro y0 y1 y2 y3 y4 y5 y6 y7 y8 y9 y10 y11 y12 y13 y14 y15 y16 y17 y18 y19 y20 y21 y22
   unfold spec_OneOf.j0
   repeat' first
   | (with_reducible exact ih0 _ _ _ _ _ _ _ _ _ _ _ _ _ _ _ _ _ _ _ _ _ _ _)
   | (with_reducible exact ih1 _ _ _ _ _ _ _ _ _ _ _ _ _ _ _ _ _ _ _ _ _ _ _)
   | (with_reducible exact spec_SameView.mono _ _ _)
   | (with_reducible exact LeO.refl _)
   | (with_reducible exact LeO.none _)
   | (with_reducible refine LeO.ite ?_ ?_)
   | (with_reducible refine LeO.bind ?_ (fun _ => ?_))
   | exact ih0 _ _ _ _ _ _ _ _ _ _ _ _ _ _ _ _ _ _ _ _ _ _ _
   | exact ih1 _ _ _ _ _ _ _ _ _ _ _ _ _ _ _ _ _ _ _ _ _ _ _
   | exact spec_SameView.mono _ _ _
   | exact LeO.none _
   | refine LeO.ite ?_ ?_
   | refine LeO.bind ?_ (fun _ => ?_)
  ·intro y0 y1 y2 y3 y4 y5 y6 y7 y8 y9 y10 y11 y12 y13 y14 y15 y16 y17 y18 y19 y20 y21 y22
   unfold spec_OneOf.l0
   repeat' first
   | (with_reducible exact ih0 _ _ _ _ _ _ _ _ _ _ _ _ _ _ _ _ _ _ _ _ _ _ _)
   | (with_reducible exact ih1 _ _ _ _ _ _ _ _ _ _ _ _ _ _ _ _ _ _ _ _ _ _ _)
   | (with_reducible exact spec_SameView.mono _ _ _)
   | (with_reducible exact LeO.refl _)
   | (with_reducible exact LeO.none _)
   | (with_reducible refine LeO.ite ?_ ?_)
   | (with_reducible refine LeO.bind ?_ (fun _ => ?_))
   | exact ih0 _ _ _ _ _ _ _ _ _ _ _ _ _ _ _ _ _ _ _ _ _ _ _
   | exact ih1 _ _ _ _ _ _ _ _ _ _ _ _ _ _ _ _ _ _ _ _ _ _ _
   | exact spec_SameView.mono _ _ _
   | exact LeO.none _
   | refine LeO.ite ?_ ?_
   | refine LeO.bind ?_ (fun _ => ?_)
theorem spec_OneOf.mono : ∀ a0 a1 a2 a3 a4 a5 a6 a7 a8 a9 a10 a11 a12 a13 a14 a15 a16 a17 a18 a19 a20 a21 k, LeO (spec_OneOf.f k a0 a1 a2 a3 a4 a5 a6 a7 a8 a9 a10 a11 a12 a13 a14 a15 a16 a17 a18 a19 a20 a21) (spec_OneOf.f (k + 1) a0 a1 a2 a3 a4 a5 a6 a7 a8 a9 a10 a11 a12 a13 a14 a15 a16 a17 a18 a19 a20 a21) := by
 intro a0 a1 a2 a3 a4 a5 a6 a7 a8 a9 a10 a11 a12 a13 a14 a15 a16 a17 a18 a19 a20 a21 k
 obtain ⟨ih0, ih1⟩ := spec_OneOf.mono_l k
 unfold spec_OneOf.f
 repeat' first
   | (with_reducible exact ih0 _ _ _ _ _ _ _ _ _ _ _ _ _ _ _ _ _ _ _ _ _ _ _)
   | (with_reducible exact ih1 _ _ _ _ _ _ _ _ _ _ _ _ _ _ _ _ _ _ _ _ _ _ _)
   | (with_reducible exact spec_SameView.mono _ _ _)
   | (with_reducible exact LeO.refl _)
   | (with_reducible exact LeO.none _)
   | (with_reducible refine LeO.ite ?_ ?_)
   | (with_reducible refine LeO.bind ?_ (fun _ => ?_))
   | exact ih0 _ _ _ _ _ _ _ _ _ _ _ _ _ _ _ _ _ _ _ _ _ _ _
   | exact ih1 _ _ _ _ _ _ _ _ _ _ _ _ _ _ _ _ _ _ _ _ _ _ _
   | exact spec_SameView.mono _ _ _
   | exact LeO.none _
   | refine LeO.ite ?_ ?_
   | refine LeO.bind ?_ (fun _ => ?_)
def spec_OneOf.T6 : Bool × List (List Nat × List Nat) := (true, [([], []), ([0], [0]), ([], []), ([1, 2], [1, 2]), ([3], [3]), ([], []), ([5], [5]), ([], []), ([6, 7], [6, 7]), ([8], [8]), ([4, 9], [4, 9]), ([10], [10]), ([11, 10], [11]), ([12], [12]), ([13, 12], [12, 13]), ([12], [12]), ([14, 15, 12], [12, 14, 15]), ([16, 12], [12, 16]), ([12], [12]), ([18, 12], [12, 18]), ([12], [12]), ([19, 20, 12], [12, 19, 20]), ([21, 12], [12, 21]), ([17, 22, 12, 12], [12, 17, 22]), ([23, 12], [12, 23]), ([12, 24], [12, 24])])
def spec_OneOf.B6 : List Nat := [0, 1, 0, 7, 15, 0, 32, 0, 224, 480, 1023, 2047, 4095, 8191, 16383, 8191, 65535, 131071, 8191, 270335, 8191, 1843199, 3940351, 8388607, 16777215, 33554431]
theorem spec_OneOf.tab6 : rtab .any (opsOf Try.f22 6) = spec_OneOf.T6 := by kernel_rfl
theorem spec_OneOf.bits6 : waitsOk spec_OneOf.T6.2 spec_OneOf.B6 = true := by kernel_rfl
set_option maxHeartbeats 8000000 in
set_option maxRecDepth 100000 in
theorem spec_OneOf.calls (k : Nat) (a0_0 : Int) (a0_1 : Int) (a0_2 : Int) (a0_3 : Int) (a0_4 : ByteArray) (A0_5 : Option Addr) (c0_5 : Nat) (l0_5 : List (S155)) (A0_6 : Option Addr) (c0_6 : Nat) (l0_6 : List (S105)) (A0_7 : Option Addr) (c0_7 : Nat) (l0_7 : List (S166)) (A0_8 : Option Addr) (c0_8 : Nat) (l0_8 : List (S117)) (A0_9 : Option Addr) (c0_9 : Nat) (l0_9 : List (S117)) (a0_10 : Int) (a1_0 : Int) (a1_1 : Int) (a1_2 : Int) (a1_3 : Int) (a1_4 : ByteArray) (A1_5 : Option Addr) (c1_5 : Nat) (l1_5 : List (S155)) (A1_6 : Option Addr) (c1_6 : Nat) (l1_6 : List (S105)) (A1_7 : Option Addr) (c1_7 : Nat) (l1_7 : List (S166)) (A1_8 : Option Addr) (c1_8 : Nat) (l1_8 : List (S117)) (A1_9 : Option Addr) (c1_9 : Nat) (l1_9 : List (S117)) (a1_10 : Int) (r : Bool) (w : World) (hr0_5 : Kd.C k155 w A0_5 l0_5.length l0_5) (hc0_5 : l0_5.length ≤ c0_5) (hr0_6 : Kd.C k105 w A0_6 l0_6.length l0_6) (hc0_6 : l0_6.length ≤ c0_6) (hr0_7 : Kd.C k166 w A0_7 l0_7.length l0_7) (hc0_7 : l0_7.length ≤ c0_7) (hr0_8 : Kd.C k117 w A0_8 l0_8.length l0_8) (hc0_8 : l0_8.length ≤ c0_8) (hr0_9 : Kd.C k117 w A0_9 l0_9.length l0_9) (hc0_9 : l0_9.length ≤ c0_9) (hr1_5 : Kd.C k155 w A1_5 l1_5.length l1_5) (hc1_5 : l1_5.length ≤ c1_5) (hr1_6 : Kd.C k105 w A1_6 l1_6.length l1_6) (hc1_6 : l1_6.length ≤ c1_6) (hr1_7 : Kd.C k166 w A1_7 l1_7.length l1_7) (hc1_7 : l1_7.length ≤ c1_7) (hr1_8 : Kd.C k117 w A1_8 l1_8.length l1_8) (hc1_8 : l1_8.length ≤ c1_8) (hr1_9 : Kd.C k117 w A1_9 l1_9.length l1_9) (hc1_9 : l1_9.length ≤ c1_9) (h : spec_OneOf.f k a0_0 a0_1 a0_2 a0_3 a0_4 l0_5 l0_6 l0_7 l0_8 l0_9 a0_10 a1_0 a1_1 a1_2 a1_3 a1_4 l1_5 l1_6 l1_7 l1_8 l1_9 a1_10 = some r) :
  Calls Try.prog 22 #[.agg #[.int .i64 a0_0, .int .i64 a0_1, .int .i64 a0_2, .int .i64 a0_3, .string a0_4, .slice A0_5 l0_5.length c0_5, .slice A0_6 l0_6.length c0_6, .slice A0_7 l0_7.length c0_7, .slice A0_8 l0_8.length c0_8, .slice A0_9 l0_9.length c0_9, .int .i64 a0_10], .agg #[.int .i64 a1_0, .int .i64 a1_1, .int .i64 a1_2, .int .i64 a1_3, .string a1_4, .slice A1_5 l1_5.length c1_5, .slice A1_6 l1_6.length c1_6, .slice A1_7 l1_7.length c1_7, .slice A1_8 l1_8.length c1_8, .slice A1_9 l1_9.length c1_9, .int .i64 a1_10]] w fun e w' => e = .returned (.bool r) ∧ Below w.heap.size w w' := by
 have hu57 := Try.underlying57
 have hu117 := Try.underlying117
 have HR0_5 := Am hr0_5
 have HC0_5 := Am hc0_5
 clear hr0_5 hc0_5
 have HR0_6 := Am hr0_6
 have HC0_6 := Am hc0_6
 clear hr0_6 hc0_6
 have HR0_7 := Am hr0_7
 have HC0_7 := Am hc0_7
 clear hr0_7 hc0_7
 have HR0_8 := Am hr0_8
 have HC0_8 := Am hc0_8
 clear hr0_8 hc0_8
 have HR0_9 := Am hr0_9
 have HC0_9 := Am hc0_9
 clear hr0_9 hc0_9
 have HR1_5 := Am hr1_5
 have HC1_5 := Am hc1_5
 clear hr1_5 hc1_5
 have HR1_6 := Am hr1_6
 have HC1_6 := Am hc1_6
 clear hr1_6 hc1_6
 have HR1_7 := Am hr1_7
 have HC1_7 := Am hc1_7
 clear hr1_7 hc1_7
 have HR1_8 := Am hr1_8
 have HC1_8 := Am hc1_8
 clear hr1_8 hc1_8
 have HR1_9 := Am hr1_9
 have HC1_9 := Am hc1_9
 clear hr1_9 hc1_9
 have HB := Am (Below.refl w.heap.size w)
 have H : (if (l0_8.length : Int) = (l1_8.length : Int) then (spec_OneOf.j0 k ((l0_9.length : Int) != (l1_8.length : Int)) a0_0 a0_1 a0_2 a0_3 a0_4 l0_5 l0_6 l0_7 l0_8 l0_9 a0_10 a1_0 a1_1 a1_2 a1_3 a1_4 l1_5 l1_6 l1_7 l1_8 l1_9 a1_10) else (spec_OneOf.j0 k true a0_0 a0_1 a0_2 a0_3 a0_4 l0_5 l0_6 l0_7 l0_8 l0_9 a0_10 a1_0 a1_1 a1_2 a1_3 a1_4 l1_5 l1_6 l1_7 l1_8 l1_9 a1_10)) = some r := h
 clear h
 have HC3 := Am H
 clear H
 go_enter Try.func22, Try.ntmps22
 go_upto_region 1 with (first | ((with_reducible refine gate_dst (N := 2) rfl ?_); (try (refine gate_guard (by rfl) ?_; dsimp only)); refine box_event ?hg (N := 2) ?hd (cs := #[.int .i64 a0_0, .int .i64 a0_1, .int .i64 a0_2, .int .i64 a0_3, .string a0_4, .slice A0_5 l0_5.length c0_5, .slice A0_6 l0_6.length c0_6, .slice A0_7 l0_7.length c0_7, .slice A0_8 l0_8.length c0_8, .slice A0_9 l0_9.length c0_9, .int .i64 a0_10]) (t := 57) ?hr ?_; (case hd => rfl); (case hg => rfl); (case hr => first | (go_simp; done) | (go_simp; rfl)); intro gb142 hg w4 hbox hb; have BK142 := Am (hbox); have GW142 := Am ((by rw [hg]; exact (bz zB) : w.heap.size ≤ gb142)); have GE142 := Am ((by rw [hg]; exact (bz zB) : w.heap.size ≤ gb142)); replace HB := Am (bq zB hb); clear hb hbox hg) | ((with_reducible refine gate_dst (N := 3) rfl ?_); (try (refine gate_guard (by rfl) ?_; dsimp only)); refine box_event ?hg (N := 3) ?hd (cs := #[.int .i64 a1_0, .int .i64 a1_1, .int .i64 a1_2, .int .i64 a1_3, .string a1_4, .slice A1_5 l1_5.length c1_5, .slice A1_6 l1_6.length c1_6, .slice A1_7 l1_7.length c1_7, .slice A1_8 l1_8.length c1_8, .slice A1_9 l1_9.length c1_9, .int .i64 a1_10]) (t := 57) ?hr ?_; (case hd => rfl); (case hg => rfl); (case hr => first | (go_simp; done) | (go_simp; rfl)); intro gb143 hg w5 hbox hb; have n0_ := Am (zK BK142 hb); have n1_ := Am (bq zG hb); have n2_ := Am (hbox); have n3_ := Am ((by rw [hg]; exact (bz zG) : w.heap.size ≤ gb143)); have n4_ := Am ((by rw [hg]; exact (bz zG) : w.heap.size ≤ gb143)); have n5_ := Am ((by rw [hg]; exact Nat.ne_of_lt (zL BK142) : gb142 ≠ gb143)); have n6_ := Am ((by rw [hg]; exact Nat.ne_of_gt (zL BK142) : gb143 ≠ gb142)); clear BK142; clear HB; have BK142 := n0_; have HB := n1_; have BK143 := n2_; have GW143 := n3_; have GE143 := n4_; have NB142_143 := n5_; have NB143_142 := n6_; clear n0_ n1_ n2_ n3_ n4_ n5_ n6_; clear hb hbox hg))
 (try simp only [Act.put, List.setIfInBounds_toArray, List.set_cons_zero, List.set_cons_succ])
 go_cut [21] (fun v21 wc => ∃ (kq : Nat) (x21_2 : Bool), v21 = .bool x21_2 ∧ Aside0 (spec_OneOf.j0 kq x21_2 a0_0 a0_1 a0_2 a0_3 a0_4 l0_5 l0_6 l0_7 l0_8 l0_9 a0_10 a1_0 a1_1 a1_2 a1_3 a1_4 l1_5 l1_6 l1_7 l1_8 l1_9 a1_10 = some r) ∧ Aside0 (kq ≤ k) ∧ Aside0 (wc.heap[gb142]? = some (.cells #[.int .i64 a0_0, .int .i64 a0_1, .int .i64 a0_2, .int .i64 a0_3, .string a0_4, (.slice A0_5 l0_5.length c0_5), (.slice A0_6 l0_6.length c0_6), (.slice A0_7 l0_7.length c0_7), (.slice A0_8 l0_8.length c0_8), (.slice A0_9 l0_9.length c0_9), .int .i64 a0_10] 57 (0, 0))) ∧ Aside0 (wc.heap[gb143]? = some (.cells #[.int .i64 a1_0, .int .i64 a1_1, .int .i64 a1_2, .int .i64 a1_3, .string a1_4, (.slice A1_5 l1_5.length c1_5), (.slice A1_6 l1_6.length c1_6), (.slice A1_7 l1_7.length c1_7), (.slice A1_8 l1_8.length c1_8), (.slice A1_9 l1_9.length c1_9), .int .i64 a1_10] 57 (0, 0))) ∧ Aside0 (Below w.heap.size w wc))
 case first =>
  have H := HC3.out
  clear HC3
  by_cases c6 : (l0_8.length : Int) = (l1_8.length : Int)
  ·rw [if_pos c6] at H
   have c6b0 : ((l0_8.length : Int) == (l1_8.length : Int)) = true := beq_iff_eq.mpr c6
   have c6b1 : ((l0_8.length : Int) != (l1_8.length : Int)) = false := bne_eq_false_iff_eq.mpr c6
   have c6b2 : (l0_8.length == l1_8.length) = true := by first | simpa using c6 | (simp at c6 ⊢; omega)
   clear c6
   (first | rw [c6b0] | (simp only [i64_w, i32_w]; rw [c6b0]) | skip)
   have H' := Am H
   clear H
   have hnb7 := NB142_143.out
   have hnc7 := NB143_142.out
   obtain ⟨hcz8_0, hcz8_1, hcz8_2, hcz8_3, hcz8_4, hcz8_5, hcz8_6, hcz8_7, hcz8_8, hcz8_9, hcz8_10⟩ := kc11 (w := w5) BK142.out
   have hfz8_0 := kf BK142.out
   obtain ⟨hcz9_0, hcz9_1, hcz9_2, hcz9_3, hcz9_4, hcz9_5, hcz9_6, hcz9_7, hcz9_8, hcz9_9, hcz9_10⟩ := kc11 (w := w5) BK143.out
   have hfz9_0 := kf BK143.out
   go_wp2
   go_meet
   case rel => exact ⟨_, (((l0_9.length : Int) != (l1_8.length : Int))), (by first | rfl | (simp; done) | (simp [*]; done)), H', ⟨by first | omega | exact Nat.le_refl _⟩, ⟨by (with_reducible repeat (first | refine kn ?_ _ | refine ke ?_ | refine ka ?_ _)); exact BK142.out⟩, ⟨by (with_reducible repeat (first | refine kn ?_ _ | refine ke ?_ | refine ka ?_ _)); exact BK143.out⟩, ⟨zG⟩⟩
  ·rw [if_neg c6] at H
   have c6b0 : ((l0_8.length : Int) == (l1_8.length : Int)) = false := beq_eq_false_iff_ne.mpr c6
   have c6b1 : ((l0_8.length : Int) != (l1_8.length : Int)) = true := bne_iff_ne.mpr c6
   have c6b2 : (l0_8.length == l1_8.length) = false := by first | simpa using c6 | (simp at c6 ⊢; omega)
   (first | rw [c6b0] | (simp only [i64_w, i32_w]; rw [c6b0]) | skip)
   have H' := Am H
   clear H
   have hnb10 := NB142_143.out
   have hnc10 := NB143_142.out
   obtain ⟨hcz11_0, hcz11_1, hcz11_2, hcz11_3, hcz11_4, hcz11_5, hcz11_6, hcz11_7, hcz11_8, hcz11_9, hcz11_10⟩ := kc11 (w := w5) BK142.out
   have hfz11_0 := kf BK142.out
   obtain ⟨hcz12_0, hcz12_1, hcz12_2, hcz12_3, hcz12_4, hcz12_5, hcz12_6, hcz12_7, hcz12_8, hcz12_9, hcz12_10⟩ := kc11 (w := w5) BK143.out
   have hfz12_0 := kf BK143.out
   go_wp2
   go_meet
   case rel => exact ⟨_, (true), (by first | rfl | (simp; done) | (simp [*]; done)), H', ⟨by first | omega | exact Nat.le_refl _⟩, ⟨by (with_reducible repeat (first | refine kn ?_ _ | refine ke ?_ | refine ka ?_ _)); exact BK142.out⟩, ⟨by (with_reducible repeat (first | refine kn ?_ _ | refine ke ?_ | refine ka ?_ _)); exact BK143.out⟩, ⟨zG⟩⟩
 case rest =>
  clear HC3
  try clear c1; try clear c2; try clear p2; try clear c6; try clear c6b0; try clear c6b1; try clear c6b2; try clear c7; try clear c10; try clear hcz11_0; try clear hcz11_1; try clear hcz11_10; try clear hcz11_2; try clear hcz11_3; try clear hcz11_4; try clear hcz11_5; try clear hcz11_6; try clear hcz11_7; try clear hcz11_8; try clear hcz11_9; try clear hcz12_0; try clear hcz12_1; try clear hcz12_10; try clear hcz12_2; try clear hcz12_3; try clear hcz12_4; try clear hcz12_5; try clear hcz12_6; try clear hcz12_7; try clear hcz12_8; try clear hcz12_9; try clear hcz8_0; try clear hcz8_1; try clear hcz8_10; try clear hcz8_2; try clear hcz8_3; try clear hcz8_4; try clear hcz8_5; try clear hcz8_6; try clear hcz8_7; try clear hcz8_8; try clear hcz8_9; try clear hcz9_0; try clear hcz9_1; try clear hcz9_10; try clear hcz9_2; try clear hcz9_3; try clear hcz9_4; try clear hcz9_5; try clear hcz9_6; try clear hcz9_7; try clear hcz9_8; try clear hcz9_9; try clear hfz11_0; try clear hfz11_1; try clear hfz11_10; try clear hfz11_2; try clear hfz11_3; try clear hfz11_4; try clear hfz11_5; try clear hfz11_6; try clear hfz11_7; try clear hfz11_8; try clear hfz11_9; try clear hfz12_0; try clear hfz12_1; try clear hfz12_10; try clear hfz12_2; try clear hfz12_3; try clear hfz12_4; try clear hfz12_5; try clear hfz12_6; try clear hfz12_7; try clear hfz12_8; try clear hfz12_9; try clear hfz8_0; try clear hfz8_1; try clear hfz8_10; try clear hfz8_2; try clear hfz8_3; try clear hfz8_4; try clear hfz8_5; try clear hfz8_6; try clear hfz8_7; try clear hfz8_8; try clear hfz8_9; try clear hfz9_0; try clear hfz9_1; try clear hfz9_10; try clear hfz9_2; try clear hfz9_3; try clear hfz9_4; try clear hfz9_5; try clear hfz9_6; try clear hfz9_7; try clear hfz9_8; try clear hfz9_9
  obtain ⟨kq, x21_2, rfl, HA, HJ2, BK142, BK143, HB⟩ := hcut
  cases kq with
  | zero => exact absurd HA.out (by simp [spec_OneOf.j0])
  | succ kj2 =>
   have H := HA.out
   clear HA
   simp only [spec_OneOf.j0] at H
   by_cases c13 : x21_2 = true
   ·subst c13
    have H1 : (some false) = some r := by rw [if_pos rfl] at H; exact H
    clear H
    have H := H1
    clear H1
    obtain rfl := Option.some.inj H
    go_wp2
    go_ret
    exact ⟨zR, zG⟩
   ·replace c13 := Bool.eq_false_iff.mpr c13
    subst c13
    have H1 : (spec_OneOf.l0 kj2 0 a0_0 a0_1 a0_2 a0_3 a0_4 l0_5 l0_6 l0_7 l0_8 l0_9 a0_10 a1_0 a1_1 a1_2 a1_3 a1_4 l1_5 l1_6 l1_7 l1_8 l1_9 a1_10) = some r := by rw [if_neg (show ¬ (false = true) by decide)] at H; exact H
    clear H
    have H := H1
    clear H1
    have H' := Am H
    clear H
    go_wp2
    go_loopg [5] kj2 (fun kq v5 w' => ∃ (x5_2 : Int), v5 = .int .i64 x5_2 ∧ Aside0 (spec_OneOf.l0 kq x5_2 a0_0 a0_1 a0_2 a0_3 a0_4 l0_5 l0_6 l0_7 l0_8 l0_9 a0_10 a1_0 a1_1 a1_2 a1_3 a1_4 l1_5 l1_6 l1_7 l1_8 l1_9 a1_10 = some r) ∧ Aside0 (kq ≤ kj2) ∧ Aside0 (w'.heap[gb142]? = some (.cells #[.int .i64 a0_0, .int .i64 a0_1, .int .i64 a0_2, .int .i64 a0_3, .string a0_4, (.slice A0_5 l0_5.length c0_5), (.slice A0_6 l0_6.length c0_6), (.slice A0_7 l0_7.length c0_7), (.slice A0_8 l0_8.length c0_8), (.slice A0_9 l0_9.length c0_9), .int .i64 a0_10] 57 (0, 0))) ∧ Aside0 (w'.heap[gb143]? = some (.cells #[.int .i64 a1_0, .int .i64 a1_1, .int .i64 a1_2, .int .i64 a1_3, .string a1_4, (.slice A1_5 l1_5.length c1_5), (.slice A1_6 l1_6.length c1_6), (.slice A1_7 l1_7.length c1_7), (.slice A1_8 l1_8.length c1_8), (.slice A1_9 l1_9.length c1_9), .int .i64 a1_10] 57 (0, 0))) ∧ Aside0 (Below w.heap.size w w'))
    case atStart => exact ⟨(0), (by first | rfl | (simp; done) | (simp [*]; done)), H', ⟨Nat.le_refl _⟩, ⟨by (with_reducible repeat (first | refine kn ?_ _ | refine ke ?_ | refine ka ?_ _)); exact BK142.out⟩, ⟨by (with_reducible repeat (first | refine kn ?_ _ | refine ke ?_ | refine ka ?_ _)); exact BK143.out⟩, ⟨zG⟩⟩
    case round =>
     clear H'
     try clear c1; try clear c2; try clear p2; try clear c6; try clear c6b0; try clear c6b1; try clear c6b2; try clear c7; try clear c10; try clear c13; try clear hcz11_0; try clear hcz11_1; try clear hcz11_10; try clear hcz11_2; try clear hcz11_3; try clear hcz11_4; try clear hcz11_5; try clear hcz11_6; try clear hcz11_7; try clear hcz11_8; try clear hcz11_9; try clear hcz12_0; try clear hcz12_1; try clear hcz12_10; try clear hcz12_2; try clear hcz12_3; try clear hcz12_4; try clear hcz12_5; try clear hcz12_6; try clear hcz12_7; try clear hcz12_8; try clear hcz12_9; try clear hcz8_0; try clear hcz8_1; try clear hcz8_10; try clear hcz8_2; try clear hcz8_3; try clear hcz8_4; try clear hcz8_5; try clear hcz8_6; try clear hcz8_7; try clear hcz8_8; try clear hcz8_9; try clear hcz9_0; try clear hcz9_1; try clear hcz9_10; try clear hcz9_2; try clear hcz9_3; try clear hcz9_4; try clear hcz9_5; try clear hcz9_6; try clear hcz9_7; try clear hcz9_8; try clear hcz9_9; try clear hfz11_0; try clear hfz11_1; try clear hfz11_10; try clear hfz11_2; try clear hfz11_3; try clear hfz11_4; try clear hfz11_5; try clear hfz11_6; try clear hfz11_7; try clear hfz11_8; try clear hfz11_9; try clear hfz12_0; try clear hfz12_1; try clear hfz12_10; try clear hfz12_2; try clear hfz12_3; try clear hfz12_4; try clear hfz12_5; try clear hfz12_6; try clear hfz12_7; try clear hfz12_8; try clear hfz12_9; try clear hfz8_0; try clear hfz8_1; try clear hfz8_10; try clear hfz8_2; try clear hfz8_3; try clear hfz8_4; try clear hfz8_5; try clear hfz8_6; try clear hfz8_7; try clear hfz8_8; try clear hfz8_9; try clear hfz9_0; try clear hfz9_1; try clear hfz9_10; try clear hfz9_2; try clear hfz9_3; try clear hfz9_4; try clear hfz9_5; try clear hfz9_6; try clear hfz9_7; try clear hfz9_8; try clear hfz9_9; try clear p2
     obtain ⟨x5_2, rfl, HA, HK2, BK142, BK143, HB⟩ := hrel
     cases gk with
     | zero => exact absurd HA.out (by simp [spec_OneOf.l0])
     | succ k2 =>
      have H := HA.out
      clear HA
      simp only [spec_OneOf.l0] at H
      by_cases c14 : x5_2 < (l1_8.length : Int)
      ·rw [if_pos c14] at H
       have c14b0 : decide (x5_2 < (l1_8.length : Int)) = true := decide_eq_true c14
       clear c14
       by_cases c15 : 0 ≤ x5_2
       ·rw [if_pos c15] at H
        have c15b0 : decide (0 ≤ x5_2) = true := decide_eq_true c15
        clear c15
        by_cases c16 : x5_2 < (l0_8.length : Int)
        ·rw [if_pos c16] at H
         have c16b0 : decide (x5_2 < (l0_8.length : Int)) = true := decide_eq_true c16
         clear c16
         replace H := Option.bind_eq_some_iff.mp H
         obtain ⟨t146, A170, H⟩ := H
         replace H : (if t146 = true then (spec_OneOf.l0 k2 (wrap64 (x5_2 + 1)) a0_0 a0_1 a0_2 a0_3 a0_4 l0_5 l0_6 l0_7 l0_8 l0_9 a0_10 a1_0 a1_1 a1_2 a1_3 a1_4 l1_5 l1_6 l1_7 l1_8 l1_9 a1_10) else (if x5_2 < (l0_9.length : Int) then ((spec_SameView.f k2 ((rd_T117 l1_8 x5_2).f0) ((rd_T117 l0_9 x5_2).f0)).bind fun t149 => (if t149 = true then (spec_OneOf.l0 k2 (wrap64 (x5_2 + 1)) a0_0 a0_1 a0_2 a0_3 a0_4 l0_5 l0_6 l0_7 l0_8 l0_9 a0_10 a1_0 a1_1 a1_2 a1_3 a1_4 l1_5 l1_6 l1_7 l1_8 l1_9 a1_10) else (some false))) else (none))) = some r := H
         have A17 := Am A170
         clear A170
         by_cases c18 : t146 = true
         ·subst c18
          have H1 : (spec_OneOf.l0 k2 (wrap64 (x5_2 + 1)) a0_0 a0_1 a0_2 a0_3 a0_4 l0_5 l0_6 l0_7 l0_8 l0_9 a0_10 a1_0 a1_1 a1_2 a1_3 a1_4 l1_5 l1_6 l1_7 l1_8 l1_9 a1_10) = some r := by rw [if_pos rfl] at H; exact H
          clear H
          have H := H1
          clear H1
          have H' := Am H
          clear H
          have hnb19 := NB143_142.out
          have hnc19 := NB142_143.out
          obtain ⟨hcz20_0, hcz20_1, hcz20_2, hcz20_3, hcz20_4, hcz20_5, hcz20_6, hcz20_7, hcz20_8, hcz20_9, hcz20_10⟩ := kc11 (w := wr) BK143.out
          have hfz20_0 := kf BK143.out
          try go_wp2
          have n0_ := Am (ke BK142.out)
          have n1_ := Am (ke BK143.out)
          have n2_ := Am (be HB.out)
          clear BK142
          clear BK143
          clear HB
          have BK142 := n0_
          have BK143 := n1_
          have HB := n2_
          clear n0_ n1_ n2_
          have p144 : 0 ≤ (x5_2 : Int) := of_decide_eq_true (by first | (with_reducible assumption) | assumption)
          have q144 : x5_2 < (l1_8.length : Int) := of_decide_eq_true (by first | (with_reducible assumption) | assumption)
          obtain ⟨ad144, A144_0, c144_0, e144, hx144_0, hl144_0, hi144_0⟩ := at_T117 HR1_8.out x5_2 p144 q144
          have hw144_0 := hx144_0
          cases e144
          replace hx144_0 := cl5 HB hx144_0
          have HR144_0 := Am hi144_0
          have HC144_0 := Am hl144_0
          clear hi144_0 hl144_0
          replace p144 := eq_true p144
          replace q144 := eq_true q144
          have p145 : 0 ≤ (x5_2 : Int) := of_decide_eq_true (by first | (with_reducible assumption) | assumption)
          have q145 : x5_2 < (l0_8.length : Int) := of_decide_eq_true (by first | (with_reducible assumption) | assumption)
          obtain ⟨ad145, A145_0, c145_0, e145, hx145_0, hl145_0, hi145_0⟩ := at_T117 HR0_8.out x5_2 p145 q145
          have hw145_0 := hx145_0
          cases e145
          replace hx145_0 := cl5 HB hx145_0
          have HR145_0 := Am hi145_0
          have HC145_0 := Am hl145_0
          clear hi145_0 hl145_0
          replace p145 := eq_true p145
          replace q145 := eq_true q145
          refine start_ (n := 26) (S := fun w' => w'.cell? ⟨gb143, 0, none⟩ = some (.int .i64 a1_0) ∧ w'.cell? ⟨gb143, 1, none⟩ = some (.int .i64 a1_1) ∧ w'.cell? ⟨gb143, 2, none⟩ = some (.int .i64 a1_2) ∧ w'.cell? ⟨gb143, 3, none⟩ = some (.int .i64 a1_3) ∧ w'.cell? ⟨gb143, 4, none⟩ = some (.string a1_4) ∧ w'.cell? ⟨gb143, 5, none⟩ = some (.slice A1_5 l1_5.length c1_5) ∧ w'.cell? ⟨gb143, 6, none⟩ = some (.slice A1_6 l1_6.length c1_6) ∧ w'.cell? ⟨gb143, 7, none⟩ = some (.slice A1_7 l1_7.length c1_7) ∧ w'.cell? ⟨gb143, 8, none⟩ = some (.slice (some ad144) l1_8.length c1_8) ∧ w'.cell? ⟨gb143, 9, none⟩ = some (.slice A1_9 l1_9.length c1_9) ∧ w'.cell? ⟨gb143, 10, none⟩ = some (.int .i64 a1_10) ∧ w'.cell? ⟨gb142, 0, none⟩ = some (.int .i64 a0_0) ∧ w'.cell? ⟨gb142, 1, none⟩ = some (.int .i64 a0_1) ∧ w'.cell? ⟨gb142, 2, none⟩ = some (.int .i64 a0_2) ∧ w'.cell? ⟨gb142, 3, none⟩ = some (.int .i64 a0_3) ∧ w'.cell? ⟨gb142, 4, none⟩ = some (.string a0_4) ∧ w'.cell? ⟨gb142, 5, none⟩ = some (.slice A0_5 l0_5.length c0_5) ∧ w'.cell? ⟨gb142, 6, none⟩ = some (.slice A0_6 l0_6.length c0_6) ∧ w'.cell? ⟨gb142, 7, none⟩ = some (.slice A0_7 l0_7.length c0_7) ∧ w'.cell? ⟨gb142, 8, none⟩ = some (.slice (some ad145) l0_8.length c0_8) ∧ w'.cell? ⟨gb142, 9, none⟩ = some (.slice A0_9 l0_9.length c0_9) ∧ w'.cell? ⟨gb142, 10, none⟩ = some (.int .i64 a0_10) ∧ w'.cell? (ad144.add (x5_2).toNat) = some (.slice A144_0 ((rd_T117 l1_8 x5_2).f0).length c144_0) ∧ w'.cell? (ad145.add (x5_2).toNat) = some (.slice A145_0 ((rd_T117 l0_8 x5_2).f0).length c145_0)) (ds := []) #[false, false, false, false, false, false, false, false, false, false, false, false, false, false, false, false, false, false, false, false, false, false, false, false, false, false] (by kernel_rfl) rfl rfl ⟨(kc BK143.out 0).trans rfl, (kc BK143.out 1).trans rfl, (kc BK143.out 2).trans rfl, (kc BK143.out 3).trans rfl, (kc BK143.out 4).trans rfl, (kc BK143.out 5).trans rfl, (kc BK143.out 6).trans rfl, (kc BK143.out 7).trans rfl, (kc BK143.out 8).trans rfl, (kc BK143.out 9).trans rfl, (kc BK143.out 10).trans rfl, (kc BK142.out 0).trans rfl, (kc BK142.out 1).trans rfl, (kc BK142.out 2).trans rfl, (kc BK142.out 3).trans rfl, (kc BK142.out 4).trans rfl, (kc BK142.out 5).trans rfl, (kc BK142.out 6).trans rfl, (kc BK142.out 7).trans rfl, (kc BK142.out 8).trans rfl, (kc BK142.out 9).trans rfl, (kc BK142.out 10).trans rfl, (cl5 HB hw144_0), (cl5 HB hw145_0)⟩ (fun hHeld => ?_); refine with_tabW spec_OneOf.tab6 spec_OneOf.bits6 (fun HT_ HW_ => ?_)
          generalize wr.drew = w21 at BK142 BK143 HB HR144_0 HR145_0 hx144_0 hx145_0 hHeld ⊢
          refine zA 0 (some 29) HT_.out rfl rfl ?_
          refine zA 2 (some 31) HT_.out rfl rfl ?_
          refine zA 5 (some 34) HT_.out rfl rfl ?_
          refine zA 7 (some 36) HT_.out rfl rfl ?_
          refine zT 1 (some 30) HT_.out HW_.out rfl rfl hHeld ?_
          refine zA 3 (some 32) HT_.out rfl rfl ?_
          refine zT 4 (some 33) HT_.out HW_.out rfl rfl hHeld ?_
          refine zT 6 (some 35) HT_.out HW_.out rfl rfl hHeld ?_
          refine zA 8 (some 37) HT_.out rfl rfl ?_
          refine zT 9 (some 38) HT_.out HW_.out rfl rfl hHeld ?_
          refine zO 10 (some 39) HT_.out rfl rfl (fun K hK => ?_)
          refine goes_ Try.func73 (by kernel_rfl) rfl #[.agg #[.slice A144_0 ((rd_T117 l1_8 x5_2).f0).length c144_0], .agg #[.slice A145_0 ((rd_T117 l0_8 x5_2).f0).length c145_0]] (by rfl) rfl rfl (by (try simp only [List.map_toArray, List.map_cons, List.map_nil]); first | done | rfl | (simp only [List.length_drop, List.length_take]; rfl)) ?_
          with_reducible refine (spec_SameView.calls k2 _ _ ((rd_T117 l1_8 x5_2).f0) _ _ ((rd_T117 l0_8 x5_2).f0) true _ ?side1 ?side2 ?side3 ?side4 A17.out).mono ?_
          (case side1 => repeat (first | exact (cb HR144_0.out HB.out) | (with_reducible first | refine ca ?_ _ | refine cn ?_ _ | refine ce ?_)))
          (case side2 => exact HC144_0.out)
          (case side3 => repeat (first | exact (cb HR145_0.out HB.out) | (with_reducible first | refine ca ?_ _ | refine cn ?_ _ | refine ce ?_)))
          (case side4 => exact HC145_0.out)
          rintro e w22 ⟨rfl, hb⟩
          refine ⟨_, rfl, ?_⟩
          have n0_ := Am (zK BK142 hb)
          have n1_ := Am (zK BK143 hb)
          have n2_ := Am (bq zG hb)
          clear BK142
          clear BK143
          clear HB
          have BK142 := n0_
          have BK143 := n1_
          have HB := n2_
          clear n0_ n1_ n2_
          (try clear hb)
          (try clear hb2)
          (try clear hk)
          (try clear hi)
          refine hK.out _ _ ⟨(kc BK143.out 0).trans rfl, (kc BK143.out 1).trans rfl, (kc BK143.out 2).trans rfl, (kc BK143.out 3).trans rfl, (kc BK143.out 4).trans rfl, (kc BK143.out 5).trans rfl, (kc BK143.out 6).trans rfl, (kc BK143.out 7).trans rfl, (kc BK143.out 8).trans rfl, (kc BK143.out 9).trans rfl, (kc BK143.out 10).trans rfl, (kc BK142.out 0).trans rfl, (kc BK142.out 1).trans rfl, (kc BK142.out 2).trans rfl, (kc BK142.out 3).trans rfl, (kc BK142.out 4).trans rfl, (kc BK142.out 5).trans rfl, (kc BK142.out 6).trans rfl, (kc BK142.out 7).trans rfl, (kc BK142.out 8).trans rfl, (kc BK142.out 9).trans rfl, (kc BK142.out 10).trans rfl, (cl5 HB hw144_0 :), (cl5 HB hw145_0 :)⟩ (fun hHeld => ?_)
          clear hK K
          refine zN (some 39) ?_
          refine zA 11 (some 40) HT_.out rfl rfl ?_
          refine zA 12 (some 41) HT_.out rfl rfl ?_
          refine zI 13 (some 42) HT_.out rfl rfl ?_
          refine zI 14 (some 43) HT_.out rfl rfl ?_
          refine zI 15 (some 44) HT_.out rfl rfl ?_
          refine zI 16 (some 45) HT_.out rfl rfl ?_
          refine zI 17 (some 46) HT_.out rfl rfl ?_
          refine zI 18 (some 47) HT_.out rfl rfl ?_
          refine zI 19 (some 48) HT_.out rfl rfl ?_
          refine zI 20 (some 49) HT_.out rfl rfl ?_
          refine zI 21 (some 50) HT_.out rfl rfl ?_
          refine zI 22 (some 51) HT_.out rfl rfl ?_
          refine zI 23 (some 52) HT_.out rfl rfl ?_
          refine zI 24 (some 53) HT_.out rfl rfl ?_
          refine zA 25 (some 54) HT_.out rfl rfl ?_
          refine done_ (done_of HT_.out (by kernel_rfl)) ?_
          try go_wp2
          go_roundg k2
          case measure => have := HJ2.out; have := HK2.out; omega
          case rel => exact ⟨(wrap64 (x5_2 + 1)), (by first | rfl | (simp; done) | (simp [*]; done)), H', ⟨by have := HJ2.out; have := HK2.out; omega⟩, ⟨by (with_reducible repeat (first | refine kn ?_ _ | refine ke ?_ | refine ka ?_ _)); exact BK142.out⟩, ⟨by (with_reducible repeat (first | refine kn ?_ _ | refine ke ?_ | refine ka ?_ _)); exact BK143.out⟩, ⟨zG⟩⟩
         ·replace c18 := Bool.eq_false_iff.mpr c18
          subst c18
          have H1 : (if x5_2 < (l0_9.length : Int) then ((spec_SameView.f k2 ((rd_T117 l1_8 x5_2).f0) ((rd_T117 l0_9 x5_2).f0)).bind fun t149 => (if t149 = true then (spec_OneOf.l0 k2 (wrap64 (x5_2 + 1)) a0_0 a0_1 a0_2 a0_3 a0_4 l0_5 l0_6 l0_7 l0_8 l0_9 a0_10 a1_0 a1_1 a1_2 a1_3 a1_4 l1_5 l1_6 l1_7 l1_8 l1_9 a1_10) else (some false))) else (none)) = some r := by rw [if_neg (show ¬ (false = true) by decide)] at H; exact H
          clear H
          have H := H1
          clear H1
          by_cases c23 : x5_2 < (l0_9.length : Int)
          ·rw [if_pos c23] at H
           have c23b0 : decide (x5_2 < (l0_9.length : Int)) = true := decide_eq_true c23
           clear c23
           replace H := Option.bind_eq_some_iff.mp H
           obtain ⟨t149, A240, H⟩ := H
           replace H : (if t149 = true then (spec_OneOf.l0 k2 (wrap64 (x5_2 + 1)) a0_0 a0_1 a0_2 a0_3 a0_4 l0_5 l0_6 l0_7 l0_8 l0_9 a0_10 a1_0 a1_1 a1_2 a1_3 a1_4 l1_5 l1_6 l1_7 l1_8 l1_9 a1_10) else (some false)) = some r := H
           have A24 := Am A240
           clear A240
           by_cases c25 : t149 = true
           ·subst c25
            have H1 : (spec_OneOf.l0 k2 (wrap64 (x5_2 + 1)) a0_0 a0_1 a0_2 a0_3 a0_4 l0_5 l0_6 l0_7 l0_8 l0_9 a0_10 a1_0 a1_1 a1_2 a1_3 a1_4 l1_5 l1_6 l1_7 l1_8 l1_9 a1_10) = some r := by rw [if_pos rfl] at H; exact H
            clear H
            have H := H1
            clear H1
            have H' := Am H
            clear H
            have hnb26 := NB143_142.out
            have hnc26 := NB142_143.out
            obtain ⟨hcz27_0, hcz27_1, hcz27_2, hcz27_3, hcz27_4, hcz27_5, hcz27_6, hcz27_7, hcz27_8, hcz27_9, hcz27_10⟩ := kc11 (w := wr) BK143.out
            have hfz27_0 := kf BK143.out
            try go_wp2
            have n0_ := Am (ke BK142.out)
            have n1_ := Am (ke BK143.out)
            have n2_ := Am (be HB.out)
            clear BK142
            clear BK143
            clear HB
            have BK142 := n0_
            have BK143 := n1_
            have HB := n2_
            clear n0_ n1_ n2_
            have p144 : 0 ≤ (x5_2 : Int) := of_decide_eq_true (by first | (with_reducible assumption) | assumption)
            have q144 : x5_2 < (l1_8.length : Int) := of_decide_eq_true (by first | (with_reducible assumption) | assumption)
            obtain ⟨ad144, A144_0, c144_0, e144, hx144_0, hl144_0, hi144_0⟩ := at_T117 HR1_8.out x5_2 p144 q144
            have hw144_0 := hx144_0
            cases e144
            replace hx144_0 := cl5 HB hx144_0
            have HR144_0 := Am hi144_0
            have HC144_0 := Am hl144_0
            clear hi144_0 hl144_0
            replace p144 := eq_true p144
            replace q144 := eq_true q144
            have p145 : 0 ≤ (x5_2 : Int) := of_decide_eq_true (by first | (with_reducible assumption) | assumption)
            have q145 : x5_2 < (l0_8.length : Int) := of_decide_eq_true (by first | (with_reducible assumption) | assumption)
            obtain ⟨ad145, A145_0, c145_0, e145, hx145_0, hl145_0, hi145_0⟩ := at_T117 HR0_8.out x5_2 p145 q145
            have hw145_0 := hx145_0
            cases e145
            replace hx145_0 := cl5 HB hx145_0
            have HR145_0 := Am hi145_0
            have HC145_0 := Am hl145_0
            clear hi145_0 hl145_0
            replace p145 := eq_true p145
            replace q145 := eq_true q145
            have p147 : 0 ≤ (x5_2 : Int) := of_decide_eq_true (by first | (with_reducible assumption) | assumption)
            have q147 : x5_2 < (l1_8.length : Int) := of_decide_eq_true (by first | (with_reducible assumption) | assumption)
            obtain ⟨ad147, A147_0, c147_0, e147, hx147_0, hl147_0, hi147_0⟩ := at_T117 HR1_8.out x5_2 p147 q147
            have hw147_0 := hx147_0
            obtain rfl : ad144 = ad147 := (by injection e147)
            obtain ⟨rfl, rfl⟩ : A144_0 = A147_0 ∧ c144_0 = c147_0 := by have hz_ := hw144_0.symm.trans hw147_0; simpa using hz_
            replace hx147_0 := cl5 HB hx147_0
            have HR147_0 := Am hi147_0
            have HC147_0 := Am hl147_0
            clear hi147_0 hl147_0
            replace p147 := eq_true p147
            replace q147 := eq_true q147
            have p148 : 0 ≤ (x5_2 : Int) := of_decide_eq_true (by first | (with_reducible assumption) | assumption)
            have q148 : x5_2 < (l0_9.length : Int) := of_decide_eq_true (by first | (with_reducible assumption) | assumption)
            obtain ⟨ad148, A148_0, c148_0, e148, hx148_0, hl148_0, hi148_0⟩ := at_T117 HR0_9.out x5_2 p148 q148
            have hw148_0 := hx148_0
            cases e148
            replace hx148_0 := cl5 HB hx148_0
            have HR148_0 := Am hi148_0
            have HC148_0 := Am hl148_0
            clear hi148_0 hl148_0
            replace p148 := eq_true p148
            replace q148 := eq_true q148
            refine start_ (n := 26) (S := fun w' => w'.cell? ⟨gb143, 0, none⟩ = some (.int .i64 a1_0) ∧ w'.cell? ⟨gb143, 1, none⟩ = some (.int .i64 a1_1) ∧ w'.cell? ⟨gb143, 2, none⟩ = some (.int .i64 a1_2) ∧ w'.cell? ⟨gb143, 3, none⟩ = some (.int .i64 a1_3) ∧ w'.cell? ⟨gb143, 4, none⟩ = some (.string a1_4) ∧ w'.cell? ⟨gb143, 5, none⟩ = some (.slice A1_5 l1_5.length c1_5) ∧ w'.cell? ⟨gb143, 6, none⟩ = some (.slice A1_6 l1_6.length c1_6) ∧ w'.cell? ⟨gb143, 7, none⟩ = some (.slice A1_7 l1_7.length c1_7) ∧ w'.cell? ⟨gb143, 8, none⟩ = some (.slice (some ad144) l1_8.length c1_8) ∧ w'.cell? ⟨gb143, 9, none⟩ = some (.slice A1_9 l1_9.length c1_9) ∧ w'.cell? ⟨gb143, 10, none⟩ = some (.int .i64 a1_10) ∧ w'.cell? ⟨gb142, 0, none⟩ = some (.int .i64 a0_0) ∧ w'.cell? ⟨gb142, 1, none⟩ = some (.int .i64 a0_1) ∧ w'.cell? ⟨gb142, 2, none⟩ = some (.int .i64 a0_2) ∧ w'.cell? ⟨gb142, 3, none⟩ = some (.int .i64 a0_3) ∧ w'.cell? ⟨gb142, 4, none⟩ = some (.string a0_4) ∧ w'.cell? ⟨gb142, 5, none⟩ = some (.slice A0_5 l0_5.length c0_5) ∧ w'.cell? ⟨gb142, 6, none⟩ = some (.slice A0_6 l0_6.length c0_6) ∧ w'.cell? ⟨gb142, 7, none⟩ = some (.slice A0_7 l0_7.length c0_7) ∧ w'.cell? ⟨gb142, 8, none⟩ = some (.slice (some ad145) l0_8.length c0_8) ∧ w'.cell? ⟨gb142, 9, none⟩ = some (.slice (some ad148) l0_9.length c0_9) ∧ w'.cell? ⟨gb142, 10, none⟩ = some (.int .i64 a0_10) ∧ w'.cell? (ad144.add (x5_2).toNat) = some (.slice A144_0 ((rd_T117 l1_8 x5_2).f0).length c144_0) ∧ w'.cell? (ad145.add (x5_2).toNat) = some (.slice A145_0 ((rd_T117 l0_8 x5_2).f0).length c145_0) ∧ w'.cell? (ad144.add (x5_2).toNat) = some (.slice A144_0 ((rd_T117 l1_8 x5_2).f0).length c144_0) ∧ w'.cell? (ad148.add (x5_2).toNat) = some (.slice A148_0 ((rd_T117 l0_9 x5_2).f0).length c148_0)) (ds := []) #[false, false, false, false, false, false, false, false, false, false, false, false, false, false, false, false, false, false, false, false, false, false, false, false, false, false] (by kernel_rfl) rfl rfl ⟨(kc BK143.out 0).trans rfl, (kc BK143.out 1).trans rfl, (kc BK143.out 2).trans rfl, (kc BK143.out 3).trans rfl, (kc BK143.out 4).trans rfl, (kc BK143.out 5).trans rfl, (kc BK143.out 6).trans rfl, (kc BK143.out 7).trans rfl, (kc BK143.out 8).trans rfl, (kc BK143.out 9).trans rfl, (kc BK143.out 10).trans rfl, (kc BK142.out 0).trans rfl, (kc BK142.out 1).trans rfl, (kc BK142.out 2).trans rfl, (kc BK142.out 3).trans rfl, (kc BK142.out 4).trans rfl, (kc BK142.out 5).trans rfl, (kc BK142.out 6).trans rfl, (kc BK142.out 7).trans rfl, (kc BK142.out 8).trans rfl, (kc BK142.out 9).trans rfl, (kc BK142.out 10).trans rfl, (cl5 HB hw144_0), (cl5 HB hw145_0), (cl5 HB hw147_0), (cl5 HB hw148_0)⟩ (fun hHeld => ?_); refine with_tabW spec_OneOf.tab6 spec_OneOf.bits6 (fun HT_ HW_ => ?_)
            generalize wr.drew = w28 at BK142 BK143 HB HR144_0 HR145_0 HR147_0 HR148_0 hx144_0 hx145_0 hx147_0 hx148_0 hHeld ⊢
            refine zA 0 (some 29) HT_.out rfl rfl ?_
            refine zA 2 (some 31) HT_.out rfl rfl ?_
            refine zA 5 (some 34) HT_.out rfl rfl ?_
            refine zA 7 (some 36) HT_.out rfl rfl ?_
            refine zT 1 (some 30) HT_.out HW_.out rfl rfl hHeld ?_
            refine zA 3 (some 32) HT_.out rfl rfl ?_
            refine zT 4 (some 33) HT_.out HW_.out rfl rfl hHeld ?_
            refine zT 6 (some 35) HT_.out HW_.out rfl rfl hHeld ?_
            refine zA 8 (some 37) HT_.out rfl rfl ?_
            refine zT 9 (some 38) HT_.out HW_.out rfl rfl hHeld ?_
            refine zO 10 (some 39) HT_.out rfl rfl (fun K hK => ?_)
            refine goes_ Try.func73 (by kernel_rfl) rfl #[.agg #[.slice A144_0 ((rd_T117 l1_8 x5_2).f0).length c144_0], .agg #[.slice A145_0 ((rd_T117 l0_8 x5_2).f0).length c145_0]] (by rfl) rfl rfl (by (try simp only [List.map_toArray, List.map_cons, List.map_nil]); first | done | rfl | (simp only [List.length_drop, List.length_take]; rfl)) ?_
            with_reducible refine (spec_SameView.calls k2 _ _ ((rd_T117 l1_8 x5_2).f0) _ _ ((rd_T117 l0_8 x5_2).f0) false _ ?side1 ?side2 ?side3 ?side4 A17.out).mono ?_
            (case side1 => repeat (first | exact (cb HR144_0.out HB.out) | (with_reducible first | refine ca ?_ _ | refine cn ?_ _ | refine ce ?_)))
            (case side2 => exact HC144_0.out)
            (case side3 => repeat (first | exact (cb HR145_0.out HB.out) | (with_reducible first | refine ca ?_ _ | refine cn ?_ _ | refine ce ?_)))
            (case side4 => exact HC145_0.out)
            rintro e w29 ⟨rfl, hb⟩
            refine ⟨_, rfl, ?_⟩
            have n0_ := Am (zK BK142 hb)
            have n1_ := Am (zK BK143 hb)
            have n2_ := Am (bq zG hb)
            clear BK142
            clear BK143
            clear HB
            have BK142 := n0_
            have BK143 := n1_
            have HB := n2_
            clear n0_ n1_ n2_
            (try clear hb)
            (try clear hb2)
            (try clear hk)
            (try clear hi)
            refine hK.out _ _ ⟨(kc BK143.out 0).trans rfl, (kc BK143.out 1).trans rfl, (kc BK143.out 2).trans rfl, (kc BK143.out 3).trans rfl, (kc BK143.out 4).trans rfl, (kc BK143.out 5).trans rfl, (kc BK143.out 6).trans rfl, (kc BK143.out 7).trans rfl, (kc BK143.out 8).trans rfl, (kc BK143.out 9).trans rfl, (kc BK143.out 10).trans rfl, (kc BK142.out 0).trans rfl, (kc BK142.out 1).trans rfl, (kc BK142.out 2).trans rfl, (kc BK142.out 3).trans rfl, (kc BK142.out 4).trans rfl, (kc BK142.out 5).trans rfl, (kc BK142.out 6).trans rfl, (kc BK142.out 7).trans rfl, (kc BK142.out 8).trans rfl, (kc BK142.out 9).trans rfl, (kc BK142.out 10).trans rfl, (cl5 HB hw144_0 :), (cl5 HB hw145_0 :), (cl5 HB hw147_0 :), (cl5 HB hw148_0 :)⟩ (fun hHeld => ?_)
            clear hK K
            refine zN (some 39) ?_
            refine zA 11 (some 40) HT_.out rfl rfl ?_
            refine zA 12 (some 41) HT_.out rfl rfl ?_
            refine zA 13 (some 42) HT_.out rfl rfl ?_
            refine zA 15 (some 44) HT_.out rfl rfl ?_
            refine zA 18 (some 47) HT_.out rfl rfl ?_
            refine zA 20 (some 49) HT_.out rfl rfl ?_
            refine zT 14 (some 43) HT_.out HW_.out rfl rfl hHeld ?_
            refine zA 16 (some 45) HT_.out rfl rfl ?_
            refine zT 17 (some 46) HT_.out HW_.out rfl rfl hHeld ?_
            refine zT 19 (some 48) HT_.out HW_.out rfl rfl hHeld ?_
            refine zA 21 (some 50) HT_.out rfl rfl ?_
            refine zT 22 (some 51) HT_.out HW_.out rfl rfl hHeld ?_
            refine zO 23 (some 52) HT_.out rfl rfl (fun K hK => ?_)
            refine goes_ Try.func73 (by kernel_rfl) rfl #[.agg #[.slice A144_0 ((rd_T117 l1_8 x5_2).f0).length c144_0], .agg #[.slice A148_0 ((rd_T117 l0_9 x5_2).f0).length c148_0]] (by rfl) rfl rfl (by (try simp only [List.map_toArray, List.map_cons, List.map_nil]); first | done | rfl | (simp only [List.length_drop, List.length_take]; rfl)) ?_
            with_reducible refine (spec_SameView.calls k2 _ _ ((rd_T117 l1_8 x5_2).f0) _ _ ((rd_T117 l0_9 x5_2).f0) true _ ?side1 ?side2 ?side3 ?side4 A24.out).mono ?_
            (case side1 => repeat (first | exact (cb HR147_0.out HB.out) | (with_reducible first | refine ca ?_ _ | refine cn ?_ _ | refine ce ?_)))
            (case side2 => exact HC147_0.out)
            (case side3 => repeat (first | exact (cb HR148_0.out HB.out) | (with_reducible first | refine ca ?_ _ | refine cn ?_ _ | refine ce ?_)))
            (case side4 => exact HC148_0.out)
            rintro e w30 ⟨rfl, hb⟩
            refine ⟨_, rfl, ?_⟩
            have n0_ := Am (zK BK142 hb)
            have n1_ := Am (zK BK143 hb)
            have n2_ := Am (bq zG hb)
            clear BK142
            clear BK143
            clear HB
            have BK142 := n0_
            have BK143 := n1_
            have HB := n2_
            clear n0_ n1_ n2_
            (try clear hb)
            (try clear hb2)
            (try clear hk)
            (try clear hi)
            refine hK.out _ _ ⟨(kc BK143.out 0).trans rfl, (kc BK143.out 1).trans rfl, (kc BK143.out 2).trans rfl, (kc BK143.out 3).trans rfl, (kc BK143.out 4).trans rfl, (kc BK143.out 5).trans rfl, (kc BK143.out 6).trans rfl, (kc BK143.out 7).trans rfl, (kc BK143.out 8).trans rfl, (kc BK143.out 9).trans rfl, (kc BK143.out 10).trans rfl, (kc BK142.out 0).trans rfl, (kc BK142.out 1).trans rfl, (kc BK142.out 2).trans rfl, (kc BK142.out 3).trans rfl, (kc BK142.out 4).trans rfl, (kc BK142.out 5).trans rfl, (kc BK142.out 6).trans rfl, (kc BK142.out 7).trans rfl, (kc BK142.out 8).trans rfl, (kc BK142.out 9).trans rfl, (kc BK142.out 10).trans rfl, (cl5 HB hw144_0 :), (cl5 HB hw145_0 :), (cl5 HB hw147_0 :), (cl5 HB hw148_0 :)⟩ (fun hHeld => ?_)
            clear hK K
            refine zN (some 52) ?_
            refine zA 24 (some 53) HT_.out rfl rfl ?_
            refine zA 25 (some 54) HT_.out rfl rfl ?_
            refine done_ (done_of HT_.out (by kernel_rfl)) ?_
            try go_wp2
            go_roundg k2
            case measure => have := HJ2.out; have := HK2.out; omega
            case rel => exact ⟨(wrap64 (x5_2 + 1)), (by first | rfl | (simp; done) | (simp [*]; done)), H', ⟨by have := HJ2.out; have := HK2.out; omega⟩, ⟨by (with_reducible repeat (first | refine kn ?_ _ | refine ke ?_ | refine ka ?_ _)); exact BK142.out⟩, ⟨by (with_reducible repeat (first | refine kn ?_ _ | refine ke ?_ | refine ka ?_ _)); exact BK143.out⟩, ⟨zG⟩⟩
           ·replace c25 := Bool.eq_false_iff.mpr c25
            subst c25
            have H1 : (some false) = some r := by rw [if_neg (show ¬ (false = true) by decide)] at H; exact H
            clear H
            have H := H1
            clear H1
            obtain rfl := Option.some.inj H
            have hnb31 := NB143_142.out
            have hnc31 := NB142_143.out
            obtain ⟨hcz32_0, hcz32_1, hcz32_2, hcz32_3, hcz32_4, hcz32_5, hcz32_6, hcz32_7, hcz32_8, hcz32_9, hcz32_10⟩ := kc11 (w := wr) BK143.out
            have hfz32_0 := kf BK143.out
            try go_wp2
            have n0_ := Am (ke BK142.out)
            have n1_ := Am (ke BK143.out)
            have n2_ := Am (be HB.out)
            clear BK142
            clear BK143
            clear HB
            have BK142 := n0_
            have BK143 := n1_
            have HB := n2_
            clear n0_ n1_ n2_
            have p144 : 0 ≤ (x5_2 : Int) := of_decide_eq_true (by first | (with_reducible assumption) | assumption)
            have q144 : x5_2 < (l1_8.length : Int) := of_decide_eq_true (by first | (with_reducible assumption) | assumption)
            obtain ⟨ad144, A144_0, c144_0, e144, hx144_0, hl144_0, hi144_0⟩ := at_T117 HR1_8.out x5_2 p144 q144
            have hw144_0 := hx144_0
            cases e144
            replace hx144_0 := cl5 HB hx144_0
            have HR144_0 := Am hi144_0
            have HC144_0 := Am hl144_0
            clear hi144_0 hl144_0
            replace p144 := eq_true p144
            replace q144 := eq_true q144
            have p145 : 0 ≤ (x5_2 : Int) := of_decide_eq_true (by first | (with_reducible assumption) | assumption)
            have q145 : x5_2 < (l0_8.length : Int) := of_decide_eq_true (by first | (with_reducible assumption) | assumption)
            obtain ⟨ad145, A145_0, c145_0, e145, hx145_0, hl145_0, hi145_0⟩ := at_T117 HR0_8.out x5_2 p145 q145
            have hw145_0 := hx145_0
            cases e145
            replace hx145_0 := cl5 HB hx145_0
            have HR145_0 := Am hi145_0
            have HC145_0 := Am hl145_0
            clear hi145_0 hl145_0
            replace p145 := eq_true p145
            replace q145 := eq_true q145
            have p147 : 0 ≤ (x5_2 : Int) := of_decide_eq_true (by first | (with_reducible assumption) | assumption)
            have q147 : x5_2 < (l1_8.length : Int) := of_decide_eq_true (by first | (with_reducible assumption) | assumption)
            obtain ⟨ad147, A147_0, c147_0, e147, hx147_0, hl147_0, hi147_0⟩ := at_T117 HR1_8.out x5_2 p147 q147
            have hw147_0 := hx147_0
            obtain rfl : ad144 = ad147 := (by injection e147)
            obtain ⟨rfl, rfl⟩ : A144_0 = A147_0 ∧ c144_0 = c147_0 := by have hz_ := hw144_0.symm.trans hw147_0; simpa using hz_
            replace hx147_0 := cl5 HB hx147_0
            have HR147_0 := Am hi147_0
            have HC147_0 := Am hl147_0
            clear hi147_0 hl147_0
            replace p147 := eq_true p147
            replace q147 := eq_true q147
            have p148 : 0 ≤ (x5_2 : Int) := of_decide_eq_true (by first | (with_reducible assumption) | assumption)
            have q148 : x5_2 < (l0_9.length : Int) := of_decide_eq_true (by first | (with_reducible assumption) | assumption)
            obtain ⟨ad148, A148_0, c148_0, e148, hx148_0, hl148_0, hi148_0⟩ := at_T117 HR0_9.out x5_2 p148 q148
            have hw148_0 := hx148_0
            cases e148
            replace hx148_0 := cl5 HB hx148_0
            have HR148_0 := Am hi148_0
            have HC148_0 := Am hl148_0
            clear hi148_0 hl148_0
            replace p148 := eq_true p148
            replace q148 := eq_true q148
            refine start_ (n := 26) (S := fun w' => w'.cell? ⟨gb143, 0, none⟩ = some (.int .i64 a1_0) ∧ w'.cell? ⟨gb143, 1, none⟩ = some (.int .i64 a1_1) ∧ w'.cell? ⟨gb143, 2, none⟩ = some (.int .i64 a1_2) ∧ w'.cell? ⟨gb143, 3, none⟩ = some (.int .i64 a1_3) ∧ w'.cell? ⟨gb143, 4, none⟩ = some (.string a1_4) ∧ w'.cell? ⟨gb143, 5, none⟩ = some (.slice A1_5 l1_5.length c1_5) ∧ w'.cell? ⟨gb143, 6, none⟩ = some (.slice A1_6 l1_6.length c1_6) ∧ w'.cell? ⟨gb143, 7, none⟩ = some (.slice A1_7 l1_7.length c1_7) ∧ w'.cell? ⟨gb143, 8, none⟩ = some (.slice (some ad144) l1_8.length c1_8) ∧ w'.cell? ⟨gb143, 9, none⟩ = some (.slice A1_9 l1_9.length c1_9) ∧ w'.cell? ⟨gb143, 10, none⟩ = some (.int .i64 a1_10) ∧ w'.cell? ⟨gb142, 0, none⟩ = some (.int .i64 a0_0) ∧ w'.cell? ⟨gb142, 1, none⟩ = some (.int .i64 a0_1) ∧ w'.cell? ⟨gb142, 2, none⟩ = some (.int .i64 a0_2) ∧ w'.cell? ⟨gb142, 3, none⟩ = some (.int .i64 a0_3) ∧ w'.cell? ⟨gb142, 4, none⟩ = some (.string a0_4) ∧ w'.cell? ⟨gb142, 5, none⟩ = some (.slice A0_5 l0_5.length c0_5) ∧ w'.cell? ⟨gb142, 6, none⟩ = some (.slice A0_6 l0_6.length c0_6) ∧ w'.cell? ⟨gb142, 7, none⟩ = some (.slice A0_7 l0_7.length c0_7) ∧ w'.cell? ⟨gb142, 8, none⟩ = some (.slice (some ad145) l0_8.length c0_8) ∧ w'.cell? ⟨gb142, 9, none⟩ = some (.slice (some ad148) l0_9.length c0_9) ∧ w'.cell? ⟨gb142, 10, none⟩ = some (.int .i64 a0_10) ∧ w'.cell? (ad144.add (x5_2).toNat) = some (.slice A144_0 ((rd_T117 l1_8 x5_2).f0).length c144_0) ∧ w'.cell? (ad145.add (x5_2).toNat) = some (.slice A145_0 ((rd_T117 l0_8 x5_2).f0).length c145_0) ∧ w'.cell? (ad144.add (x5_2).toNat) = some (.slice A144_0 ((rd_T117 l1_8 x5_2).f0).length c144_0) ∧ w'.cell? (ad148.add (x5_2).toNat) = some (.slice A148_0 ((rd_T117 l0_9 x5_2).f0).length c148_0)) (ds := []) #[false, false, false, false, false, false, false, false, false, false, false, false, false, false, false, false, false, false, false, false, false, false, false, false, false, false] (by kernel_rfl) rfl rfl ⟨(kc BK143.out 0).trans rfl, (kc BK143.out 1).trans rfl, (kc BK143.out 2).trans rfl, (kc BK143.out 3).trans rfl, (kc BK143.out 4).trans rfl, (kc BK143.out 5).trans rfl, (kc BK143.out 6).trans rfl, (kc BK143.out 7).trans rfl, (kc BK143.out 8).trans rfl, (kc BK143.out 9).trans rfl, (kc BK143.out 10).trans rfl, (kc BK142.out 0).trans rfl, (kc BK142.out 1).trans rfl, (kc BK142.out 2).trans rfl, (kc BK142.out 3).trans rfl, (kc BK142.out 4).trans rfl, (kc BK142.out 5).trans rfl, (kc BK142.out 6).trans rfl, (kc BK142.out 7).trans rfl, (kc BK142.out 8).trans rfl, (kc BK142.out 9).trans rfl, (kc BK142.out 10).trans rfl, (cl5 HB hw144_0), (cl5 HB hw145_0), (cl5 HB hw147_0), (cl5 HB hw148_0)⟩ (fun hHeld => ?_); refine with_tabW spec_OneOf.tab6 spec_OneOf.bits6 (fun HT_ HW_ => ?_)
            generalize wr.drew = w33 at BK142 BK143 HB HR144_0 HR145_0 HR147_0 HR148_0 hx144_0 hx145_0 hx147_0 hx148_0 hHeld ⊢
            refine zA 0 (some 29) HT_.out rfl rfl ?_
            refine zA 2 (some 31) HT_.out rfl rfl ?_
            refine zA 5 (some 34) HT_.out rfl rfl ?_
            refine zA 7 (some 36) HT_.out rfl rfl ?_
            refine zT 1 (some 30) HT_.out HW_.out rfl rfl hHeld ?_
            refine zA 3 (some 32) HT_.out rfl rfl ?_
            refine zT 4 (some 33) HT_.out HW_.out rfl rfl hHeld ?_
            refine zT 6 (some 35) HT_.out HW_.out rfl rfl hHeld ?_
            refine zA 8 (some 37) HT_.out rfl rfl ?_
            refine zT 9 (some 38) HT_.out HW_.out rfl rfl hHeld ?_
            refine zO 10 (some 39) HT_.out rfl rfl (fun K hK => ?_)
            refine goes_ Try.func73 (by kernel_rfl) rfl #[.agg #[.slice A144_0 ((rd_T117 l1_8 x5_2).f0).length c144_0], .agg #[.slice A145_0 ((rd_T117 l0_8 x5_2).f0).length c145_0]] (by rfl) rfl rfl (by (try simp only [List.map_toArray, List.map_cons, List.map_nil]); first | done | rfl | (simp only [List.length_drop, List.length_take]; rfl)) ?_
            with_reducible refine (spec_SameView.calls k2 _ _ ((rd_T117 l1_8 x5_2).f0) _ _ ((rd_T117 l0_8 x5_2).f0) false _ ?side1 ?side2 ?side3 ?side4 A17.out).mono ?_
            (case side1 => repeat (first | exact (cb HR144_0.out HB.out) | (with_reducible first | refine ca ?_ _ | refine cn ?_ _ | refine ce ?_)))
            (case side2 => exact HC144_0.out)
            (case side3 => repeat (first | exact (cb HR145_0.out HB.out) | (with_reducible first | refine ca ?_ _ | refine cn ?_ _ | refine ce ?_)))
            (case side4 => exact HC145_0.out)
            rintro e w34 ⟨rfl, hb⟩
            refine ⟨_, rfl, ?_⟩
            have n0_ := Am (zK BK142 hb)
            have n1_ := Am (zK BK143 hb)
            have n2_ := Am (bq zG hb)
            clear BK142
            clear BK143
            clear HB
            have BK142 := n0_
            have BK143 := n1_
            have HB := n2_
            clear n0_ n1_ n2_
            (try clear hb)
            (try clear hb2)
            (try clear hk)
            (try clear hi)
            refine hK.out _ _ ⟨(kc BK143.out 0).trans rfl, (kc BK143.out 1).trans rfl, (kc BK143.out 2).trans rfl, (kc BK143.out 3).trans rfl, (kc BK143.out 4).trans rfl, (kc BK143.out 5).trans rfl, (kc BK143.out 6).trans rfl, (kc BK143.out 7).trans rfl, (kc BK143.out 8).trans rfl, (kc BK143.out 9).trans rfl, (kc BK143.out 10).trans rfl, (kc BK142.out 0).trans rfl, (kc BK142.out 1).trans rfl, (kc BK142.out 2).trans rfl, (kc BK142.out 3).trans rfl, (kc BK142.out 4).trans rfl, (kc BK142.out 5).trans rfl, (kc BK142.out 6).trans rfl, (kc BK142.out 7).trans rfl, (kc BK142.out 8).trans rfl, (kc BK142.out 9).trans rfl, (kc BK142.out 10).trans rfl, (cl5 HB hw144_0 :), (cl5 HB hw145_0 :), (cl5 HB hw147_0 :), (cl5 HB hw148_0 :)⟩ (fun hHeld => ?_)
            clear hK K
            refine zN (some 39) ?_
            refine zA 11 (some 40) HT_.out rfl rfl ?_
            refine zA 12 (some 41) HT_.out rfl rfl ?_
            refine zA 13 (some 42) HT_.out rfl rfl ?_
            refine zA 15 (some 44) HT_.out rfl rfl ?_
            refine zA 18 (some 47) HT_.out rfl rfl ?_
            refine zA 20 (some 49) HT_.out rfl rfl ?_
            refine zT 14 (some 43) HT_.out HW_.out rfl rfl hHeld ?_
            refine zA 16 (some 45) HT_.out rfl rfl ?_
            refine zT 17 (some 46) HT_.out HW_.out rfl rfl hHeld ?_
            refine zT 19 (some 48) HT_.out HW_.out rfl rfl hHeld ?_
            refine zA 21 (some 50) HT_.out rfl rfl ?_
            refine zT 22 (some 51) HT_.out HW_.out rfl rfl hHeld ?_
            refine zO 23 (some 52) HT_.out rfl rfl (fun K hK => ?_)
            refine goes_ Try.func73 (by kernel_rfl) rfl #[.agg #[.slice A144_0 ((rd_T117 l1_8 x5_2).f0).length c144_0], .agg #[.slice A148_0 ((rd_T117 l0_9 x5_2).f0).length c148_0]] (by rfl) rfl rfl (by (try simp only [List.map_toArray, List.map_cons, List.map_nil]); first | done | rfl | (simp only [List.length_drop, List.length_take]; rfl)) ?_
            with_reducible refine (spec_SameView.calls k2 _ _ ((rd_T117 l1_8 x5_2).f0) _ _ ((rd_T117 l0_9 x5_2).f0) false _ ?side1 ?side2 ?side3 ?side4 A24.out).mono ?_
            (case side1 => repeat (first | exact (cb HR147_0.out HB.out) | (with_reducible first | refine ca ?_ _ | refine cn ?_ _ | refine ce ?_)))
            (case side2 => exact HC147_0.out)
            (case side3 => repeat (first | exact (cb HR148_0.out HB.out) | (with_reducible first | refine ca ?_ _ | refine cn ?_ _ | refine ce ?_)))
            (case side4 => exact HC148_0.out)
            rintro e w35 ⟨rfl, hb⟩
            refine ⟨_, rfl, ?_⟩
            have n0_ := Am (zK BK142 hb)
            have n1_ := Am (zK BK143 hb)
            have n2_ := Am (bq zG hb)
            clear BK142
            clear BK143
            clear HB
            have BK142 := n0_
            have BK143 := n1_
            have HB := n2_
            clear n0_ n1_ n2_
            (try clear hb)
            (try clear hb2)
            (try clear hk)
            (try clear hi)
            refine hK.out _ _ ⟨(kc BK143.out 0).trans rfl, (kc BK143.out 1).trans rfl, (kc BK143.out 2).trans rfl, (kc BK143.out 3).trans rfl, (kc BK143.out 4).trans rfl, (kc BK143.out 5).trans rfl, (kc BK143.out 6).trans rfl, (kc BK143.out 7).trans rfl, (kc BK143.out 8).trans rfl, (kc BK143.out 9).trans rfl, (kc BK143.out 10).trans rfl, (kc BK142.out 0).trans rfl, (kc BK142.out 1).trans rfl, (kc BK142.out 2).trans rfl, (kc BK142.out 3).trans rfl, (kc BK142.out 4).trans rfl, (kc BK142.out 5).trans rfl, (kc BK142.out 6).trans rfl, (kc BK142.out 7).trans rfl, (kc BK142.out 8).trans rfl, (kc BK142.out 9).trans rfl, (kc BK142.out 10).trans rfl, (cl5 HB hw144_0 :), (cl5 HB hw145_0 :), (cl5 HB hw147_0 :), (cl5 HB hw148_0 :)⟩ (fun hHeld => ?_)
            clear hK K
            refine zN (some 52) ?_
            refine zA 24 (some 53) HT_.out rfl rfl ?_
            refine zA 25 (some 54) HT_.out rfl rfl ?_
            refine done_ (done_of HT_.out (by kernel_rfl)) ?_
            try go_wp2
            go_ret
            exact ⟨zR, zG⟩
          ·rw [if_neg c23] at H
           exact absurd H (by simp)
        ·rw [if_neg c16] at H
         exact absurd H (by simp)
       ·rw [if_neg c15] at H
        exact absurd H (by simp)
      ·rw [if_neg c14] at H
       have c14b0 : decide (x5_2 < (l1_8.length : Int)) = false := decide_eq_false c14
       clear c14
       obtain rfl := Option.some.inj H
       have hnb36 := NB143_142.out
       have hnc36 := NB142_143.out
       obtain ⟨hcz37_0, hcz37_1, hcz37_2, hcz37_3, hcz37_4, hcz37_5, hcz37_6, hcz37_7, hcz37_8, hcz37_9, hcz37_10⟩ := kc11 (w := wr) BK143.out
       have hfz37_0 := kf BK143.out
       go_wp2
       go_ret
       exact ⟨zR, zG⟩

end Go.Proofs.Ytconffflmbakgaa.QFnExactOneOf
