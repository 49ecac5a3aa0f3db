/- Go functions as Lean functions, and their contracts. Own text: written by wip/gen/pr.py (a turned copy of the print). -/
import Derived.Test.YtconffflmbakgaaQFnExactOneOfx0
import Derived.Test.YtconffflmbakgaaQFnExactOneOfx7
namespace Go.Proofs.Ytconffflmbakgaa.QFnExactOneOf
open Go.RowKit Go.Proofs.YtconffflmbakgaaW.PrintWords Go.Proofs.YtconffflmbakgaaW.PrintLast Go.Proofs.YtconffflmbakgaaW.PrintMore
attribute [local go_sem] max2_int min2_int max_two min_two max_three min_three max_four min_four   -- for this text's walks alone
open Go.Proofs.YtconffflmbakgaaW.PrintWords renaming below_alloc → ba, pw_below_drewN → bn, below_drew1 → be, below_set → bs, blk_drewN → kn, blk_drew → ke, blk_alloc → ka, blk_below → kb, blk_frozen → kf, blk_cell → kc, below_step → bq, below_size → bz, blk_lt → kl, blk_put → kp
open Go.Proofs.YtconffflmbakgaaW.PrintWords.Kd renaming C_alloc → ca, C_drewN → cn, C_drew → ce, C_below → cb
open Go.Proofs.YtconffflmbakgaaW.PrintWords.Aside0 renaming mk → Am
set_option linter.unusedVariables false
set_option linter.unusedSimpArgs false

theorem cl8 {w w2 : World} {a : Addr} {v : Value} (h : Aside0 (Below w.heap.size w w2)) (e : w.cell? a = some v) : w2.cell? a = some v := (h.out.cell (World.block_lt_of_cell? w _ e)).trans e
def o8b1 (p0 : Int) (p1 : Int) (p2 : Int) (p3 : Int) (p4 : ByteArray) (p5 : Option Addr) (p6 p7 : Nat) (p8 : Option Addr) (p9 p10 : Nat) (p11 : Option Addr) (p12 p13 : Nat) (p14 : Option Addr) (p15 p16 : Nat) (p17 : Option Addr) (p18 p19 : Nat) (p20 : Int) : Obj := .cells #[.int .i64 p0, .int .i64 p1, .int .i64 p2, .int .i64 p3, .string p4, .slice p5 p6 p7, .slice p8 p9 p10, .slice p11 p12 p13, .slice p14 p15 p16, .slice p17 p18 p19, .int .i64 p20] 57 (0, 0)
/-! ### impl_OneOf: function 24 -/
mutual
def impl_OneOf.j0 : Nat → Bool → Int → Int → Int → Int → ByteArray → List (S155) → List (S105) → List (S166) → List (S117) → List (S117) → Int → Int → Int → Int → Int → ByteArray → List (S155) → List (S105) → List (S166) → List (S117) → List (S117) → Int → Option (Bool)
 | 0, _, _, _, _, _, _, _, _, _, _, _, _, _, _, _, _, _, _, _, _, _, _, _ => none
 | k + 1, x22, x326000, x326001, x326002, x326003, x326004, x326005, x326006, x326007, x326008, x326009, x326010, x327000, x327001, x327002, x327003, x327004, x327005, x327006, x327007, x327008, x327009, x327010 => if x22 = true then (some false) else (impl_OneOf.l0 k x327008 (x327008.length : Int) 0 x326000 x326001 x326002 x326003 x326004 x326005 x326006 x326007 x326008 x326009 x326010)
def impl_OneOf.l0 : Nat → List (S117) → Int → Int → Int → Int → Int → Int → ByteArray → List (S155) → List (S105) → List (S166) → List (S117) → List (S117) → Int → Option (Bool)
 | 0, _, _, _, _, _, _, _, _, _, _, _, _, _, _ => none
 | k + 1, x24, x25, x26, x326000, x326001, x326002, x326003, x326004, x326005, x326006, x326007, x326008, x326009, x326010 => if x26 < x25 then (if 0 ≤ x26 then (if x26 < (x24.length : Int) then (if x26 < (x326008.length : Int) then ((impl_SameView.f k ((rd_T117 x24 x26).f0) ((rd_T117 x326008 x26).f0)).bind fun t330 => (if t330 = true then (impl_OneOf.l0 k x24 x25 (wrap64 (x26 + 1)) x326000 x326001 x326002 x326003 x326004 x326005 x326006 x326007 x326008 x326009 x326010) else (if x26 < (x326009.length : Int) then ((impl_SameView.f k ((rd_T117 x24 x26).f0) ((rd_T117 x326009 x26).f0)).bind fun t332 => (if t332 = true then (impl_OneOf.l0 k x24 x25 (wrap64 (x26 + 1)) x326000 x326001 x326002 x326003 x326004 x326005 x326006 x326007 x326008 x326009 x326010) else (some false))) else (none)))) else (none)) else (none)) else (none)) else (some true)
end
def impl_OneOf.f (k : Nat) (a0_0 : Int) (a0_1 : Int) (a0_2 : Int) (a0_3 : Int) (a0_4 : ByteArray) (l0_5 : List (S155)) (l0_6 : List (S105)) (l0_7 : List (S166)) (l0_8 : List (S117)) (l0_9 : List (S117)) (a0_10 : Int) (a1_0 : Int) (a1_1 : Int) (a1_2 : Int) (a1_3 : Int) (a1_4 : ByteArray) (l1_5 : List (S155)) (l1_6 : List (S105)) (l1_7 : List (S166)) (l1_8 : List (S117)) (l1_9 : List (S117)) (a1_10 : Int) : Option (Bool) := if (l1_8.length : Int) = (l0_8.length : Int) then (impl_OneOf.j0 k ((l1_8.length : Int) != (l0_9.length : Int)) a0_0 a0_1 a0_2 a0_3 a0_4 l0_5 l0_6 l0_7 l0_8 l0_9 a0_10 a1_0 a1_1 a1_2 a1_3 a1_4 l1_5 l1_6 l1_7 l1_8 l1_9 a1_10) else (impl_OneOf.j0 k true a0_0 a0_1 a0_2 a0_3 a0_4 l0_5 l0_6 l0_7 l0_8 l0_9 a0_10 a1_0 a1_1 a1_2 a1_3 a1_4 l1_5 l1_6 l1_7 l1_8 l1_9 a1_10)
theorem impl_OneOf.mono_l : ∀ k, (∀ y0 y1 y2 y3 y4 y5 y6 y7 y8 y9 y10 y11 y12 y13 y14 y15 y16 y17 y18 y19 y20 y21 y22, LeO (impl_OneOf.j0 k y0 y1 y2 y3 y4 y5 y6 y7 y8 y9 y10 y11 y12 y13 y14 y15 y16 y17 y18 y19 y20 y21 y22) (impl_OneOf.j0 (k + 1) y0 y1 y2 y3 y4 y5 y6 y7 y8 y9 y10 y11 y12 y13 y14 y15 y16 y17 y18 y19 y20 y21 y22)) ∧ (∀ y0 y1 y2 y3 y4 y5 y6 y7 y8 y9 y10 y11 y12 y13, LeO (impl_OneOf.l0 k y0 y1 y2 y3 y4 y5 y6 y7 y8 y9 y10 y11 y12 y13) (impl_OneOf.l0 (k + 1) y0 y1 y2 y3 y4 y5 y6 y7 y8 y9 y10 y11 y12 y13))
 | 0 => ⟨fun _ _ _ _ _ _ _ _ _ _ _ _ _ _ _ _ _ _ _ _ _ _ _ r h => by simp [impl_OneOf.j0] at h, fun _ _ _ _ _ _ _ _ _ _ _ _ _ _ r h => by simp [impl_OneOf.l0] at h⟩
 | k + 1 => by
  obtain ⟨ih0, ih1⟩ := impl_OneOf.mono_l k
  refine ⟨?_, ?_⟩
  ·intro y0 y1 y2 y3 y4 y5 y6 y7 y8 y9 y10 y11 y12 y13 y14 y15 y16 y17 y18 y19 y20 y21 y22
   unfold impl_OneOf.j0
   repeat' first
   | (with_reducible exact ih0 _ _ _ _ _ _ _ _ _ _ _ _ _ _ _ _ _ _ _ _ _ _ _)
   | (with_reducible exact ih1 _ _ _ _ _ _ _ _ _ _ _ _ _ _)
   | (with_reducible exact impl_SameView.mono _ _ _)
   | (with_reducible exact LeO.refl _)
   | (with_reducible exact LeO.none _)
   | (with_reducible refine LeO.ite ?_ ?_)
   | (with_reducible refine LeO.bind ?_ (fun _ => ?_))
   | exact ih0 _ _ _ _ _ _ _ _ _ _ _ _ _ _ _ _ _ _ _ _ _ _ _
   | exact ih1 _ _ _ _ _ _ _ _ _ _ _ _ _ _
   | exact impl_SameView.mono _ _ _
   | exact LeO.none _
   | refine LeO.ite ?_ ?_
   | refine LeO.bind ?_ (fun _ => ?_)
  ·intro y0 y1 y2 y3 y4 y5 y6 y7 y8 y9 y10 y11 y12 y13
   unfold impl_OneOf.l0
   repeat' first
   | (with_reducible exact ih0 _ _ _ _ _ _ _ _ _ _ _ _ _ _ _ _ _ _ _ _ _ _ _)
   | (with_reducible exact ih1 _ _ _ _ _ _ _ _ _ _ _ _ _ _)
   | (with_reducible exact impl_SameView.mono _ _ _)
   | (with_reducible exact LeO.refl _)
   | (with_reducible exact LeO.none _)
   | (with_reducible refine LeO.ite ?_ ?_)
   | (with_reducible refine LeO.bind ?_ (fun _ => ?_))
   | exact ih0 _ _ _ _ _ _ _ _ _ _ _ _ _ _ _ _ _ _ _ _ _ _ _
   | exact ih1 _ _ _ _ _ _ _ _ _ _ _ _ _ _
   | exact impl_SameView.mono _ _ _
   | exact LeO.none _
   | refine LeO.ite ?_ ?_
   | refine LeO.bind ?_ (fun _ => ?_)
theorem impl_OneOf.mono : ∀ a0 a1 a2 a3 a4 a5 a6 a7 a8 a9 a10 a11 a12 a13 a14 a15 a16 a17 a18 a19 a20 a21 k, LeO (impl_OneOf.f k a0 a1 a2 a3 a4 a5 a6 a7 a8 a9 a10 a11 a12 a13 a14 a15 a16 a17 a18 a19 a20 a21) (impl_OneOf.f (k + 1) a0 a1 a2 a3 a4 a5 a6 a7 a8 a9 a10 a11 a12 a13 a14 a15 a16 a17 a18 a19 a20 a21) := by
 intro a0 a1 a2 a3 a4 a5 a6 a7 a8 a9 a10 a11 a12 a13 a14 a15 a16 a17 a18 a19 a20 a21 k
 obtain ⟨ih0, ih1⟩ := impl_OneOf.mono_l k
 unfold impl_OneOf.f
 repeat' first
   | (with_reducible exact ih0 _ _ _ _ _ _ _ _ _ _ _ _ _ _ _ _ _ _ _ _ _ _ _)
   | (with_reducible exact ih1 _ _ _ _ _ _ _ _ _ _ _ _ _ _)
   | (with_reducible exact impl_SameView.mono _ _ _)
   | (with_reducible exact LeO.refl _)
   | (with_reducible exact LeO.none _)
   | (with_reducible refine LeO.ite ?_ ?_)
   | (with_reducible refine LeO.bind ?_ (fun _ => ?_))
   | exact ih0 _ _ _ _ _ _ _ _ _ _ _ _ _ _ _ _ _ _ _ _ _ _ _
   | exact ih1 _ _ _ _ _ _ _ _ _ _ _ _ _ _
   | exact impl_SameView.mono _ _ _
   | exact LeO.none _
   | refine LeO.ite ?_ ?_
   | refine LeO.bind ?_ (fun _ => ?_)
def impl_OneOf.T6 : Bool × List (List Nat × List Nat) := (true, [([], []), ([], []), ([1], [1]), ([], []), ([2, 3], [2, 3]), ([4], [4]), ([0, 5], [0, 5]), ([6], [6]), ([7, 6], [7]), ([8], [8]), ([8], [8]), ([10, 8], [8, 10]), ([8], [8]), ([11, 12, 8], [8, 11, 12]), ([13, 8], [8, 13]), ([9, 14, 8, 8], [8, 9, 14]), ([15, 8], [8, 15]), ([8, 16], [8, 16])])
def impl_OneOf.B6 : List Nat := [0, 0, 2, 0, 14, 30, 63, 127, 255, 511, 511, 1535, 511, 7679, 15871, 32767, 65535, 131071]
theorem impl_OneOf.tab6 : rtab .any (opsOf Try.f24 6) = impl_OneOf.T6 := by kernel_rfl
theorem impl_OneOf.bits6 : waitsOk impl_OneOf.T6.2 impl_OneOf.B6 = true := by kernel_rfl
set_option maxHeartbeats 8000000 in
set_option maxRecDepth 100000 in
theorem impl_OneOf.calls (k : Nat) (a0_0 : Int) (a0_1 : Int) (a0_2 : Int) (a0_3 : Int) (a0_4 : ByteArray) (A0_5 : Option Addr) (c0_5 : Nat) (l0_5 : List (S155)) (A0_6 : Option Addr) (c0_6 : Nat) (l0_6 : List (S105)) (A0_7 : Option Addr) (c0_7 : Nat) (l0_7 : List (S166)) (A0_8 : Option Addr) (c0_8 : Nat) (l0_8 : List (S117)) (A0_9 : Option Addr) (c0_9 : Nat) (l0_9 : List (S117)) (a0_10 : Int) (a1_0 : Int) (a1_1 : Int) (a1_2 : Int) (a1_3 : Int) (a1_4 : ByteArray) (A1_5 : Option Addr) (c1_5 : Nat) (l1_5 : List (S155)) (A1_6 : Option Addr) (c1_6 : Nat) (l1_6 : List (S105)) (A1_7 : Option Addr) (c1_7 : Nat) (l1_7 : List (S166)) (A1_8 : Option Addr) (c1_8 : Nat) (l1_8 : List (S117)) (A1_9 : Option Addr) (c1_9 : Nat) (l1_9 : List (S117)) (a1_10 : Int) (r : Bool) (w : World) (hr0_5 : Kd.C k155 w A0_5 l0_5.length l0_5) (hc0_5 : l0_5.length ≤ c0_5) (hr0_6 : Kd.C k105 w A0_6 l0_6.length l0_6) (hc0_6 : l0_6.length ≤ c0_6) (hr0_7 : Kd.C k166 w A0_7 l0_7.length l0_7) (hc0_7 : l0_7.length ≤ c0_7) (hr0_8 : Kd.C k117 w A0_8 l0_8.length l0_8) (hc0_8 : l0_8.length ≤ c0_8) (hr0_9 : Kd.C k117 w A0_9 l0_9.length l0_9) (hc0_9 : l0_9.length ≤ c0_9) (hr1_5 : Kd.C k155 w A1_5 l1_5.length l1_5) (hc1_5 : l1_5.length ≤ c1_5) (hr1_6 : Kd.C k105 w A1_6 l1_6.length l1_6) (hc1_6 : l1_6.length ≤ c1_6) (hr1_7 : Kd.C k166 w A1_7 l1_7.length l1_7) (hc1_7 : l1_7.length ≤ c1_7) (hr1_8 : Kd.C k117 w A1_8 l1_8.length l1_8) (hc1_8 : l1_8.length ≤ c1_8) (hr1_9 : Kd.C k117 w A1_9 l1_9.length l1_9) (hc1_9 : l1_9.length ≤ c1_9) (h : impl_OneOf.f k a0_0 a0_1 a0_2 a0_3 a0_4 l0_5 l0_6 l0_7 l0_8 l0_9 a0_10 a1_0 a1_1 a1_2 a1_3 a1_4 l1_5 l1_6 l1_7 l1_8 l1_9 a1_10 = some r) :
  Calls Try.prog 24 #[.agg #[.int .i64 a0_0, .int .i64 a0_1, .int .i64 a0_2, .int .i64 a0_3, .string a0_4, .slice A0_5 l0_5.length c0_5, .slice A0_6 l0_6.length c0_6, .slice A0_7 l0_7.length c0_7, .slice A0_8 l0_8.length c0_8, .slice A0_9 l0_9.length c0_9, .int .i64 a0_10], .agg #[.int .i64 a1_0, .int .i64 a1_1, .int .i64 a1_2, .int .i64 a1_3, .string a1_4, .slice A1_5 l1_5.length c1_5, .slice A1_6 l1_6.length c1_6, .slice A1_7 l1_7.length c1_7, .slice A1_8 l1_8.length c1_8, .slice A1_9 l1_9.length c1_9, .int .i64 a1_10]] w fun e w' => e = .returned (.bool r) ∧ Below w.heap.size w w' := by
 have hu57 := Try.underlying57
 have hu117 := Try.underlying117
 have HR0_5 := Am hr0_5
 have HC0_5 := Am hc0_5
 clear hr0_5 hc0_5
 have HR0_6 := Am hr0_6
 have HC0_6 := Am hc0_6
 clear hr0_6 hc0_6
 have HR0_7 := Am hr0_7
 have HC0_7 := Am hc0_7
 clear hr0_7 hc0_7
 have HR0_8 := Am hr0_8
 have HC0_8 := Am hc0_8
 clear hr0_8 hc0_8
 have HR0_9 := Am hr0_9
 have HC0_9 := Am hc0_9
 clear hr0_9 hc0_9
 have HR1_5 := Am hr1_5
 have HC1_5 := Am hc1_5
 clear hr1_5 hc1_5
 have HR1_6 := Am hr1_6
 have HC1_6 := Am hc1_6
 clear hr1_6 hc1_6
 have HR1_7 := Am hr1_7
 have HC1_7 := Am hc1_7
 clear hr1_7 hc1_7
 have HR1_8 := Am hr1_8
 have HC1_8 := Am hc1_8
 clear hr1_8 hc1_8
 have HR1_9 := Am hr1_9
 have HC1_9 := Am hc1_9
 clear hr1_9 hc1_9
 have HB := Am (Below.refl w.heap.size w)
 have H : (if (l1_8.length : Int) = (l0_8.length : Int) then (impl_OneOf.j0 k ((l1_8.length : Int) != (l0_9.length : Int)) a0_0 a0_1 a0_2 a0_3 a0_4 l0_5 l0_6 l0_7 l0_8 l0_9 a0_10 a1_0 a1_1 a1_2 a1_3 a1_4 l1_5 l1_6 l1_7 l1_8 l1_9 a1_10) else (impl_OneOf.j0 k true a0_0 a0_1 a0_2 a0_3 a0_4 l0_5 l0_6 l0_7 l0_8 l0_9 a0_10 a1_0 a1_1 a1_2 a1_3 a1_4 l1_5 l1_6 l1_7 l1_8 l1_9 a1_10)) = some r := h
 clear h
 have HC3 := Am H
 clear H
 go_enter Try.func24, Try.ntmps24
 go_upto_region 1 with (first | ((with_reducible refine gate_dst (N := 2) rfl ?_); (try (refine gate_guard (by rfl) ?_; dsimp only)); refine box_event ?hg (N := 2) ?hd (cs := #[.int .i64 a0_0, .int .i64 a0_1, .int .i64 a0_2, .int .i64 a0_3, .string a0_4, .slice A0_5 l0_5.length c0_5, .slice A0_6 l0_6.length c0_6, .slice A0_7 l0_7.length c0_7, .slice A0_8 l0_8.length c0_8, .slice A0_9 l0_9.length c0_9, .int .i64 a0_10]) (t := 57) ?hr ?_; (case hd => rfl); (case hg => rfl); (case hr => first | (go_simp; done) | (go_simp; rfl)); intro gb325 hg w4 hbox hb; have BK325 := Am (hbox); have GW325 := Am ((by rw [hg]; exact (bz zB) : w.heap.size ≤ gb325)); have GE325 := Am ((by rw [hg]; exact (bz zB) : w.heap.size ≤ gb325)); replace HB := Am (bq zB hb); clear hb hbox hg) | ((with_reducible refine gate_dst (N := 3) rfl ?_); (try (refine gate_guard (by rfl) ?_; dsimp only)); refine box_event ?hg (N := 3) ?hd (cs := #[.int .i64 a1_0, .int .i64 a1_1, .int .i64 a1_2, .int .i64 a1_3, .string a1_4, .slice A1_5 l1_5.length c1_5, .slice A1_6 l1_6.length c1_6, .slice A1_7 l1_7.length c1_7, .slice A1_8 l1_8.length c1_8, .slice A1_9 l1_9.length c1_9, .int .i64 a1_10]) (t := 57) ?hr ?_; (case hd => rfl); (case hg => rfl); (case hr => first | (go_simp; done) | (go_simp; rfl)); intro gb326 hg w5 hbox hb; have n0_ := Am (zK BK325 hb); have n1_ := Am (bq zG hb); have n2_ := Am (hbox); have n3_ := Am ((by rw [hg]; exact (bz zG) : w.heap.size ≤ gb326)); have n4_ := Am ((by rw [hg]; exact (bz zG) : w.heap.size ≤ gb326)); have n5_ := Am ((by rw [hg]; exact Nat.ne_of_lt (zL BK325) : gb325 ≠ gb326)); have n6_ := Am ((by rw [hg]; exact Nat.ne_of_gt (zL BK325) : gb326 ≠ gb325)); clear BK325; clear HB; have BK325 := n0_; have HB := n1_; have BK326 := n2_; have GW326 := n3_; have GE326 := n4_; have NB325_326 := n5_; have NB326_325 := n6_; clear n0_ n1_ n2_ n3_ n4_ n5_ n6_; clear hb hbox hg))
 (try simp only [Act.put, List.setIfInBounds_toArray, List.set_cons_zero, List.set_cons_succ])
 go_cut [22] (fun v22 wc => ∃ (kq : Nat) (x22_2 : Bool), v22 = .bool x22_2 ∧ Aside0 (impl_OneOf.j0 kq x22_2 a0_0 a0_1 a0_2 a0_3 a0_4 l0_5 l0_6 l0_7 l0_8 l0_9 a0_10 a1_0 a1_1 a1_2 a1_3 a1_4 l1_5 l1_6 l1_7 l1_8 l1_9 a1_10 = some r) ∧ Aside0 (kq ≤ k) ∧ Aside0 (wc.heap[gb325]? = some (.cells #[.int .i64 a0_0, .int .i64 a0_1, .int .i64 a0_2, .int .i64 a0_3, .string a0_4, (.slice A0_5 l0_5.length c0_5), (.slice A0_6 l0_6.length c0_6), (.slice A0_7 l0_7.length c0_7), (.slice A0_8 l0_8.length c0_8), (.slice A0_9 l0_9.length c0_9), .int .i64 a0_10] 57 (0, 0))) ∧ Aside0 (wc.heap[gb326]? = some (.cells #[.int .i64 a1_0, .int .i64 a1_1, .int .i64 a1_2, .int .i64 a1_3, .string a1_4, (.slice A1_5 l1_5.length c1_5), (.slice A1_6 l1_6.length c1_6), (.slice A1_7 l1_7.length c1_7), (.slice A1_8 l1_8.length c1_8), (.slice A1_9 l1_9.length c1_9), .int .i64 a1_10] 57 (0, 0))) ∧ Aside0 (Below w.heap.size w wc))
 case first =>
  have H := HC3.out
  clear HC3
  by_cases c6 : (l1_8.length : Int) = (l0_8.length : Int)
  ·rw [if_pos c6] at H
   have c6b0 : ((l1_8.length : Int) == (l0_8.length : Int)) = true := beq_iff_eq.mpr c6
   have c6b1 : ((l1_8.length : Int) != (l0_8.length : Int)) = false := bne_eq_false_iff_eq.mpr c6
   have c6b2 : (l1_8.length == l0_8.length) = true := by first | simpa using c6 | (simp at c6 ⊢; omega)
   clear c6
   (first | rw [c6b0] | (simp only [i64_w, i32_w]; rw [c6b0]) | skip)
   have H' := Am H
   clear H
   have hnb7 := NB326_325.out
   have hnc7 := NB325_326.out
   obtain ⟨hcz8_0, hcz8_1, hcz8_2, hcz8_3, hcz8_4, hcz8_5, hcz8_6, hcz8_7, hcz8_8, hcz8_9, hcz8_10⟩ := kc11 (w := w5) BK326.out
   have hfz8_0 := kf BK326.out
   obtain ⟨hcz9_0, hcz9_1, hcz9_2, hcz9_3, hcz9_4, hcz9_5, hcz9_6, hcz9_7, hcz9_8, hcz9_9, hcz9_10⟩ := kc11 (w := w5) BK325.out
   have hfz9_0 := kf BK325.out
   go_wp2
   go_meet
   case rel => exact ⟨_, (((l1_8.length : Int) != (l0_9.length : Int))), (by first | rfl | (simp; done) | (simp [*]; done)), H', ⟨by first | omega | exact Nat.le_refl _⟩, ⟨by (with_reducible repeat (first | refine kn ?_ _ | refine ke ?_ | refine ka ?_ _)); exact BK325.out⟩, ⟨by (with_reducible repeat (first | refine kn ?_ _ | refine ke ?_ | refine ka ?_ _)); exact BK326.out⟩, ⟨zG⟩⟩
  ·rw [if_neg c6] at H
   have c6b0 : ((l1_8.length : Int) == (l0_8.length : Int)) = false := beq_eq_false_iff_ne.mpr c6
   have c6b1 : ((l1_8.length : Int) != (l0_8.length : Int)) = true := bne_iff_ne.mpr c6
   have c6b2 : (l1_8.length == l0_8.length) = false := by first | simpa using c6 | (simp at c6 ⊢; omega)
   (first | rw [c6b0] | (simp only [i64_w, i32_w]; rw [c6b0]) | skip)
   have H' := Am H
   clear H
   have hnb10 := NB326_325.out
   have hnc10 := NB325_326.out
   obtain ⟨hcz11_0, hcz11_1, hcz11_2, hcz11_3, hcz11_4, hcz11_5, hcz11_6, hcz11_7, hcz11_8, hcz11_9, hcz11_10⟩ := kc11 (w := w5) BK326.out
   have hfz11_0 := kf BK326.out
   obtain ⟨hcz12_0, hcz12_1, hcz12_2, hcz12_3, hcz12_4, hcz12_5, hcz12_6, hcz12_7, hcz12_8, hcz12_9, hcz12_10⟩ := kc11 (w := w5) BK325.out
   have hfz12_0 := kf BK325.out
   go_wp2
   go_meet
   case rel => exact ⟨_, (true), (by first | rfl | (simp; done) | (simp [*]; done)), H', ⟨by first | omega | exact Nat.le_refl _⟩, ⟨by (with_reducible repeat (first | refine kn ?_ _ | refine ke ?_ | refine ka ?_ _)); exact BK325.out⟩, ⟨by (with_reducible repeat (first | refine kn ?_ _ | refine ke ?_ | refine ka ?_ _)); exact BK326.out⟩, ⟨zG⟩⟩
 case rest =>
  clear HC3
  try clear c1; try clear c2; try clear p2; try clear c6; try clear c6b0; try clear c6b1; try clear c6b2; try clear c7; try clear c10; try clear hcz11_0; try clear hcz11_1; try clear hcz11_10; try clear hcz11_2; try clear hcz11_3; try clear hcz11_4; try clear hcz11_5; try clear hcz11_6; try clear hcz11_7; try clear hcz11_8; try clear hcz11_9; try clear hcz12_0; try clear hcz12_1; try clear hcz12_10; try clear hcz12_2; try clear hcz12_3; try clear hcz12_4; try clear hcz12_5; try clear hcz12_6; try clear hcz12_7; try clear hcz12_8; try clear hcz12_9; try clear hcz8_0; try clear hcz8_1; try clear hcz8_10; try clear hcz8_2; try clear hcz8_3; try clear hcz8_4; try clear hcz8_5; try clear hcz8_6; try clear hcz8_7; try clear hcz8_8; try clear hcz8_9; try clear hcz9_0; try clear hcz9_1; try clear hcz9_10; try clear hcz9_2; try clear hcz9_3; try clear hcz9_4; try clear hcz9_5; try clear hcz9_6; try clear hcz9_7; try clear hcz9_8; try clear hcz9_9; try clear hfz11_0; try clear hfz11_1; try clear hfz11_10; try clear hfz11_2; try clear hfz11_3; try clear hfz11_4; try clear hfz11_5; try clear hfz11_6; try clear hfz11_7; try clear hfz11_8; try clear hfz11_9; try clear hfz12_0; try clear hfz12_1; try clear hfz12_10; try clear hfz12_2; try clear hfz12_3; try clear hfz12_4; try clear hfz12_5; try clear hfz12_6; try clear hfz12_7; try clear hfz12_8; try clear hfz12_9; try clear hfz8_0; try clear hfz8_1; try clear hfz8_10; try clear hfz8_2; try clear hfz8_3; try clear hfz8_4; try clear hfz8_5; try clear hfz8_6; try clear hfz8_7; try clear hfz8_8; try clear hfz8_9; try clear hfz9_0; try clear hfz9_1; try clear hfz9_10; try clear hfz9_2; try clear hfz9_3; try clear hfz9_4; try clear hfz9_5; try clear hfz9_6; try clear hfz9_7; try clear hfz9_8; try clear hfz9_9
  obtain ⟨kq, x22_2, rfl, HA, HJ2, BK325, BK326, HB⟩ := hcut
  cases kq with
  | zero => exact absurd HA.out (by simp [impl_OneOf.j0])
  | succ kj2 =>
   have H := HA.out
   clear HA
   simp only [impl_OneOf.j0] at H
   by_cases c13 : x22_2 = true
   ·subst c13
    have H1 : (some false) = some r := by rw [if_pos rfl] at H; exact H
    clear H
    have H := H1
    clear H1
    obtain rfl := Option.some.inj H
    go_wp2
    go_ret
    exact ⟨zR, zG⟩
   ·replace c13 := Bool.eq_false_iff.mpr c13
    subst c13
    have H1 : (impl_OneOf.l0 kj2 l1_8 (l1_8.length : Int) 0 a0_0 a0_1 a0_2 a0_3 a0_4 l0_5 l0_6 l0_7 l0_8 l0_9 a0_10) = some r := by rw [if_neg (show ¬ (false = true) by decide)] at H; exact H
    clear H
    have H := H1
    clear H1
    have H' := Am H
    clear H
    have hnb14 := NB326_325.out
    have hnc14 := NB325_326.out
    obtain ⟨hcz15_0, hcz15_1, hcz15_2, hcz15_3, hcz15_4, hcz15_5, hcz15_6, hcz15_7, hcz15_8, hcz15_9, hcz15_10⟩ := kc11 (w := wc) BK326.out
    have hfz15_0 := kf BK326.out
    go_wp2
    go_loopg [26] kj2 (fun kq v26 w' => ∃ (x26_2 : Int), v26 = .int .i64 x26_2 ∧ Aside0 (impl_OneOf.l0 kq l1_8 (l1_8.length : Int) x26_2 a0_0 a0_1 a0_2 a0_3 a0_4 l0_5 l0_6 l0_7 l0_8 l0_9 a0_10 = some r) ∧ Aside0 (kq ≤ kj2) ∧ Aside0 (w'.heap[gb325]? = some (.cells #[.int .i64 a0_0, .int .i64 a0_1, .int .i64 a0_2, .int .i64 a0_3, .string a0_4, (.slice A0_5 l0_5.length c0_5), (.slice A0_6 l0_6.length c0_6), (.slice A0_7 l0_7.length c0_7), (.slice A0_8 l0_8.length c0_8), (.slice A0_9 l0_9.length c0_9), .int .i64 a0_10] 57 (0, 0))) ∧ Aside0 (w'.heap[gb326]? = some (.cells #[.int .i64 a1_0, .int .i64 a1_1, .int .i64 a1_2, .int .i64 a1_3, .string a1_4, (.slice A1_5 l1_5.length c1_5), (.slice A1_6 l1_6.length c1_6), (.slice A1_7 l1_7.length c1_7), (.slice A1_8 l1_8.length c1_8), (.slice A1_9 l1_9.length c1_9), .int .i64 a1_10] 57 (0, 0))) ∧ Aside0 (Below w.heap.size w w'))
    case atStart => exact ⟨(0), (by first | rfl | (simp; done) | (simp [*]; done)), H', ⟨Nat.le_refl _⟩, ⟨by (with_reducible repeat (first | refine kn ?_ _ | refine ke ?_ | refine ka ?_ _)); exact BK325.out⟩, ⟨by (with_reducible repeat (first | refine kn ?_ _ | refine ke ?_ | refine ka ?_ _)); exact BK326.out⟩, ⟨zG⟩⟩
    case round =>
     clear H'
     try clear c1; try clear c2; try clear p2; try clear c6; try clear c6b0; try clear c6b1; try clear c6b2; try clear c7; try clear c10; try clear c13; try clear c14; try clear hcz11_0; try clear hcz11_1; try clear hcz11_10; try clear hcz11_2; try clear hcz11_3; try clear hcz11_4; try clear hcz11_5; try clear hcz11_6; try clear hcz11_7; try clear hcz11_8; try clear hcz11_9; try clear hcz12_0; try clear hcz12_1; try clear hcz12_10; try clear hcz12_2; try clear hcz12_3; try clear hcz12_4; try clear hcz12_5; try clear hcz12_6; try clear hcz12_7; try clear hcz12_8; try clear hcz12_9; try clear hcz15_0; try clear hcz15_1; try clear hcz15_10; try clear hcz15_2; try clear hcz15_3; try clear hcz15_4; try clear hcz15_5; try clear hcz15_6; try clear hcz15_7; try clear hcz15_8; try clear hcz15_9; try clear hcz8_0; try clear hcz8_1; try clear hcz8_10; try clear hcz8_2; try clear hcz8_3; try clear hcz8_4; try clear hcz8_5; try clear hcz8_6; try clear hcz8_7; try clear hcz8_8; try clear hcz8_9; try clear hcz9_0; try clear hcz9_1; try clear hcz9_10; try clear hcz9_2; try clear hcz9_3; try clear hcz9_4; try clear hcz9_5; try clear hcz9_6; try clear hcz9_7; try clear hcz9_8; try clear hcz9_9; try clear hfz11_0; try clear hfz11_1; try clear hfz11_10; try clear hfz11_2; try clear hfz11_3; try clear hfz11_4; try clear hfz11_5; try clear hfz11_6; try clear hfz11_7; try clear hfz11_8; try clear hfz11_9; try clear hfz12_0; try clear hfz12_1; try clear hfz12_10; try clear hfz12_2; try clear hfz12_3; try clear hfz12_4; try clear hfz12_5; try clear hfz12_6; try clear hfz12_7; try clear hfz12_8; try clear hfz12_9; try clear hfz15_0; try clear hfz15_1; try clear hfz15_10; try clear hfz15_2; try clear hfz15_3; try clear hfz15_4; try clear hfz15_5; try clear hfz15_6; try clear hfz15_7; try clear hfz15_8; try clear hfz15_9; try clear hfz8_0; try clear hfz8_1; try clear hfz8_10; try clear hfz8_2; try clear hfz8_3; try clear hfz8_4; try clear hfz8_5; try clear hfz8_6; try clear hfz8_7; try clear hfz8_8; try clear hfz8_9; try clear hfz9_0; try clear hfz9_1; try clear hfz9_10; try clear hfz9_2; try clear hfz9_3; try clear hfz9_4; try clear hfz9_5; try clear hfz9_6; try clear hfz9_7; try clear hfz9_8; try clear hfz9_9; try clear p2
     obtain ⟨x26_2, rfl, HA, HK2, BK325, BK326, HB⟩ := hrel
     cases gk with
     | zero => exact absurd HA.out (by simp [impl_OneOf.l0])
     | succ k2 =>
      have H := HA.out
      clear HA
      simp only [impl_OneOf.l0] at H
      by_cases c16 : x26_2 < (l1_8.length : Int)
      ·rw [if_pos c16] at H
       have c16b0 : decide (x26_2 < (l1_8.length : Int)) = true := decide_eq_true c16
       clear c16
       by_cases c17 : 0 ≤ x26_2
       ·rw [if_pos c17] at H
        have c17b0 : decide (0 ≤ x26_2) = true := decide_eq_true c17
        clear c17
        by_cases c18 : x26_2 < (l1_8.length : Int)
        ·rw [if_pos c18] at H
         have c18b0 : decide (x26_2 < (l1_8.length : Int)) = true := decide_eq_true c18
         clear c18
         by_cases c19 : x26_2 < (l0_8.length : Int)
         ·rw [if_pos c19] at H
          have c19b0 : decide (x26_2 < (l0_8.length : Int)) = true := decide_eq_true c19
          clear c19
          replace H := Option.bind_eq_some_iff.mp H
          obtain ⟨t330, A200, H⟩ := H
          replace H : (if t330 = true then (impl_OneOf.l0 k2 l1_8 (l1_8.length : Int) (wrap64 (x26_2 + 1)) a0_0 a0_1 a0_2 a0_3 a0_4 l0_5 l0_6 l0_7 l0_8 l0_9 a0_10) else (if x26_2 < (l0_9.length : Int) then ((impl_SameView.f k2 ((rd_T117 l1_8 x26_2).f0) ((rd_T117 l0_9 x26_2).f0)).bind fun t332 => (if t332 = true then (impl_OneOf.l0 k2 l1_8 (l1_8.length : Int) (wrap64 (x26_2 + 1)) a0_0 a0_1 a0_2 a0_3 a0_4 l0_5 l0_6 l0_7 l0_8 l0_9 a0_10) else (some false))) else (none))) = some r := H
          have A20 := Am A200
          clear A200
          by_cases c21 : t330 = true
          ·subst c21
           have H1 : (impl_OneOf.l0 k2 l1_8 (l1_8.length : Int) (wrap64 (x26_2 + 1)) a0_0 a0_1 a0_2 a0_3 a0_4 l0_5 l0_6 l0_7 l0_8 l0_9 a0_10) = some r := by rw [if_pos rfl] at H; exact H
           clear H
           have H := H1
           clear H1
           have H' := Am H
           clear H
           have p327 : 0 ≤ (x26_2 : Int) := of_decide_eq_true (by first | (with_reducible assumption) | assumption)
           have q327 : x26_2 < (l1_8.length : Int) := of_decide_eq_true (by first | (with_reducible assumption) | assumption)
           obtain ⟨ad327, A327_0, c327_0, e327, hx327_0, hl327_0, hi327_0⟩ := at_T117 HR1_8.out x26_2 p327 q327
           cases e327
           replace hx327_0 := cl8 HB hx327_0
           have HR327_0 := Am hi327_0
           have HC327_0 := Am hl327_0
           clear hi327_0 hl327_0
           replace p327 := eq_true p327
           replace q327 := eq_true q327
           try go_wp2_with (first | ((with_reducible refine gate_dst (N := 6) rfl ?_); (try (refine gate_guard (by rfl) ?_; dsimp only)); refine box_event ?hg (N := 6) ?hd (cs := #[.slice none 0 0]) (t := 117) ?hr ?_; (case hd => rfl); (case hg => rfl); (case hr => first | (go_simp; done) | (go_simp; rfl)); intro gb328 hg w22 hbox hb; have n0_ := Am (zK BK325 hb); have n1_ := Am (zK BK326 hb); have n2_ := Am (bq zG hb); have n3_ := Am (hbox); have n4_ := Am ((by rw [hg]; exact (bz zG) : w.heap.size ≤ gb328)); have n5_ := Am ((by rw [hg]; exact (bz zG) : w.heap.size ≤ gb328)); have n6_ := Am ((by rw [hg]; exact Nat.ne_of_lt (zL BK325) : gb325 ≠ gb328)); have n7_ := Am ((by rw [hg]; exact Nat.ne_of_gt (zL BK325) : gb328 ≠ gb325)); have n8_ := Am ((by rw [hg]; exact Nat.ne_of_lt (zL BK326) : gb326 ≠ gb328)); have n9_ := Am ((by rw [hg]; exact Nat.ne_of_gt (zL BK326) : gb328 ≠ gb326)); clear BK325; clear BK326; clear HB; have BK325 := n0_; have BK326 := n1_; have HB := n2_; have BK328 := n3_; have GW328 := n4_; have GE328 := n5_; have NB325_328 := n6_; have NB328_325 := n7_; have NB326_328 := n8_; have NB328_326 := n9_; clear n0_ n1_ n2_ n3_ n4_ n5_ n6_ n7_ n8_ n9_; clear hb hbox hg; have hnb23 := NB328_325.out; have hnc23 := NB325_328.out; have hnb24 := NB328_326.out; have hnc24 := NB326_328.out; have hcz25_0 : w22.cell? ⟨gb328, 0, none⟩ = some (.slice none 0 0) := (kc BK328.out 0).trans rfl; have hfz25_0 := kf BK328.out))
           have n0_ : Aside0 ((w22.setCell ⟨gb328, 0, none⟩ (.slice A327_0 ((rd_T117 l1_8 x26_2).f0).length c327_0)).heap[gb325]? = some (.cells #[.int .i64 a0_0, .int .i64 a0_1, .int .i64 a0_2, .int .i64 a0_3, .string a0_4, .slice A0_5 l0_5.length c0_5, .slice A0_6 l0_6.length c0_6, .slice A0_7 l0_7.length c0_7, .slice A0_8 l0_8.length c0_8, .slice A0_9 l0_9.length c0_9, .int .i64 a0_10] 57 (0, 0))) := ⟨by (with_reducible repeat (first | refine kn ?_ _ | refine ke ?_ | refine ka ?_ _)); refine blk_far ?_ NB325_328.out _; (with_reducible repeat (first | refine kn ?_ _ | refine ke ?_ | refine ka ?_ _)); exact BK325.out⟩
           have n1_ : Aside0 ((w22.setCell ⟨gb328, 0, none⟩ (.slice A327_0 ((rd_T117 l1_8 x26_2).f0).length c327_0)).heap[gb326]? = some (.cells #[.int .i64 a1_0, .int .i64 a1_1, .int .i64 a1_2, .int .i64 a1_3, .string a1_4, .slice A1_5 l1_5.length c1_5, .slice A1_6 l1_6.length c1_6, .slice A1_7 l1_7.length c1_7, .slice (some ad327) l1_8.length c1_8, .slice A1_9 l1_9.length c1_9, .int .i64 a1_10] 57 (0, 0))) := ⟨by (with_reducible repeat (first | refine kn ?_ _ | refine ke ?_ | refine ka ?_ _)); refine blk_far ?_ NB326_328.out _; (with_reducible repeat (first | refine kn ?_ _ | refine ke ?_ | refine ka ?_ _)); exact BK326.out⟩
           have n2_ : Aside0 ((w22.setCell ⟨gb328, 0, none⟩ (.slice A327_0 ((rd_T117 l1_8 x26_2).f0).length c327_0)).heap[gb328]? = some (.cells #[.slice A327_0 ((rd_T117 l1_8 x26_2).f0).length c327_0] 117 (0, 0))) := ⟨by (with_reducible repeat (first | refine kn ?_ _ | refine ke ?_ | refine ka ?_ _)); refine kp (cs := #[.slice none 0 0]) ?_ 0 _ rfl; (with_reducible repeat (first | refine kn ?_ _ | refine ke ?_ | refine ka ?_ _)); exact BK328.out⟩
           have n3_ : Aside0 (Below w.heap.size w (w22.setCell ⟨gb328, 0, none⟩ (.slice A327_0 ((rd_T117 l1_8 x26_2).f0).length c327_0))) := ⟨zG⟩
           (try clear BK325)
           (try clear BK326)
           (try clear BK328)
           (try clear HB)
           generalize (w22.setCell ⟨gb328, 0, none⟩ (.slice A327_0 ((rd_T117 l1_8 x26_2).f0).length c327_0)) = w26 at n0_ n1_ n2_ n3_ ⊢
           have BK325 := n0_
           have BK326 := n1_
           have BK328 := n2_
           have HB := n3_
           clear n0_ n1_ n2_ n3_
           have n0_ := Am (ke BK325.out)
           have n1_ := Am (ke BK326.out)
           have n2_ := Am (ke BK328.out)
           have n3_ := Am (be HB.out)
           clear BK325
           clear BK326
           clear BK328
           clear HB
           have BK325 := n0_
           have BK326 := n1_
           have BK328 := n2_
           have HB := n3_
           clear n0_ n1_ n2_ n3_
           have p329 : 0 ≤ (x26_2 : Int) := of_decide_eq_true (by first | (with_reducible assumption) | assumption)
           have q329 : x26_2 < (l0_8.length : Int) := of_decide_eq_true (by first | (with_reducible assumption) | assumption)
           obtain ⟨ad329, A329_0, c329_0, e329, hx329_0, hl329_0, hi329_0⟩ := at_T117 HR0_8.out x26_2 p329 q329
           have hw329_0 := hx329_0
           cases e329
           replace hx329_0 := cl8 HB hx329_0
           have HR329_0 := Am hi329_0
           have HC329_0 := Am hl329_0
           clear hi329_0 hl329_0
           replace p329 := eq_true p329
           replace q329 := eq_true q329
           refine start_ (n := 18) (S := fun w' => w'.cell? ⟨gb328, 0, none⟩ = some (.slice A327_0 ((rd_T117 l1_8 x26_2).f0).length c327_0) ∧ w'.cell? ⟨gb325, 0, none⟩ = some (.int .i64 a0_0) ∧ w'.cell? ⟨gb325, 1, none⟩ = some (.int .i64 a0_1) ∧ w'.cell? ⟨gb325, 2, none⟩ = some (.int .i64 a0_2) ∧ w'.cell? ⟨gb325, 3, none⟩ = some (.int .i64 a0_3) ∧ w'.cell? ⟨gb325, 4, none⟩ = some (.string a0_4) ∧ w'.cell? ⟨gb325, 5, none⟩ = some (.slice A0_5 l0_5.length c0_5) ∧ w'.cell? ⟨gb325, 6, none⟩ = some (.slice A0_6 l0_6.length c0_6) ∧ w'.cell? ⟨gb325, 7, none⟩ = some (.slice A0_7 l0_7.length c0_7) ∧ w'.cell? ⟨gb325, 8, none⟩ = some (.slice (some ad329) l0_8.length c0_8) ∧ w'.cell? ⟨gb325, 9, none⟩ = some (.slice A0_9 l0_9.length c0_9) ∧ w'.cell? ⟨gb325, 10, none⟩ = some (.int .i64 a0_10) ∧ w'.cell? (ad329.add (x26_2).toNat) = some (.slice A329_0 ((rd_T117 l0_8 x26_2).f0).length c329_0)) (ds := []) #[false, false, false, false, false, false, false, false, false, false, false, false, false, false, false, false, false, false] (by kernel_rfl) rfl rfl ⟨(kc BK328.out 0).trans rfl, (kc BK325.out 0).trans rfl, (kc BK325.out 1).trans rfl, (kc BK325.out 2).trans rfl, (kc BK325.out 3).trans rfl, (kc BK325.out 4).trans rfl, (kc BK325.out 5).trans rfl, (kc BK325.out 6).trans rfl, (kc BK325.out 7).trans rfl, (kc BK325.out 8).trans rfl, (kc BK325.out 9).trans rfl, (kc BK325.out 10).trans rfl, (cl8 HB hw329_0)⟩ (fun hHeld => ?_); refine with_tabW impl_OneOf.tab6 impl_OneOf.bits6 (fun HT_ HW_ => ?_)
           generalize w26.drew = w27 at BK325 BK326 BK328 HB HR329_0 hx329_0 hHeld ⊢
           refine zA 1 (some 32) HT_.out rfl rfl ?_
           refine zA 3 (some 34) HT_.out rfl rfl ?_
           refine zT 0 (some 31) HT_.out HW_.out rfl rfl hHeld ?_
           refine zT 2 (some 33) HT_.out HW_.out rfl rfl hHeld ?_
           refine zA 4 (some 35) HT_.out rfl rfl ?_
           refine zT 5 (some 36) HT_.out HW_.out rfl rfl hHeld ?_
           refine zO 6 (some 37) HT_.out rfl rfl (fun K hK => ?_)
           refine goes_ Try.func75 (by kernel_rfl) rfl #[.agg #[.slice A327_0 ((rd_T117 l1_8 x26_2).f0).length c327_0], .agg #[.slice A329_0 ((rd_T117 l0_8 x26_2).f0).length c329_0]] (by rfl) rfl rfl (by (try simp only [List.map_toArray, List.map_cons, List.map_nil]); first | done | rfl | (simp only [List.length_drop, List.length_take]; rfl)) ?_
           with_reducible refine (impl_SameView.calls k2 _ _ ((rd_T117 l1_8 x26_2).f0) _ _ ((rd_T117 l0_8 x26_2).f0) true _ ?side1 ?side2 ?side3 ?side4 A20.out).mono ?_
           (case side1 => repeat (first | exact (cb HR327_0.out HB.out) | (with_reducible first | refine ca ?_ _ | refine cn ?_ _ | refine ce ?_)))
           (case side2 => exact HC327_0.out)
           (case side3 => repeat (first | exact (cb HR329_0.out HB.out) | (with_reducible first | refine ca ?_ _ | refine cn ?_ _ | refine ce ?_)))
           (case side4 => exact HC329_0.out)
           rintro e w28 ⟨rfl, hb⟩
           refine ⟨_, rfl, ?_⟩
           have n0_ := Am (zK BK325 hb)
           have n1_ := Am (zK BK326 hb)
           have n2_ := Am (zK BK328 hb)
           have n3_ := Am (bq zG hb)
           clear BK325
           clear BK326
           clear BK328
           clear HB
           have BK325 := n0_
           have BK326 := n1_
           have BK328 := n2_
           have HB := n3_
           clear n0_ n1_ n2_ n3_
           (try clear hb)
           (try clear hb2)
           (try clear hk)
           (try clear hi)
           refine hK.out _ _ ⟨(kc BK328.out 0).trans rfl, (kc BK325.out 0).trans rfl, (kc BK325.out 1).trans rfl, (kc BK325.out 2).trans rfl, (kc BK325.out 3).trans rfl, (kc BK325.out 4).trans rfl, (kc BK325.out 5).trans rfl, (kc BK325.out 6).trans rfl, (kc BK325.out 7).trans rfl, (kc BK325.out 8).trans rfl, (kc BK325.out 9).trans rfl, (kc BK325.out 10).trans rfl, (cl8 HB hw329_0 :)⟩ (fun hHeld => ?_)
           clear hK K
           refine zN (some 37) ?_
           refine zA 7 (some 38) HT_.out rfl rfl ?_
           refine zA 8 (some 39) HT_.out rfl rfl ?_
           refine zI 9 (some 40) HT_.out rfl rfl ?_
           refine zI 10 (some 41) HT_.out rfl rfl ?_
           refine zI 11 (some 42) HT_.out rfl rfl ?_
           refine zI 12 (some 43) HT_.out rfl rfl ?_
           refine zI 13 (some 44) HT_.out rfl rfl ?_
           refine zI 14 (some 45) HT_.out rfl rfl ?_
           refine zI 15 (some 46) HT_.out rfl rfl ?_
           refine zI 16 (some 47) HT_.out rfl rfl ?_
           refine zA 17 (some 48) HT_.out rfl rfl ?_
           refine done_ (done_of HT_.out (by kernel_rfl)) ?_
           try go_wp2
           go_roundg k2
           case measure => have := HJ2.out; have := HK2.out; omega
           case rel => exact ⟨(wrap64 (x26_2 + 1)), (by first | rfl | (simp; done) | (simp [*]; done)), H', ⟨by have := HJ2.out; have := HK2.out; omega⟩, ⟨by (with_reducible repeat (first | refine kn ?_ _ | refine ke ?_ | refine ka ?_ _)); exact BK325.out⟩, ⟨by (with_reducible repeat (first | refine kn ?_ _ | refine ke ?_ | refine ka ?_ _)); exact BK326.out⟩, ⟨zG⟩⟩
          ·replace c21 := Bool.eq_false_iff.mpr c21
           subst c21
           have H1 : (if x26_2 < (l0_9.length : Int) then ((impl_SameView.f k2 ((rd_T117 l1_8 x26_2).f0) ((rd_T117 l0_9 x26_2).f0)).bind fun t332 => (if t332 = true then (impl_OneOf.l0 k2 l1_8 (l1_8.length : Int) (wrap64 (x26_2 + 1)) a0_0 a0_1 a0_2 a0_3 a0_4 l0_5 l0_6 l0_7 l0_8 l0_9 a0_10) else (some false))) else (none)) = some r := by rw [if_neg (show ¬ (false = true) by decide)] at H; exact H
           clear H
           have H := H1
           clear H1
           by_cases c29 : x26_2 < (l0_9.length : Int)
           ·rw [if_pos c29] at H
            have c29b0 : decide (x26_2 < (l0_9.length : Int)) = true := decide_eq_true c29
            clear c29
            replace H := Option.bind_eq_some_iff.mp H
            obtain ⟨t332, A300, H⟩ := H
            replace H : (if t332 = true then (impl_OneOf.l0 k2 l1_8 (l1_8.length : Int) (wrap64 (x26_2 + 1)) a0_0 a0_1 a0_2 a0_3 a0_4 l0_5 l0_6 l0_7 l0_8 l0_9 a0_10) else (some false)) = some r := H
            have A30 := Am A300
            clear A300
            by_cases c31 : t332 = true
            ·subst c31
             have H1 : (impl_OneOf.l0 k2 l1_8 (l1_8.length : Int) (wrap64 (x26_2 + 1)) a0_0 a0_1 a0_2 a0_3 a0_4 l0_5 l0_6 l0_7 l0_8 l0_9 a0_10) = some r := by rw [if_pos rfl] at H; exact H
             clear H
             have H := H1
             clear H1
             have H' := Am H
             clear H
             have p327 : 0 ≤ (x26_2 : Int) := of_decide_eq_true (by first | (with_reducible assumption) | assumption)
             have q327 : x26_2 < (l1_8.length : Int) := of_decide_eq_true (by first | (with_reducible assumption) | assumption)
             obtain ⟨ad327, A327_0, c327_0, e327, hx327_0, hl327_0, hi327_0⟩ := at_T117 HR1_8.out x26_2 p327 q327
             cases e327
             replace hx327_0 := cl8 HB hx327_0
             have HR327_0 := Am hi327_0
             have HC327_0 := Am hl327_0
             clear hi327_0 hl327_0
             replace p327 := eq_true p327
             replace q327 := eq_true q327
             try go_wp2_with (first | ((with_reducible refine gate_dst (N := 6) rfl ?_); (try (refine gate_guard (by rfl) ?_; dsimp only)); refine box_event ?hg (N := 6) ?hd (cs := #[.slice none 0 0]) (t := 117) ?hr ?_; (case hd => rfl); (case hg => rfl); (case hr => first | (go_simp; done) | (go_simp; rfl)); intro gb328 hg w32 hbox hb; have n0_ := Am (zK BK325 hb); have n1_ := Am (zK BK326 hb); have n2_ := Am (bq zG hb); have n3_ := Am (hbox); have n4_ := Am ((by rw [hg]; exact (bz zG) : w.heap.size ≤ gb328)); have n5_ := Am ((by rw [hg]; exact (bz zG) : w.heap.size ≤ gb328)); have n6_ := Am ((by rw [hg]; exact Nat.ne_of_lt (zL BK325) : gb325 ≠ gb328)); have n7_ := Am ((by rw [hg]; exact Nat.ne_of_gt (zL BK325) : gb328 ≠ gb325)); have n8_ := Am ((by rw [hg]; exact Nat.ne_of_lt (zL BK326) : gb326 ≠ gb328)); have n9_ := Am ((by rw [hg]; exact Nat.ne_of_gt (zL BK326) : gb328 ≠ gb326)); clear BK325; clear BK326; clear HB; have BK325 := n0_; have BK326 := n1_; have HB := n2_; have BK328 := n3_; have GW328 := n4_; have GE328 := n5_; have NB325_328 := n6_; have NB328_325 := n7_; have NB326_328 := n8_; have NB328_326 := n9_; clear n0_ n1_ n2_ n3_ n4_ n5_ n6_ n7_ n8_ n9_; clear hb hbox hg; have hnb33 := NB328_325.out; have hnc33 := NB325_328.out; have hnb34 := NB328_326.out; have hnc34 := NB326_328.out; have hcz35_0 : w32.cell? ⟨gb328, 0, none⟩ = some (.slice none 0 0) := (kc BK328.out 0).trans rfl; have hfz35_0 := kf BK328.out))
             have n0_ : Aside0 ((w32.setCell ⟨gb328, 0, none⟩ (.slice A327_0 ((rd_T117 l1_8 x26_2).f0).length c327_0)).heap[gb325]? = some (.cells #[.int .i64 a0_0, .int .i64 a0_1, .int .i64 a0_2, .int .i64 a0_3, .string a0_4, .slice A0_5 l0_5.length c0_5, .slice A0_6 l0_6.length c0_6, .slice A0_7 l0_7.length c0_7, .slice A0_8 l0_8.length c0_8, .slice A0_9 l0_9.length c0_9, .int .i64 a0_10] 57 (0, 0))) := ⟨by (with_reducible repeat (first | refine kn ?_ _ | refine ke ?_ | refine ka ?_ _)); refine blk_far ?_ NB325_328.out _; (with_reducible repeat (first | refine kn ?_ _ | refine ke ?_ | refine ka ?_ _)); exact BK325.out⟩
             have n1_ : Aside0 ((w32.setCell ⟨gb328, 0, none⟩ (.slice A327_0 ((rd_T117 l1_8 x26_2).f0).length c327_0)).heap[gb326]? = some (.cells #[.int .i64 a1_0, .int .i64 a1_1, .int .i64 a1_2, .int .i64 a1_3, .string a1_4, .slice A1_5 l1_5.length c1_5, .slice A1_6 l1_6.length c1_6, .slice A1_7 l1_7.length c1_7, .slice (some ad327) l1_8.length c1_8, .slice A1_9 l1_9.length c1_9, .int .i64 a1_10] 57 (0, 0))) := ⟨by (with_reducible repeat (first | refine kn ?_ _ | refine ke ?_ | refine ka ?_ _)); refine blk_far ?_ NB326_328.out _; (with_reducible repeat (first | refine kn ?_ _ | refine ke ?_ | refine ka ?_ _)); exact BK326.out⟩
             have n2_ : Aside0 ((w32.setCell ⟨gb328, 0, none⟩ (.slice A327_0 ((rd_T117 l1_8 x26_2).f0).length c327_0)).heap[gb328]? = some (.cells #[.slice A327_0 ((rd_T117 l1_8 x26_2).f0).length c327_0] 117 (0, 0))) := ⟨by (with_reducible repeat (first | refine kn ?_ _ | refine ke ?_ | refine ka ?_ _)); refine kp (cs := #[.slice none 0 0]) ?_ 0 _ rfl; (with_reducible repeat (first | refine kn ?_ _ | refine ke ?_ | refine ka ?_ _)); exact BK328.out⟩
             have n3_ : Aside0 (Below w.heap.size w (w32.setCell ⟨gb328, 0, none⟩ (.slice A327_0 ((rd_T117 l1_8 x26_2).f0).length c327_0))) := ⟨zG⟩
             (try clear BK325)
             (try clear BK326)
             (try clear BK328)
             (try clear HB)
             generalize (w32.setCell ⟨gb328, 0, none⟩ (.slice A327_0 ((rd_T117 l1_8 x26_2).f0).length c327_0)) = w36 at n0_ n1_ n2_ n3_ ⊢
             have BK325 := n0_
             have BK326 := n1_
             have BK328 := n2_
             have HB := n3_
             clear n0_ n1_ n2_ n3_
             have n0_ := Am (ke BK325.out)
             have n1_ := Am (ke BK326.out)
             have n2_ := Am (ke BK328.out)
             have n3_ := Am (be HB.out)
             clear BK325
             clear BK326
             clear BK328
             clear HB
             have BK325 := n0_
             have BK326 := n1_
             have BK328 := n2_
             have HB := n3_
             clear n0_ n1_ n2_ n3_
             have p329 : 0 ≤ (x26_2 : Int) := of_decide_eq_true (by first | (with_reducible assumption) | assumption)
             have q329 : x26_2 < (l0_8.length : Int) := of_decide_eq_true (by first | (with_reducible assumption) | assumption)
             obtain ⟨ad329, A329_0, c329_0, e329, hx329_0, hl329_0, hi329_0⟩ := at_T117 HR0_8.out x26_2 p329 q329
             have hw329_0 := hx329_0
             cases e329
             replace hx329_0 := cl8 HB hx329_0
             have HR329_0 := Am hi329_0
             have HC329_0 := Am hl329_0
             clear hi329_0 hl329_0
             replace p329 := eq_true p329
             replace q329 := eq_true q329
             have p331 : 0 ≤ (x26_2 : Int) := of_decide_eq_true (by first | (with_reducible assumption) | assumption)
             have q331 : x26_2 < (l0_9.length : Int) := of_decide_eq_true (by first | (with_reducible assumption) | assumption)
             obtain ⟨ad331, A331_0, c331_0, e331, hx331_0, hl331_0, hi331_0⟩ := at_T117 HR0_9.out x26_2 p331 q331
             have hw331_0 := hx331_0
             cases e331
             replace hx331_0 := cl8 HB hx331_0
             have HR331_0 := Am hi331_0
             have HC331_0 := Am hl331_0
             clear hi331_0 hl331_0
             replace p331 := eq_true p331
             replace q331 := eq_true q331
             refine start_ (n := 18) (S := fun w' => w'.cell? ⟨gb328, 0, none⟩ = some (.slice A327_0 ((rd_T117 l1_8 x26_2).f0).length c327_0) ∧ w'.cell? ⟨gb325, 0, none⟩ = some (.int .i64 a0_0) ∧ w'.cell? ⟨gb325, 1, none⟩ = some (.int .i64 a0_1) ∧ w'.cell? ⟨gb325, 2, none⟩ = some (.int .i64 a0_2) ∧ w'.cell? ⟨gb325, 3, none⟩ = some (.int .i64 a0_3) ∧ w'.cell? ⟨gb325, 4, none⟩ = some (.string a0_4) ∧ w'.cell? ⟨gb325, 5, none⟩ = some (.slice A0_5 l0_5.length c0_5) ∧ w'.cell? ⟨gb325, 6, none⟩ = some (.slice A0_6 l0_6.length c0_6) ∧ w'.cell? ⟨gb325, 7, none⟩ = some (.slice A0_7 l0_7.length c0_7) ∧ w'.cell? ⟨gb325, 8, none⟩ = some (.slice (some ad329) l0_8.length c0_8) ∧ w'.cell? ⟨gb325, 9, none⟩ = some (.slice (some ad331) l0_9.length c0_9) ∧ w'.cell? ⟨gb325, 10, none⟩ = some (.int .i64 a0_10) ∧ w'.cell? (ad329.add (x26_2).toNat) = some (.slice A329_0 ((rd_T117 l0_8 x26_2).f0).length c329_0) ∧ w'.cell? (ad331.add (x26_2).toNat) = some (.slice A331_0 ((rd_T117 l0_9 x26_2).f0).length c331_0)) (ds := []) #[false, false, false, false, false, false, false, false, false, false, false, false, false, false, false, false, false, false] (by kernel_rfl) rfl rfl ⟨(kc BK328.out 0).trans rfl, (kc BK325.out 0).trans rfl, (kc BK325.out 1).trans rfl, (kc BK325.out 2).trans rfl, (kc BK325.out 3).trans rfl, (kc BK325.out 4).trans rfl, (kc BK325.out 5).trans rfl, (kc BK325.out 6).trans rfl, (kc BK325.out 7).trans rfl, (kc BK325.out 8).trans rfl, (kc BK325.out 9).trans rfl, (kc BK325.out 10).trans rfl, (cl8 HB hw329_0), (cl8 HB hw331_0)⟩ (fun hHeld => ?_); refine with_tabW impl_OneOf.tab6 impl_OneOf.bits6 (fun HT_ HW_ => ?_)
             generalize w36.drew = w37 at BK325 BK326 BK328 HB HR329_0 HR331_0 hx329_0 hx331_0 hHeld ⊢
             refine zA 1 (some 32) HT_.out rfl rfl ?_
             refine zA 3 (some 34) HT_.out rfl rfl ?_
             refine zT 0 (some 31) HT_.out HW_.out rfl rfl hHeld ?_
             refine zT 2 (some 33) HT_.out HW_.out rfl rfl hHeld ?_
             refine zA 4 (some 35) HT_.out rfl rfl ?_
             refine zT 5 (some 36) HT_.out HW_.out rfl rfl hHeld ?_
             refine zO 6 (some 37) HT_.out rfl rfl (fun K hK => ?_)
             refine goes_ Try.func75 (by kernel_rfl) rfl #[.agg #[.slice A327_0 ((rd_T117 l1_8 x26_2).f0).length c327_0], .agg #[.slice A329_0 ((rd_T117 l0_8 x26_2).f0).length c329_0]] (by rfl) rfl rfl (by (try simp only [List.map_toArray, List.map_cons, List.map_nil]); first | done | rfl | (simp only [List.length_drop, List.length_take]; rfl)) ?_
             with_reducible refine (impl_SameView.calls k2 _ _ ((rd_T117 l1_8 x26_2).f0) _ _ ((rd_T117 l0_8 x26_2).f0) false _ ?side1 ?side2 ?side3 ?side4 A20.out).mono ?_
             (case side1 => repeat (first | exact (cb HR327_0.out HB.out) | (with_reducible first | refine ca ?_ _ | refine cn ?_ _ | refine ce ?_)))
             (case side2 => exact HC327_0.out)
             (case side3 => repeat (first | exact (cb HR329_0.out HB.out) | (with_reducible first | refine ca ?_ _ | refine cn ?_ _ | refine ce ?_)))
             (case side4 => exact HC329_0.out)
             rintro e w38 ⟨rfl, hb⟩
             refine ⟨_, rfl, ?_⟩
             have n0_ := Am (zK BK325 hb)
             have n1_ := Am (zK BK326 hb)
             have n2_ := Am (zK BK328 hb)
             have n3_ := Am (bq zG hb)
             clear BK325
             clear BK326
             clear BK328
             clear HB
             have BK325 := n0_
             have BK326 := n1_
             have BK328 := n2_
             have HB := n3_
             clear n0_ n1_ n2_ n3_
             (try clear hb)
             (try clear hb2)
             (try clear hk)
             (try clear hi)
             refine hK.out _ _ ⟨(kc BK328.out 0).trans rfl, (kc BK325.out 0).trans rfl, (kc BK325.out 1).trans rfl, (kc BK325.out 2).trans rfl, (kc BK325.out 3).trans rfl, (kc BK325.out 4).trans rfl, (kc BK325.out 5).trans rfl, (kc BK325.out 6).trans rfl, (kc BK325.out 7).trans rfl, (kc BK325.out 8).trans rfl, (kc BK325.out 9).trans rfl, (kc BK325.out 10).trans rfl, (cl8 HB hw329_0 :), (cl8 HB hw331_0 :)⟩ (fun hHeld => ?_)
             clear hK K
             refine zN (some 37) ?_
             refine zA 7 (some 38) HT_.out rfl rfl ?_
             refine zA 8 (some 39) HT_.out rfl rfl ?_
             refine zA 10 (some 41) HT_.out rfl rfl ?_
             refine zA 12 (some 43) HT_.out rfl rfl ?_
             refine zT 9 (some 40) HT_.out HW_.out rfl rfl hHeld ?_
             refine zT 11 (some 42) HT_.out HW_.out rfl rfl hHeld ?_
             refine zA 13 (some 44) HT_.out rfl rfl ?_
             refine zT 14 (some 45) HT_.out HW_.out rfl rfl hHeld ?_
             refine zO 15 (some 46) HT_.out rfl rfl (fun K hK => ?_)
             refine goes_ Try.func75 (by kernel_rfl) rfl #[.agg #[.slice A327_0 ((rd_T117 l1_8 x26_2).f0).length c327_0], .agg #[.slice A331_0 ((rd_T117 l0_9 x26_2).f0).length c331_0]] (by rfl) rfl rfl (by (try simp only [List.map_toArray, List.map_cons, List.map_nil]); first | done | rfl | (simp only [List.length_drop, List.length_take]; rfl)) ?_
             with_reducible refine (impl_SameView.calls k2 _ _ ((rd_T117 l1_8 x26_2).f0) _ _ ((rd_T117 l0_9 x26_2).f0) true _ ?side1 ?side2 ?side3 ?side4 A30.out).mono ?_
             (case side1 => repeat (first | exact (cb HR327_0.out HB.out) | (with_reducible first | refine ca ?_ _ | refine cn ?_ _ | refine ce ?_)))
             (case side2 => exact HC327_0.out)
             (case side3 => repeat (first | exact (cb HR331_0.out HB.out) | (with_reducible first | refine ca ?_ _ | refine cn ?_ _ | refine ce ?_)))
             (case side4 => exact HC331_0.out)
             rintro e w39 ⟨rfl, hb⟩
             refine ⟨_, rfl, ?_⟩
             have n0_ := Am (zK BK325 hb)
             have n1_ := Am (zK BK326 hb)
             have n2_ := Am (zK BK328 hb)
             have n3_ := Am (bq zG hb)
             clear BK325
             clear BK326
             clear BK328
             clear HB
             have BK325 := n0_
             have BK326 := n1_
             have BK328 := n2_
             have HB := n3_
             clear n0_ n1_ n2_ n3_
             (try clear hb)
             (try clear hb2)
             (try clear hk)
             (try clear hi)
             refine hK.out _ _ ⟨(kc BK328.out 0).trans rfl, (kc BK325.out 0).trans rfl, (kc BK325.out 1).trans rfl, (kc BK325.out 2).trans rfl, (kc BK325.out 3).trans rfl, (kc BK325.out 4).trans rfl, (kc BK325.out 5).trans rfl, (kc BK325.out 6).trans rfl, (kc BK325.out 7).trans rfl, (kc BK325.out 8).trans rfl, (kc BK325.out 9).trans rfl, (kc BK325.out 10).trans rfl, (cl8 HB hw329_0 :), (cl8 HB hw331_0 :)⟩ (fun hHeld => ?_)
             clear hK K
             refine zN (some 46) ?_
             refine zA 16 (some 47) HT_.out rfl rfl ?_
             refine zA 17 (some 48) HT_.out rfl rfl ?_
             refine done_ (done_of HT_.out (by kernel_rfl)) ?_
             try go_wp2
             go_roundg k2
             case measure => have := HJ2.out; have := HK2.out; omega
             case rel => exact ⟨(wrap64 (x26_2 + 1)), (by first | rfl | (simp; done) | (simp [*]; done)), H', ⟨by have := HJ2.out; have := HK2.out; omega⟩, ⟨by (with_reducible repeat (first | refine kn ?_ _ | refine ke ?_ | refine ka ?_ _)); exact BK325.out⟩, ⟨by (with_reducible repeat (first | refine kn ?_ _ | refine ke ?_ | refine ka ?_ _)); exact BK326.out⟩, ⟨zG⟩⟩
            ·replace c31 := Bool.eq_false_iff.mpr c31
             subst c31
             have H1 : (some false) = some r := by rw [if_neg (show ¬ (false = true) by decide)] at H; exact H
             clear H
             have H := H1
             clear H1
             obtain rfl := Option.some.inj H
             have p327 : 0 ≤ (x26_2 : Int) := of_decide_eq_true (by first | (with_reducible assumption) | assumption)
             have q327 : x26_2 < (l1_8.length : Int) := of_decide_eq_true (by first | (with_reducible assumption) | assumption)
             obtain ⟨ad327, A327_0, c327_0, e327, hx327_0, hl327_0, hi327_0⟩ := at_T117 HR1_8.out x26_2 p327 q327
             cases e327
             replace hx327_0 := cl8 HB hx327_0
             have HR327_0 := Am hi327_0
             have HC327_0 := Am hl327_0
             clear hi327_0 hl327_0
             replace p327 := eq_true p327
             replace q327 := eq_true q327
             try go_wp2_with (first | ((with_reducible refine gate_dst (N := 6) rfl ?_); (try (refine gate_guard (by rfl) ?_; dsimp only)); refine box_event ?hg (N := 6) ?hd (cs := #[.slice none 0 0]) (t := 117) ?hr ?_; (case hd => rfl); (case hg => rfl); (case hr => first | (go_simp; done) | (go_simp; rfl)); intro gb328 hg w40 hbox hb; have n0_ := Am (zK BK325 hb); have n1_ := Am (zK BK326 hb); have n2_ := Am (bq zG hb); have n3_ := Am (hbox); have n4_ := Am ((by rw [hg]; exact (bz zG) : w.heap.size ≤ gb328)); have n5_ := Am ((by rw [hg]; exact (bz zG) : w.heap.size ≤ gb328)); have n6_ := Am ((by rw [hg]; exact Nat.ne_of_lt (zL BK325) : gb325 ≠ gb328)); have n7_ := Am ((by rw [hg]; exact Nat.ne_of_gt (zL BK325) : gb328 ≠ gb325)); have n8_ := Am ((by rw [hg]; exact Nat.ne_of_lt (zL BK326) : gb326 ≠ gb328)); have n9_ := Am ((by rw [hg]; exact Nat.ne_of_gt (zL BK326) : gb328 ≠ gb326)); clear BK325; clear BK326; clear HB; have BK325 := n0_; have BK326 := n1_; have HB := n2_; have BK328 := n3_; have GW328 := n4_; have GE328 := n5_; have NB325_328 := n6_; have NB328_325 := n7_; have NB326_328 := n8_; have NB328_326 := n9_; clear n0_ n1_ n2_ n3_ n4_ n5_ n6_ n7_ n8_ n9_; clear hb hbox hg; have hnb41 := NB328_325.out; have hnc41 := NB325_328.out; have hnb42 := NB328_326.out; have hnc42 := NB326_328.out; have hcz43_0 : w40.cell? ⟨gb328, 0, none⟩ = some (.slice none 0 0) := (kc BK328.out 0).trans rfl; have hfz43_0 := kf BK328.out))
             have n0_ : Aside0 ((w40.setCell ⟨gb328, 0, none⟩ (.slice A327_0 ((rd_T117 l1_8 x26_2).f0).length c327_0)).heap[gb325]? = some (.cells #[.int .i64 a0_0, .int .i64 a0_1, .int .i64 a0_2, .int .i64 a0_3, .string a0_4, .slice A0_5 l0_5.length c0_5, .slice A0_6 l0_6.length c0_6, .slice A0_7 l0_7.length c0_7, .slice A0_8 l0_8.length c0_8, .slice A0_9 l0_9.length c0_9, .int .i64 a0_10] 57 (0, 0))) := ⟨by (with_reducible repeat (first | refine kn ?_ _ | refine ke ?_ | refine ka ?_ _)); refine blk_far ?_ NB325_328.out _; (with_reducible repeat (first | refine kn ?_ _ | refine ke ?_ | refine ka ?_ _)); exact BK325.out⟩
             have n1_ : Aside0 ((w40.setCell ⟨gb328, 0, none⟩ (.slice A327_0 ((rd_T117 l1_8 x26_2).f0).length c327_0)).heap[gb326]? = some (.cells #[.int .i64 a1_0, .int .i64 a1_1, .int .i64 a1_2, .int .i64 a1_3, .string a1_4, .slice A1_5 l1_5.length c1_5, .slice A1_6 l1_6.length c1_6, .slice A1_7 l1_7.length c1_7, .slice (some ad327) l1_8.length c1_8, .slice A1_9 l1_9.length c1_9, .int .i64 a1_10] 57 (0, 0))) := ⟨by (with_reducible repeat (first | refine kn ?_ _ | refine ke ?_ | refine ka ?_ _)); refine blk_far ?_ NB326_328.out _; (with_reducible repeat (first | refine kn ?_ _ | refine ke ?_ | refine ka ?_ _)); exact BK326.out⟩
             have n2_ : Aside0 ((w40.setCell ⟨gb328, 0, none⟩ (.slice A327_0 ((rd_T117 l1_8 x26_2).f0).length c327_0)).heap[gb328]? = some (.cells #[.slice A327_0 ((rd_T117 l1_8 x26_2).f0).length c327_0] 117 (0, 0))) := ⟨by (with_reducible repeat (first | refine kn ?_ _ | refine ke ?_ | refine ka ?_ _)); refine kp (cs := #[.slice none 0 0]) ?_ 0 _ rfl; (with_reducible repeat (first | refine kn ?_ _ | refine ke ?_ | refine ka ?_ _)); exact BK328.out⟩
             have n3_ : Aside0 (Below w.heap.size w (w40.setCell ⟨gb328, 0, none⟩ (.slice A327_0 ((rd_T117 l1_8 x26_2).f0).length c327_0))) := ⟨zG⟩
             (try clear BK325)
             (try clear BK326)
             (try clear BK328)
             (try clear HB)
             generalize (w40.setCell ⟨gb328, 0, none⟩ (.slice A327_0 ((rd_T117 l1_8 x26_2).f0).length c327_0)) = w44 at n0_ n1_ n2_ n3_ ⊢
             have BK325 := n0_
             have BK326 := n1_
             have BK328 := n2_
             have HB := n3_
             clear n0_ n1_ n2_ n3_
             have n0_ := Am (ke BK325.out)
             have n1_ := Am (ke BK326.out)
             have n2_ := Am (ke BK328.out)
             have n3_ := Am (be HB.out)
             clear BK325
             clear BK326
             clear BK328
             clear HB
             have BK325 := n0_
             have BK326 := n1_
             have BK328 := n2_
             have HB := n3_
             clear n0_ n1_ n2_ n3_
             have p329 : 0 ≤ (x26_2 : Int) := of_decide_eq_true (by first | (with_reducible assumption) | assumption)
             have q329 : x26_2 < (l0_8.length : Int) := of_decide_eq_true (by first | (with_reducible assumption) | assumption)
             obtain ⟨ad329, A329_0, c329_0, e329, hx329_0, hl329_0, hi329_0⟩ := at_T117 HR0_8.out x26_2 p329 q329
             have hw329_0 := hx329_0
             cases e329
             replace hx329_0 := cl8 HB hx329_0
             have HR329_0 := Am hi329_0
             have HC329_0 := Am hl329_0
             clear hi329_0 hl329_0
             replace p329 := eq_true p329
             replace q329 := eq_true q329
             have p331 : 0 ≤ (x26_2 : Int) := of_decide_eq_true (by first | (with_reducible assumption) | assumption)
             have q331 : x26_2 < (l0_9.length : Int) := of_decide_eq_true (by first | (with_reducible assumption) | assumption)
             obtain ⟨ad331, A331_0, c331_0, e331, hx331_0, hl331_0, hi331_0⟩ := at_T117 HR0_9.out x26_2 p331 q331
             have hw331_0 := hx331_0
             cases e331
             replace hx331_0 := cl8 HB hx331_0
             have HR331_0 := Am hi331_0
             have HC331_0 := Am hl331_0
             clear hi331_0 hl331_0
             replace p331 := eq_true p331
             replace q331 := eq_true q331
             refine start_ (n := 18) (S := fun w' => w'.cell? ⟨gb328, 0, none⟩ = some (.slice A327_0 ((rd_T117 l1_8 x26_2).f0).length c327_0) ∧ w'.cell? ⟨gb325, 0, none⟩ = some (.int .i64 a0_0) ∧ w'.cell? ⟨gb325, 1, none⟩ = some (.int .i64 a0_1) ∧ w'.cell? ⟨gb325, 2, none⟩ = some (.int .i64 a0_2) ∧ w'.cell? ⟨gb325, 3, none⟩ = some (.int .i64 a0_3) ∧ w'.cell? ⟨gb325, 4, none⟩ = some (.string a0_4) ∧ w'.cell? ⟨gb325, 5, none⟩ = some (.slice A0_5 l0_5.length c0_5) ∧ w'.cell? ⟨gb325, 6, none⟩ = some (.slice A0_6 l0_6.length c0_6) ∧ w'.cell? ⟨gb325, 7, none⟩ = some (.slice A0_7 l0_7.length c0_7) ∧ w'.cell? ⟨gb325, 8, none⟩ = some (.slice (some ad329) l0_8.length c0_8) ∧ w'.cell? ⟨gb325, 9, none⟩ = some (.slice (some ad331) l0_9.length c0_9) ∧ w'.cell? ⟨gb325, 10, none⟩ = some (.int .i64 a0_10) ∧ w'.cell? (ad329.add (x26_2).toNat) = some (.slice A329_0 ((rd_T117 l0_8 x26_2).f0).length c329_0) ∧ w'.cell? (ad331.add (x26_2).toNat) = some (.slice A331_0 ((rd_T117 l0_9 x26_2).f0).length c331_0)) (ds := []) #[false, false, false, false, false, false, false, false, false, false, false, false, false, false, false, false, false, false] (by kernel_rfl) rfl rfl ⟨(kc BK328.out 0).trans rfl, (kc BK325.out 0).trans rfl, (kc BK325.out 1).trans rfl, (kc BK325.out 2).trans rfl, (kc BK325.out 3).trans rfl, (kc BK325.out 4).trans rfl, (kc BK325.out 5).trans rfl, (kc BK325.out 6).trans rfl, (kc BK325.out 7).trans rfl, (kc BK325.out 8).trans rfl, (kc BK325.out 9).trans rfl, (kc BK325.out 10).trans rfl, (cl8 HB hw329_0), (cl8 HB hw331_0)⟩ (fun hHeld => ?_); refine with_tabW impl_OneOf.tab6 impl_OneOf.bits6 (fun HT_ HW_ => ?_)
             generalize w44.drew = w45 at BK325 BK326 BK328 HB HR329_0 HR331_0 hx329_0 hx331_0 hHeld ⊢
             refine zA 1 (some 32) HT_.out rfl rfl ?_
             refine zA 3 (some 34) HT_.out rfl rfl ?_
             refine zT 0 (some 31) HT_.out HW_.out rfl rfl hHeld ?_
             refine zT 2 (some 33) HT_.out HW_.out rfl rfl hHeld ?_
             refine zA 4 (some 35) HT_.out rfl rfl ?_
             refine zT 5 (some 36) HT_.out HW_.out rfl rfl hHeld ?_
             refine zO 6 (some 37) HT_.out rfl rfl (fun K hK => ?_)
             refine goes_ Try.func75 (by kernel_rfl) rfl #[.agg #[.slice A327_0 ((rd_T117 l1_8 x26_2).f0).length c327_0], .agg #[.slice A329_0 ((rd_T117 l0_8 x26_2).f0).length c329_0]] (by rfl) rfl rfl (by (try simp only [List.map_toArray, List.map_cons, List.map_nil]); first | done | rfl | (simp only [List.length_drop, List.length_take]; rfl)) ?_
             with_reducible refine (impl_SameView.calls k2 _ _ ((rd_T117 l1_8 x26_2).f0) _ _ ((rd_T117 l0_8 x26_2).f0) false _ ?side1 ?side2 ?side3 ?side4 A20.out).mono ?_
             (case side1 => repeat (first | exact (cb HR327_0.out HB.out) | (with_reducible first | refine ca ?_ _ | refine cn ?_ _ | refine ce ?_)))
             (case side2 => exact HC327_0.out)
             (case side3 => repeat (first | exact (cb HR329_0.out HB.out) | (with_reducible first | refine ca ?_ _ | refine cn ?_ _ | refine ce ?_)))
             (case side4 => exact HC329_0.out)
             rintro e w46 ⟨rfl, hb⟩
             refine ⟨_, rfl, ?_⟩
             have n0_ := Am (zK BK325 hb)
             have n1_ := Am (zK BK326 hb)
             have n2_ := Am (zK BK328 hb)
             have n3_ := Am (bq zG hb)
             clear BK325
             clear BK326
             clear BK328
             clear HB
             have BK325 := n0_
             have BK326 := n1_
             have BK328 := n2_
             have HB := n3_
             clear n0_ n1_ n2_ n3_
             (try clear hb)
             (try clear hb2)
             (try clear hk)
             (try clear hi)
             refine hK.out _ _ ⟨(kc BK328.out 0).trans rfl, (kc BK325.out 0).trans rfl, (kc BK325.out 1).trans rfl, (kc BK325.out 2).trans rfl, (kc BK325.out 3).trans rfl, (kc BK325.out 4).trans rfl, (kc BK325.out 5).trans rfl, (kc BK325.out 6).trans rfl, (kc BK325.out 7).trans rfl, (kc BK325.out 8).trans rfl, (kc BK325.out 9).trans rfl, (kc BK325.out 10).trans rfl, (cl8 HB hw329_0 :), (cl8 HB hw331_0 :)⟩ (fun hHeld => ?_)
             clear hK K
             refine zN (some 37) ?_
             refine zA 7 (some 38) HT_.out rfl rfl ?_
             refine zA 8 (some 39) HT_.out rfl rfl ?_
             refine zA 10 (some 41) HT_.out rfl rfl ?_
             refine zA 12 (some 43) HT_.out rfl rfl ?_
             refine zT 9 (some 40) HT_.out HW_.out rfl rfl hHeld ?_
             refine zT 11 (some 42) HT_.out HW_.out rfl rfl hHeld ?_
             refine zA 13 (some 44) HT_.out rfl rfl ?_
             refine zT 14 (some 45) HT_.out HW_.out rfl rfl hHeld ?_
             refine zO 15 (some 46) HT_.out rfl rfl (fun K hK => ?_)
             refine goes_ Try.func75 (by kernel_rfl) rfl #[.agg #[.slice A327_0 ((rd_T117 l1_8 x26_2).f0).length c327_0], .agg #[.slice A331_0 ((rd_T117 l0_9 x26_2).f0).length c331_0]] (by rfl) rfl rfl (by (try simp only [List.map_toArray, List.map_cons, List.map_nil]); first | done | rfl | (simp only [List.length_drop, List.length_take]; rfl)) ?_
             with_reducible refine (impl_SameView.calls k2 _ _ ((rd_T117 l1_8 x26_2).f0) _ _ ((rd_T117 l0_9 x26_2).f0) false _ ?side1 ?side2 ?side3 ?side4 A30.out).mono ?_
             (case side1 => repeat (first | exact (cb HR327_0.out HB.out) | (with_reducible first | refine ca ?_ _ | refine cn ?_ _ | refine ce ?_)))
             (case side2 => exact HC327_0.out)
             (case side3 => repeat (first | exact (cb HR331_0.out HB.out) | (with_reducible first | refine ca ?_ _ | refine cn ?_ _ | refine ce ?_)))
             (case side4 => exact HC331_0.out)
             rintro e w47 ⟨rfl, hb⟩
             refine ⟨_, rfl, ?_⟩
             have n0_ := Am (zK BK325 hb)
             have n1_ := Am (zK BK326 hb)
             have n2_ := Am (zK BK328 hb)
             have n3_ := Am (bq zG hb)
             clear BK325
             clear BK326
             clear BK328
             clear HB
             have BK325 := n0_
             have BK326 := n1_
             have BK328 := n2_
             have HB := n3_
             clear n0_ n1_ n2_ n3_
             (try clear hb)
             (try clear hb2)
             (try clear hk)
             (try clear hi)
             refine hK.out _ _ ⟨(kc BK328.out 0).trans rfl, (kc BK325.out 0).trans rfl, (kc BK325.out 1).trans rfl, (kc BK325.out 2).trans rfl, (kc BK325.out 3).trans rfl, (kc BK325.out 4).trans rfl, (kc BK325.out 5).trans rfl, (kc BK325.out 6).trans rfl, (kc BK325.out 7).trans rfl, (kc BK325.out 8).trans rfl, (kc BK325.out 9).trans rfl, (kc BK325.out 10).trans rfl, (cl8 HB hw329_0 :), (cl8 HB hw331_0 :)⟩ (fun hHeld => ?_)
             clear hK K
             refine zN (some 46) ?_
             refine zA 16 (some 47) HT_.out rfl rfl ?_
             refine zA 17 (some 48) HT_.out rfl rfl ?_
             refine done_ (done_of HT_.out (by kernel_rfl)) ?_
             try go_wp2
             go_ret
             exact ⟨zR, zG⟩
           ·rw [if_neg c29] at H
            exact absurd H (by simp)
         ·rw [if_neg c19] at H
          exact absurd H (by simp)
        ·rw [if_neg c18] at H
         exact absurd H (by simp)
       ·rw [if_neg c17] at H
        exact absurd H (by simp)
      ·rw [if_neg c16] at H
       have c16b0 : decide (x26_2 < (l1_8.length : Int)) = false := decide_eq_false c16
       clear c16
       obtain rfl := Option.some.inj H
       go_wp2
       go_ret
       exact ⟨zR, zG⟩

end Go.Proofs.Ytconffflmbakgaa.QFnExactOneOf
