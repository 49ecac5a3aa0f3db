/- Go functions as Lean functions, and their contracts. Own text: written by wip/gen/pr.py (a turned copy of the print). -/
import Derived.Test.YtconffflmbakgaaQFnExactMaskedImagex0
import Derived.Test.YtconffflmbakgaaQFnExactMaskedImagex6
import Derived.Test.YtconffflmbakgaaQFnExactMaskedImagex8
namespace Go.Proofs.Ytconffflmbakgaa.QFnExactMaskedImage
open Go.RowKit Go.Proofs.YtconffflmbakgaaW.PrintWords Go.Proofs.YtconffflmbakgaaW.PrintLast Go.Proofs.YtconffflmbakgaaW.PrintMore
attribute [local go_sem] max2_int min2_int max_two min_two max_three min_three max_four min_four   -- for this text's walks alone
open Go.Proofs.YtconffflmbakgaaW.PrintWords renaming below_alloc → ba, pw_below_drewN → bn, below_drew1 → be, below_set → bs, blk_drewN → kn, blk_drew → ke, blk_alloc → ka, blk_below → kb, blk_frozen → kf, blk_cell → kc, below_step → bq, below_size → bz
open Go.Proofs.YtconffflmbakgaaW.PrintWords.Aside0 renaming mk → Am
set_option linter.unusedVariables false
set_option linter.unusedSimpArgs false

def o10b0 (p0 : Int) (p1 : Int) (p2 : Int) (p3 : Int) : Obj := .cells #[.int .i64 p0, .int .i64 p1, .int .i64 p2, .int .i64 p3] 29 (0, 0)
/-! ### impl_PartAt: function 107 -/
def impl_PartAt.j0 : Nat → Int → Bool → Int → Int → Int → Int → Option (Int × Int)
 | 0, _, _, _, _, _, _ => none
 | k + 1, x1, x21, x257000, x257001, x257002, x257003 => if x21 = true then (some ((-1), 0)) else ((impl_Geo_partWords.f x257000 x257001 x257002 x257003).bind fun t260 => (if t260 = 0 then (none) else (if (Int.tmod x1 t260) = 0 then ((impl_Geo_partWords.f x257000 x257001 x257002 x257003).bind fun t261 => (if t261 = 0 then (none) else (some (wrap64 (Int.tdiv x1 t261), 1)))) else (if (Int.tmod x1 t260) = 2 then ((impl_Geo_partWords.f x257000 x257001 x257002 x257003).bind fun t262 => (if t262 = 0 then (none) else (some (wrap64 (Int.tdiv x1 t262), 2)))) else (if (Int.tmod x1 t260) < 4 then ((impl_Geo_partWords.f x257000 x257001 x257002 x257003).bind fun t263 => (if t263 = 0 then (none) else (some (wrap64 (Int.tdiv x1 t263), 0)))) else (if (Int.tmod x1 t260) < 36 then ((impl_Geo_partWords.f x257000 x257001 x257002 x257003).bind fun t264 => (if t264 = 0 then (none) else (some (wrap64 (Int.tdiv x1 t264), 3)))) else (if (Int.tmod x1 t260) < 38 then ((impl_Geo_partWords.f x257000 x257001 x257002 x257003).bind fun t265 => (if t265 = 0 then (none) else (some (wrap64 (Int.tdiv x1 t265), 4)))) else (if (Int.tmod x1 t260) < (wrap64 (38 + (wrap64 (8 * x257002)))) then ((impl_Geo_partWords.f x257000 x257001 x257002 x257003).bind fun t266 => (if t266 = 0 then (none) else (some (wrap64 (Int.tdiv x1 t266), 5)))) else ((impl_Geo_partWords.f x257000 x257001 x257002 x257003).bind fun t267 => (if t267 = 0 then (none) else (some (wrap64 (Int.tdiv x1 t267), 6))))))))))))
def impl_PartAt.f (k : Nat) (a0_0 : Int) (a0_1 : Int) (a0_2 : Int) (a0_3 : Int) (a1 : Int) : Option (Int × Int) := (impl_GeoOk.f a0_0 a0_1 a0_2 a0_3).bind fun t257 => (if t257 = true then ((impl_Geo_partWords.f a0_0 a0_1 a0_2 a0_3).bind fun t258 => ((impl_within.f a1 0 (wrap64 ((wrap64 (a0_0 * t258)) - 1))).bind fun t259 => (impl_PartAt.j0 k a1 (!t259) a0_0 a0_1 a0_2 a0_3))) else (impl_PartAt.j0 k a1 true a0_0 a0_1 a0_2 a0_3))
theorem impl_PartAt.mono_l : ∀ k, (∀ y0 y1 y2 y3 y4 y5, LeO (impl_PartAt.j0 k y0 y1 y2 y3 y4 y5) (impl_PartAt.j0 (k + 1) y0 y1 y2 y3 y4 y5))
 | 0 => fun _ _ _ _ _ _ r h => by simp [impl_PartAt.j0] at h
 | k + 1 => by
  have ih0 := impl_PartAt.mono_l k
  ·intro y0 y1 y2 y3 y4 y5
   unfold impl_PartAt.j0
   repeat' first
   | (with_reducible exact ih0 _ _ _ _ _ _)
   | (with_reducible exact LeO.refl _)
   | (with_reducible exact LeO.none _)
   | (with_reducible refine LeO.ite ?_ ?_)
   | (with_reducible refine LeO.bind ?_ (fun _ => ?_))
   | exact ih0 _ _ _ _ _ _
   | exact LeO.none _
   | refine LeO.ite ?_ ?_
   | refine LeO.bind ?_ (fun _ => ?_)
theorem impl_PartAt.mono : ∀ a0 a1 a2 a3 a4 k, LeO (impl_PartAt.f k a0 a1 a2 a3 a4) (impl_PartAt.f (k + 1) a0 a1 a2 a3 a4) := by
 intro a0 a1 a2 a3 a4 k
 have ih0 := impl_PartAt.mono_l k
 unfold impl_PartAt.f
 repeat' first
   | (with_reducible exact ih0 _ _ _ _ _ _)
   | (with_reducible exact LeO.refl _)
   | (with_reducible exact LeO.none _)
   | (with_reducible refine LeO.ite ?_ ?_)
   | (with_reducible refine LeO.bind ?_ (fun _ => ?_))
   | exact ih0 _ _ _ _ _ _
   | exact LeO.none _
   | refine LeO.ite ?_ ?_
   | refine LeO.bind ?_ (fun _ => ?_)
def impl_PartAt.T1 : Bool × List (List Nat × List Nat) := (true, [([], []), ([0], [0]), ([1], [1]), ([2, 1], [2]), ([3], [3]), ([3], [3]), ([5, 3], [3, 5]), ([3], [3]), ([7, 3, 3], [3, 7]), ([6, 8, 3], [3, 6, 8]), ([9, 3], [3, 9]), ([4, 10, 8, 3], [3, 4, 10]), ([11, 3], [3, 11]), ([3, 12], [3, 12])])
def impl_PartAt.B1 : List Nat := [0, 1, 3, 7, 15, 15, 47, 15, 143, 495, 1007, 2047, 4095, 8191]
theorem impl_PartAt.tab1 : rtab .any (opsOf Try.f107 1) = impl_PartAt.T1 := by kernel_rfl
theorem impl_PartAt.bits1 : waitsOk impl_PartAt.T1.2 impl_PartAt.B1 = true := by kernel_rfl
set_option maxHeartbeats 8000000 in
set_option maxRecDepth 100000 in
theorem impl_PartAt.calls (k : Nat) (a0_0 : Int) (a0_1 : Int) (a0_2 : Int) (a0_3 : Int) (a1 : Int) (r1 : Int) (r2 : Int) (w : World) (h : impl_PartAt.f k a0_0 a0_1 a0_2 a0_3 a1 = some (r1, r2)) :
  Calls Try.prog 107 #[.agg #[.int .i64 a0_0, .int .i64 a0_1, .int .i64 a0_2, .int .i64 a0_3], .int .i64 a1] w fun e w' => e = .returned (.tuple #[.int .i64 r1, .int .i64 r2]) ∧ Below w.heap.size w w' := by
 have hu29 := Try.underlying29
 have HB := Am (Below.refl w.heap.size w)
 have H : ((impl_GeoOk.f a0_0 a0_1 a0_2 a0_3).bind fun t257 => (if t257 = true then ((impl_Geo_partWords.f a0_0 a0_1 a0_2 a0_3).bind fun t258 => ((impl_within.f a1 0 (wrap64 ((wrap64 (a0_0 * t258)) - 1))).bind fun t259 => (impl_PartAt.j0 k a1 (!t259) a0_0 a0_1 a0_2 a0_3))) else (impl_PartAt.j0 k a1 true a0_0 a0_1 a0_2 a0_3))) = some (r1, r2) := h
 clear h
 have HC3 := Am H
 clear H
 go_enter Try.func107, Try.ntmps107
 go_upto_region 1 with (first | ((with_reducible refine gate_dst (N := 2) rfl ?_); refine box_event ?hg (N := 2) ?hd (cs := #[.int .i64 a0_0, .int .i64 a0_1, .int .i64 a0_2, .int .i64 a0_3]) (t := 29) ?hr ?_; (case hd => rfl); (case hg => rfl); (case hr => first | (go_simp; done) | (go_simp; rfl)); intro gb256 hg w4 hbox hb; have BK256 := Am (hbox); have GW256 := Am ((by rw [hg]; exact (bz zB) : w.heap.size ≤ gb256)); have GE256 := Am ((by rw [hg]; exact (bz zB) : w.heap.size ≤ gb256)); replace HB := Am (bq zB hb); clear hb hbox hg))
 (try simp only [Act.put, List.setIfInBounds_toArray, List.set_cons_zero, List.set_cons_succ])
 go_cut [21] (fun v21 wc => ∃ (kq : Nat) (x21_2 : Bool), v21 = .bool x21_2 ∧ Aside0 (impl_PartAt.j0 kq a1 x21_2 a0_0 a0_1 a0_2 a0_3 = some (r1, r2)) ∧ Aside0 (kq ≤ k) ∧ Aside0 (wc.heap[gb256]? = some (.cells #[.int .i64 a0_0, .int .i64 a0_1, .int .i64 a0_2, .int .i64 a0_3] 29 (0, 0))) ∧ Aside0 (Below w.heap.size w wc))
 case first =>
  have H := HC3.out
  clear HC3
  replace H := Option.bind_eq_some_iff.mp H
  obtain ⟨t257, A50, H⟩ := H
  replace H : (if t257 = true then ((impl_Geo_partWords.f a0_0 a0_1 a0_2 a0_3).bind fun t258 => ((impl_within.f a1 0 (wrap64 ((wrap64 (a0_0 * t258)) - 1))).bind fun t259 => (impl_PartAt.j0 k a1 (!t259) a0_0 a0_1 a0_2 a0_3))) else (impl_PartAt.j0 k a1 true a0_0 a0_1 a0_2 a0_3)) = some (r1, r2) := H
  have A5 := Am A50
  clear A50
  by_cases c6 : t257 = true
  ·subst c6
   have H1 : ((impl_Geo_partWords.f a0_0 a0_1 a0_2 a0_3).bind fun t258 => ((impl_within.f a1 0 (wrap64 ((wrap64 (a0_0 * t258)) - 1))).bind fun t259 => (impl_PartAt.j0 k a1 (!t259) a0_0 a0_1 a0_2 a0_3))) = some (r1, r2) := by rw [if_pos rfl] at H; exact H
   clear H
   have H := H1
   clear H1
   replace H := Option.bind_eq_some_iff.mp H
   obtain ⟨t258, A70, H⟩ := H
   replace H : ((impl_within.f a1 0 (wrap64 ((wrap64 (a0_0 * t258)) - 1))).bind fun t259 => (impl_PartAt.j0 k a1 (!t259) a0_0 a0_1 a0_2 a0_3)) = some (r1, r2) := H
   have A7 := Am A70
   clear A70
   replace H := Option.bind_eq_some_iff.mp H
   obtain ⟨t259, A80, H⟩ := H
   replace H : (impl_PartAt.j0 k a1 (!t259) a0_0 a0_1 a0_2 a0_3) = some (r1, r2) := H
   have A8 := Am A80
   clear A80
   have H' := Am H
   clear H
   try go_wp2
   have n0_ := Am (ke BK256.out)
   have n1_ := Am (be HB.out)
   clear BK256
   clear HB
   have BK256 := n0_
   have HB := n1_
   clear n0_ n1_
   refine start_ (n := 14) (S := fun w' => w'.cell? ⟨gb256, 0, none⟩ = some (.int .i64 a0_0) ∧ w'.cell? ⟨gb256, 1, none⟩ = some (.int .i64 a0_1) ∧ w'.cell? ⟨gb256, 2, none⟩ = some (.int .i64 a0_2) ∧ w'.cell? ⟨gb256, 3, none⟩ = some (.int .i64 a0_3)) (ds := []) #[false, false, false, false, false, false, false, false, false, false, false, false, false, false] (by kernel_rfl) rfl rfl ⟨(kc BK256.out 0).trans rfl, (kc BK256.out 1).trans rfl, (kc BK256.out 2).trans rfl, (kc BK256.out 3).trans rfl⟩ (fun hHeld => ?_); refine with_tabW impl_PartAt.tab1 impl_PartAt.bits1 (fun HT_ HW_ => ?_)
   generalize w4.drew = w9 at BK256 HB hHeld ⊢
   refine zT 0 (some 8) HT_.out HW_.out rfl rfl hHeld ?_
   refine zO 1 (some 9) HT_.out rfl rfl (fun K hK => ?_)
   refine goes_ Try.func104 (by kernel_rfl) rfl #[.agg #[.int .i64 a0_0, .int .i64 a0_1, .int .i64 a0_2, .int .i64 a0_3]] (by rfl) rfl rfl (by (try simp only [List.map_toArray, List.map_cons, List.map_nil]); first | done | rfl | (simp only [List.length_drop, List.length_take]; rfl)) ?_
   with_reducible refine (impl_GeoOk.calls a0_0 a0_1 a0_2 a0_3 true _ A5.out).mono ?_
   rintro e w10 ⟨rfl, hb⟩
   refine ⟨_, rfl, ?_⟩
   have n0_ := Am (zK BK256 hb)
   have n1_ := Am (bq zG hb)
   clear BK256
   clear HB
   have BK256 := n0_
   have HB := n1_
   clear n0_ n1_
   (try clear hb)
   (try clear hb2)
   (try clear hk)
   (try clear hi)
   refine hK.out _ _ ⟨(kc BK256.out 0).trans rfl, (kc BK256.out 1).trans rfl, (kc BK256.out 2).trans rfl, (kc BK256.out 3).trans rfl⟩ (fun hHeld => ?_)
   clear hK K
   refine zN (some 9) ?_
   refine zA 2 (some 10) HT_.out rfl rfl ?_
   refine zA 3 (some 11) HT_.out rfl rfl ?_
   refine zA 4 (some 12) HT_.out rfl rfl ?_
   refine zA 5 (some 13) HT_.out rfl rfl ?_
   refine zT 6 (some 14) HT_.out HW_.out rfl rfl hHeld ?_
   refine zT 7 (some 15) HT_.out HW_.out rfl rfl hHeld ?_
   refine zO 8 (some 16) HT_.out rfl rfl (fun K hK => ?_)
   refine goes_ Try.func60 (by kernel_rfl) rfl #[.agg #[.int .i64 a0_0, .int .i64 a0_1, .int .i64 a0_2, .int .i64 a0_3]] (by rfl) rfl rfl (by (try simp only [List.map_toArray, List.map_cons, List.map_nil]); first | done | rfl | (simp only [List.length_drop, List.length_take]; rfl)) ?_
   with_reducible refine (impl_Geo_partWords.calls a0_0 a0_1 a0_2 a0_3 t258 _ A7.out).mono ?_
   rintro e w11 ⟨rfl, hb⟩
   refine ⟨_, rfl, ?_⟩
   have n0_ := Am (zK BK256 hb)
   have n1_ := Am (bq zG hb)
   clear BK256
   clear HB
   have BK256 := n0_
   have HB := n1_
   clear n0_ n1_
   (try clear hb)
   (try clear hb2)
   (try clear hk)
   (try clear hi)
   refine hK.out _ _ ⟨(kc BK256.out 0).trans rfl, (kc BK256.out 1).trans rfl, (kc BK256.out 2).trans rfl, (kc BK256.out 3).trans rfl⟩ (fun hHeld => ?_)
   clear hK K
   refine zN (some 16) ?_
   refine zA 9 (some 17) HT_.out rfl rfl ?_
   refine zA 10 (some 18) HT_.out rfl rfl ?_
   refine zO 11 (some 19) HT_.out rfl rfl (fun K hK => ?_)
   refine goes_ Try.func59 (by kernel_rfl) rfl #[.int .i64 a1, .int .i64 0, .int .i64 (wrap64 ((wrap64 (a0_0 * t258)) - 1))] (by rfl) rfl rfl (by (try simp only [List.map_toArray, List.map_cons, List.map_nil]); first | done | rfl | (simp only [List.length_drop, List.length_take]; rfl)) ?_
   with_reducible refine (impl_within.calls a1 0 (wrap64 ((wrap64 (a0_0 * t258)) - 1)) t259 _ A8.out).mono ?_
   rintro e w' ⟨rfl, ⟨nd, rfl⟩⟩
   refine ⟨_, rfl, ?_⟩
   refine hK.out _ _ ⟨(kc BK256.out 0).trans rfl, (kc BK256.out 1).trans rfl, (kc BK256.out 2).trans rfl, (kc BK256.out 3).trans rfl⟩ (fun hHeld => ?_)
   clear hK K
   refine zN (some 19) ?_
   refine zA 12 (some 20) HT_.out rfl rfl ?_
   refine zA 13 (some 21) HT_.out rfl rfl ?_
   refine done_ (done_of HT_.out (by kernel_rfl)) ?_
   try go_wp2
   go_meet
   case rel => exact ⟨_, (!t259), (by first | rfl | (simp; done) | (simp [*]; done)), H', ⟨by first | omega | exact Nat.le_refl _⟩, ⟨by (with_reducible repeat (first | refine kn ?_ _ | refine ke ?_ | refine ka ?_ _)); exact BK256.out⟩, ⟨zG⟩⟩
  ·replace c6 := Bool.eq_false_iff.mpr c6
   subst c6
   have H1 : (impl_PartAt.j0 k a1 true a0_0 a0_1 a0_2 a0_3) = some (r1, r2) := by rw [if_neg (show ¬ (false = true) by decide)] at H; exact H
   clear H
   have H := H1
   clear H1
   have H' := Am H
   clear H
   try go_wp2
   have n0_ := Am (ke BK256.out)
   have n1_ := Am (be HB.out)
   clear BK256
   clear HB
   have BK256 := n0_
   have HB := n1_
   clear n0_ n1_
   refine start_ (n := 14) (S := fun w' => w'.cell? ⟨gb256, 0, none⟩ = some (.int .i64 a0_0) ∧ w'.cell? ⟨gb256, 1, none⟩ = some (.int .i64 a0_1) ∧ w'.cell? ⟨gb256, 2, none⟩ = some (.int .i64 a0_2) ∧ w'.cell? ⟨gb256, 3, none⟩ = some (.int .i64 a0_3)) (ds := []) #[false, false, false, false, false, false, false, false, false, false, false, false, false, false] (by kernel_rfl) rfl rfl ⟨(kc BK256.out 0).trans rfl, (kc BK256.out 1).trans rfl, (kc BK256.out 2).trans rfl, (kc BK256.out 3).trans rfl⟩ (fun hHeld => ?_); refine with_tabW impl_PartAt.tab1 impl_PartAt.bits1 (fun HT_ HW_ => ?_)
   generalize w4.drew = w12 at BK256 HB hHeld ⊢
   refine zT 0 (some 8) HT_.out HW_.out rfl rfl hHeld ?_
   refine zO 1 (some 9) HT_.out rfl rfl (fun K hK => ?_)
   refine goes_ Try.func104 (by kernel_rfl) rfl #[.agg #[.int .i64 a0_0, .int .i64 a0_1, .int .i64 a0_2, .int .i64 a0_3]] (by rfl) rfl rfl (by (try simp only [List.map_toArray, List.map_cons, List.map_nil]); first | done | rfl | (simp only [List.length_drop, List.length_take]; rfl)) ?_
   with_reducible refine (impl_GeoOk.calls a0_0 a0_1 a0_2 a0_3 false _ A5.out).mono ?_
   rintro e w13 ⟨rfl, hb⟩
   refine ⟨_, rfl, ?_⟩
   have n0_ := Am (zK BK256 hb)
   have n1_ := Am (bq zG hb)
   clear BK256
   clear HB
   have BK256 := n0_
   have HB := n1_
   clear n0_ n1_
   (try clear hb)
   (try clear hb2)
   (try clear hk)
   (try clear hi)
   refine hK.out _ _ ⟨(kc BK256.out 0).trans rfl, (kc BK256.out 1).trans rfl, (kc BK256.out 2).trans rfl, (kc BK256.out 3).trans rfl⟩ (fun hHeld => ?_)
   clear hK K
   refine zN (some 9) ?_
   refine zA 2 (some 10) HT_.out rfl rfl ?_
   refine zA 3 (some 11) HT_.out rfl rfl ?_
   refine zI 4 (some 12) HT_.out rfl rfl ?_
   refine zI 5 (some 13) HT_.out rfl rfl ?_
   refine zI 6 (some 14) HT_.out rfl rfl ?_
   refine zI 7 (some 15) HT_.out rfl rfl ?_
   refine zI 8 (some 16) HT_.out rfl rfl ?_
   refine zI 9 (some 17) HT_.out rfl rfl ?_
   refine zI 10 (some 18) HT_.out rfl rfl ?_
   refine zI 11 (some 19) HT_.out rfl rfl ?_
   refine zI 12 (some 20) HT_.out rfl rfl ?_
   refine zA 13 (some 21) HT_.out rfl rfl ?_
   refine done_ (done_of HT_.out (by kernel_rfl)) ?_
   try go_wp2
   go_meet
   case rel => exact ⟨_, (true), (by first | rfl | (simp; done) | (simp [*]; done)), H', ⟨by first | omega | exact Nat.le_refl _⟩, ⟨by (with_reducible repeat (first | refine kn ?_ _ | refine ke ?_ | refine ka ?_ _)); exact BK256.out⟩, ⟨zG⟩⟩
 case rest =>
  clear HC3
  try clear c1; try clear p2; try clear c5; try clear c6; try clear p6; try clear c10
  obtain ⟨kq, x21_2, rfl, HA, HJ2, BK256, HB⟩ := hcut
  cases kq with
  | zero => exact absurd HA.out (by simp [impl_PartAt.j0])
  | succ kj2 =>
   have H := HA.out
   clear HA
   simp only [impl_PartAt.j0] at H
   by_cases c14 : x21_2 = true
   ·subst c14
    have H1 : (some ((-1), 0)) = some (r1, r2) := by rw [if_pos rfl] at H; exact H
    clear H
    have H := H1
    clear H1
    simp only [Option.some.injEq, Prod.mk.injEq] at H
    obtain ⟨rfl, rfl⟩ := H
    go_wp2
    go_ret2
    exact ⟨zR, zG⟩
   ·replace c14 := Bool.eq_false_iff.mpr c14
    subst c14
    have H1 : ((impl_Geo_partWords.f a0_0 a0_1 a0_2 a0_3).bind fun t260 => (if t260 = 0 then (none) else (if (Int.tmod a1 t260) = 0 then ((impl_Geo_partWords.f a0_0 a0_1 a0_2 a0_3).bind fun t261 => (if t261 = 0 then (none) else (some (wrap64 (Int.tdiv a1 t261), 1)))) else (if (Int.tmod a1 t260) = 2 then ((impl_Geo_partWords.f a0_0 a0_1 a0_2 a0_3).bind fun t262 => (if t262 = 0 then (none) else (some (wrap64 (Int.tdiv a1 t262), 2)))) else (if (Int.tmod a1 t260) < 4 then ((impl_Geo_partWords.f a0_0 a0_1 a0_2 a0_3).bind fun t263 => (if t263 = 0 then (none) else (some (wrap64 (Int.tdiv a1 t263), 0)))) else (if (Int.tmod a1 t260) < 36 then ((impl_Geo_partWords.f a0_0 a0_1 a0_2 a0_3).bind fun t264 => (if t264 = 0 then (none) else (some (wrap64 (Int.tdiv a1 t264), 3)))) else (if (Int.tmod a1 t260) < 38 then ((impl_Geo_partWords.f a0_0 a0_1 a0_2 a0_3).bind fun t265 => (if t265 = 0 then (none) else (some (wrap64 (Int.tdiv a1 t265), 4)))) else (if (Int.tmod a1 t260) < (wrap64 (38 + (wrap64 (8 * a0_2)))) then ((impl_Geo_partWords.f a0_0 a0_1 a0_2 a0_3).bind fun t266 => (if t266 = 0 then (none) else (some (wrap64 (Int.tdiv a1 t266), 5)))) else ((impl_Geo_partWords.f a0_0 a0_1 a0_2 a0_3).bind fun t267 => (if t267 = 0 then (none) else (some (wrap64 (Int.tdiv a1 t267), 6)))))))))))) = some (r1, r2) := by rw [if_neg (show ¬ (false = true) by decide)] at H; exact H
    clear H
    have H := H1
    clear H1
    replace H := Option.bind_eq_some_iff.mp H
    obtain ⟨t260, A150, H⟩ := H
    replace H : (if t260 = 0 then (none) else (if (Int.tmod a1 t260) = 0 then ((impl_Geo_partWords.f a0_0 a0_1 a0_2 a0_3).bind fun t261 => (if t261 = 0 then (none) else (some (wrap64 (Int.tdiv a1 t261), 1)))) else (if (Int.tmod a1 t260) = 2 then ((impl_Geo_partWords.f a0_0 a0_1 a0_2 a0_3).bind fun t262 => (if t262 = 0 then (none) else (some (wrap64 (Int.tdiv a1 t262), 2)))) else (if (Int.tmod a1 t260) < 4 then ((impl_Geo_partWords.f a0_0 a0_1 a0_2 a0_3).bind fun t263 => (if t263 = 0 then (none) else (some (wrap64 (Int.tdiv a1 t263), 0)))) else (if (Int.tmod a1 t260) < 36 then ((impl_Geo_partWords.f a0_0 a0_1 a0_2 a0_3).bind fun t264 => (if t264 = 0 then (none) else (some (wrap64 (Int.tdiv a1 t264), 3)))) else (if (Int.tmod a1 t260) < 38 then ((impl_Geo_partWords.f a0_0 a0_1 a0_2 a0_3).bind fun t265 => (if t265 = 0 then (none) else (some (wrap64 (Int.tdiv a1 t265), 4)))) else (if (Int.tmod a1 t260) < (wrap64 (38 + (wrap64 (8 * a0_2)))) then ((impl_Geo_partWords.f a0_0 a0_1 a0_2 a0_3).bind fun t266 => (if t266 = 0 then (none) else (some (wrap64 (Int.tdiv a1 t266), 5)))) else ((impl_Geo_partWords.f a0_0 a0_1 a0_2 a0_3).bind fun t267 => (if t267 = 0 then (none) else (some (wrap64 (Int.tdiv a1 t267), 6))))))))))) = some (r1, r2) := H
    have A15 := Am A150
    clear A150
    by_cases c16 : t260 = 0
    ·rw [if_pos c16] at H
     exact absurd H (by simp)
    ·rw [if_neg c16] at H
     have c16b0 : (t260 == 0) = false := beq_eq_false_iff_ne.mpr c16
     have c16b1 : (t260 != 0) = true := bne_iff_ne.mpr c16
     by_cases c17 : (Int.tmod a1 t260) = 0
     ·rw [if_pos c17] at H
      have c17b0 : ((Int.tmod a1 t260) == 0) = true := beq_iff_eq.mpr c17
      have c17b1 : ((Int.tmod a1 t260) != 0) = false := bne_eq_false_iff_eq.mpr c17
      clear c17
      replace H := Option.bind_eq_some_iff.mp H
      obtain ⟨t261, A180, H⟩ := H
      replace H : (if t261 = 0 then (none) else (some (wrap64 (Int.tdiv a1 t261), 1))) = some (r1, r2) := H
      have A18 := Am A180
      clear A180
      by_cases c19 : t261 = 0
      ·rw [if_pos c19] at H
       exact absurd H (by simp)
      ·rw [if_neg c19] at H
       have c19b0 : (t261 == 0) = false := beq_eq_false_iff_ne.mpr c19
       have c19b1 : (t261 != 0) = true := bne_iff_ne.mpr c19
       simp only [Option.some.injEq, Prod.mk.injEq] at H
       obtain ⟨rfl, rfl⟩ := H
       obtain ⟨hcz20_0, hcz20_1, hcz20_2, hcz20_3⟩ := kc4 (w := wc) BK256.out
       have hfz20_0 := kf BK256.out
       go_wp2_with (first | ((with_reducible refine gate_callee (f := 60) rfl ?_); refine zC (some 24) rfl rfl Try.func60 rfl #[.agg #[.int .i64 a0_0, .int .i64 a0_1, .int .i64 a0_2, .int .i64 a0_3]] rfl ?_; (with_reducible refine (impl_Geo_partWords.calls a0_0 a0_1 a0_2 a0_3 t260 _ A15.out).mono ?_); rintro e w21 ⟨rfl, hb⟩; refine ⟨_, rfl, ?_⟩; have n0_ := Am (zK BK256 hb); have n1_ := Am (bq zG hb); clear BK256; clear HB; have BK256 := n0_; have HB := n1_; clear n0_ n1_; (try clear hb); obtain ⟨hcz22_0, hcz22_1, hcz22_2, hcz22_3⟩ := kc4 (w := w21) BK256.out; have hfz22_0 := kf BK256.out) | ((with_reducible refine gate_callee (f := 60) rfl ?_); refine zC (some 50) rfl rfl Try.func60 rfl #[.agg #[.int .i64 a0_0, .int .i64 a0_1, .int .i64 a0_2, .int .i64 a0_3]] rfl ?_; (with_reducible refine (impl_Geo_partWords.calls a0_0 a0_1 a0_2 a0_3 t261 _ A18.out).mono ?_); rintro e w23 ⟨rfl, hb⟩; refine ⟨_, rfl, ?_⟩; have n0_ := Am (zK BK256 hb); have n1_ := Am (bq zG hb); clear BK256; clear HB; have BK256 := n0_; have HB := n1_; clear n0_ n1_; (try clear hb)))
       go_ret2
       exact ⟨zR, zG⟩
     ·rw [if_neg c17] at H
      have c17b0 : ((Int.tmod a1 t260) == 0) = false := beq_eq_false_iff_ne.mpr c17
      have c17b1 : ((Int.tmod a1 t260) != 0) = true := bne_iff_ne.mpr c17
      by_cases c24 : (Int.tmod a1 t260) = 2
      ·rw [if_pos c24] at H
       have c24b0 : ((Int.tmod a1 t260) == 2) = true := beq_iff_eq.mpr c24
       have c24b1 : ((Int.tmod a1 t260) != 2) = false := bne_eq_false_iff_eq.mpr c24
       clear c24
       replace H := Option.bind_eq_some_iff.mp H
       obtain ⟨t262, A250, H⟩ := H
       replace H : (if t262 = 0 then (none) else (some (wrap64 (Int.tdiv a1 t262), 2))) = some (r1, r2) := H
       have A25 := Am A250
       clear A250
       by_cases c26 : t262 = 0
       ·rw [if_pos c26] at H
        exact absurd H (by simp)
       ·rw [if_neg c26] at H
        have c26b0 : (t262 == 0) = false := beq_eq_false_iff_ne.mpr c26
        have c26b1 : (t262 != 0) = true := bne_iff_ne.mpr c26
        simp only [Option.some.injEq, Prod.mk.injEq] at H
        obtain ⟨rfl, rfl⟩ := H
        obtain ⟨hcz27_0, hcz27_1, hcz27_2, hcz27_3⟩ := kc4 (w := wc) BK256.out
        have hfz27_0 := kf BK256.out
        go_wp2_with (first | ((with_reducible refine gate_callee (f := 60) rfl ?_); refine zC (some 24) rfl rfl Try.func60 rfl #[.agg #[.int .i64 a0_0, .int .i64 a0_1, .int .i64 a0_2, .int .i64 a0_3]] rfl ?_; (with_reducible refine (impl_Geo_partWords.calls a0_0 a0_1 a0_2 a0_3 t260 _ A15.out).mono ?_); rintro e w28 ⟨rfl, hb⟩; refine ⟨_, rfl, ?_⟩; have n0_ := Am (zK BK256 hb); have n1_ := Am (bq zG hb); clear BK256; clear HB; have BK256 := n0_; have HB := n1_; clear n0_ n1_; (try clear hb); obtain ⟨hcz29_0, hcz29_1, hcz29_2, hcz29_3⟩ := kc4 (w := w28) BK256.out; have hfz29_0 := kf BK256.out) | ((with_reducible refine gate_callee (f := 60) rfl ?_); refine zC (some 50) rfl rfl Try.func60 rfl #[.agg #[.int .i64 a0_0, .int .i64 a0_1, .int .i64 a0_2, .int .i64 a0_3]] rfl ?_; (with_reducible refine (impl_Geo_partWords.calls a0_0 a0_1 a0_2 a0_3 t262 _ A25.out).mono ?_); rintro e w30 ⟨rfl, hb⟩; refine ⟨_, rfl, ?_⟩; have n0_ := Am (zK BK256 hb); have n1_ := Am (bq zG hb); clear BK256; clear HB; have BK256 := n0_; have HB := n1_; clear n0_ n1_; (try clear hb)))
        go_ret2
        exact ⟨zR, zG⟩
      ·rw [if_neg c24] at H
       have c24b0 : ((Int.tmod a1 t260) == 2) = false := beq_eq_false_iff_ne.mpr c24
       have c24b1 : ((Int.tmod a1 t260) != 2) = true := bne_iff_ne.mpr c24
       by_cases c31 : (Int.tmod a1 t260) < 4
       ·rw [if_pos c31] at H
        have c31b0 : decide ((Int.tmod a1 t260) < 4) = true := decide_eq_true c31
        clear c31
        replace H := Option.bind_eq_some_iff.mp H
        obtain ⟨t263, A320, H⟩ := H
        replace H : (if t263 = 0 then (none) else (some (wrap64 (Int.tdiv a1 t263), 0))) = some (r1, r2) := H
        have A32 := Am A320
        clear A320
        by_cases c33 : t263 = 0
        ·rw [if_pos c33] at H
         exact absurd H (by simp)
        ·rw [if_neg c33] at H
         have c33b0 : (t263 == 0) = false := beq_eq_false_iff_ne.mpr c33
         have c33b1 : (t263 != 0) = true := bne_iff_ne.mpr c33
         simp only [Option.some.injEq, Prod.mk.injEq] at H
         obtain ⟨rfl, rfl⟩ := H
         obtain ⟨hcz34_0, hcz34_1, hcz34_2, hcz34_3⟩ := kc4 (w := wc) BK256.out
         have hfz34_0 := kf BK256.out
         go_wp2_with (first | ((with_reducible refine gate_callee (f := 60) rfl ?_); refine zC (some 24) rfl rfl Try.func60 rfl #[.agg #[.int .i64 a0_0, .int .i64 a0_1, .int .i64 a0_2, .int .i64 a0_3]] rfl ?_; (with_reducible refine (impl_Geo_partWords.calls a0_0 a0_1 a0_2 a0_3 t260 _ A15.out).mono ?_); rintro e w35 ⟨rfl, hb⟩; refine ⟨_, rfl, ?_⟩; have n0_ := Am (zK BK256 hb); have n1_ := Am (bq zG hb); clear BK256; clear HB; have BK256 := n0_; have HB := n1_; clear n0_ n1_; (try clear hb); obtain ⟨hcz36_0, hcz36_1, hcz36_2, hcz36_3⟩ := kc4 (w := w35) BK256.out; have hfz36_0 := kf BK256.out) | ((with_reducible refine gate_callee (f := 60) rfl ?_); refine zC (some 50) rfl rfl Try.func60 rfl #[.agg #[.int .i64 a0_0, .int .i64 a0_1, .int .i64 a0_2, .int .i64 a0_3]] rfl ?_; (with_reducible refine (impl_Geo_partWords.calls a0_0 a0_1 a0_2 a0_3 t263 _ A32.out).mono ?_); rintro e w37 ⟨rfl, hb⟩; refine ⟨_, rfl, ?_⟩; have n0_ := Am (zK BK256 hb); have n1_ := Am (bq zG hb); clear BK256; clear HB; have BK256 := n0_; have HB := n1_; clear n0_ n1_; (try clear hb)))
         go_ret2
         exact ⟨zR, zG⟩
       ·rw [if_neg c31] at H
        have c31b0 : decide ((Int.tmod a1 t260) < 4) = false := decide_eq_false c31
        clear c31
        by_cases c38 : (Int.tmod a1 t260) < 36
        ·rw [if_pos c38] at H
         have c38b0 : decide ((Int.tmod a1 t260) < 36) = true := decide_eq_true c38
         clear c38
         replace H := Option.bind_eq_some_iff.mp H
         obtain ⟨t264, A390, H⟩ := H
         replace H : (if t264 = 0 then (none) else (some (wrap64 (Int.tdiv a1 t264), 3))) = some (r1, r2) := H
         have A39 := Am A390
         clear A390
         by_cases c40 : t264 = 0
         ·rw [if_pos c40] at H
          exact absurd H (by simp)
         ·rw [if_neg c40] at H
          have c40b0 : (t264 == 0) = false := beq_eq_false_iff_ne.mpr c40
          have c40b1 : (t264 != 0) = true := bne_iff_ne.mpr c40
          simp only [Option.some.injEq, Prod.mk.injEq] at H
          obtain ⟨rfl, rfl⟩ := H
          obtain ⟨hcz41_0, hcz41_1, hcz41_2, hcz41_3⟩ := kc4 (w := wc) BK256.out
          have hfz41_0 := kf BK256.out
          go_wp2_with (first | ((with_reducible refine gate_callee (f := 60) rfl ?_); refine zC (some 24) rfl rfl Try.func60 rfl #[.agg #[.int .i64 a0_0, .int .i64 a0_1, .int .i64 a0_2, .int .i64 a0_3]] rfl ?_; (with_reducible refine (impl_Geo_partWords.calls a0_0 a0_1 a0_2 a0_3 t260 _ A15.out).mono ?_); rintro e w42 ⟨rfl, hb⟩; refine ⟨_, rfl, ?_⟩; have n0_ := Am (zK BK256 hb); have n1_ := Am (bq zG hb); clear BK256; clear HB; have BK256 := n0_; have HB := n1_; clear n0_ n1_; (try clear hb); obtain ⟨hcz43_0, hcz43_1, hcz43_2, hcz43_3⟩ := kc4 (w := w42) BK256.out; have hfz43_0 := kf BK256.out) | ((with_reducible refine gate_callee (f := 60) rfl ?_); refine zC (some 50) rfl rfl Try.func60 rfl #[.agg #[.int .i64 a0_0, .int .i64 a0_1, .int .i64 a0_2, .int .i64 a0_3]] rfl ?_; (with_reducible refine (impl_Geo_partWords.calls a0_0 a0_1 a0_2 a0_3 t264 _ A39.out).mono ?_); rintro e w44 ⟨rfl, hb⟩; refine ⟨_, rfl, ?_⟩; have n0_ := Am (zK BK256 hb); have n1_ := Am (bq zG hb); clear BK256; clear HB; have BK256 := n0_; have HB := n1_; clear n0_ n1_; (try clear hb)))
          go_ret2
          exact ⟨zR, zG⟩
        ·rw [if_neg c38] at H
         have c38b0 : decide ((Int.tmod a1 t260) < 36) = false := decide_eq_false c38
         clear c38
         by_cases c45 : (Int.tmod a1 t260) < 38
         ·rw [if_pos c45] at H
          have c45b0 : decide ((Int.tmod a1 t260) < 38) = true := decide_eq_true c45
          clear c45
          replace H := Option.bind_eq_some_iff.mp H
          obtain ⟨t265, A460, H⟩ := H
          replace H : (if t265 = 0 then (none) else (some (wrap64 (Int.tdiv a1 t265), 4))) = some (r1, r2) := H
          have A46 := Am A460
          clear A460
          by_cases c47 : t265 = 0
          ·rw [if_pos c47] at H
           exact absurd H (by simp)
          ·rw [if_neg c47] at H
           have c47b0 : (t265 == 0) = false := beq_eq_false_iff_ne.mpr c47
           have c47b1 : (t265 != 0) = true := bne_iff_ne.mpr c47
           simp only [Option.some.injEq, Prod.mk.injEq] at H
           obtain ⟨rfl, rfl⟩ := H
           obtain ⟨hcz48_0, hcz48_1, hcz48_2, hcz48_3⟩ := kc4 (w := wc) BK256.out
           have hfz48_0 := kf BK256.out
           go_wp2_with (first | ((with_reducible refine gate_callee (f := 60) rfl ?_); refine zC (some 24) rfl rfl Try.func60 rfl #[.agg #[.int .i64 a0_0, .int .i64 a0_1, .int .i64 a0_2, .int .i64 a0_3]] rfl ?_; (with_reducible refine (impl_Geo_partWords.calls a0_0 a0_1 a0_2 a0_3 t260 _ A15.out).mono ?_); rintro e w49 ⟨rfl, hb⟩; refine ⟨_, rfl, ?_⟩; have n0_ := Am (zK BK256 hb); have n1_ := Am (bq zG hb); clear BK256; clear HB; have BK256 := n0_; have HB := n1_; clear n0_ n1_; (try clear hb); obtain ⟨hcz50_0, hcz50_1, hcz50_2, hcz50_3⟩ := kc4 (w := w49) BK256.out; have hfz50_0 := kf BK256.out) | ((with_reducible refine gate_callee (f := 60) rfl ?_); refine zC (some 50) rfl rfl Try.func60 rfl #[.agg #[.int .i64 a0_0, .int .i64 a0_1, .int .i64 a0_2, .int .i64 a0_3]] rfl ?_; (with_reducible refine (impl_Geo_partWords.calls a0_0 a0_1 a0_2 a0_3 t265 _ A46.out).mono ?_); rintro e w51 ⟨rfl, hb⟩; refine ⟨_, rfl, ?_⟩; have n0_ := Am (zK BK256 hb); have n1_ := Am (bq zG hb); clear BK256; clear HB; have BK256 := n0_; have HB := n1_; clear n0_ n1_; (try clear hb)))
           go_ret2
           exact ⟨zR, zG⟩
         ·rw [if_neg c45] at H
          have c45b0 : decide ((Int.tmod a1 t260) < 38) = false := decide_eq_false c45
          clear c45
          by_cases c52 : (Int.tmod a1 t260) < (wrap64 (38 + (wrap64 (8 * a0_2))))
          ·rw [if_pos c52] at H
           have c52b0 : decide ((Int.tmod a1 t260) < (wrap64 (38 + (wrap64 (8 * a0_2))))) = true := decide_eq_true c52
           clear c52
           replace H := Option.bind_eq_some_iff.mp H
           obtain ⟨t266, A530, H⟩ := H
           replace H : (if t266 = 0 then (none) else (some (wrap64 (Int.tdiv a1 t266), 5))) = some (r1, r2) := H
           have A53 := Am A530
           clear A530
           by_cases c54 : t266 = 0
           ·rw [if_pos c54] at H
            exact absurd H (by simp)
           ·rw [if_neg c54] at H
            have c54b0 : (t266 == 0) = false := beq_eq_false_iff_ne.mpr c54
            have c54b1 : (t266 != 0) = true := bne_iff_ne.mpr c54
            simp only [Option.some.injEq, Prod.mk.injEq] at H
            obtain ⟨rfl, rfl⟩ := H
            obtain ⟨hcz55_0, hcz55_1, hcz55_2, hcz55_3⟩ := kc4 (w := wc) BK256.out
            have hfz55_0 := kf BK256.out
            go_wp2_with (first | ((with_reducible refine gate_callee (f := 60) rfl ?_); refine zC (some 24) rfl rfl Try.func60 rfl #[.agg #[.int .i64 a0_0, .int .i64 a0_1, .int .i64 a0_2, .int .i64 a0_3]] rfl ?_; (with_reducible refine (impl_Geo_partWords.calls a0_0 a0_1 a0_2 a0_3 t260 _ A15.out).mono ?_); rintro e w56 ⟨rfl, hb⟩; refine ⟨_, rfl, ?_⟩; have n0_ := Am (zK BK256 hb); have n1_ := Am (bq zG hb); clear BK256; clear HB; have BK256 := n0_; have HB := n1_; clear n0_ n1_; (try clear hb); obtain ⟨hcz57_0, hcz57_1, hcz57_2, hcz57_3⟩ := kc4 (w := w56) BK256.out; have hfz57_0 := kf BK256.out) | ((with_reducible refine gate_callee (f := 60) rfl ?_); refine zC (some 50) rfl rfl Try.func60 rfl #[.agg #[.int .i64 a0_0, .int .i64 a0_1, .int .i64 a0_2, .int .i64 a0_3]] rfl ?_; (with_reducible refine (impl_Geo_partWords.calls a0_0 a0_1 a0_2 a0_3 t266 _ A53.out).mono ?_); rintro e w58 ⟨rfl, hb⟩; refine ⟨_, rfl, ?_⟩; have n0_ := Am (zK BK256 hb); have n1_ := Am (bq zG hb); clear BK256; clear HB; have BK256 := n0_; have HB := n1_; clear n0_ n1_; (try clear hb)))
            go_ret2
            exact ⟨zR, zG⟩
          ·rw [if_neg c52] at H
           have c52b0 : decide ((Int.tmod a1 t260) < (wrap64 (38 + (wrap64 (8 * a0_2))))) = false := decide_eq_false c52
           clear c52
           replace H := Option.bind_eq_some_iff.mp H
           obtain ⟨t267, A590, H⟩ := H
           replace H : (if t267 = 0 then (none) else (some (wrap64 (Int.tdiv a1 t267), 6))) = some (r1, r2) := H
           have A59 := Am A590
           clear A590
           by_cases c60 : t267 = 0
           ·rw [if_pos c60] at H
            exact absurd H (by simp)
           ·rw [if_neg c60] at H
            have c60b0 : (t267 == 0) = false := beq_eq_false_iff_ne.mpr c60
            have c60b1 : (t267 != 0) = true := bne_iff_ne.mpr c60
            simp only [Option.some.injEq, Prod.mk.injEq] at H
            obtain ⟨rfl, rfl⟩ := H
            obtain ⟨hcz61_0, hcz61_1, hcz61_2, hcz61_3⟩ := kc4 (w := wc) BK256.out
            have hfz61_0 := kf BK256.out
            go_wp2_with (first | ((with_reducible refine gate_callee (f := 60) rfl ?_); refine zC (some 24) rfl rfl Try.func60 rfl #[.agg #[.int .i64 a0_0, .int .i64 a0_1, .int .i64 a0_2, .int .i64 a0_3]] rfl ?_; (with_reducible refine (impl_Geo_partWords.calls a0_0 a0_1 a0_2 a0_3 t260 _ A15.out).mono ?_); rintro e w62 ⟨rfl, hb⟩; refine ⟨_, rfl, ?_⟩; have n0_ := Am (zK BK256 hb); have n1_ := Am (bq zG hb); clear BK256; clear HB; have BK256 := n0_; have HB := n1_; clear n0_ n1_; (try clear hb); obtain ⟨hcz63_0, hcz63_1, hcz63_2, hcz63_3⟩ := kc4 (w := w62) BK256.out; have hfz63_0 := kf BK256.out) | ((with_reducible refine gate_callee (f := 60) rfl ?_); refine zC (some 50) rfl rfl Try.func60 rfl #[.agg #[.int .i64 a0_0, .int .i64 a0_1, .int .i64 a0_2, .int .i64 a0_3]] rfl ?_; (with_reducible refine (impl_Geo_partWords.calls a0_0 a0_1 a0_2 a0_3 t267 _ A59.out).mono ?_); rintro e w64 ⟨rfl, hb⟩; refine ⟨_, rfl, ?_⟩; have n0_ := Am (zK BK256 hb); have n1_ := Am (bq zG hb); clear BK256; clear HB; have BK256 := n0_; have HB := n1_; clear n0_ n1_; (try clear hb)))
            go_ret2
            exact ⟨zR, zG⟩

/-! ### impl_padded: function 141 (own text) -/
def zeros (n : Nat) : ByteArray := ⟨(List.replicate n (0 : UInt8)).toArray⟩
theorem repeat_zeros (n : Nat) : (⟨(Lib.repeatL (⟨#[0]⟩ : ByteArray).data.toList n).toArray⟩ : ByteArray) = zeros n := by
 unfold zeros
 congr 2
 induction n with
 | zero => rfl
 | succ n ih => simp [Lib.repeatL, List.replicate_succ, ih]
theorem zeros_size (n : Nat) : (zeros n).size = n := by simp [zeros, ByteArray.size]
theorem zeros_call (n : Nat) (w : World) (h : n ≤ 2147483648) : Aside0 (Calls Try.prog 152 #[.string (⟨#[0]⟩ : ByteArray), .int .i64 n] w fun e w' => e = .returned (.string (zeros n)) ∧ Below w.heap.size w w') := by
 have := Go.Proofs.Try.strings_Repeat (⟨#[0]⟩ : ByteArray) n w (by omega) (by show 1 * n ≤ _; omega)
 rw [repeat_zeros] at this
 exact ⟨this⟩
def impl_padded.f (a0 : ByteArray) (a1 : Int) : Option (ByteArray) := if a0.size ≤ 1073741824 ∧ -1073741824 ≤ a1 ∧ a1 ≤ 1073741824 then some (a0 ++ zeros (a1 - (a0.size : Int)).toNat) else none
set_option maxHeartbeats 8000000 in
set_option maxRecDepth 100000 in
theorem impl_padded.calls (a0 : ByteArray) (a1 : Int) (r : ByteArray) (w : World) (h : impl_padded.f a0 a1 = some r) :
  Calls Try.prog 141 #[.string a0, .int .i64 a1] w fun e w' => e = .returned (.string r) ∧ Below w.heap.size w w' := by
 unfold impl_padded.f at h
 split at h
 ·rename_i hb
  obtain ⟨h1, h2, h3⟩ := hb
  obtain rfl := Option.some.inj h
  clear h
  have e1 : wrap64 (a1 - (a0.size : Int)) = a1 - (a0.size : Int) := by unfold wrap64; omega
  have hs : ¬ 9223372036854775807 < a0.size + (zeros (a1 - (a0.size : Int)).toNat).size := by rw [zeros_size]; omega
  have HC := zeros_call (a1 - (a0.size : Int)).toNat w (by omega)
  by_cases hp : 0 < wrap64 (a1 - (a0.size : Int))
  ·have hm : (((a1 - (a0.size : Int)).toNat : Nat) : Int) = wrap64 (a1 - (a0.size : Int)) := by omega
   rw [hm] at HC
   generalize zeros (a1 - (a0.size : Int)).toNat = z at HC hs ⊢
   clear e1 hm h1 h2 h3
   go_enter Try.func141, Try.ntmps141
   go_wp2_with (first | (go_at_call 152; refine (HC.out).mono ?_; rintro e w' ⟨rfl, hb⟩))
   go_ret
   exact ⟨rfl, hb⟩
  ·have hm : (((a1 - (a0.size : Int)).toNat : Nat) : Int) = 0 := by omega
   rw [hm] at HC
   generalize zeros (a1 - (a0.size : Int)).toNat = z at HC hs ⊢
   clear e1 hm h1 h2 h3
   go_enter Try.func141, Try.ntmps141
   go_wp2_with (first | (go_at_call 152; refine (HC.out).mono ?_; rintro e w' ⟨rfl, hb⟩))
   go_ret
   exact ⟨rfl, hb⟩
 ·exact absurd h (by simp)

/-! ### impl_WordText: function 108 -/
def impl_WordText.f (a0 : ByteArray) : Option (ByteArray) := if (a0.size : Int) > 8 then (some (⟨#[]⟩ : ByteArray)) else ((impl_padded.f a0 8).bind fun t268 => (some t268))
set_option maxHeartbeats 8000000 in
set_option maxRecDepth 100000 in
theorem impl_WordText.calls (a0 : ByteArray) (r : ByteArray) (w : World) (h : impl_WordText.f a0 = some r) :
  Calls Try.prog 108 #[.string a0] w fun e w' => e = .returned (.string r) ∧ Below w.heap.size w w' := by
 have HB := Am (Below.refl w.heap.size w)
 have H : (if (a0.size : Int) > 8 then (some (⟨#[]⟩ : ByteArray)) else ((impl_padded.f a0 8).bind fun t268 => (some t268))) = some r := h
 clear h
 by_cases c2 : (a0.size : Int) > 8
 ·rw [if_pos c2] at H
  have c2b0 : decide (8 < (a0.size : Int)) = true := decide_eq_true c2
  have c2b1 : decide (8 < a0.size) = true := decide_eq_true (by omega)
  clear c2
  obtain rfl := Option.some.inj H
  go_enter Try.func108, Try.ntmps108
  go_wp2
  go_ret
  exact ⟨zR, zB⟩
 ·rw [if_neg c2] at H
  have c2b0 : decide (8 < (a0.size : Int)) = false := decide_eq_false c2
  have c2b1 : decide (8 < a0.size) = false := decide_eq_false (by omega)
  clear c2
  replace H := Option.bind_eq_some_iff.mp H
  obtain ⟨t268, A30, H⟩ := H
  replace H : (some t268) = some r := H
  have A3 := Am A30
  clear A30
  obtain rfl := Option.some.inj H
  go_enter Try.func108, Try.ntmps108
  go_wp2_with (first | ((with_reducible refine gate_callee (f := 141) rfl ?_); refine zC (some 7) rfl rfl Try.func141 rfl #[.string a0, .int .i64 8] rfl ?_; (with_reducible refine (impl_padded.calls a0 8 t268 _ A3.out).mono ?_); rintro e w4 ⟨rfl, hb⟩; refine ⟨_, rfl, ?_⟩; replace HB := Am (bq zB hb); (try clear hb)))
  go_ret
  exact ⟨zR, zB⟩

/-! ### impl_isRecAt: function 109 -/
def impl_isRecAt.f (k : Nat) (a0_0 : Int) (a0_1 : Int) (a0_2 : Int) (a0_3 : Int) (a1 : Int) : Option (Bool) := (impl_PartAt.f k a0_0 a0_1 a0_2 a0_3 a1).bind fun bt270 => ((impl_Geo_partWords.f a0_0 a0_1 a0_2 a0_3).bind fun t272 => (if t272 = 0 then (none) else (if bt270.2 = 5 then ((impl_within.f (Int.tmod (wrap64 ((Int.tmod a1 t272) - 38)) 8) 2 5).bind fun t273 => (some t273)) else (some false))))
theorem impl_isRecAt.mono : ∀ a0 a1 a2 a3 a4 k, LeO (impl_isRecAt.f k a0 a1 a2 a3 a4) (impl_isRecAt.f (k + 1) a0 a1 a2 a3 a4) := by
 intro a0 a1 a2 a3 a4 k
 unfold impl_isRecAt.f
 repeat' first
   | (with_reducible exact impl_PartAt.mono _ _ _ _ _ _)
   | (with_reducible exact LeO.refl _)
   | (with_reducible exact LeO.none _)
   | (with_reducible refine LeO.ite ?_ ?_)
   | (with_reducible refine LeO.bind ?_ (fun _ => ?_))
   | exact impl_PartAt.mono _ _ _ _ _ _
   | exact LeO.none _
   | refine LeO.ite ?_ ?_
   | refine LeO.bind ?_ (fun _ => ?_)
set_option maxHeartbeats 8000000 in
set_option maxRecDepth 100000 in
theorem impl_isRecAt.calls (k : Nat) (a0_0 : Int) (a0_1 : Int) (a0_2 : Int) (a0_3 : Int) (a1 : Int) (r : Bool) (w : World) (h : impl_isRecAt.f k a0_0 a0_1 a0_2 a0_3 a1 = some r) :
  Calls Try.prog 109 #[.agg #[.int .i64 a0_0, .int .i64 a0_1, .int .i64 a0_2, .int .i64 a0_3], .int .i64 a1] w fun e w' => e = .returned (.bool r) ∧ Below w.heap.size w w' := by
 have hu29 := Try.underlying29
 have HB := Am (Below.refl w.heap.size w)
 have H : ((impl_PartAt.f k a0_0 a0_1 a0_2 a0_3 a1).bind fun bt270 => ((impl_Geo_partWords.f a0_0 a0_1 a0_2 a0_3).bind fun t272 => (if t272 = 0 then (none) else (if bt270.2 = 5 then ((impl_within.f (Int.tmod (wrap64 ((Int.tmod a1 t272) - 38)) 8) 2 5).bind fun t273 => (some t273)) else (some false))))) = some r := h
 clear h
 replace H := Option.bind_eq_some_iff.mp H
 obtain ⟨⟨t270, t271⟩, A30, H⟩ := H
 replace H : ((impl_Geo_partWords.f a0_0 a0_1 a0_2 a0_3).bind fun t272 => (if t272 = 0 then (none) else (if t271 = 5 then ((impl_within.f (Int.tmod (wrap64 ((Int.tmod a1 t272) - 38)) 8) 2 5).bind fun t273 => (some t273)) else (some false)))) = some r := H
 have A3 := Am A30
 clear A30
 replace H := Option.bind_eq_some_iff.mp H
 obtain ⟨t272, A40, H⟩ := H
 replace H : (if t272 = 0 then (none) else (if t271 = 5 then ((impl_within.f (Int.tmod (wrap64 ((Int.tmod a1 t272) - 38)) 8) 2 5).bind fun t273 => (some t273)) else (some false))) = some r := H
 have A4 := Am A40
 clear A40
 by_cases c5 : t272 = 0
 ·rw [if_pos c5] at H
  exact absurd H (by simp)
 ·rw [if_neg c5] at H
  have c5b0 : (t272 == 0) = false := beq_eq_false_iff_ne.mpr c5
  have c5b1 : (t272 != 0) = true := bne_iff_ne.mpr c5
  by_cases c6 : t271 = 5
  ·rw [if_pos c6] at H
   have c6b0 : (t271 == 5) = true := beq_iff_eq.mpr c6
   have c6b1 : (t271 != 5) = false := bne_eq_false_iff_eq.mpr c6
   clear c6
   replace H := Option.bind_eq_some_iff.mp H
   obtain ⟨t273, A70, H⟩ := H
   replace H : (some t273) = some r := H
   have A7 := Am A70
   clear A70
   obtain rfl := Option.some.inj H
   go_enter Try.func109, Try.ntmps109
   go_wp2_with (first | ((with_reducible refine gate_dst (N := 2) rfl ?_); refine box_event ?hg (N := 2) ?hd (cs := #[.int .i64 a0_0, .int .i64 a0_1, .int .i64 a0_2, .int .i64 a0_3]) (t := 29) ?hr ?_; (case hd => rfl); (case hg => rfl); (case hr => first | (go_simp; done) | (go_simp; rfl)); intro gb269 hg w8 hbox hb; have BK269 := Am (hbox); have GW269 := Am ((by rw [hg]; exact (bz zB) : w.heap.size ≤ gb269)); have GE269 := Am ((by rw [hg]; exact (bz zB) : w.heap.size ≤ gb269)); replace HB := Am (bq zB hb); clear hb hbox hg; obtain ⟨hcz9_0, hcz9_1, hcz9_2, hcz9_3⟩ := kc4 (w := w8) BK269.out; have hfz9_0 := kf BK269.out) | ((with_reducible refine gate_callee (f := 107) rfl ?_); refine zC (some 11) rfl rfl Try.func107 rfl #[.agg #[.int .i64 a0_0, .int .i64 a0_1, .int .i64 a0_2, .int .i64 a0_3], .int .i64 a1] rfl ?_; (with_reducible refine (impl_PartAt.calls k a0_0 a0_1 a0_2 a0_3 a1 t270 t271 _ A3.out).mono ?_); rintro e w10 ⟨rfl, hb⟩; refine ⟨_, rfl, ?_⟩; have n0_ := Am (zK BK269 hb); have n1_ := Am (bq zG hb); clear BK269; clear HB; have BK269 := n0_; have HB := n1_; clear n0_ n1_; (try clear hb); obtain ⟨hcz11_0, hcz11_1, hcz11_2, hcz11_3⟩ := kc4 (w := w10) BK269.out; have hfz11_0 := kf BK269.out) | ((with_reducible refine gate_callee (f := 60) rfl ?_); refine zC (some 16) rfl rfl Try.func60 rfl #[.agg #[.int .i64 a0_0, .int .i64 a0_1, .int .i64 a0_2, .int .i64 a0_3]] rfl ?_; (with_reducible refine (impl_Geo_partWords.calls a0_0 a0_1 a0_2 a0_3 t272 _ A4.out).mono ?_); rintro e w12 ⟨rfl, hb⟩; refine ⟨_, rfl, ?_⟩; have n0_ := Am (zK BK269 hb); have n1_ := Am (bq zG hb); clear BK269; clear HB; have BK269 := n0_; have HB := n1_; clear n0_ n1_; (try clear hb)) | (go_at_call 59; (with_reducible refine (impl_within.calls (Int.tmod (wrap64 ((Int.tmod a1 t272) - 38)) 8) 2 5 t273 _ A7.out).mono ?_); rintro e w' ⟨rfl, ⟨nd, rfl⟩⟩))
   go_ret
   exact ⟨zR, zG⟩
  ·rw [if_neg c6] at H
   have c6b0 : (t271 == 5) = false := beq_eq_false_iff_ne.mpr c6
   have c6b1 : (t271 != 5) = true := bne_iff_ne.mpr c6
   obtain rfl := Option.some.inj H
   go_enter Try.func109, Try.ntmps109
   go_wp2_with (first | ((with_reducible refine gate_dst (N := 2) rfl ?_); refine box_event ?hg (N := 2) ?hd (cs := #[.int .i64 a0_0, .int .i64 a0_1, .int .i64 a0_2, .int .i64 a0_3]) (t := 29) ?hr ?_; (case hd => rfl); (case hg => rfl); (case hr => first | (go_simp; done) | (go_simp; rfl)); intro gb269 hg w13 hbox hb; have BK269 := Am (hbox); have GW269 := Am ((by rw [hg]; exact (bz zB) : w.heap.size ≤ gb269)); have GE269 := Am ((by rw [hg]; exact (bz zB) : w.heap.size ≤ gb269)); replace HB := Am (bq zB hb); clear hb hbox hg; obtain ⟨hcz14_0, hcz14_1, hcz14_2, hcz14_3⟩ := kc4 (w := w13) BK269.out; have hfz14_0 := kf BK269.out) | ((with_reducible refine gate_callee (f := 107) rfl ?_); refine zC (some 11) rfl rfl Try.func107 rfl #[.agg #[.int .i64 a0_0, .int .i64 a0_1, .int .i64 a0_2, .int .i64 a0_3], .int .i64 a1] rfl ?_; (with_reducible refine (impl_PartAt.calls k a0_0 a0_1 a0_2 a0_3 a1 t270 t271 _ A3.out).mono ?_); rintro e w15 ⟨rfl, hb⟩; refine ⟨_, rfl, ?_⟩; have n0_ := Am (zK BK269 hb); have n1_ := Am (bq zG hb); clear BK269; clear HB; have BK269 := n0_; have HB := n1_; clear n0_ n1_; (try clear hb); obtain ⟨hcz16_0, hcz16_1, hcz16_2, hcz16_3⟩ := kc4 (w := w15) BK269.out; have hfz16_0 := kf BK269.out) | ((with_reducible refine gate_callee (f := 60) rfl ?_); refine zC (some 16) rfl rfl Try.func60 rfl #[.agg #[.int .i64 a0_0, .int .i64 a0_1, .int .i64 a0_2, .int .i64 a0_3]] rfl ?_; (with_reducible refine (impl_Geo_partWords.calls a0_0 a0_1 a0_2 a0_3 t272 _ A4.out).mono ?_); rintro e w17 ⟨rfl, hb⟩; refine ⟨_, rfl, ?_⟩; have n0_ := Am (zK BK269 hb); have n1_ := Am (bq zG hb); clear BK269; clear HB; have BK269 := n0_; have HB := n1_; clear n0_ n1_; (try clear hb)))
   go_ret
   exact ⟨zR, zG⟩

/-! ### impl_zeroWord: function 111 -/
def impl_zeroWord.f  : Option (ByteArray) := (impl_padded.f (⟨#[]⟩ : ByteArray) 8).bind fun t274 => (some t274)
set_option maxHeartbeats 8000000 in
set_option maxRecDepth 100000 in
theorem impl_zeroWord.calls  (r : ByteArray) (w : World) (h : impl_zeroWord.f  = some r) :
  Calls Try.prog 111 #[] w fun e w' => e = .returned (.string r) ∧ Below w.heap.size w w' := by
 have HB := Am (Below.refl w.heap.size w)
 have H : ((impl_padded.f (⟨#[]⟩ : ByteArray) 8).bind fun t274 => (some t274)) = some r := h
 clear h
 replace H := Option.bind_eq_some_iff.mp H
 obtain ⟨t274, A10, H⟩ := H
 replace H : (some t274) = some r := H
 have A1 := Am A10
 clear A10
 obtain rfl := Option.some.inj H
 go_enter Try.func111, Try.ntmps111
 go_wp2_with (first | ((with_reducible refine gate_callee (f := 141) rfl ?_); refine zC (some 1) rfl rfl Try.func141 rfl #[.string (⟨#[]⟩ : ByteArray), .int .i64 8] rfl ?_; (with_reducible refine (impl_padded.calls (⟨#[]⟩ : ByteArray) 8 t274 _ A1.out).mono ?_); rintro e w2 ⟨rfl, hb⟩; refine ⟨_, rfl, ?_⟩; replace HB := Am (bq zB hb); (try clear hb)))
 go_ret
 exact ⟨zR, zB⟩

/-! ### impl_MaskRec: function 110 -/
def impl_MaskRec.f (a0 : ByteArray) : Option (ByteArray) := if (a0.size : Int) = 8 then ((impl_zeroWord.f).bind fun t275 => (if a0.toList = t275.toList then (some a0) else (if 0 ≤ 4 then (if 4 ≤ (a0.size : Int) then (if (a0.extract 0 4).size + 4 ≤ 9223372036854775807 then (some ((a0.extract 0 4) ++ (⟨#[255, 255, 255, 255]⟩ : ByteArray))) else (none)) else (none)) else (none)))) else (some a0)
set_option maxHeartbeats 8000000 in
set_option maxRecDepth 100000 in
theorem impl_MaskRec.calls (a0 : ByteArray) (r : ByteArray) (w : World) (h : impl_MaskRec.f a0 = some r) :
  Calls Try.prog 110 #[.string a0] w fun e w' => e = .returned (.string r) ∧ Below w.heap.size w w' := by
 have HB := Am (Below.refl w.heap.size w)
 have H : (if (a0.size : Int) = 8 then ((impl_zeroWord.f).bind fun t275 => (if a0.toList = t275.toList then (some a0) else (if 0 ≤ 4 then (if 4 ≤ (a0.size : Int) then (if (a0.extract 0 4).size + 4 ≤ 9223372036854775807 then (some ((a0.extract 0 4) ++ (⟨#[255, 255, 255, 255]⟩ : ByteArray))) else (none)) else (none)) else (none)))) else (some a0)) = some r := h
 clear h
 by_cases c2 : (a0.size : Int) = 8
 ·rw [if_pos c2] at H
  have c2b0 : ((a0.size : Int) == 8) = true := beq_iff_eq.mpr c2
  have c2b1 : ((a0.size : Int) != 8) = false := bne_eq_false_iff_eq.mpr c2
  clear c2
  replace H := Option.bind_eq_some_iff.mp H
  obtain ⟨t275, A30, H⟩ := H
  replace H : (if a0.toList = t275.toList then (some a0) else (if 0 ≤ 4 then (if 4 ≤ (a0.size : Int) then (if (a0.extract 0 4).size + 4 ≤ 9223372036854775807 then (some ((a0.extract 0 4) ++ (⟨#[255, 255, 255, 255]⟩ : ByteArray))) else (none)) else (none)) else (none))) = some r := H
  have A3 := Am A30
  clear A30
  by_cases c4 : a0.toList = t275.toList
  ·rw [if_pos c4] at H
   have c4b0 : (a0.toList == t275.toList) = true := beq_iff_eq.mpr c4
   have c4b1 : (a0.toList != t275.toList) = false := bne_eq_false_iff_eq.mpr c4
   clear c4
   obtain rfl := Option.some.inj H
   go_enter Try.func110, Try.ntmps110
   go_wp2_with (first | (go_at_call 111; (with_reducible refine (impl_zeroWord.calls  t275 _ A3.out).mono ?_); rintro e w5 ⟨rfl, hb⟩; replace HB := Am (bq zB hb); (try clear hb)))
   go_ret
   exact ⟨zR, zB⟩
  ·rw [if_neg c4] at H
   have c4b0 : (a0.toList == t275.toList) = false := beq_eq_false_iff_ne.mpr c4
   have c4b1 : (a0.toList != t275.toList) = true := bne_iff_ne.mpr c4
   by_cases c6 : 0 ≤ 4
   ·rw [if_pos c6] at H
    have c6b0 := eq_true c6
    have c6b1 : decide (0 ≤ 4) = true := decide_eq_true c6
    clear c6
    by_cases c7 : 4 ≤ (a0.size : Int)
    ·rw [if_pos c7] at H
     have c7b0 := eq_true c7
     have c7b1 : decide (4 ≤ (a0.size : Int)) = true := decide_eq_true c7
     clear c7
     by_cases c8 : (a0.extract 0 4).size + 4 ≤ 9223372036854775807
     ·rw [if_pos c8] at H
      have c8b0 := eq_true c8
      have c8b1 : decide ((a0.extract 0 4).size + 4 ≤ 9223372036854775807) = true := decide_eq_true c8
      try have c8b2 : (9223372036854775807 < (a0.extract 0 4).size + 4) = False := eq_false (Nat.not_lt.2 c8)
      try (have c8b3 := c8b2; simp only [ByteArray.size_extract, Nat.sub_zero] at c8b3)
      try clear c8
      obtain rfl := Option.some.inj H
      go_enter Try.func110, Try.ntmps110
      go_wp2_with (first | (go_at_call 111; (with_reducible refine (impl_zeroWord.calls  t275 _ A3.out).mono ?_); rintro e w9 ⟨rfl, hb⟩; replace HB := Am (bq zB hb); (try clear hb)))
      go_ret
      exact ⟨zR, zB⟩
     ·rw [if_neg c8] at H
      exact absurd H (by simp)
    ·rw [if_neg c7] at H
     exact absurd H (by simp)
   ·rw [if_neg c6] at H
    exact absurd H (by simp)
 ·rw [if_neg c2] at H
  have c2b0 : ((a0.size : Int) == 8) = false := beq_eq_false_iff_ne.mpr c2
  have c2b1 : ((a0.size : Int) != 8) = true := bne_iff_ne.mpr c2
  obtain rfl := Option.some.inj H
  go_enter Try.func110, Try.ntmps110
  go_wp2
  go_ret
  exact ⟨zR, zB⟩

end Go.Proofs.Ytconffflmbakgaa.QFnExactMaskedImage
