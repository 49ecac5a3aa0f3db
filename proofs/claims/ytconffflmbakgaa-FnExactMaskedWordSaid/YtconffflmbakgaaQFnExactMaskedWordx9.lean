/- Go functions as Lean functions, and their contracts. Own text: written by wip/gen/pr.py (a turned copy of the print). -/
import Derived.Test.YtconffflmbakgaaQFnExactMaskedWordx0
import Derived.Test.YtconffflmbakgaaQFnExactMaskedWordx5
import Derived.Test.YtconffflmbakgaaQFnExactMaskedWordx7
namespace Go.Proofs.Ytconffflmbakgaa.QFnExactMaskedWord
open Go.RowKit Go.Proofs.YtconffflmbakgaaW.PrintWords Go.Proofs.YtconffflmbakgaaW.PrintLast Go.Proofs.YtconffflmbakgaaW.PrintMore
attribute [local go_sem] max2_int min2_int max_two min_two max_three min_three max_four min_four   -- for this text's walks alone
open Go.Proofs.YtconffflmbakgaaW.PrintWords renaming below_alloc → ba, pw_below_drewN → bn, below_drew1 → be, below_set → bs, blk_drewN → kn, blk_drew → ke, blk_alloc → ka, blk_below → kb, blk_frozen → kf, blk_cell → kc, below_step → bq, below_size → bz
open Go.Proofs.YtconffflmbakgaaW.PrintWords.Aside0 renaming mk → Am
set_option linter.unusedVariables false
set_option linter.unusedSimpArgs false

def o9b0 (p0 : Int) (p1 : Int) (p2 : Int) (p3 : Int) : Obj := .cells #[.int .i64 p0, .int .i64 p1, .int .i64 p2, .int .i64 p3] 29 (0, 0)
/-! ### impl_PartAt: function 107 -/
def impl_PartAt.j0 : Nat → Int → Bool → Int → Int → Int → Int → Option (Int × Int)
 | 0, _, _, _, _, _, _ => none
 | k + 1, x1, x21, x238000, x238001, x238002, x238003 => if x21 = true then (some ((-1), 0)) else ((impl_Geo_partWords.f x238000 x238001 x238002 x238003).bind fun t241 => (if t241 = 0 then (none) else (if (Int.tmod x1 t241) = 0 then ((impl_Geo_partWords.f x238000 x238001 x238002 x238003).bind fun t242 => (if t242 = 0 then (none) else (some (wrap64 (Int.tdiv x1 t242), 1)))) else (if (Int.tmod x1 t241) = 2 then ((impl_Geo_partWords.f x238000 x238001 x238002 x238003).bind fun t243 => (if t243 = 0 then (none) else (some (wrap64 (Int.tdiv x1 t243), 2)))) else (if (Int.tmod x1 t241) < 4 then ((impl_Geo_partWords.f x238000 x238001 x238002 x238003).bind fun t244 => (if t244 = 0 then (none) else (some (wrap64 (Int.tdiv x1 t244), 0)))) else (if (Int.tmod x1 t241) < 36 then ((impl_Geo_partWords.f x238000 x238001 x238002 x238003).bind fun t245 => (if t245 = 0 then (none) else (some (wrap64 (Int.tdiv x1 t245), 3)))) else (if (Int.tmod x1 t241) < 38 then ((impl_Geo_partWords.f x238000 x238001 x238002 x238003).bind fun t246 => (if t246 = 0 then (none) else (some (wrap64 (Int.tdiv x1 t246), 4)))) else (if (Int.tmod x1 t241) < (wrap64 (38 + (wrap64 (8 * x238002)))) then ((impl_Geo_partWords.f x238000 x238001 x238002 x238003).bind fun t247 => (if t247 = 0 then (none) else (some (wrap64 (Int.tdiv x1 t247), 5)))) else ((impl_Geo_partWords.f x238000 x238001 x238002 x238003).bind fun t248 => (if t248 = 0 then (none) else (some (wrap64 (Int.tdiv x1 t248), 6))))))))))))
def impl_PartAt.f (k : Nat) (a0_0 : Int) (a0_1 : Int) (a0_2 : Int) (a0_3 : Int) (a1 : Int) : Option (Int × Int) := (impl_GeoOk.f a0_0 a0_1 a0_2 a0_3).bind fun t238 => (if t238 = true then ((impl_Geo_partWords.f a0_0 a0_1 a0_2 a0_3).bind fun t239 => ((impl_within.f a1 0 (wrap64 ((wrap64 (a0_0 * t239)) - 1))).bind fun t240 => (impl_PartAt.j0 k a1 (!t240) a0_0 a0_1 a0_2 a0_3))) else (impl_PartAt.j0 k a1 true a0_0 a0_1 a0_2 a0_3))
theorem impl_PartAt.mono_l : ∀ k, (∀ y0 y1 y2 y3 y4 y5, LeO (impl_PartAt.j0 k y0 y1 y2 y3 y4 y5) (impl_PartAt.j0 (k + 1) y0 y1 y2 y3 y4 y5))
 | 0 => fun _ _ _ _ _ _ r h => by simp [impl_PartAt.j0] at h
 | k + 1 => by
  have ih0 := impl_PartAt.mono_l k
  ·intro y0 y1 y2 y3 y4 y5
   unfold impl_PartAt.j0
   repeat' first
   | (with_reducible exact ih0 _ _ _ _ _ _)
   | (with_reducible exact LeO.refl _)
   | (with_reducible exact LeO.none _)
   | (with_reducible refine LeO.ite ?_ ?_)
   | (with_reducible refine LeO.bind ?_ (fun _ => ?_))
   | exact ih0 _ _ _ _ _ _
   | exact LeO.none _
   | refine LeO.ite ?_ ?_
   | refine LeO.bind ?_ (fun _ => ?_)
theorem impl_PartAt.mono : ∀ a0 a1 a2 a3 a4 k, LeO (impl_PartAt.f k a0 a1 a2 a3 a4) (impl_PartAt.f (k + 1) a0 a1 a2 a3 a4) := by
 intro a0 a1 a2 a3 a4 k
 have ih0 := impl_PartAt.mono_l k
 unfold impl_PartAt.f
 repeat' first
   | (with_reducible exact ih0 _ _ _ _ _ _)
   | (with_reducible exact LeO.refl _)
   | (with_reducible exact LeO.none _)
   | (with_reducible refine LeO.ite ?_ ?_)
   | (with_reducible refine LeO.bind ?_ (fun _ => ?_))
   | exact ih0 _ _ _ _ _ _
   | exact LeO.none _
   | refine LeO.ite ?_ ?_
   | refine LeO.bind ?_ (fun _ => ?_)
def impl_PartAt.T1 : Bool × List (List Nat × List Nat) := (true, [([], []), ([0], [0]), ([1], [1]), ([2, 1], [2]), ([3], [3]), ([3], [3]), ([5, 3], [3, 5]), ([3], [3]), ([7, 3, 3], [3, 7]), ([6, 8, 3], [3, 6, 8]), ([9, 3], [3, 9]), ([4, 10, 8, 3], [3, 4, 10]), ([11, 3], [3, 11]), ([3, 12], [3, 12])])
def impl_PartAt.B1 : List Nat := [0, 1, 3, 7, 15, 15, 47, 15, 143, 495, 1007, 2047, 4095, 8191]
theorem impl_PartAt.tab1 : rtab .any (opsOf Try.f107 1) = impl_PartAt.T1 := by kernel_rfl
theorem impl_PartAt.bits1 : waitsOk impl_PartAt.T1.2 impl_PartAt.B1 = true := by kernel_rfl
set_option maxHeartbeats 8000000 in
set_option maxRecDepth 100000 in
theorem impl_PartAt.calls (k : Nat) (a0_0 : Int) (a0_1 : Int) (a0_2 : Int) (a0_3 : Int) (a1 : Int) (r1 : Int) (r2 : Int) (w : World) (h : impl_PartAt.f k a0_0 a0_1 a0_2 a0_3 a1 = some (r1, r2)) :
  Calls Try.prog 107 #[.agg #[.int .i64 a0_0, .int .i64 a0_1, .int .i64 a0_2, .int .i64 a0_3], .int .i64 a1] w fun e w' => e = .returned (.tuple #[.int .i64 r1, .int .i64 r2]) ∧ Below w.heap.size w w' := by
 have hu29 := Try.underlying29
 have HB := Am (Below.refl w.heap.size w)
 have H : ((impl_GeoOk.f a0_0 a0_1 a0_2 a0_3).bind fun t238 => (if t238 = true then ((impl_Geo_partWords.f a0_0 a0_1 a0_2 a0_3).bind fun t239 => ((impl_within.f a1 0 (wrap64 ((wrap64 (a0_0 * t239)) - 1))).bind fun t240 => (impl_PartAt.j0 k a1 (!t240) a0_0 a0_1 a0_2 a0_3))) else (impl_PartAt.j0 k a1 true a0_0 a0_1 a0_2 a0_3))) = some (r1, r2) := h
 clear h
 have HC3 := Am H
 clear H
 go_enter Try.func107, Try.ntmps107
 go_upto_region 1 with (first | ((with_reducible refine gate_dst (N := 2) rfl ?_); refine box_event ?hg (N := 2) ?hd (cs := #[.int .i64 a0_0, .int .i64 a0_1, .int .i64 a0_2, .int .i64 a0_3]) (t := 29) ?hr ?_; (case hd => rfl); (case hg => rfl); (case hr => first | (go_simp; done) | (go_simp; rfl)); intro gb237 hg w4 hbox hb; have BK237 := Am (hbox); have GW237 := Am ((by rw [hg]; exact (bz (by repeat (first | (with_reducible first | exact HB.out | apply ba | apply bn | apply be) | exact HB.out))) : w.heap.size ≤ gb237)); have GE237 := Am ((by rw [hg]; exact (bz (by repeat (first | (with_reducible first | exact HB.out | apply ba | apply bn | apply be) | exact HB.out))) : w.heap.size ≤ gb237)); replace HB := Am (bq (by repeat (first | (with_reducible first | exact HB.out | apply ba | apply bn | apply be) | exact HB.out)) hb); clear hb hbox hg))
 (try simp only [Act.put, List.setIfInBounds_toArray, List.set_cons_zero, List.set_cons_succ])
 go_cut [21] (fun v21 wc => ∃ (kq : Nat) (x21_2 : Bool), v21 = .bool x21_2 ∧ Aside0 (impl_PartAt.j0 kq a1 x21_2 a0_0 a0_1 a0_2 a0_3 = some (r1, r2)) ∧ Aside0 (kq ≤ k) ∧ Aside0 (wc.heap[gb237]? = some (.cells #[.int .i64 a0_0, .int .i64 a0_1, .int .i64 a0_2, .int .i64 a0_3] 29 (0, 0))) ∧ Aside0 (Below w.heap.size w wc))
 case first =>
  have H := HC3.out
  clear HC3
  replace H := Option.bind_eq_some_iff.mp H
  obtain ⟨t238, A50, H⟩ := H
  replace H : (if t238 = true then ((impl_Geo_partWords.f a0_0 a0_1 a0_2 a0_3).bind fun t239 => ((impl_within.f a1 0 (wrap64 ((wrap64 (a0_0 * t239)) - 1))).bind fun t240 => (impl_PartAt.j0 k a1 (!t240) a0_0 a0_1 a0_2 a0_3))) else (impl_PartAt.j0 k a1 true a0_0 a0_1 a0_2 a0_3)) = some (r1, r2) := H
  have A5 := Am A50
  clear A50
  by_cases c6 : t238 = true
  ·subst c6
   have H1 : ((impl_Geo_partWords.f a0_0 a0_1 a0_2 a0_3).bind fun t239 => ((impl_within.f a1 0 (wrap64 ((wrap64 (a0_0 * t239)) - 1))).bind fun t240 => (impl_PartAt.j0 k a1 (!t240) a0_0 a0_1 a0_2 a0_3))) = some (r1, r2) := by rw [if_pos rfl] at H; exact H
   clear H
   have H := H1
   clear H1
   replace H := Option.bind_eq_some_iff.mp H
   obtain ⟨t239, A70, H⟩ := H
   replace H : ((impl_within.f a1 0 (wrap64 ((wrap64 (a0_0 * t239)) - 1))).bind fun t240 => (impl_PartAt.j0 k a1 (!t240) a0_0 a0_1 a0_2 a0_3)) = some (r1, r2) := H
   have A7 := Am A70
   clear A70
   replace H := Option.bind_eq_some_iff.mp H
   obtain ⟨t240, A80, H⟩ := H
   replace H : (impl_PartAt.j0 k a1 (!t240) a0_0 a0_1 a0_2 a0_3) = some (r1, r2) := H
   have A8 := Am A80
   clear A80
   have H' := Am H
   clear H
   try go_wp2
   have n0_ := Am (ke BK237.out)
   have n1_ := Am (be HB.out)
   clear BK237
   clear HB
   have BK237 := n0_
   have HB := n1_
   clear n0_ n1_
   refine start_ (n := 14) (S := fun w' => w'.cell? ⟨gb237, 0, none⟩ = some (.int .i64 a0_0) ∧ w'.cell? ⟨gb237, 1, none⟩ = some (.int .i64 a0_1) ∧ w'.cell? ⟨gb237, 2, none⟩ = some (.int .i64 a0_2) ∧ w'.cell? ⟨gb237, 3, none⟩ = some (.int .i64 a0_3)) (ds := []) #[false, false, false, false, false, false, false, false, false, false, false, false, false, false] (by kernel_rfl) rfl rfl ⟨(kc BK237.out 0).trans rfl, (kc BK237.out 1).trans rfl, (kc BK237.out 2).trans rfl, (kc BK237.out 3).trans rfl⟩ (fun hHeld => ?_); refine with_tabW impl_PartAt.tab1 impl_PartAt.bits1 (fun HT_ HW_ => ?_)
   generalize w4.drew = w9 at BK237 HB hHeld ⊢
   refine zT 0 (some 8) HT_.out HW_.out rfl rfl hHeld ?_
   refine zO 1 (some 9) HT_.out rfl rfl (fun K hK => ?_)
   refine goes_ Try.func104 (by kernel_rfl) rfl #[.agg #[.int .i64 a0_0, .int .i64 a0_1, .int .i64 a0_2, .int .i64 a0_3]] (by rfl) rfl rfl (by (try simp only [List.map_toArray, List.map_cons, List.map_nil]); first | done | rfl | (simp only [List.length_drop, List.length_take]; rfl)) ?_
   with_reducible refine (impl_GeoOk.calls a0_0 a0_1 a0_2 a0_3 true _ A5.out).mono ?_
   rintro e w10 ⟨rfl, hb⟩
   refine ⟨_, rfl, ?_⟩
   have n0_ := Am (kb (g := gb237) (o := o9b0 a0_0 a0_1 a0_2 a0_3) (by (with_reducible repeat (first | refine kn ?_ _ | refine ke ?_ | refine ka ?_ _)); exact BK237.out) hb)
   have n1_ := Am (bq (by repeat (first | (with_reducible first | exact HB.out | apply ba | apply bn | apply be | refine bs ?_ GE237.out) | exact HB.out)) hb)
   clear BK237
   clear HB
   have BK237 := n0_
   have HB := n1_
   clear n0_ n1_
   (try clear hb)
   (try clear hb2)
   (try clear hk)
   (try clear hi)
   refine hK.out _ _ ⟨(kc BK237.out 0).trans rfl, (kc BK237.out 1).trans rfl, (kc BK237.out 2).trans rfl, (kc BK237.out 3).trans rfl⟩ (fun hHeld => ?_)
   clear hK K
   refine zN (some 9) ?_
   refine zA 2 (some 10) HT_.out rfl rfl ?_
   refine zA 3 (some 11) HT_.out rfl rfl ?_
   refine zA 4 (some 12) HT_.out rfl rfl ?_
   refine zA 5 (some 13) HT_.out rfl rfl ?_
   refine zT 6 (some 14) HT_.out HW_.out rfl rfl hHeld ?_
   refine zT 7 (some 15) HT_.out HW_.out rfl rfl hHeld ?_
   refine zO 8 (some 16) HT_.out rfl rfl (fun K hK => ?_)
   refine goes_ Try.func60 (by kernel_rfl) rfl #[.agg #[.int .i64 a0_0, .int .i64 a0_1, .int .i64 a0_2, .int .i64 a0_3]] (by rfl) rfl rfl (by (try simp only [List.map_toArray, List.map_cons, List.map_nil]); first | done | rfl | (simp only [List.length_drop, List.length_take]; rfl)) ?_
   with_reducible refine (impl_Geo_partWords.calls a0_0 a0_1 a0_2 a0_3 t239 _ A7.out).mono ?_
   rintro e w11 ⟨rfl, hb⟩
   refine ⟨_, rfl, ?_⟩
   have n0_ := Am (kb (g := gb237) (o := o9b0 a0_0 a0_1 a0_2 a0_3) (by (with_reducible repeat (first | refine kn ?_ _ | refine ke ?_ | refine ka ?_ _)); exact BK237.out) hb)
   have n1_ := Am (bq (by repeat (first | (with_reducible first | exact HB.out | apply ba | apply bn | apply be | refine bs ?_ GE237.out) | exact HB.out)) hb)
   clear BK237
   clear HB
   have BK237 := n0_
   have HB := n1_
   clear n0_ n1_
   (try clear hb)
   (try clear hb2)
   (try clear hk)
   (try clear hi)
   refine hK.out _ _ ⟨(kc BK237.out 0).trans rfl, (kc BK237.out 1).trans rfl, (kc BK237.out 2).trans rfl, (kc BK237.out 3).trans rfl⟩ (fun hHeld => ?_)
   clear hK K
   refine zN (some 16) ?_
   refine zA 9 (some 17) HT_.out rfl rfl ?_
   refine zA 10 (some 18) HT_.out rfl rfl ?_
   refine zO 11 (some 19) HT_.out rfl rfl (fun K hK => ?_)
   refine goes_ Try.func59 (by kernel_rfl) rfl #[.int .i64 a1, .int .i64 0, .int .i64 (wrap64 ((wrap64 (a0_0 * t239)) - 1))] (by rfl) rfl rfl (by (try simp only [List.map_toArray, List.map_cons, List.map_nil]); first | done | rfl | (simp only [List.length_drop, List.length_take]; rfl)) ?_
   with_reducible refine (impl_within.calls a1 0 (wrap64 ((wrap64 (a0_0 * t239)) - 1)) t240 _ A8.out).mono ?_
   rintro e w' ⟨rfl, ⟨nd, rfl⟩⟩
   refine ⟨_, rfl, ?_⟩
   refine hK.out _ _ ⟨(kc BK237.out 0).trans rfl, (kc BK237.out 1).trans rfl, (kc BK237.out 2).trans rfl, (kc BK237.out 3).trans rfl⟩ (fun hHeld => ?_)
   clear hK K
   refine zN (some 19) ?_
   refine zA 12 (some 20) HT_.out rfl rfl ?_
   refine zA 13 (some 21) HT_.out rfl rfl ?_
   refine done_ (done_of HT_.out (by kernel_rfl)) ?_
   try go_wp2
   go_meet
   case rel => exact ⟨_, (!t240), (by first | rfl | (simp; done) | (simp [*]; done)), H', ⟨by first | omega | exact Nat.le_refl _⟩, ⟨by (with_reducible repeat (first | refine kn ?_ _ | refine ke ?_ | refine ka ?_ _)); exact BK237.out⟩, ⟨by repeat (first | (with_reducible first | exact HB.out | apply ba | apply bn | apply be | refine bs ?_ GE237.out) | exact HB.out)⟩⟩
  ·replace c6 := Bool.eq_false_iff.mpr c6
   subst c6
   have H1 : (impl_PartAt.j0 k a1 true a0_0 a0_1 a0_2 a0_3) = some (r1, r2) := by rw [if_neg (show ¬ (false = true) by decide)] at H; exact H
   clear H
   have H := H1
   clear H1
   have H' := Am H
   clear H
   try go_wp2
   have n0_ := Am (ke BK237.out)
   have n1_ := Am (be HB.out)
   clear BK237
   clear HB
   have BK237 := n0_
   have HB := n1_
   clear n0_ n1_
   refine start_ (n := 14) (S := fun w' => w'.cell? ⟨gb237, 0, none⟩ = some (.int .i64 a0_0) ∧ w'.cell? ⟨gb237, 1, none⟩ = some (.int .i64 a0_1) ∧ w'.cell? ⟨gb237, 2, none⟩ = some (.int .i64 a0_2) ∧ w'.cell? ⟨gb237, 3, none⟩ = some (.int .i64 a0_3)) (ds := []) #[false, false, false, false, false, false, false, false, false, false, false, false, false, false] (by kernel_rfl) rfl rfl ⟨(kc BK237.out 0).trans rfl, (kc BK237.out 1).trans rfl, (kc BK237.out 2).trans rfl, (kc BK237.out 3).trans rfl⟩ (fun hHeld => ?_); refine with_tabW impl_PartAt.tab1 impl_PartAt.bits1 (fun HT_ HW_ => ?_)
   generalize w4.drew = w12 at BK237 HB hHeld ⊢
   refine zT 0 (some 8) HT_.out HW_.out rfl rfl hHeld ?_
   refine zO 1 (some 9) HT_.out rfl rfl (fun K hK => ?_)
   refine goes_ Try.func104 (by kernel_rfl) rfl #[.agg #[.int .i64 a0_0, .int .i64 a0_1, .int .i64 a0_2, .int .i64 a0_3]] (by rfl) rfl rfl (by (try simp only [List.map_toArray, List.map_cons, List.map_nil]); first | done | rfl | (simp only [List.length_drop, List.length_take]; rfl)) ?_
   with_reducible refine (impl_GeoOk.calls a0_0 a0_1 a0_2 a0_3 false _ A5.out).mono ?_
   rintro e w13 ⟨rfl, hb⟩
   refine ⟨_, rfl, ?_⟩
   have n0_ := Am (kb (g := gb237) (o := o9b0 a0_0 a0_1 a0_2 a0_3) (by (with_reducible repeat (first | refine kn ?_ _ | refine ke ?_ | refine ka ?_ _)); exact BK237.out) hb)
   have n1_ := Am (bq (by repeat (first | (with_reducible first | exact HB.out | apply ba | apply bn | apply be | refine bs ?_ GE237.out) | exact HB.out)) hb)
   clear BK237
   clear HB
   have BK237 := n0_
   have HB := n1_
   clear n0_ n1_
   (try clear hb)
   (try clear hb2)
   (try clear hk)
   (try clear hi)
   refine hK.out _ _ ⟨(kc BK237.out 0).trans rfl, (kc BK237.out 1).trans rfl, (kc BK237.out 2).trans rfl, (kc BK237.out 3).trans rfl⟩ (fun hHeld => ?_)
   clear hK K
   refine zN (some 9) ?_
   refine zA 2 (some 10) HT_.out rfl rfl ?_
   refine zA 3 (some 11) HT_.out rfl rfl ?_
   refine zI 4 (some 12) HT_.out rfl rfl ?_
   refine zI 5 (some 13) HT_.out rfl rfl ?_
   refine zI 6 (some 14) HT_.out rfl rfl ?_
   refine zI 7 (some 15) HT_.out rfl rfl ?_
   refine zI 8 (some 16) HT_.out rfl rfl ?_
   refine zI 9 (some 17) HT_.out rfl rfl ?_
   refine zI 10 (some 18) HT_.out rfl rfl ?_
   refine zI 11 (some 19) HT_.out rfl rfl ?_
   refine zI 12 (some 20) HT_.out rfl rfl ?_
   refine zA 13 (some 21) HT_.out rfl rfl ?_
   refine done_ (done_of HT_.out (by kernel_rfl)) ?_
   try go_wp2
   go_meet
   case rel => exact ⟨_, (true), (by first | rfl | (simp; done) | (simp [*]; done)), H', ⟨by first | omega | exact Nat.le_refl _⟩, ⟨by (with_reducible repeat (first | refine kn ?_ _ | refine ke ?_ | refine ka ?_ _)); exact BK237.out⟩, ⟨by repeat (first | (with_reducible first | exact HB.out | apply ba | apply bn | apply be | refine bs ?_ GE237.out) | exact HB.out)⟩⟩
 case rest =>
  clear HC3
  try clear c1
  try clear p2
  try clear c5
  try clear c6
  try clear p6
  try clear c10
  obtain ⟨kq, x21_2, rfl, HA, HJ2, BK237, HB⟩ := hcut
  cases kq with
  | zero => exact absurd HA.out (by simp [impl_PartAt.j0])
  | succ kj2 =>
   have H := HA.out
   clear HA
   simp only [impl_PartAt.j0] at H
   by_cases c14 : x21_2 = true
   ·subst c14
    have H1 : (some ((-1), 0)) = some (r1, r2) := by rw [if_pos rfl] at H; exact H
    clear H
    have H := H1
    clear H1
    simp only [Option.some.injEq, Prod.mk.injEq] at H
    obtain ⟨rfl, rfl⟩ := H
    go_wp2
    go_ret2
    exact ⟨by first | rfl | (simp [errW_none, errW_some] <;> rfl) | (simp [*, errW_none, errW_some] <;> rfl), by repeat (first | (with_reducible first | exact HB.out | apply ba | apply bn | apply be | refine bs ?_ GE237.out) | exact HB.out)⟩
   ·replace c14 := Bool.eq_false_iff.mpr c14
    subst c14
    have H1 : ((impl_Geo_partWords.f a0_0 a0_1 a0_2 a0_3).bind fun t241 => (if t241 = 0 then (none) else (if (Int.tmod a1 t241) = 0 then ((impl_Geo_partWords.f a0_0 a0_1 a0_2 a0_3).bind fun t242 => (if t242 = 0 then (none) else (some (wrap64 (Int.tdiv a1 t242), 1)))) else (if (Int.tmod a1 t241) = 2 then ((impl_Geo_partWords.f a0_0 a0_1 a0_2 a0_3).bind fun t243 => (if t243 = 0 then (none) else (some (wrap64 (Int.tdiv a1 t243), 2)))) else (if (Int.tmod a1 t241) < 4 then ((impl_Geo_partWords.f a0_0 a0_1 a0_2 a0_3).bind fun t244 => (if t244 = 0 then (none) else (some (wrap64 (Int.tdiv a1 t244), 0)))) else (if (Int.tmod a1 t241) < 36 then ((impl_Geo_partWords.f a0_0 a0_1 a0_2 a0_3).bind fun t245 => (if t245 = 0 then (none) else (some (wrap64 (Int.tdiv a1 t245), 3)))) else (if (Int.tmod a1 t241) < 38 then ((impl_Geo_partWords.f a0_0 a0_1 a0_2 a0_3).bind fun t246 => (if t246 = 0 then (none) else (some (wrap64 (Int.tdiv a1 t246), 4)))) else (if (Int.tmod a1 t241) < (wrap64 (38 + (wrap64 (8 * a0_2)))) then ((impl_Geo_partWords.f a0_0 a0_1 a0_2 a0_3).bind fun t247 => (if t247 = 0 then (none) else (some (wrap64 (Int.tdiv a1 t247), 5)))) else ((impl_Geo_partWords.f a0_0 a0_1 a0_2 a0_3).bind fun t248 => (if t248 = 0 then (none) else (some (wrap64 (Int.tdiv a1 t248), 6)))))))))))) = some (r1, r2) := by rw [if_neg (show ¬ (false = true) by decide)] at H; exact H
    clear H
    have H := H1
    clear H1
    replace H := Option.bind_eq_some_iff.mp H
    obtain ⟨t241, A150, H⟩ := H
    replace H : (if t241 = 0 then (none) else (if (Int.tmod a1 t241) = 0 then ((impl_Geo_partWords.f a0_0 a0_1 a0_2 a0_3).bind fun t242 => (if t242 = 0 then (none) else (some (wrap64 (Int.tdiv a1 t242), 1)))) else (if (Int.tmod a1 t241) = 2 then ((impl_Geo_partWords.f a0_0 a0_1 a0_2 a0_3).bind fun t243 => (if t243 = 0 then (none) else (some (wrap64 (Int.tdiv a1 t243), 2)))) else (if (Int.tmod a1 t241) < 4 then ((impl_Geo_partWords.f a0_0 a0_1 a0_2 a0_3).bind fun t244 => (if t244 = 0 then (none) else (some (wrap64 (Int.tdiv a1 t244), 0)))) else (if (Int.tmod a1 t241) < 36 then ((impl_Geo_partWords.f a0_0 a0_1 a0_2 a0_3).bind fun t245 => (if t245 = 0 then (none) else (some (wrap64 (Int.tdiv a1 t245), 3)))) else (if (Int.tmod a1 t241) < 38 then ((impl_Geo_partWords.f a0_0 a0_1 a0_2 a0_3).bind fun t246 => (if t246 = 0 then (none) else (some (wrap64 (Int.tdiv a1 t246), 4)))) else (if (Int.tmod a1 t241) < (wrap64 (38 + (wrap64 (8 * a0_2)))) then ((impl_Geo_partWords.f a0_0 a0_1 a0_2 a0_3).bind fun t247 => (if t247 = 0 then (none) else (some (wrap64 (Int.tdiv a1 t247), 5)))) else ((impl_Geo_partWords.f a0_0 a0_1 a0_2 a0_3).bind fun t248 => (if t248 = 0 then (none) else (some (wrap64 (Int.tdiv a1 t248), 6))))))))))) = some (r1, r2) := H
    have A15 := Am A150
    clear A150
    by_cases c16 : t241 = 0
    ·rw [if_pos c16] at H
     exact absurd H (by simp)
    ·rw [if_neg c16] at H
     have c16b0 : (t241 == 0) = false := beq_eq_false_iff_ne.mpr c16
     have c16b1 : (t241 != 0) = true := bne_iff_ne.mpr c16
     by_cases c17 : (Int.tmod a1 t241) = 0
     ·rw [if_pos c17] at H
      have c17b0 : ((Int.tmod a1 t241) == 0) = true := beq_iff_eq.mpr c17
      have c17b1 : ((Int.tmod a1 t241) != 0) = false := bne_eq_false_iff_eq.mpr c17
      clear c17
      replace H := Option.bind_eq_some_iff.mp H
      obtain ⟨t242, A180, H⟩ := H
      replace H : (if t242 = 0 then (none) else (some (wrap64 (Int.tdiv a1 t242), 1))) = some (r1, r2) := H
      have A18 := Am A180
      clear A180
      by_cases c19 : t242 = 0
      ·rw [if_pos c19] at H
       exact absurd H (by simp)
      ·rw [if_neg c19] at H
       have c19b0 : (t242 == 0) = false := beq_eq_false_iff_ne.mpr c19
       have c19b1 : (t242 != 0) = true := bne_iff_ne.mpr c19
       simp only [Option.some.injEq, Prod.mk.injEq] at H
       obtain ⟨rfl, rfl⟩ := H
       have hcz20_0 : wc.cell? ⟨gb237, 0, none⟩ = some (.int .i64 a0_0) := (kc BK237.out 0).trans rfl
       have hcz20_1 : wc.cell? ⟨gb237, 1, none⟩ = some (.int .i64 a0_1) := (kc BK237.out 1).trans rfl
       have hcz20_2 : wc.cell? ⟨gb237, 2, none⟩ = some (.int .i64 a0_2) := (kc BK237.out 2).trans rfl
       have hcz20_3 : wc.cell? ⟨gb237, 3, none⟩ = some (.int .i64 a0_3) := (kc BK237.out 3).trans rfl
       have hfz20_0 := kf BK237.out 0
       have hfz20_1 := kf BK237.out 1
       have hfz20_2 := kf BK237.out 2
       have hfz20_3 := kf BK237.out 3
       go_wp2_with (first | ((with_reducible refine gate_callee (f := 60) rfl ?_); refine goesL_ (some 24) rfl rfl Try.func60 (by kernel_rfl) rfl #[.agg #[.int .i64 a0_0, .int .i64 a0_1, .int .i64 a0_2, .int .i64 a0_3]] rfl (by (try simp only [List.map_toArray, List.map_cons, List.map_nil]); first | done | rfl | (simp only [List.length_drop, List.length_take]; rfl)) ?_; (with_reducible refine (impl_Geo_partWords.calls a0_0 a0_1 a0_2 a0_3 t241 _ A15.out).mono ?_); rintro e w21 ⟨rfl, hb⟩; refine ⟨_, rfl, ?_⟩; have n0_ := Am (kb (g := gb237) (o := o9b0 a0_0 a0_1 a0_2 a0_3) (by (with_reducible repeat (first | refine kn ?_ _ | refine ke ?_ | refine ka ?_ _)); exact BK237.out) hb); have n1_ := Am (bq (by repeat (first | (with_reducible first | exact HB.out | apply ba | apply bn | apply be | refine bs ?_ GE237.out) | exact HB.out)) hb); clear BK237; clear HB; have BK237 := n0_; have HB := n1_; clear n0_ n1_; (try clear hb); have hcz22_0 : w21.cell? ⟨gb237, 0, none⟩ = some (.int .i64 a0_0) := (kc BK237.out 0).trans rfl; have hcz22_1 : w21.cell? ⟨gb237, 1, none⟩ = some (.int .i64 a0_1) := (kc BK237.out 1).trans rfl; have hcz22_2 : w21.cell? ⟨gb237, 2, none⟩ = some (.int .i64 a0_2) := (kc BK237.out 2).trans rfl; have hcz22_3 : w21.cell? ⟨gb237, 3, none⟩ = some (.int .i64 a0_3) := (kc BK237.out 3).trans rfl; have hfz22_0 := kf BK237.out 0; have hfz22_1 := kf BK237.out 1; have hfz22_2 := kf BK237.out 2; have hfz22_3 := kf BK237.out 3) | ((with_reducible refine gate_callee (f := 60) rfl ?_); refine goesL_ (some 50) rfl rfl Try.func60 (by kernel_rfl) rfl #[.agg #[.int .i64 a0_0, .int .i64 a0_1, .int .i64 a0_2, .int .i64 a0_3]] rfl (by (try simp only [List.map_toArray, List.map_cons, List.map_nil]); first | done | rfl | (simp only [List.length_drop, List.length_take]; rfl)) ?_; (with_reducible refine (impl_Geo_partWords.calls a0_0 a0_1 a0_2 a0_3 t242 _ A18.out).mono ?_); rintro e w23 ⟨rfl, hb⟩; refine ⟨_, rfl, ?_⟩; have n0_ := Am (kb (g := gb237) (o := o9b0 a0_0 a0_1 a0_2 a0_3) (by (with_reducible repeat (first | refine kn ?_ _ | refine ke ?_ | refine ka ?_ _)); exact BK237.out) hb); have n1_ := Am (bq (by repeat (first | (with_reducible first | exact HB.out | apply ba | apply bn | apply be | refine bs ?_ GE237.out) | exact HB.out)) hb); clear BK237; clear HB; have BK237 := n0_; have HB := n1_; clear n0_ n1_; (try clear hb)))
       go_ret2
       exact ⟨by first | rfl | (simp [errW_none, errW_some] <;> rfl) | (simp [*, errW_none, errW_some] <;> rfl), by repeat (first | (with_reducible first | exact HB.out | apply ba | apply bn | apply be | refine bs ?_ GE237.out) | exact HB.out)⟩
     ·rw [if_neg c17] at H
      have c17b0 : ((Int.tmod a1 t241) == 0) = false := beq_eq_false_iff_ne.mpr c17
      have c17b1 : ((Int.tmod a1 t241) != 0) = true := bne_iff_ne.mpr c17
      by_cases c24 : (Int.tmod a1 t241) = 2
      ·rw [if_pos c24] at H
       have c24b0 : ((Int.tmod a1 t241) == 2) = true := beq_iff_eq.mpr c24
       have c24b1 : ((Int.tmod a1 t241) != 2) = false := bne_eq_false_iff_eq.mpr c24
       clear c24
       replace H := Option.bind_eq_some_iff.mp H
       obtain ⟨t243, A250, H⟩ := H
       replace H : (if t243 = 0 then (none) else (some (wrap64 (Int.tdiv a1 t243), 2))) = some (r1, r2) := H
       have A25 := Am A250
       clear A250
       by_cases c26 : t243 = 0
       ·rw [if_pos c26] at H
        exact absurd H (by simp)
       ·rw [if_neg c26] at H
        have c26b0 : (t243 == 0) = false := beq_eq_false_iff_ne.mpr c26
        have c26b1 : (t243 != 0) = true := bne_iff_ne.mpr c26
        simp only [Option.some.injEq, Prod.mk.injEq] at H
        obtain ⟨rfl, rfl⟩ := H
        have hcz27_0 : wc.cell? ⟨gb237, 0, none⟩ = some (.int .i64 a0_0) := (kc BK237.out 0).trans rfl
        have hcz27_1 : wc.cell? ⟨gb237, 1, none⟩ = some (.int .i64 a0_1) := (kc BK237.out 1).trans rfl
        have hcz27_2 : wc.cell? ⟨gb237, 2, none⟩ = some (.int .i64 a0_2) := (kc BK237.out 2).trans rfl
        have hcz27_3 : wc.cell? ⟨gb237, 3, none⟩ = some (.int .i64 a0_3) := (kc BK237.out 3).trans rfl
        have hfz27_0 := kf BK237.out 0
        have hfz27_1 := kf BK237.out 1
        have hfz27_2 := kf BK237.out 2
        have hfz27_3 := kf BK237.out 3
        go_wp2_with (first | ((with_reducible refine gate_callee (f := 60) rfl ?_); refine goesL_ (some 24) rfl rfl Try.func60 (by kernel_rfl) rfl #[.agg #[.int .i64 a0_0, .int .i64 a0_1, .int .i64 a0_2, .int .i64 a0_3]] rfl (by (try simp only [List.map_toArray, List.map_cons, List.map_nil]); first | done | rfl | (simp only [List.length_drop, List.length_take]; rfl)) ?_; (with_reducible refine (impl_Geo_partWords.calls a0_0 a0_1 a0_2 a0_3 t241 _ A15.out).mono ?_); rintro e w28 ⟨rfl, hb⟩; refine ⟨_, rfl, ?_⟩; have n0_ := Am (kb (g := gb237) (o := o9b0 a0_0 a0_1 a0_2 a0_3) (by (with_reducible repeat (first | refine kn ?_ _ | refine ke ?_ | refine ka ?_ _)); exact BK237.out) hb); have n1_ := Am (bq (by repeat (first | (with_reducible first | exact HB.out | apply ba | apply bn | apply be | refine bs ?_ GE237.out) | exact HB.out)) hb); clear BK237; clear HB; have BK237 := n0_; have HB := n1_; clear n0_ n1_; (try clear hb); have hcz29_0 : w28.cell? ⟨gb237, 0, none⟩ = some (.int .i64 a0_0) := (kc BK237.out 0).trans rfl; have hcz29_1 : w28.cell? ⟨gb237, 1, none⟩ = some (.int .i64 a0_1) := (kc BK237.out 1).trans rfl; have hcz29_2 : w28.cell? ⟨gb237, 2, none⟩ = some (.int .i64 a0_2) := (kc BK237.out 2).trans rfl; have hcz29_3 : w28.cell? ⟨gb237, 3, none⟩ = some (.int .i64 a0_3) := (kc BK237.out 3).trans rfl; have hfz29_0 := kf BK237.out 0; have hfz29_1 := kf BK237.out 1; have hfz29_2 := kf BK237.out 2; have hfz29_3 := kf BK237.out 3) | ((with_reducible refine gate_callee (f := 60) rfl ?_); refine goesL_ (some 50) rfl rfl Try.func60 (by kernel_rfl) rfl #[.agg #[.int .i64 a0_0, .int .i64 a0_1, .int .i64 a0_2, .int .i64 a0_3]] rfl (by (try simp only [List.map_toArray, List.map_cons, List.map_nil]); first | done | rfl | (simp only [List.length_drop, List.length_take]; rfl)) ?_; (with_reducible refine (impl_Geo_partWords.calls a0_0 a0_1 a0_2 a0_3 t243 _ A25.out).mono ?_); rintro e w30 ⟨rfl, hb⟩; refine ⟨_, rfl, ?_⟩; have n0_ := Am (kb (g := gb237) (o := o9b0 a0_0 a0_1 a0_2 a0_3) (by (with_reducible repeat (first | refine kn ?_ _ | refine ke ?_ | refine ka ?_ _)); exact BK237.out) hb); have n1_ := Am (bq (by repeat (first | (with_reducible first | exact HB.out | apply ba | apply bn | apply be | refine bs ?_ GE237.out) | exact HB.out)) hb); clear BK237; clear HB; have BK237 := n0_; have HB := n1_; clear n0_ n1_; (try clear hb)))
        go_ret2
        exact ⟨by first | rfl | (simp [errW_none, errW_some] <;> rfl) | (simp [*, errW_none, errW_some] <;> rfl), by repeat (first | (with_reducible first | exact HB.out | apply ba | apply bn | apply be | refine bs ?_ GE237.out) | exact HB.out)⟩
      ·rw [if_neg c24] at H
       have c24b0 : ((Int.tmod a1 t241) == 2) = false := beq_eq_false_iff_ne.mpr c24
       have c24b1 : ((Int.tmod a1 t241) != 2) = true := bne_iff_ne.mpr c24
       by_cases c31 : (Int.tmod a1 t241) < 4
       ·rw [if_pos c31] at H
        have c31b0 : decide ((Int.tmod a1 t241) < 4) = true := decide_eq_true c31
        clear c31
        replace H := Option.bind_eq_some_iff.mp H
        obtain ⟨t244, A320, H⟩ := H
        replace H : (if t244 = 0 then (none) else (some (wrap64 (Int.tdiv a1 t244), 0))) = some (r1, r2) := H
        have A32 := Am A320
        clear A320
        by_cases c33 : t244 = 0
        ·rw [if_pos c33] at H
         exact absurd H (by simp)
        ·rw [if_neg c33] at H
         have c33b0 : (t244 == 0) = false := beq_eq_false_iff_ne.mpr c33
         have c33b1 : (t244 != 0) = true := bne_iff_ne.mpr c33
         simp only [Option.some.injEq, Prod.mk.injEq] at H
         obtain ⟨rfl, rfl⟩ := H
         have hcz34_0 : wc.cell? ⟨gb237, 0, none⟩ = some (.int .i64 a0_0) := (kc BK237.out 0).trans rfl
         have hcz34_1 : wc.cell? ⟨gb237, 1, none⟩ = some (.int .i64 a0_1) := (kc BK237.out 1).trans rfl
         have hcz34_2 : wc.cell? ⟨gb237, 2, none⟩ = some (.int .i64 a0_2) := (kc BK237.out 2).trans rfl
         have hcz34_3 : wc.cell? ⟨gb237, 3, none⟩ = some (.int .i64 a0_3) := (kc BK237.out 3).trans rfl
         have hfz34_0 := kf BK237.out 0
         have hfz34_1 := kf BK237.out 1
         have hfz34_2 := kf BK237.out 2
         have hfz34_3 := kf BK237.out 3
         go_wp2_with (first | ((with_reducible refine gate_callee (f := 60) rfl ?_); refine goesL_ (some 24) rfl rfl Try.func60 (by kernel_rfl) rfl #[.agg #[.int .i64 a0_0, .int .i64 a0_1, .int .i64 a0_2, .int .i64 a0_3]] rfl (by (try simp only [List.map_toArray, List.map_cons, List.map_nil]); first | done | rfl | (simp only [List.length_drop, List.length_take]; rfl)) ?_; (with_reducible refine (impl_Geo_partWords.calls a0_0 a0_1 a0_2 a0_3 t241 _ A15.out).mono ?_); rintro e w35 ⟨rfl, hb⟩; refine ⟨_, rfl, ?_⟩; have n0_ := Am (kb (g := gb237) (o := o9b0 a0_0 a0_1 a0_2 a0_3) (by (with_reducible repeat (first | refine kn ?_ _ | refine ke ?_ | refine ka ?_ _)); exact BK237.out) hb); have n1_ := Am (bq (by repeat (first | (with_reducible first | exact HB.out | apply ba | apply bn | apply be | refine bs ?_ GE237.out) | exact HB.out)) hb); clear BK237; clear HB; have BK237 := n0_; have HB := n1_; clear n0_ n1_; (try clear hb); have hcz36_0 : w35.cell? ⟨gb237, 0, none⟩ = some (.int .i64 a0_0) := (kc BK237.out 0).trans rfl; have hcz36_1 : w35.cell? ⟨gb237, 1, none⟩ = some (.int .i64 a0_1) := (kc BK237.out 1).trans rfl; have hcz36_2 : w35.cell? ⟨gb237, 2, none⟩ = some (.int .i64 a0_2) := (kc BK237.out 2).trans rfl; have hcz36_3 : w35.cell? ⟨gb237, 3, none⟩ = some (.int .i64 a0_3) := (kc BK237.out 3).trans rfl; have hfz36_0 := kf BK237.out 0; have hfz36_1 := kf BK237.out 1; have hfz36_2 := kf BK237.out 2; have hfz36_3 := kf BK237.out 3) | ((with_reducible refine gate_callee (f := 60) rfl ?_); refine goesL_ (some 50) rfl rfl Try.func60 (by kernel_rfl) rfl #[.agg #[.int .i64 a0_0, .int .i64 a0_1, .int .i64 a0_2, .int .i64 a0_3]] rfl (by (try simp only [List.map_toArray, List.map_cons, List.map_nil]); first | done | rfl | (simp only [List.length_drop, List.length_take]; rfl)) ?_; (with_reducible refine (impl_Geo_partWords.calls a0_0 a0_1 a0_2 a0_3 t244 _ A32.out).mono ?_); rintro e w37 ⟨rfl, hb⟩; refine ⟨_, rfl, ?_⟩; have n0_ := Am (kb (g := gb237) (o := o9b0 a0_0 a0_1 a0_2 a0_3) (by (with_reducible repeat (first | refine kn ?_ _ | refine ke ?_ | refine ka ?_ _)); exact BK237.out) hb); have n1_ := Am (bq (by repeat (first | (with_reducible first | exact HB.out | apply ba | apply bn | apply be | refine bs ?_ GE237.out) | exact HB.out)) hb); clear BK237; clear HB; have BK237 := n0_; have HB := n1_; clear n0_ n1_; (try clear hb)))
         go_ret2
         exact ⟨by first | rfl | (simp [errW_none, errW_some] <;> rfl) | (simp [*, errW_none, errW_some] <;> rfl), by repeat (first | (with_reducible first | exact HB.out | apply ba | apply bn | apply be | refine bs ?_ GE237.out) | exact HB.out)⟩
       ·rw [if_neg c31] at H
        have c31b0 : decide ((Int.tmod a1 t241) < 4) = false := decide_eq_false c31
        clear c31
        by_cases c38 : (Int.tmod a1 t241) < 36
        ·rw [if_pos c38] at H
         have c38b0 : decide ((Int.tmod a1 t241) < 36) = true := decide_eq_true c38
         clear c38
         replace H := Option.bind_eq_some_iff.mp H
         obtain ⟨t245, A390, H⟩ := H
         replace H : (if t245 = 0 then (none) else (some (wrap64 (Int.tdiv a1 t245), 3))) = some (r1, r2) := H
         have A39 := Am A390
         clear A390
         by_cases c40 : t245 = 0
         ·rw [if_pos c40] at H
          exact absurd H (by simp)
         ·rw [if_neg c40] at H
          have c40b0 : (t245 == 0) = false := beq_eq_false_iff_ne.mpr c40
          have c40b1 : (t245 != 0) = true := bne_iff_ne.mpr c40
          simp only [Option.some.injEq, Prod.mk.injEq] at H
          obtain ⟨rfl, rfl⟩ := H
          have hcz41_0 : wc.cell? ⟨gb237, 0, none⟩ = some (.int .i64 a0_0) := (kc BK237.out 0).trans rfl
          have hcz41_1 : wc.cell? ⟨gb237, 1, none⟩ = some (.int .i64 a0_1) := (kc BK237.out 1).trans rfl
          have hcz41_2 : wc.cell? ⟨gb237, 2, none⟩ = some (.int .i64 a0_2) := (kc BK237.out 2).trans rfl
          have hcz41_3 : wc.cell? ⟨gb237, 3, none⟩ = some (.int .i64 a0_3) := (kc BK237.out 3).trans rfl
          have hfz41_0 := kf BK237.out 0
          have hfz41_1 := kf BK237.out 1
          have hfz41_2 := kf BK237.out 2
          have hfz41_3 := kf BK237.out 3
          go_wp2_with (first | ((with_reducible refine gate_callee (f := 60) rfl ?_); refine goesL_ (some 24) rfl rfl Try.func60 (by kernel_rfl) rfl #[.agg #[.int .i64 a0_0, .int .i64 a0_1, .int .i64 a0_2, .int .i64 a0_3]] rfl (by (try simp only [List.map_toArray, List.map_cons, List.map_nil]); first | done | rfl | (simp only [List.length_drop, List.length_take]; rfl)) ?_; (with_reducible refine (impl_Geo_partWords.calls a0_0 a0_1 a0_2 a0_3 t241 _ A15.out).mono ?_); rintro e w42 ⟨rfl, hb⟩; refine ⟨_, rfl, ?_⟩; have n0_ := Am (kb (g := gb237) (o := o9b0 a0_0 a0_1 a0_2 a0_3) (by (with_reducible repeat (first | refine kn ?_ _ | refine ke ?_ | refine ka ?_ _)); exact BK237.out) hb); have n1_ := Am (bq (by repeat (first | (with_reducible first | exact HB.out | apply ba | apply bn | apply be | refine bs ?_ GE237.out) | exact HB.out)) hb); clear BK237; clear HB; have BK237 := n0_; have HB := n1_; clear n0_ n1_; (try clear hb); have hcz43_0 : w42.cell? ⟨gb237, 0, none⟩ = some (.int .i64 a0_0) := (kc BK237.out 0).trans rfl; have hcz43_1 : w42.cell? ⟨gb237, 1, none⟩ = some (.int .i64 a0_1) := (kc BK237.out 1).trans rfl; have hcz43_2 : w42.cell? ⟨gb237, 2, none⟩ = some (.int .i64 a0_2) := (kc BK237.out 2).trans rfl; have hcz43_3 : w42.cell? ⟨gb237, 3, none⟩ = some (.int .i64 a0_3) := (kc BK237.out 3).trans rfl; have hfz43_0 := kf BK237.out 0; have hfz43_1 := kf BK237.out 1; have hfz43_2 := kf BK237.out 2; have hfz43_3 := kf BK237.out 3) | ((with_reducible refine gate_callee (f := 60) rfl ?_); refine goesL_ (some 50) rfl rfl Try.func60 (by kernel_rfl) rfl #[.agg #[.int .i64 a0_0, .int .i64 a0_1, .int .i64 a0_2, .int .i64 a0_3]] rfl (by (try simp only [List.map_toArray, List.map_cons, List.map_nil]); first | done | rfl | (simp only [List.length_drop, List.length_take]; rfl)) ?_; (with_reducible refine (impl_Geo_partWords.calls a0_0 a0_1 a0_2 a0_3 t245 _ A39.out).mono ?_); rintro e w44 ⟨rfl, hb⟩; refine ⟨_, rfl, ?_⟩; have n0_ := Am (kb (g := gb237) (o := o9b0 a0_0 a0_1 a0_2 a0_3) (by (with_reducible repeat (first | refine kn ?_ _ | refine ke ?_ | refine ka ?_ _)); exact BK237.out) hb); have n1_ := Am (bq (by repeat (first | (with_reducible first | exact HB.out | apply ba | apply bn | apply be | refine bs ?_ GE237.out) | exact HB.out)) hb); clear BK237; clear HB; have BK237 := n0_; have HB := n1_; clear n0_ n1_; (try clear hb)))
          go_ret2
          exact ⟨by first | rfl | (simp [errW_none, errW_some] <;> rfl) | (simp [*, errW_none, errW_some] <;> rfl), by repeat (first | (with_reducible first | exact HB.out | apply ba | apply bn | apply be | refine bs ?_ GE237.out) | exact HB.out)⟩
        ·rw [if_neg c38] at H
         have c38b0 : decide ((Int.tmod a1 t241) < 36) = false := decide_eq_false c38
         clear c38
         by_cases c45 : (Int.tmod a1 t241) < 38
         ·rw [if_pos c45] at H
          have c45b0 : decide ((Int.tmod a1 t241) < 38) = true := decide_eq_true c45
          clear c45
          replace H := Option.bind_eq_some_iff.mp H
          obtain ⟨t246, A460, H⟩ := H
          replace H : (if t246 = 0 then (none) else (some (wrap64 (Int.tdiv a1 t246), 4))) = some (r1, r2) := H
          have A46 := Am A460
          clear A460
          by_cases c47 : t246 = 0
          ·rw [if_pos c47] at H
           exact absurd H (by simp)
          ·rw [if_neg c47] at H
           have c47b0 : (t246 == 0) = false := beq_eq_false_iff_ne.mpr c47
           have c47b1 : (t246 != 0) = true := bne_iff_ne.mpr c47
           simp only [Option.some.injEq, Prod.mk.injEq] at H
           obtain ⟨rfl, rfl⟩ := H
           have hcz48_0 : wc.cell? ⟨gb237, 0, none⟩ = some (.int .i64 a0_0) := (kc BK237.out 0).trans rfl
           have hcz48_1 : wc.cell? ⟨gb237, 1, none⟩ = some (.int .i64 a0_1) := (kc BK237.out 1).trans rfl
           have hcz48_2 : wc.cell? ⟨gb237, 2, none⟩ = some (.int .i64 a0_2) := (kc BK237.out 2).trans rfl
           have hcz48_3 : wc.cell? ⟨gb237, 3, none⟩ = some (.int .i64 a0_3) := (kc BK237.out 3).trans rfl
           have hfz48_0 := kf BK237.out 0
           have hfz48_1 := kf BK237.out 1
           have hfz48_2 := kf BK237.out 2
           have hfz48_3 := kf BK237.out 3
           go_wp2_with (first | ((with_reducible refine gate_callee (f := 60) rfl ?_); refine goesL_ (some 24) rfl rfl Try.func60 (by kernel_rfl) rfl #[.agg #[.int .i64 a0_0, .int .i64 a0_1, .int .i64 a0_2, .int .i64 a0_3]] rfl (by (try simp only [List.map_toArray, List.map_cons, List.map_nil]); first | done | rfl | (simp only [List.length_drop, List.length_take]; rfl)) ?_; (with_reducible refine (impl_Geo_partWords.calls a0_0 a0_1 a0_2 a0_3 t241 _ A15.out).mono ?_); rintro e w49 ⟨rfl, hb⟩; refine ⟨_, rfl, ?_⟩; have n0_ := Am (kb (g := gb237) (o := o9b0 a0_0 a0_1 a0_2 a0_3) (by (with_reducible repeat (first | refine kn ?_ _ | refine ke ?_ | refine ka ?_ _)); exact BK237.out) hb); have n1_ := Am (bq (by repeat (first | (with_reducible first | exact HB.out | apply ba | apply bn | apply be | refine bs ?_ GE237.out) | exact HB.out)) hb); clear BK237; clear HB; have BK237 := n0_; have HB := n1_; clear n0_ n1_; (try clear hb); have hcz50_0 : w49.cell? ⟨gb237, 0, none⟩ = some (.int .i64 a0_0) := (kc BK237.out 0).trans rfl; have hcz50_1 : w49.cell? ⟨gb237, 1, none⟩ = some (.int .i64 a0_1) := (kc BK237.out 1).trans rfl; have hcz50_2 : w49.cell? ⟨gb237, 2, none⟩ = some (.int .i64 a0_2) := (kc BK237.out 2).trans rfl; have hcz50_3 : w49.cell? ⟨gb237, 3, none⟩ = some (.int .i64 a0_3) := (kc BK237.out 3).trans rfl; have hfz50_0 := kf BK237.out 0; have hfz50_1 := kf BK237.out 1; have hfz50_2 := kf BK237.out 2; have hfz50_3 := kf BK237.out 3) | ((with_reducible refine gate_callee (f := 60) rfl ?_); refine goesL_ (some 50) rfl rfl Try.func60 (by kernel_rfl) rfl #[.agg #[.int .i64 a0_0, .int .i64 a0_1, .int .i64 a0_2, .int .i64 a0_3]] rfl (by (try simp only [List.map_toArray, List.map_cons, List.map_nil]); first | done | rfl | (simp only [List.length_drop, List.length_take]; rfl)) ?_; (with_reducible refine (impl_Geo_partWords.calls a0_0 a0_1 a0_2 a0_3 t246 _ A46.out).mono ?_); rintro e w51 ⟨rfl, hb⟩; refine ⟨_, rfl, ?_⟩; have n0_ := Am (kb (g := gb237) (o := o9b0 a0_0 a0_1 a0_2 a0_3) (by (with_reducible repeat (first | refine kn ?_ _ | refine ke ?_ | refine ka ?_ _)); exact BK237.out) hb); have n1_ := Am (bq (by repeat (first | (with_reducible first | exact HB.out | apply ba | apply bn | apply be | refine bs ?_ GE237.out) | exact HB.out)) hb); clear BK237; clear HB; have BK237 := n0_; have HB := n1_; clear n0_ n1_; (try clear hb)))
           go_ret2
           exact ⟨by first | rfl | (simp [errW_none, errW_some] <;> rfl) | (simp [*, errW_none, errW_some] <;> rfl), by repeat (first | (with_reducible first | exact HB.out | apply ba | apply bn | apply be | refine bs ?_ GE237.out) | exact HB.out)⟩
         ·rw [if_neg c45] at H
          have c45b0 : decide ((Int.tmod a1 t241) < 38) = false := decide_eq_false c45
          clear c45
          by_cases c52 : (Int.tmod a1 t241) < (wrap64 (38 + (wrap64 (8 * a0_2))))
          ·rw [if_pos c52] at H
           have c52b0 : decide ((Int.tmod a1 t241) < (wrap64 (38 + (wrap64 (8 * a0_2))))) = true := decide_eq_true c52
           clear c52
           replace H := Option.bind_eq_some_iff.mp H
           obtain ⟨t247, A530, H⟩ := H
           replace H : (if t247 = 0 then (none) else (some (wrap64 (Int.tdiv a1 t247), 5))) = some (r1, r2) := H
           have A53 := Am A530
           clear A530
           by_cases c54 : t247 = 0
           ·rw [if_pos c54] at H
            exact absurd H (by simp)
           ·rw [if_neg c54] at H
            have c54b0 : (t247 == 0) = false := beq_eq_false_iff_ne.mpr c54
            have c54b1 : (t247 != 0) = true := bne_iff_ne.mpr c54
            simp only [Option.some.injEq, Prod.mk.injEq] at H
            obtain ⟨rfl, rfl⟩ := H
            have hcz55_0 : wc.cell? ⟨gb237, 0, none⟩ = some (.int .i64 a0_0) := (kc BK237.out 0).trans rfl
            have hcz55_1 : wc.cell? ⟨gb237, 1, none⟩ = some (.int .i64 a0_1) := (kc BK237.out 1).trans rfl
            have hcz55_2 : wc.cell? ⟨gb237, 2, none⟩ = some (.int .i64 a0_2) := (kc BK237.out 2).trans rfl
            have hcz55_3 : wc.cell? ⟨gb237, 3, none⟩ = some (.int .i64 a0_3) := (kc BK237.out 3).trans rfl
            have hfz55_0 := kf BK237.out 0
            have hfz55_1 := kf BK237.out 1
            have hfz55_2 := kf BK237.out 2
            have hfz55_3 := kf BK237.out 3
            go_wp2_with (first | ((with_reducible refine gate_callee (f := 60) rfl ?_); refine goesL_ (some 24) rfl rfl Try.func60 (by kernel_rfl) rfl #[.agg #[.int .i64 a0_0, .int .i64 a0_1, .int .i64 a0_2, .int .i64 a0_3]] rfl (by (try simp only [List.map_toArray, List.map_cons, List.map_nil]); first | done | rfl | (simp only [List.length_drop, List.length_take]; rfl)) ?_; (with_reducible refine (impl_Geo_partWords.calls a0_0 a0_1 a0_2 a0_3 t241 _ A15.out).mono ?_); rintro e w56 ⟨rfl, hb⟩; refine ⟨_, rfl, ?_⟩; have n0_ := Am (kb (g := gb237) (o := o9b0 a0_0 a0_1 a0_2 a0_3) (by (with_reducible repeat (first | refine kn ?_ _ | refine ke ?_ | refine ka ?_ _)); exact BK237.out) hb); have n1_ := Am (bq (by repeat (first | (with_reducible first | exact HB.out | apply ba | apply bn | apply be | refine bs ?_ GE237.out) | exact HB.out)) hb); clear BK237; clear HB; have BK237 := n0_; have HB := n1_; clear n0_ n1_; (try clear hb); have hcz57_0 : w56.cell? ⟨gb237, 0, none⟩ = some (.int .i64 a0_0) := (kc BK237.out 0).trans rfl; have hcz57_1 : w56.cell? ⟨gb237, 1, none⟩ = some (.int .i64 a0_1) := (kc BK237.out 1).trans rfl; have hcz57_2 : w56.cell? ⟨gb237, 2, none⟩ = some (.int .i64 a0_2) := (kc BK237.out 2).trans rfl; have hcz57_3 : w56.cell? ⟨gb237, 3, none⟩ = some (.int .i64 a0_3) := (kc BK237.out 3).trans rfl; have hfz57_0 := kf BK237.out 0; have hfz57_1 := kf BK237.out 1; have hfz57_2 := kf BK237.out 2; have hfz57_3 := kf BK237.out 3) | ((with_reducible refine gate_callee (f := 60) rfl ?_); refine goesL_ (some 50) rfl rfl Try.func60 (by kernel_rfl) rfl #[.agg #[.int .i64 a0_0, .int .i64 a0_1, .int .i64 a0_2, .int .i64 a0_3]] rfl (by (try simp only [List.map_toArray, List.map_cons, List.map_nil]); first | done | rfl | (simp only [List.length_drop, List.length_take]; rfl)) ?_; (with_reducible refine (impl_Geo_partWords.calls a0_0 a0_1 a0_2 a0_3 t247 _ A53.out).mono ?_); rintro e w58 ⟨rfl, hb⟩; refine ⟨_, rfl, ?_⟩; have n0_ := Am (kb (g := gb237) (o := o9b0 a0_0 a0_1 a0_2 a0_3) (by (with_reducible repeat (first | refine kn ?_ _ | refine ke ?_ | refine ka ?_ _)); exact BK237.out) hb); have n1_ := Am (bq (by repeat (first | (with_reducible first | exact HB.out | apply ba | apply bn | apply be | refine bs ?_ GE237.out) | exact HB.out)) hb); clear BK237; clear HB; have BK237 := n0_; have HB := n1_; clear n0_ n1_; (try clear hb)))
            go_ret2
            exact ⟨by first | rfl | (simp [errW_none, errW_some] <;> rfl) | (simp [*, errW_none, errW_some] <;> rfl), by repeat (first | (with_reducible first | exact HB.out | apply ba | apply bn | apply be | refine bs ?_ GE237.out) | exact HB.out)⟩
          ·rw [if_neg c52] at H
           have c52b0 : decide ((Int.tmod a1 t241) < (wrap64 (38 + (wrap64 (8 * a0_2))))) = false := decide_eq_false c52
           clear c52
           replace H := Option.bind_eq_some_iff.mp H
           obtain ⟨t248, A590, H⟩ := H
           replace H : (if t248 = 0 then (none) else (some (wrap64 (Int.tdiv a1 t248), 6))) = some (r1, r2) := H
           have A59 := Am A590
           clear A590
           by_cases c60 : t248 = 0
           ·rw [if_pos c60] at H
            exact absurd H (by simp)
           ·rw [if_neg c60] at H
            have c60b0 : (t248 == 0) = false := beq_eq_false_iff_ne.mpr c60
            have c60b1 : (t248 != 0) = true := bne_iff_ne.mpr c60
            simp only [Option.some.injEq, Prod.mk.injEq] at H
            obtain ⟨rfl, rfl⟩ := H
            have hcz61_0 : wc.cell? ⟨gb237, 0, none⟩ = some (.int .i64 a0_0) := (kc BK237.out 0).trans rfl
            have hcz61_1 : wc.cell? ⟨gb237, 1, none⟩ = some (.int .i64 a0_1) := (kc BK237.out 1).trans rfl
            have hcz61_2 : wc.cell? ⟨gb237, 2, none⟩ = some (.int .i64 a0_2) := (kc BK237.out 2).trans rfl
            have hcz61_3 : wc.cell? ⟨gb237, 3, none⟩ = some (.int .i64 a0_3) := (kc BK237.out 3).trans rfl
            have hfz61_0 := kf BK237.out 0
            have hfz61_1 := kf BK237.out 1
            have hfz61_2 := kf BK237.out 2
            have hfz61_3 := kf BK237.out 3
            go_wp2_with (first | ((with_reducible refine gate_callee (f := 60) rfl ?_); refine goesL_ (some 24) rfl rfl Try.func60 (by kernel_rfl) rfl #[.agg #[.int .i64 a0_0, .int .i64 a0_1, .int .i64 a0_2, .int .i64 a0_3]] rfl (by (try simp only [List.map_toArray, List.map_cons, List.map_nil]); first | done | rfl | (simp only [List.length_drop, List.length_take]; rfl)) ?_; (with_reducible refine (impl_Geo_partWords.calls a0_0 a0_1 a0_2 a0_3 t241 _ A15.out).mono ?_); rintro e w62 ⟨rfl, hb⟩; refine ⟨_, rfl, ?_⟩; have n0_ := Am (kb (g := gb237) (o := o9b0 a0_0 a0_1 a0_2 a0_3) (by (with_reducible repeat (first | refine kn ?_ _ | refine ke ?_ | refine ka ?_ _)); exact BK237.out) hb); have n1_ := Am (bq (by repeat (first | (with_reducible first | exact HB.out | apply ba | apply bn | apply be | refine bs ?_ GE237.out) | exact HB.out)) hb); clear BK237; clear HB; have BK237 := n0_; have HB := n1_; clear n0_ n1_; (try clear hb); have hcz63_0 : w62.cell? ⟨gb237, 0, none⟩ = some (.int .i64 a0_0) := (kc BK237.out 0).trans rfl; have hcz63_1 : w62.cell? ⟨gb237, 1, none⟩ = some (.int .i64 a0_1) := (kc BK237.out 1).trans rfl; have hcz63_2 : w62.cell? ⟨gb237, 2, none⟩ = some (.int .i64 a0_2) := (kc BK237.out 2).trans rfl; have hcz63_3 : w62.cell? ⟨gb237, 3, none⟩ = some (.int .i64 a0_3) := (kc BK237.out 3).trans rfl; have hfz63_0 := kf BK237.out 0; have hfz63_1 := kf BK237.out 1; have hfz63_2 := kf BK237.out 2; have hfz63_3 := kf BK237.out 3) | ((with_reducible refine gate_callee (f := 60) rfl ?_); refine goesL_ (some 50) rfl rfl Try.func60 (by kernel_rfl) rfl #[.agg #[.int .i64 a0_0, .int .i64 a0_1, .int .i64 a0_2, .int .i64 a0_3]] rfl (by (try simp only [List.map_toArray, List.map_cons, List.map_nil]); first | done | rfl | (simp only [List.length_drop, List.length_take]; rfl)) ?_; (with_reducible refine (impl_Geo_partWords.calls a0_0 a0_1 a0_2 a0_3 t248 _ A59.out).mono ?_); rintro e w64 ⟨rfl, hb⟩; refine ⟨_, rfl, ?_⟩; have n0_ := Am (kb (g := gb237) (o := o9b0 a0_0 a0_1 a0_2 a0_3) (by (with_reducible repeat (first | refine kn ?_ _ | refine ke ?_ | refine ka ?_ _)); exact BK237.out) hb); have n1_ := Am (bq (by repeat (first | (with_reducible first | exact HB.out | apply ba | apply bn | apply be | refine bs ?_ GE237.out) | exact HB.out)) hb); clear BK237; clear HB; have BK237 := n0_; have HB := n1_; clear n0_ n1_; (try clear hb)))
            go_ret2
            exact ⟨by first | rfl | (simp [errW_none, errW_some] <;> rfl) | (simp [*, errW_none, errW_some] <;> rfl), by repeat (first | (with_reducible first | exact HB.out | apply ba | apply bn | apply be | refine bs ?_ GE237.out) | exact HB.out)⟩

/-! ### impl_padded: function 141 (own text) -/
def zeros (n : Nat) : ByteArray := ⟨(List.replicate n (0 : UInt8)).toArray⟩
theorem repeat_zeros (n : Nat) : (⟨(Lib.repeatL (⟨#[0]⟩ : ByteArray).data.toList n).toArray⟩ : ByteArray) = zeros n := by
 unfold zeros
 congr 2
 induction n with
 | zero => rfl
 | succ n ih => simp [Lib.repeatL, List.replicate_succ, ih]
theorem zeros_size (n : Nat) : (zeros n).size = n := by simp [zeros, ByteArray.size]
theorem zeros_call (n : Nat) (w : World) (h : n ≤ 2147483648) : Aside0 (Calls Try.prog 152 #[.string (⟨#[0]⟩ : ByteArray), .int .i64 n] w fun e w' => e = .returned (.string (zeros n)) ∧ Below w.heap.size w w') := by
 have := Go.Proofs.Try.strings_Repeat (⟨#[0]⟩ : ByteArray) n w (by omega) (by show 1 * n ≤ _; omega)
 rw [repeat_zeros] at this
 exact ⟨this⟩
def impl_padded.f (a0 : ByteArray) (a1 : Int) : Option (ByteArray) := if a0.size ≤ 1073741824 ∧ -1073741824 ≤ a1 ∧ a1 ≤ 1073741824 then some (a0 ++ zeros (a1 - (a0.size : Int)).toNat) else none
set_option maxHeartbeats 8000000 in
set_option maxRecDepth 100000 in
theorem impl_padded.calls (a0 : ByteArray) (a1 : Int) (r : ByteArray) (w : World) (h : impl_padded.f a0 a1 = some r) :
  Calls Try.prog 141 #[.string a0, .int .i64 a1] w fun e w' => e = .returned (.string r) ∧ Below w.heap.size w w' := by
 unfold impl_padded.f at h
 split at h
 ·rename_i hb
  obtain ⟨h1, h2, h3⟩ := hb
  obtain rfl := Option.some.inj h
  clear h
  have e1 : wrap64 (a1 - (a0.size : Int)) = a1 - (a0.size : Int) := by unfold wrap64; omega
  have hs : ¬ 9223372036854775807 < a0.size + (zeros (a1 - (a0.size : Int)).toNat).size := by rw [zeros_size]; omega
  have HC := zeros_call (a1 - (a0.size : Int)).toNat w (by omega)
  by_cases hp : 0 < wrap64 (a1 - (a0.size : Int))
  ·have hm : (((a1 - (a0.size : Int)).toNat : Nat) : Int) = wrap64 (a1 - (a0.size : Int)) := by omega
   rw [hm] at HC
   generalize zeros (a1 - (a0.size : Int)).toNat = z at HC hs ⊢
   clear e1 hm h1 h2 h3
   go_enter Try.func141, Try.ntmps141
   go_wp2_with (first | (go_at_call 152; refine (HC.out).mono ?_; rintro e w' ⟨rfl, hb⟩))
   go_ret
   exact ⟨rfl, hb⟩
  ·have hm : (((a1 - (a0.size : Int)).toNat : Nat) : Int) = 0 := by omega
   rw [hm] at HC
   generalize zeros (a1 - (a0.size : Int)).toNat = z at HC hs ⊢
   clear e1 hm h1 h2 h3
   go_enter Try.func141, Try.ntmps141
   go_wp2_with (first | (go_at_call 152; refine (HC.out).mono ?_; rintro e w' ⟨rfl, hb⟩))
   go_ret
   exact ⟨rfl, hb⟩
 ·exact absurd h (by simp)

/-! ### impl_WordText: function 108 -/
def impl_WordText.f (a0 : ByteArray) : Option (ByteArray) := if (a0.size : Int) > 8 then (some (⟨#[]⟩ : ByteArray)) else ((impl_padded.f a0 8).bind fun t249 => (some t249))
set_option maxHeartbeats 8000000 in
set_option maxRecDepth 100000 in
theorem impl_WordText.calls (a0 : ByteArray) (r : ByteArray) (w : World) (h : impl_WordText.f a0 = some r) :
  Calls Try.prog 108 #[.string a0] w fun e w' => e = .returned (.string r) ∧ Below w.heap.size w w' := by
 have HB := Am (Below.refl w.heap.size w)
 have H : (if (a0.size : Int) > 8 then (some (⟨#[]⟩ : ByteArray)) else ((impl_padded.f a0 8).bind fun t249 => (some t249))) = some r := h
 clear h
 by_cases c2 : (a0.size : Int) > 8
 ·rw [if_pos c2] at H
  have c2b0 : decide (8 < (a0.size : Int)) = true := decide_eq_true c2
  have c2b1 : decide (8 < a0.size) = true := decide_eq_true (by omega)
  clear c2
  obtain rfl := Option.some.inj H
  go_enter Try.func108, Try.ntmps108
  go_wp2
  go_ret
  exact ⟨by first | rfl | (simp [errW_none, errW_some] <;> rfl) | (simp [*, errW_none, errW_some] <;> rfl), by repeat (first | (with_reducible first | exact HB.out | apply ba | apply bn | apply be) | exact HB.out)⟩
 ·rw [if_neg c2] at H
  have c2b0 : decide (8 < (a0.size : Int)) = false := decide_eq_false c2
  have c2b1 : decide (8 < a0.size) = false := decide_eq_false (by omega)
  clear c2
  replace H := Option.bind_eq_some_iff.mp H
  obtain ⟨t249, A30, H⟩ := H
  replace H : (some t249) = some r := H
  have A3 := Am A30
  clear A30
  obtain rfl := Option.some.inj H
  go_enter Try.func108, Try.ntmps108
  go_wp2_with (first | ((with_reducible refine gate_callee (f := 141) rfl ?_); refine goesL_ (some 7) rfl rfl Try.func141 (by kernel_rfl) rfl #[.string a0, .int .i64 8] rfl (by (try simp only [List.map_toArray, List.map_cons, List.map_nil]); first | done | rfl | (simp only [List.length_drop, List.length_take]; rfl)) ?_; (with_reducible refine (impl_padded.calls a0 8 t249 _ A3.out).mono ?_); rintro e w4 ⟨rfl, hb⟩; refine ⟨_, rfl, ?_⟩; replace HB := Am (bq (by repeat (first | (with_reducible first | exact HB.out | apply ba | apply bn | apply be) | exact HB.out)) hb); (try clear hb)))
  go_ret
  exact ⟨by first | rfl | (simp [errW_none, errW_some] <;> rfl) | (simp [*, errW_none, errW_some] <;> rfl), by repeat (first | (with_reducible first | exact HB.out | apply ba | apply bn | apply be) | exact HB.out)⟩

/-! ### impl_isRecAt: function 109 -/
def impl_isRecAt.f (k : Nat) (a0_0 : Int) (a0_1 : Int) (a0_2 : Int) (a0_3 : Int) (a1 : Int) : Option (Bool) := (impl_PartAt.f k a0_0 a0_1 a0_2 a0_3 a1).bind fun bt251 => ((impl_Geo_partWords.f a0_0 a0_1 a0_2 a0_3).bind fun t253 => (if t253 = 0 then (none) else (if bt251.2 = 5 then ((impl_within.f (Int.tmod (wrap64 ((Int.tmod a1 t253) - 38)) 8) 2 5).bind fun t254 => (some t254)) else (some false))))
theorem impl_isRecAt.mono : ∀ a0 a1 a2 a3 a4 k, LeO (impl_isRecAt.f k a0 a1 a2 a3 a4) (impl_isRecAt.f (k + 1) a0 a1 a2 a3 a4) := by
 intro a0 a1 a2 a3 a4 k
 unfold impl_isRecAt.f
 repeat' first
   | (with_reducible exact impl_PartAt.mono _ _ _ _ _ _)
   | (with_reducible exact LeO.refl _)
   | (with_reducible exact LeO.none _)
   | (with_reducible refine LeO.ite ?_ ?_)
   | (with_reducible refine LeO.bind ?_ (fun _ => ?_))
   | exact impl_PartAt.mono _ _ _ _ _ _
   | exact LeO.none _
   | refine LeO.ite ?_ ?_
   | refine LeO.bind ?_ (fun _ => ?_)
set_option maxHeartbeats 8000000 in
set_option maxRecDepth 100000 in
theorem impl_isRecAt.calls (k : Nat) (a0_0 : Int) (a0_1 : Int) (a0_2 : Int) (a0_3 : Int) (a1 : Int) (r : Bool) (w : World) (h : impl_isRecAt.f k a0_0 a0_1 a0_2 a0_3 a1 = some r) :
  Calls Try.prog 109 #[.agg #[.int .i64 a0_0, .int .i64 a0_1, .int .i64 a0_2, .int .i64 a0_3], .int .i64 a1] w fun e w' => e = .returned (.bool r) ∧ Below w.heap.size w w' := by
 have hu29 := Try.underlying29
 have HB := Am (Below.refl w.heap.size w)
 have H : ((impl_PartAt.f k a0_0 a0_1 a0_2 a0_3 a1).bind fun bt251 => ((impl_Geo_partWords.f a0_0 a0_1 a0_2 a0_3).bind fun t253 => (if t253 = 0 then (none) else (if bt251.2 = 5 then ((impl_within.f (Int.tmod (wrap64 ((Int.tmod a1 t253) - 38)) 8) 2 5).bind fun t254 => (some t254)) else (some false))))) = some r := h
 clear h
 replace H := Option.bind_eq_some_iff.mp H
 obtain ⟨⟨t251, t252⟩, A30, H⟩ := H
 replace H : ((impl_Geo_partWords.f a0_0 a0_1 a0_2 a0_3).bind fun t253 => (if t253 = 0 then (none) else (if t252 = 5 then ((impl_within.f (Int.tmod (wrap64 ((Int.tmod a1 t253) - 38)) 8) 2 5).bind fun t254 => (some t254)) else (some false)))) = some r := H
 have A3 := Am A30
 clear A30
 replace H := Option.bind_eq_some_iff.mp H
 obtain ⟨t253, A40, H⟩ := H
 replace H : (if t253 = 0 then (none) else (if t252 = 5 then ((impl_within.f (Int.tmod (wrap64 ((Int.tmod a1 t253) - 38)) 8) 2 5).bind fun t254 => (some t254)) else (some false))) = some r := H
 have A4 := Am A40
 clear A40
 by_cases c5 : t253 = 0
 ·rw [if_pos c5] at H
  exact absurd H (by simp)
 ·rw [if_neg c5] at H
  have c5b0 : (t253 == 0) = false := beq_eq_false_iff_ne.mpr c5
  have c5b1 : (t253 != 0) = true := bne_iff_ne.mpr c5
  by_cases c6 : t252 = 5
  ·rw [if_pos c6] at H
   have c6b0 : (t252 == 5) = true := beq_iff_eq.mpr c6
   have c6b1 : (t252 != 5) = false := bne_eq_false_iff_eq.mpr c6
   clear c6
   replace H := Option.bind_eq_some_iff.mp H
   obtain ⟨t254, A70, H⟩ := H
   replace H : (some t254) = some r := H
   have A7 := Am A70
   clear A70
   obtain rfl := Option.some.inj H
   go_enter Try.func109, Try.ntmps109
   go_wp2_with (first | ((with_reducible refine gate_dst (N := 2) rfl ?_); refine box_event ?hg (N := 2) ?hd (cs := #[.int .i64 a0_0, .int .i64 a0_1, .int .i64 a0_2, .int .i64 a0_3]) (t := 29) ?hr ?_; (case hd => rfl); (case hg => rfl); (case hr => first | (go_simp; done) | (go_simp; rfl)); intro gb250 hg w8 hbox hb; have BK250 := Am (hbox); have GW250 := Am ((by rw [hg]; exact (bz (by repeat (first | (with_reducible first | exact HB.out | apply ba | apply bn | apply be) | exact HB.out))) : w.heap.size ≤ gb250)); have GE250 := Am ((by rw [hg]; exact (bz (by repeat (first | (with_reducible first | exact HB.out | apply ba | apply bn | apply be) | exact HB.out))) : w.heap.size ≤ gb250)); replace HB := Am (bq (by repeat (first | (with_reducible first | exact HB.out | apply ba | apply bn | apply be) | exact HB.out)) hb); clear hb hbox hg; have hcz9_0 : w8.cell? ⟨gb250, 0, none⟩ = some (.int .i64 a0_0) := (kc BK250.out 0).trans rfl; have hcz9_1 : w8.cell? ⟨gb250, 1, none⟩ = some (.int .i64 a0_1) := (kc BK250.out 1).trans rfl; have hcz9_2 : w8.cell? ⟨gb250, 2, none⟩ = some (.int .i64 a0_2) := (kc BK250.out 2).trans rfl; have hcz9_3 : w8.cell? ⟨gb250, 3, none⟩ = some (.int .i64 a0_3) := (kc BK250.out 3).trans rfl; have hfz9_0 := kf BK250.out 0; have hfz9_1 := kf BK250.out 1; have hfz9_2 := kf BK250.out 2; have hfz9_3 := kf BK250.out 3) | ((with_reducible refine gate_callee (f := 107) rfl ?_); refine goesL_ (some 11) rfl rfl Try.func107 (by kernel_rfl) rfl #[.agg #[.int .i64 a0_0, .int .i64 a0_1, .int .i64 a0_2, .int .i64 a0_3], .int .i64 a1] rfl (by (try simp only [List.map_toArray, List.map_cons, List.map_nil]); first | done | rfl | (simp only [List.length_drop, List.length_take]; rfl)) ?_; (with_reducible refine (impl_PartAt.calls k a0_0 a0_1 a0_2 a0_3 a1 t251 t252 _ A3.out).mono ?_); rintro e w10 ⟨rfl, hb⟩; refine ⟨_, rfl, ?_⟩; have n0_ := Am (kb (g := gb250) (o := o9b0 a0_0 a0_1 a0_2 a0_3) (by (with_reducible repeat (first | refine kn ?_ _ | refine ke ?_ | refine ka ?_ _)); exact BK250.out) hb); have n1_ := Am (bq (by repeat (first | (with_reducible first | exact HB.out | apply ba | apply bn | apply be | refine bs ?_ GE250.out) | exact HB.out)) hb); clear BK250; clear HB; have BK250 := n0_; have HB := n1_; clear n0_ n1_; (try clear hb); have hcz11_0 : w10.cell? ⟨gb250, 0, none⟩ = some (.int .i64 a0_0) := (kc BK250.out 0).trans rfl; have hcz11_1 : w10.cell? ⟨gb250, 1, none⟩ = some (.int .i64 a0_1) := (kc BK250.out 1).trans rfl; have hcz11_2 : w10.cell? ⟨gb250, 2, none⟩ = some (.int .i64 a0_2) := (kc BK250.out 2).trans rfl; have hcz11_3 : w10.cell? ⟨gb250, 3, none⟩ = some (.int .i64 a0_3) := (kc BK250.out 3).trans rfl; have hfz11_0 := kf BK250.out 0; have hfz11_1 := kf BK250.out 1; have hfz11_2 := kf BK250.out 2; have hfz11_3 := kf BK250.out 3) | ((with_reducible refine gate_callee (f := 60) rfl ?_); refine goesL_ (some 16) rfl rfl Try.func60 (by kernel_rfl) rfl #[.agg #[.int .i64 a0_0, .int .i64 a0_1, .int .i64 a0_2, .int .i64 a0_3]] rfl (by (try simp only [List.map_toArray, List.map_cons, List.map_nil]); first | done | rfl | (simp only [List.length_drop, List.length_take]; rfl)) ?_; (with_reducible refine (impl_Geo_partWords.calls a0_0 a0_1 a0_2 a0_3 t253 _ A4.out).mono ?_); rintro e w12 ⟨rfl, hb⟩; refine ⟨_, rfl, ?_⟩; have n0_ := Am (kb (g := gb250) (o := o9b0 a0_0 a0_1 a0_2 a0_3) (by (with_reducible repeat (first | refine kn ?_ _ | refine ke ?_ | refine ka ?_ _)); exact BK250.out) hb); have n1_ := Am (bq (by repeat (first | (with_reducible first | exact HB.out | apply ba | apply bn | apply be | refine bs ?_ GE250.out) | exact HB.out)) hb); clear BK250; clear HB; have BK250 := n0_; have HB := n1_; clear n0_ n1_; (try clear hb)) | (go_at_call 59; (with_reducible refine (impl_within.calls (Int.tmod (wrap64 ((Int.tmod a1 t253) - 38)) 8) 2 5 t254 _ A7.out).mono ?_); rintro e w' ⟨rfl, ⟨nd, rfl⟩⟩))
   go_ret
   exact ⟨by first | rfl | (simp [errW_none, errW_some] <;> rfl) | (simp [*, errW_none, errW_some] <;> rfl), by repeat (first | (with_reducible first | exact HB.out | apply ba | apply bn | apply be | refine bs ?_ GE250.out) | exact HB.out)⟩
  ·rw [if_neg c6] at H
   have c6b0 : (t252 == 5) = false := beq_eq_false_iff_ne.mpr c6
   have c6b1 : (t252 != 5) = true := bne_iff_ne.mpr c6
   obtain rfl := Option.some.inj H
   go_enter Try.func109, Try.ntmps109
   go_wp2_with (first | ((with_reducible refine gate_dst (N := 2) rfl ?_); refine box_event ?hg (N := 2) ?hd (cs := #[.int .i64 a0_0, .int .i64 a0_1, .int .i64 a0_2, .int .i64 a0_3]) (t := 29) ?hr ?_; (case hd => rfl); (case hg => rfl); (case hr => first | (go_simp; done) | (go_simp; rfl)); intro gb250 hg w13 hbox hb; have BK250 := Am (hbox); have GW250 := Am ((by rw [hg]; exact (bz (by repeat (first | (with_reducible first | exact HB.out | apply ba | apply bn | apply be) | exact HB.out))) : w.heap.size ≤ gb250)); have GE250 := Am ((by rw [hg]; exact (bz (by repeat (first | (with_reducible first | exact HB.out | apply ba | apply bn | apply be) | exact HB.out))) : w.heap.size ≤ gb250)); replace HB := Am (bq (by repeat (first | (with_reducible first | exact HB.out | apply ba | apply bn | apply be) | exact HB.out)) hb); clear hb hbox hg; have hcz14_0 : w13.cell? ⟨gb250, 0, none⟩ = some (.int .i64 a0_0) := (kc BK250.out 0).trans rfl; have hcz14_1 : w13.cell? ⟨gb250, 1, none⟩ = some (.int .i64 a0_1) := (kc BK250.out 1).trans rfl; have hcz14_2 : w13.cell? ⟨gb250, 2, none⟩ = some (.int .i64 a0_2) := (kc BK250.out 2).trans rfl; have hcz14_3 : w13.cell? ⟨gb250, 3, none⟩ = some (.int .i64 a0_3) := (kc BK250.out 3).trans rfl; have hfz14_0 := kf BK250.out 0; have hfz14_1 := kf BK250.out 1; have hfz14_2 := kf BK250.out 2; have hfz14_3 := kf BK250.out 3) | ((with_reducible refine gate_callee (f := 107) rfl ?_); refine goesL_ (some 11) rfl rfl Try.func107 (by kernel_rfl) rfl #[.agg #[.int .i64 a0_0, .int .i64 a0_1, .int .i64 a0_2, .int .i64 a0_3], .int .i64 a1] rfl (by (try simp only [List.map_toArray, List.map_cons, List.map_nil]); first | done | rfl | (simp only [List.length_drop, List.length_take]; rfl)) ?_; (with_reducible refine (impl_PartAt.calls k a0_0 a0_1 a0_2 a0_3 a1 t251 t252 _ A3.out).mono ?_); rintro e w15 ⟨rfl, hb⟩; refine ⟨_, rfl, ?_⟩; have n0_ := Am (kb (g := gb250) (o := o9b0 a0_0 a0_1 a0_2 a0_3) (by (with_reducible repeat (first | refine kn ?_ _ | refine ke ?_ | refine ka ?_ _)); exact BK250.out) hb); have n1_ := Am (bq (by repeat (first | (with_reducible first | exact HB.out | apply ba | apply bn | apply be | refine bs ?_ GE250.out) | exact HB.out)) hb); clear BK250; clear HB; have BK250 := n0_; have HB := n1_; clear n0_ n1_; (try clear hb); have hcz16_0 : w15.cell? ⟨gb250, 0, none⟩ = some (.int .i64 a0_0) := (kc BK250.out 0).trans rfl; have hcz16_1 : w15.cell? ⟨gb250, 1, none⟩ = some (.int .i64 a0_1) := (kc BK250.out 1).trans rfl; have hcz16_2 : w15.cell? ⟨gb250, 2, none⟩ = some (.int .i64 a0_2) := (kc BK250.out 2).trans rfl; have hcz16_3 : w15.cell? ⟨gb250, 3, none⟩ = some (.int .i64 a0_3) := (kc BK250.out 3).trans rfl; have hfz16_0 := kf BK250.out 0; have hfz16_1 := kf BK250.out 1; have hfz16_2 := kf BK250.out 2; have hfz16_3 := kf BK250.out 3) | ((with_reducible refine gate_callee (f := 60) rfl ?_); refine goesL_ (some 16) rfl rfl Try.func60 (by kernel_rfl) rfl #[.agg #[.int .i64 a0_0, .int .i64 a0_1, .int .i64 a0_2, .int .i64 a0_3]] rfl (by (try simp only [List.map_toArray, List.map_cons, List.map_nil]); first | done | rfl | (simp only [List.length_drop, List.length_take]; rfl)) ?_; (with_reducible refine (impl_Geo_partWords.calls a0_0 a0_1 a0_2 a0_3 t253 _ A4.out).mono ?_); rintro e w17 ⟨rfl, hb⟩; refine ⟨_, rfl, ?_⟩; have n0_ := Am (kb (g := gb250) (o := o9b0 a0_0 a0_1 a0_2 a0_3) (by (with_reducible repeat (first | refine kn ?_ _ | refine ke ?_ | refine ka ?_ _)); exact BK250.out) hb); have n1_ := Am (bq (by repeat (first | (with_reducible first | exact HB.out | apply ba | apply bn | apply be | refine bs ?_ GE250.out) | exact HB.out)) hb); clear BK250; clear HB; have BK250 := n0_; have HB := n1_; clear n0_ n1_; (try clear hb)))
   go_ret
   exact ⟨by first | rfl | (simp [errW_none, errW_some] <;> rfl) | (simp [*, errW_none, errW_some] <;> rfl), by repeat (first | (with_reducible first | exact HB.out | apply ba | apply bn | apply be | refine bs ?_ GE250.out) | exact HB.out)⟩

/-! ### impl_zeroWord: function 111 -/
def impl_zeroWord.f  : Option (ByteArray) := (impl_padded.f (⟨#[]⟩ : ByteArray) 8).bind fun t255 => (some t255)
set_option maxHeartbeats 8000000 in
set_option maxRecDepth 100000 in
theorem impl_zeroWord.calls  (r : ByteArray) (w : World) (h : impl_zeroWord.f  = some r) :
  Calls Try.prog 111 #[] w fun e w' => e = .returned (.string r) ∧ Below w.heap.size w w' := by
 have HB := Am (Below.refl w.heap.size w)
 have H : ((impl_padded.f (⟨#[]⟩ : ByteArray) 8).bind fun t255 => (some t255)) = some r := h
 clear h
 replace H := Option.bind_eq_some_iff.mp H
 obtain ⟨t255, A10, H⟩ := H
 replace H : (some t255) = some r := H
 have A1 := Am A10
 clear A10
 obtain rfl := Option.some.inj H
 go_enter Try.func111, Try.ntmps111
 go_wp2_with (first | ((with_reducible refine gate_callee (f := 141) rfl ?_); refine goesL_ (some 1) rfl rfl Try.func141 (by kernel_rfl) rfl #[.string (⟨#[]⟩ : ByteArray), .int .i64 8] rfl (by (try simp only [List.map_toArray, List.map_cons, List.map_nil]); first | done | rfl | (simp only [List.length_drop, List.length_take]; rfl)) ?_; (with_reducible refine (impl_padded.calls (⟨#[]⟩ : ByteArray) 8 t255 _ A1.out).mono ?_); rintro e w2 ⟨rfl, hb⟩; refine ⟨_, rfl, ?_⟩; replace HB := Am (bq (by repeat (first | (with_reducible first | exact HB.out | apply ba | apply bn | apply be) | exact HB.out)) hb); (try clear hb)))
 go_ret
 exact ⟨by first | rfl | (simp [errW_none, errW_some] <;> rfl) | (simp [*, errW_none, errW_some] <;> rfl), by repeat (first | (with_reducible first | exact HB.out | apply ba | apply bn | apply be) | exact HB.out)⟩

/-! ### impl_MaskRec: function 110 -/
def impl_MaskRec.f (a0 : ByteArray) : Option (ByteArray) := if (a0.size : Int) = 8 then ((impl_zeroWord.f).bind fun t256 => (if a0.toList = t256.toList then (some a0) else (if 0 ≤ 4 then (if 4 ≤ (a0.size : Int) then (if (a0.extract 0 4).size + 4 ≤ 9223372036854775807 then (some ((a0.extract 0 4) ++ (⟨#[255, 255, 255, 255]⟩ : ByteArray))) else (none)) else (none)) else (none)))) else (some a0)
set_option maxHeartbeats 8000000 in
set_option maxRecDepth 100000 in
theorem impl_MaskRec.calls (a0 : ByteArray) (r : ByteArray) (w : World) (h : impl_MaskRec.f a0 = some r) :
  Calls Try.prog 110 #[.string a0] w fun e w' => e = .returned (.string r) ∧ Below w.heap.size w w' := by
 have HB := Am (Below.refl w.heap.size w)
 have H : (if (a0.size : Int) = 8 then ((impl_zeroWord.f).bind fun t256 => (if a0.toList = t256.toList then (some a0) else (if 0 ≤ 4 then (if 4 ≤ (a0.size : Int) then (if (a0.extract 0 4).size + 4 ≤ 9223372036854775807 then (some ((a0.extract 0 4) ++ (⟨#[255, 255, 255, 255]⟩ : ByteArray))) else (none)) else (none)) else (none)))) else (some a0)) = some r := h
 clear h
 by_cases c2 : (a0.size : Int) = 8
 ·rw [if_pos c2] at H
  have c2b0 : ((a0.size : Int) == 8) = true := beq_iff_eq.mpr c2
  have c2b1 : ((a0.size : Int) != 8) = false := bne_eq_false_iff_eq.mpr c2
  clear c2
  replace H := Option.bind_eq_some_iff.mp H
  obtain ⟨t256, A30, H⟩ := H
  replace H : (if a0.toList = t256.toList then (some a0) else (if 0 ≤ 4 then (if 4 ≤ (a0.size : Int) then (if (a0.extract 0 4).size + 4 ≤ 9223372036854775807 then (some ((a0.extract 0 4) ++ (⟨#[255, 255, 255, 255]⟩ : ByteArray))) else (none)) else (none)) else (none))) = some r := H
  have A3 := Am A30
  clear A30
  by_cases c4 : a0.toList = t256.toList
  ·rw [if_pos c4] at H
   have c4b0 : (a0.toList == t256.toList) = true := beq_iff_eq.mpr c4
   have c4b1 : (a0.toList != t256.toList) = false := bne_eq_false_iff_eq.mpr c4
   clear c4
   obtain rfl := Option.some.inj H
   go_enter Try.func110, Try.ntmps110
   go_wp2_with (first | (go_at_call 111; (with_reducible refine (impl_zeroWord.calls  t256 _ A3.out).mono ?_); rintro e w5 ⟨rfl, hb⟩; replace HB := Am (bq (by repeat (first | (with_reducible first | exact HB.out | apply ba | apply bn | apply be) | exact HB.out)) hb); (try clear hb)))
   go_ret
   exact ⟨by first | rfl | (simp [errW_none, errW_some] <;> rfl) | (simp [*, errW_none, errW_some] <;> rfl), by repeat (first | (with_reducible first | exact HB.out | apply ba | apply bn | apply be) | exact HB.out)⟩
  ·rw [if_neg c4] at H
   have c4b0 : (a0.toList == t256.toList) = false := beq_eq_false_iff_ne.mpr c4
   have c4b1 : (a0.toList != t256.toList) = true := bne_iff_ne.mpr c4
   by_cases c6 : 0 ≤ 4
   ·rw [if_pos c6] at H
    have c6b0 := eq_true c6
    have c6b1 : decide (0 ≤ 4) = true := decide_eq_true c6
    clear c6
    by_cases c7 : 4 ≤ (a0.size : Int)
    ·rw [if_pos c7] at H
     have c7b0 := eq_true c7
     have c7b1 : decide (4 ≤ (a0.size : Int)) = true := decide_eq_true c7
     clear c7
     by_cases c8 : (a0.extract 0 4).size + 4 ≤ 9223372036854775807
     ·rw [if_pos c8] at H
      have c8b0 := eq_true c8
      have c8b1 : decide ((a0.extract 0 4).size + 4 ≤ 9223372036854775807) = true := decide_eq_true c8
      try have c8b2 : (9223372036854775807 < (a0.extract 0 4).size + 4) = False := eq_false (Nat.not_lt.2 c8)
      try (have c8b3 := c8b2; simp only [ByteArray.size_extract, Nat.sub_zero] at c8b3)
      try clear c8
      obtain rfl := Option.some.inj H
      go_enter Try.func110, Try.ntmps110
      go_wp2_with (first | (go_at_call 111; (with_reducible refine (impl_zeroWord.calls  t256 _ A3.out).mono ?_); rintro e w9 ⟨rfl, hb⟩; replace HB := Am (bq (by repeat (first | (with_reducible first | exact HB.out | apply ba | apply bn | apply be) | exact HB.out)) hb); (try clear hb)))
      go_ret
      exact ⟨by first | rfl | (simp [errW_none, errW_some] <;> rfl) | (simp [*, errW_none, errW_some] <;> rfl), by repeat (first | (with_reducible first | exact HB.out | apply ba | apply bn | apply be) | exact HB.out)⟩
     ·rw [if_neg c8] at H
      exact absurd H (by simp)
    ·rw [if_neg c7] at H
     exact absurd H (by simp)
   ·rw [if_neg c6] at H
    exact absurd H (by simp)
 ·rw [if_neg c2] at H
  have c2b0 : ((a0.size : Int) == 8) = false := beq_eq_false_iff_ne.mpr c2
  have c2b1 : ((a0.size : Int) != 8) = true := bne_iff_ne.mpr c2
  obtain rfl := Option.some.inj H
  go_enter Try.func110, Try.ntmps110
  go_wp2
  go_ret
  exact ⟨by first | rfl | (simp [errW_none, errW_some] <;> rfl) | (simp [*, errW_none, errW_some] <;> rfl), by repeat (first | (with_reducible first | exact HB.out | apply ba | apply bn | apply be) | exact HB.out)⟩

end Go.Proofs.Ytconffflmbakgaa.QFnExactMaskedWord
