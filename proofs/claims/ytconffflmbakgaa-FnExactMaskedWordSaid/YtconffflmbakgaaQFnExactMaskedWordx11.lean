/- Go functions as Lean functions, and their contracts. Own text: written by wip/gen/pr.py (a turned copy of the print). -/
import Derived.Test.YtconffflmbakgaaQFnExactMaskedWordx0
import Derived.Test.YtconffflmbakgaaQFnExactMaskedWordx5
import Derived.Test.YtconffflmbakgaaQFnExactMaskedWordx7
import Derived.Test.YtconffflmbakgaaQFnExactMaskedWordx10
namespace Go.Proofs.Ytconffflmbakgaa.QFnExactMaskedWord
open Go.RowKit Go.Proofs.YtconffflmbakgaaW.PrintWords Go.Proofs.YtconffflmbakgaaW.PrintLast Go.Proofs.YtconffflmbakgaaW.PrintMore
attribute [local go_sem] max2_int min2_int max_two min_two max_three min_three max_four min_four   -- for this text's walks alone
open Go.Proofs.YtconffflmbakgaaW.PrintWords renaming below_alloc → ba, pw_below_drewN → bn, below_drew1 → be, below_set → bs, blk_drewN → kn, blk_drew → ke, blk_alloc → ka, blk_below → kb, blk_frozen → kf, blk_cell → kc, below_step → bq, below_size → bz, blk_lt → kl
open Go.Proofs.YtconffflmbakgaaW.PrintWords.Kd renaming C_alloc → ca, C_drewN → cn, C_drew → ce, C_below → cb
open Go.Proofs.YtconffflmbakgaaW.PrintWords.Aside0 renaming mk → Am
set_option linter.unusedVariables false
set_option linter.unusedSimpArgs false

def o11b0 (p0 : Int) (p1 : Int) (p2 : Int) (p3 : Int) : Obj := .cells #[.int .i64 p0, .int .i64 p1, .int .i64 p2, .int .i64 p3] 29 (0, 0)
def o11b1 (p0 : Int) (p1 : ByteArray) (p2 : Bool) : Obj := .cells #[.int .i64 p0, .string p1, .bool p2] 155 (0, 0)
def o11b2 (p0 : ByteArray) (p1 : Option Addr) (p2 p3 : Nat) : Obj := .cells #[.string p0, .slice p1 p2 p3] 33 (0, 0)
/-! ### impl_MaskedWord: function 14 -/
def impl_MaskedWord.f (k : Nat) (a0_0 : Int) (a0_1 : Int) (a0_2 : Int) (a0_3 : Int) (a1 : Int) (a2_0 : ByteArray) (l2_1 : List (S155)) : Option (ByteArray) := (impl_isPlaced.f k a2_0 l2_1 a0_0 a0_1 a0_2 a0_3).bind fun t285 => (if t285 = true then ((impl_Geo_partWords.f a0_0 a0_1 a0_2 a0_3).bind fun t286 => ((impl_within.f a1 0 (wrap64 ((wrap64 (a0_0 * t286)) - 1))).bind fun t287 => (if t287 = true then ((impl_maskedWord.f k a0_0 a0_1 a0_2 a0_3 a1 a2_0 ([] : List (S155))).bind fun t288 => (some t288)) else (some (⟨#[]⟩ : ByteArray))))) else (some (⟨#[]⟩ : ByteArray)))
theorem impl_MaskedWord.mono : ∀ a0 a1 a2 a3 a4 a5 a6 k, LeO (impl_MaskedWord.f k a0 a1 a2 a3 a4 a5 a6) (impl_MaskedWord.f (k + 1) a0 a1 a2 a3 a4 a5 a6) := by
 intro a0 a1 a2 a3 a4 a5 a6 k
 unfold impl_MaskedWord.f
 repeat' first
   | (with_reducible exact impl_isPlaced.mono _ _ _ _ _ _ _)
   | (with_reducible exact impl_maskedWord.mono _ _ _ _ _ _ _ _)
   | (with_reducible exact LeO.refl _)
   | (with_reducible exact LeO.none _)
   | (with_reducible refine LeO.ite ?_ ?_)
   | (with_reducible refine LeO.bind ?_ (fun _ => ?_))
   | exact impl_isPlaced.mono _ _ _ _ _ _ _
   | exact impl_maskedWord.mono _ _ _ _ _ _ _ _
   | exact LeO.none _
   | refine LeO.ite ?_ ?_
   | refine LeO.bind ?_ (fun _ => ?_)
def impl_MaskedWord.T1 : Bool × List (List Nat × List Nat) := (true, [([], []), ([], []), ([0, 1], [0, 1]), ([2], [2]), ([3, 2], [3]), ([4], [4]), ([4], [4]), ([6, 4], [4, 6]), ([4], [4]), ([8, 4, 4], [4, 8]), ([7, 9, 4], [4, 7, 9]), ([10, 4], [4, 10]), ([5, 11, 9, 4], [4, 5, 11]), ([12, 4], [4, 12]), ([4, 13], [4, 13])])
def impl_MaskedWord.B1 : List Nat := [0, 0, 3, 7, 15, 31, 31, 95, 31, 287, 991, 2015, 4095, 8191, 16383]
theorem impl_MaskedWord.tab1 : rtab .any (opsOf Try.f14 1) = impl_MaskedWord.T1 := by kernel_rfl
theorem impl_MaskedWord.bits1 : waitsOk impl_MaskedWord.T1.2 impl_MaskedWord.B1 = true := by kernel_rfl
set_option maxHeartbeats 8000000 in
set_option maxRecDepth 100000 in
theorem impl_MaskedWord.calls (k : Nat) (a0_0 : Int) (a0_1 : Int) (a0_2 : Int) (a0_3 : Int) (a1 : Int) (a2_0 : ByteArray) (A2_1 : Option Addr) (c2_1 : Nat) (l2_1 : List (S155)) (r : ByteArray) (w : World) (hr2_1 : Kd.C k155 w A2_1 l2_1.length l2_1) (hc2_1 : l2_1.length ≤ c2_1) (h : impl_MaskedWord.f k a0_0 a0_1 a0_2 a0_3 a1 a2_0 l2_1 = some r) :
  Calls Try.prog 14 #[.agg #[.int .i64 a0_0, .int .i64 a0_1, .int .i64 a0_2, .int .i64 a0_3], .int .i64 a1, .agg #[.string a2_0, .slice A2_1 l2_1.length c2_1]] w fun e w' => e = .returned (.string r) ∧ Below w.heap.size w w' := by
 have hu29 := Try.underlying29
 have hu33 := Try.underlying33
 have HR2_1 := Am hr2_1
 have HC2_1 := Am hc2_1
 clear hr2_1 hc2_1
 have HB := Am (Below.refl w.heap.size w)
 have H : ((impl_isPlaced.f k a2_0 l2_1 a0_0 a0_1 a0_2 a0_3).bind fun t285 => (if t285 = true then ((impl_Geo_partWords.f a0_0 a0_1 a0_2 a0_3).bind fun t286 => ((impl_within.f a1 0 (wrap64 ((wrap64 (a0_0 * t286)) - 1))).bind fun t287 => (if t287 = true then ((impl_maskedWord.f k a0_0 a0_1 a0_2 a0_3 a1 a2_0 ([] : List (S155))).bind fun t288 => (some t288)) else (some (⟨#[]⟩ : ByteArray))))) else (some (⟨#[]⟩ : ByteArray)))) = some r := h
 clear h
 replace H := Option.bind_eq_some_iff.mp H
 obtain ⟨t285, A40, H⟩ := H
 replace H : (if t285 = true then ((impl_Geo_partWords.f a0_0 a0_1 a0_2 a0_3).bind fun t286 => ((impl_within.f a1 0 (wrap64 ((wrap64 (a0_0 * t286)) - 1))).bind fun t287 => (if t287 = true then ((impl_maskedWord.f k a0_0 a0_1 a0_2 a0_3 a1 a2_0 ([] : List (S155))).bind fun t288 => (some t288)) else (some (⟨#[]⟩ : ByteArray))))) else (some (⟨#[]⟩ : ByteArray))) = some r := H
 have A4 := Am A40
 clear A40
 by_cases c5 : t285 = true
 ·subst c5
  have H1 : ((impl_Geo_partWords.f a0_0 a0_1 a0_2 a0_3).bind fun t286 => ((impl_within.f a1 0 (wrap64 ((wrap64 (a0_0 * t286)) - 1))).bind fun t287 => (if t287 = true then ((impl_maskedWord.f k a0_0 a0_1 a0_2 a0_3 a1 a2_0 ([] : List (S155))).bind fun t288 => (some t288)) else (some (⟨#[]⟩ : ByteArray))))) = some r := by rw [if_pos rfl] at H; exact H
  clear H
  have H := H1
  clear H1
  replace H := Option.bind_eq_some_iff.mp H
  obtain ⟨t286, A60, H⟩ := H
  replace H : ((impl_within.f a1 0 (wrap64 ((wrap64 (a0_0 * t286)) - 1))).bind fun t287 => (if t287 = true then ((impl_maskedWord.f k a0_0 a0_1 a0_2 a0_3 a1 a2_0 ([] : List (S155))).bind fun t288 => (some t288)) else (some (⟨#[]⟩ : ByteArray)))) = some r := H
  have A6 := Am A60
  clear A60
  replace H := Option.bind_eq_some_iff.mp H
  obtain ⟨t287, A70, H⟩ := H
  replace H : (if t287 = true then ((impl_maskedWord.f k a0_0 a0_1 a0_2 a0_3 a1 a2_0 ([] : List (S155))).bind fun t288 => (some t288)) else (some (⟨#[]⟩ : ByteArray))) = some r := H
  have A7 := Am A70
  clear A70
  by_cases c8 : t287 = true
  ·subst c8
   have H1 : ((impl_maskedWord.f k a0_0 a0_1 a0_2 a0_3 a1 a2_0 ([] : List (S155))).bind fun t288 => (some t288)) = some r := by rw [if_pos rfl] at H; exact H
   clear H
   have H := H1
   clear H1
   replace H := Option.bind_eq_some_iff.mp H
   obtain ⟨t288, A90, H⟩ := H
   replace H : (some t288) = some r := H
   have A9 := Am A90
   clear A90
   obtain rfl := Option.some.inj H
   go_enter Try.func14, Try.ntmps14
   try go_wp2_with (first | ((with_reducible refine gate_dst (N := 3) rfl ?_); refine box_event ?hg (N := 3) ?hd (cs := #[.int .i64 a0_0, .int .i64 a0_1, .int .i64 a0_2, .int .i64 a0_3]) (t := 29) ?hr ?_; (case hd => rfl); (case hg => rfl); (case hr => first | (go_simp; done) | (go_simp; rfl)); intro gb283 hg w10 hbox hb; have BK283 := Am (hbox); have GW283 := Am ((by rw [hg]; exact (bz (by repeat (first | (with_reducible first | exact HB.out | apply ba | apply bn | apply be) | exact HB.out))) : w.heap.size ≤ gb283)); have GE283 := Am ((by rw [hg]; exact (bz (by repeat (first | (with_reducible first | exact HB.out | apply ba | apply bn | apply be) | exact HB.out))) : w.heap.size ≤ gb283)); replace HB := Am (bq (by repeat (first | (with_reducible first | exact HB.out | apply ba | apply bn | apply be) | exact HB.out)) hb); clear hb hbox hg) | ((with_reducible refine gate_dst (N := 5) rfl ?_); refine box_event ?hg (N := 5) ?hd (cs := #[.string a2_0, .slice A2_1 l2_1.length c2_1]) (t := 33) ?hr ?_; (case hd => rfl); (case hg => rfl); (case hr => first | (go_simp; done) | (go_simp; rfl)); intro gb284 hg w11 hbox hb; have n0_ := Am (kb (g := gb283) (o := o11b0 a0_0 a0_1 a0_2 a0_3) (by (with_reducible repeat (first | refine kn ?_ _ | refine ke ?_ | refine ka ?_ _)); exact BK283.out) hb); have n1_ := Am (bq (by repeat (first | (with_reducible first | exact HB.out | apply ba | apply bn | apply be | refine bs ?_ GE283.out) | exact HB.out)) hb); have n2_ := Am (hbox); have n3_ := Am ((by rw [hg]; exact (bz (by repeat (first | (with_reducible first | exact HB.out | apply ba | apply bn | apply be | refine bs ?_ GE283.out) | exact HB.out))) : w.heap.size ≤ gb284)); have n4_ := Am ((by rw [hg]; exact (bz (by repeat (first | (with_reducible first | exact HB.out | apply ba | apply bn | apply be | refine bs ?_ GE283.out) | exact HB.out))) : w.heap.size ≤ gb284)); have n5_ := Am ((by rw [hg]; exact Nat.ne_of_lt (kl (g := gb283) (o := o11b0 a0_0 a0_1 a0_2 a0_3) (by (with_reducible repeat (first | refine kn ?_ _ | refine ke ?_ | refine ka ?_ _)); exact BK283.out)) : gb283 ≠ gb284)); have n6_ := Am ((by rw [hg]; exact Nat.ne_of_gt (kl (g := gb283) (o := o11b0 a0_0 a0_1 a0_2 a0_3) (by (with_reducible repeat (first | refine kn ?_ _ | refine ke ?_ | refine ka ?_ _)); exact BK283.out)) : gb284 ≠ gb283)); clear BK283; clear HB; have BK283 := n0_; have HB := n1_; have BK284 := n2_; have GW284 := n3_; have GE284 := n4_; have NB283_284 := n5_; have NB284_283 := n6_; clear n0_ n1_ n2_ n3_ n4_ n5_ n6_; clear hb hbox hg))
   have n0_ := Am (ke BK283.out)
   have n1_ := Am (ke BK284.out)
   have n2_ := Am (be HB.out)
   clear BK283
   clear BK284
   clear HB
   have BK283 := n0_
   have BK284 := n1_
   have HB := n2_
   clear n0_ n1_ n2_
   refine start_ (n := 15) (S := fun w' => w'.cell? ⟨gb284, 0, none⟩ = some (.string a2_0) ∧ w'.cell? ⟨gb284, 1, none⟩ = some (.slice A2_1 l2_1.length c2_1) ∧ w'.cell? ⟨gb283, 0, none⟩ = some (.int .i64 a0_0) ∧ w'.cell? ⟨gb283, 1, none⟩ = some (.int .i64 a0_1) ∧ w'.cell? ⟨gb283, 2, none⟩ = some (.int .i64 a0_2) ∧ w'.cell? ⟨gb283, 3, none⟩ = some (.int .i64 a0_3)) (ds := []) #[false, false, false, false, false, false, false, false, false, false, false, false, false, false, false] (by kernel_rfl) rfl rfl ⟨(kc BK284.out 0).trans rfl, (kc BK284.out 1).trans rfl, (kc BK283.out 0).trans rfl, (kc BK283.out 1).trans rfl, (kc BK283.out 2).trans rfl, (kc BK283.out 3).trans rfl⟩ (fun hHeld => ?_); refine with_tabW impl_MaskedWord.tab1 impl_MaskedWord.bits1 (fun HT_ HW_ => ?_)
   generalize w11.drew = w12 at BK283 BK284 HB hHeld ⊢
   refine zT 0 (some 7) HT_.out HW_.out rfl rfl hHeld ?_
   refine zT 1 (some 8) HT_.out HW_.out rfl rfl hHeld ?_
   refine zO 2 (some 9) HT_.out rfl rfl (fun K hK => ?_)
   refine goes_ Try.func58 (by kernel_rfl) rfl #[.agg #[.string a2_0, .slice A2_1 l2_1.length c2_1], .agg #[.int .i64 a0_0, .int .i64 a0_1, .int .i64 a0_2, .int .i64 a0_3]] (by rfl) rfl rfl (by (try simp only [List.map_toArray, List.map_cons, List.map_nil]); first | done | rfl | (simp only [List.length_drop, List.length_take]; rfl)) ?_
   with_reducible refine (impl_isPlaced.calls k a2_0 _ _ l2_1 a0_0 a0_1 a0_2 a0_3 true _ ?side1 ?side2 A4.out).mono ?_
   (case side1 => repeat (first | exact (cb HR2_1.out HB.out) | (with_reducible first | refine ca ?_ _ | refine cn ?_ _ | refine ce ?_)))
   (case side2 => exact HC2_1.out)
   rintro e w13 ⟨rfl, hb⟩
   refine ⟨_, rfl, ?_⟩
   have n0_ := Am (kb (g := gb283) (o := o11b0 a0_0 a0_1 a0_2 a0_3) (by (with_reducible repeat (first | refine kn ?_ _ | refine ke ?_ | refine ka ?_ _)); exact BK283.out) hb)
   have n1_ := Am (kb (g := gb284) (o := o11b2 a2_0 A2_1 l2_1.length c2_1) (by (with_reducible repeat (first | refine kn ?_ _ | refine ke ?_ | refine ka ?_ _)); exact BK284.out) hb)
   have n2_ := Am (bq (by repeat (first | (with_reducible first | exact HB.out | apply ba | apply bn | apply be | refine bs ?_ GE283.out | refine bs ?_ GE284.out) | exact HB.out)) hb)
   clear BK283
   clear BK284
   clear HB
   have BK283 := n0_
   have BK284 := n1_
   have HB := n2_
   clear n0_ n1_ n2_
   (try clear hb)
   (try clear hb2)
   (try clear hk)
   (try clear hi)
   refine hK.out _ _ ⟨(kc BK284.out 0).trans rfl, (kc BK284.out 1).trans rfl, (kc BK283.out 0).trans rfl, (kc BK283.out 1).trans rfl, (kc BK283.out 2).trans rfl, (kc BK283.out 3).trans rfl⟩ (fun hHeld => ?_)
   clear hK K
   refine zN (some 9) ?_
   refine zA 3 (some 10) HT_.out rfl rfl ?_
   refine zA 4 (some 11) HT_.out rfl rfl ?_
   refine zA 5 (some 12) HT_.out rfl rfl ?_
   refine zA 6 (some 13) HT_.out rfl rfl ?_
   refine zT 7 (some 14) HT_.out HW_.out rfl rfl hHeld ?_
   refine zT 8 (some 15) HT_.out HW_.out rfl rfl hHeld ?_
   refine zO 9 (some 16) HT_.out rfl rfl (fun K hK => ?_)
   refine goes_ Try.func60 (by kernel_rfl) rfl #[.agg #[.int .i64 a0_0, .int .i64 a0_1, .int .i64 a0_2, .int .i64 a0_3]] (by rfl) rfl rfl (by (try simp only [List.map_toArray, List.map_cons, List.map_nil]); first | done | rfl | (simp only [List.length_drop, List.length_take]; rfl)) ?_
   with_reducible refine (impl_Geo_partWords.calls a0_0 a0_1 a0_2 a0_3 t286 _ A6.out).mono ?_
   rintro e w14 ⟨rfl, hb⟩
   refine ⟨_, rfl, ?_⟩
   have n0_ := Am (kb (g := gb283) (o := o11b0 a0_0 a0_1 a0_2 a0_3) (by (with_reducible repeat (first | refine kn ?_ _ | refine ke ?_ | refine ka ?_ _)); exact BK283.out) hb)
   have n1_ := Am (kb (g := gb284) (o := o11b2 a2_0 A2_1 l2_1.length c2_1) (by (with_reducible repeat (first | refine kn ?_ _ | refine ke ?_ | refine ka ?_ _)); exact BK284.out) hb)
   have n2_ := Am (bq (by repeat (first | (with_reducible first | exact HB.out | apply ba | apply bn | apply be | refine bs ?_ GE283.out | refine bs ?_ GE284.out) | exact HB.out)) hb)
   clear BK283
   clear BK284
   clear HB
   have BK283 := n0_
   have BK284 := n1_
   have HB := n2_
   clear n0_ n1_ n2_
   (try clear hb)
   (try clear hb2)
   (try clear hk)
   (try clear hi)
   refine hK.out _ _ ⟨(kc BK284.out 0).trans rfl, (kc BK284.out 1).trans rfl, (kc BK283.out 0).trans rfl, (kc BK283.out 1).trans rfl, (kc BK283.out 2).trans rfl, (kc BK283.out 3).trans rfl⟩ (fun hHeld => ?_)
   clear hK K
   refine zN (some 16) ?_
   refine zA 10 (some 17) HT_.out rfl rfl ?_
   refine zA 11 (some 18) HT_.out rfl rfl ?_
   refine zO 12 (some 19) HT_.out rfl rfl (fun K hK => ?_)
   refine goes_ Try.func59 (by kernel_rfl) rfl #[.int .i64 a1, .int .i64 0, .int .i64 (wrap64 ((wrap64 (a0_0 * t286)) - 1))] (by rfl) rfl rfl (by (try simp only [List.map_toArray, List.map_cons, List.map_nil]); first | done | rfl | (simp only [List.length_drop, List.length_take]; rfl)) ?_
   with_reducible refine (impl_within.calls a1 0 (wrap64 ((wrap64 (a0_0 * t286)) - 1)) true _ A7.out).mono ?_
   rintro e w' ⟨rfl, ⟨nd, rfl⟩⟩
   refine ⟨_, rfl, ?_⟩
   refine hK.out _ _ ⟨(kc BK284.out 0).trans rfl, (kc BK284.out 1).trans rfl, (kc BK283.out 0).trans rfl, (kc BK283.out 1).trans rfl, (kc BK283.out 2).trans rfl, (kc BK283.out 3).trans rfl⟩ (fun hHeld => ?_)
   clear hK K
   refine zN (some 19) ?_
   refine zA 13 (some 20) HT_.out rfl rfl ?_
   refine zA 14 (some 21) HT_.out rfl rfl ?_
   refine done_ (done_of HT_.out (by kernel_rfl)) ?_
   have hnb15 := NB283_284.out
   have hnc15 := NB284_283.out
   have hcz16_0 : w14.cell? ⟨gb283, 0, none⟩ = some (.int .i64 a0_0) := (kc BK283.out 0).trans rfl
   have hcz16_1 : w14.cell? ⟨gb283, 1, none⟩ = some (.int .i64 a0_1) := (kc BK283.out 1).trans rfl
   have hcz16_2 : w14.cell? ⟨gb283, 2, none⟩ = some (.int .i64 a0_2) := (kc BK283.out 2).trans rfl
   have hcz16_3 : w14.cell? ⟨gb283, 3, none⟩ = some (.int .i64 a0_3) := (kc BK283.out 3).trans rfl
   have hfz16_0 := kf BK283.out 0
   have hfz16_1 := kf BK283.out 1
   have hfz16_2 := kf BK283.out 2
   have hfz16_3 := kf BK283.out 3
   have hcz17_0 : w14.cell? ⟨gb284, 0, none⟩ = some (.string a2_0) := (kc BK284.out 0).trans rfl
   have hcz17_1 : w14.cell? ⟨gb284, 1, none⟩ = some (.slice A2_1 l2_1.length c2_1) := (kc BK284.out 1).trans rfl
   have hfz17_0 := kf BK284.out 0
   have hfz17_1 := kf BK284.out 1
   try go_wp2_with (first | ((with_reducible refine gate_callee (f := 61) rfl ?_); refine goesL_ (some 27) rfl rfl Try.func61 (by kernel_rfl) rfl #[.agg #[.int .i64 a0_0, .int .i64 a0_1, .int .i64 a0_2, .int .i64 a0_3], .int .i64 a1, .agg #[.string a2_0, .slice none 0 0]] rfl (by (try simp only [List.map_toArray, List.map_cons, List.map_nil]); first | done | rfl | (simp only [List.length_drop, List.length_take]; rfl)) ?_; (refine (impl_maskedWord.calls k a0_0 a0_1 a0_2 a0_3 a1 a2_0 _ _ ([] : List (S155)) t288 _ ?side1 ?side2 A9.out).mono ?_); (case side1 => exact Kd.C_nil _ _); (case side2 => exact Nat.le_refl _); rintro e w18 ⟨rfl, hb⟩; refine ⟨_, rfl, ?_⟩; have n0_ := Am (kb (g := gb283) (o := o11b0 a0_0 a0_1 a0_2 a0_3) (by (with_reducible repeat (first | refine kn ?_ _ | refine ke ?_ | refine ka ?_ _)); exact BK283.out) hb); have n1_ := Am (kb (g := gb284) (o := o11b2 a2_0 A2_1 l2_1.length c2_1) (by (with_reducible repeat (first | refine kn ?_ _ | refine ke ?_ | refine ka ?_ _)); exact BK284.out) hb); have n2_ := Am (bq (by repeat (first | (with_reducible first | exact HB.out | apply ba | apply bn | apply be | refine bs ?_ GE283.out | refine bs ?_ GE284.out) | exact HB.out)) hb); clear BK283; clear BK284; clear HB; have BK283 := n0_; have BK284 := n1_; have HB := n2_; clear n0_ n1_ n2_; (try clear hb)))
   go_ret
   exact ⟨by first | rfl | (simp [errW_none, errW_some] <;> rfl) | (simp [*, errW_none, errW_some] <;> rfl), by repeat (first | (with_reducible first | exact HB.out | apply ba | apply bn | apply be | refine bs ?_ GE283.out | refine bs ?_ GE284.out) | exact HB.out)⟩
  ·replace c8 := Bool.eq_false_iff.mpr c8
   subst c8
   have H1 : (some (⟨#[]⟩ : ByteArray)) = some r := by rw [if_neg (show ¬ (false = true) by decide)] at H; exact H
   clear H
   have H := H1
   clear H1
   obtain rfl := Option.some.inj H
   go_enter Try.func14, Try.ntmps14
   try go_wp2_with (first | ((with_reducible refine gate_dst (N := 3) rfl ?_); refine box_event ?hg (N := 3) ?hd (cs := #[.int .i64 a0_0, .int .i64 a0_1, .int .i64 a0_2, .int .i64 a0_3]) (t := 29) ?hr ?_; (case hd => rfl); (case hg => rfl); (case hr => first | (go_simp; done) | (go_simp; rfl)); intro gb283 hg w19 hbox hb; have BK283 := Am (hbox); have GW283 := Am ((by rw [hg]; exact (bz (by repeat (first | (with_reducible first | exact HB.out | apply ba | apply bn | apply be) | exact HB.out))) : w.heap.size ≤ gb283)); have GE283 := Am ((by rw [hg]; exact (bz (by repeat (first | (with_reducible first | exact HB.out | apply ba | apply bn | apply be) | exact HB.out))) : w.heap.size ≤ gb283)); replace HB := Am (bq (by repeat (first | (with_reducible first | exact HB.out | apply ba | apply bn | apply be) | exact HB.out)) hb); clear hb hbox hg) | ((with_reducible refine gate_dst (N := 5) rfl ?_); refine box_event ?hg (N := 5) ?hd (cs := #[.string a2_0, .slice A2_1 l2_1.length c2_1]) (t := 33) ?hr ?_; (case hd => rfl); (case hg => rfl); (case hr => first | (go_simp; done) | (go_simp; rfl)); intro gb284 hg w20 hbox hb; have n0_ := Am (kb (g := gb283) (o := o11b0 a0_0 a0_1 a0_2 a0_3) (by (with_reducible repeat (first | refine kn ?_ _ | refine ke ?_ | refine ka ?_ _)); exact BK283.out) hb); have n1_ := Am (bq (by repeat (first | (with_reducible first | exact HB.out | apply ba | apply bn | apply be | refine bs ?_ GE283.out) | exact HB.out)) hb); have n2_ := Am (hbox); have n3_ := Am ((by rw [hg]; exact (bz (by repeat (first | (with_reducible first | exact HB.out | apply ba | apply bn | apply be | refine bs ?_ GE283.out) | exact HB.out))) : w.heap.size ≤ gb284)); have n4_ := Am ((by rw [hg]; exact (bz (by repeat (first | (with_reducible first | exact HB.out | apply ba | apply bn | apply be | refine bs ?_ GE283.out) | exact HB.out))) : w.heap.size ≤ gb284)); have n5_ := Am ((by rw [hg]; exact Nat.ne_of_lt (kl (g := gb283) (o := o11b0 a0_0 a0_1 a0_2 a0_3) (by (with_reducible repeat (first | refine kn ?_ _ | refine ke ?_ | refine ka ?_ _)); exact BK283.out)) : gb283 ≠ gb284)); have n6_ := Am ((by rw [hg]; exact Nat.ne_of_gt (kl (g := gb283) (o := o11b0 a0_0 a0_1 a0_2 a0_3) (by (with_reducible repeat (first | refine kn ?_ _ | refine ke ?_ | refine ka ?_ _)); exact BK283.out)) : gb284 ≠ gb283)); clear BK283; clear HB; have BK283 := n0_; have HB := n1_; have BK284 := n2_; have GW284 := n3_; have GE284 := n4_; have NB283_284 := n5_; have NB284_283 := n6_; clear n0_ n1_ n2_ n3_ n4_ n5_ n6_; clear hb hbox hg))
   have n0_ := Am (ke BK283.out)
   have n1_ := Am (ke BK284.out)
   have n2_ := Am (be HB.out)
   clear BK283
   clear BK284
   clear HB
   have BK283 := n0_
   have BK284 := n1_
   have HB := n2_
   clear n0_ n1_ n2_
   refine start_ (n := 15) (S := fun w' => w'.cell? ⟨gb284, 0, none⟩ = some (.string a2_0) ∧ w'.cell? ⟨gb284, 1, none⟩ = some (.slice A2_1 l2_1.length c2_1) ∧ w'.cell? ⟨gb283, 0, none⟩ = some (.int .i64 a0_0) ∧ w'.cell? ⟨gb283, 1, none⟩ = some (.int .i64 a0_1) ∧ w'.cell? ⟨gb283, 2, none⟩ = some (.int .i64 a0_2) ∧ w'.cell? ⟨gb283, 3, none⟩ = some (.int .i64 a0_3)) (ds := []) #[false, false, false, false, false, false, false, false, false, false, false, false, false, false, false] (by kernel_rfl) rfl rfl ⟨(kc BK284.out 0).trans rfl, (kc BK284.out 1).trans rfl, (kc BK283.out 0).trans rfl, (kc BK283.out 1).trans rfl, (kc BK283.out 2).trans rfl, (kc BK283.out 3).trans rfl⟩ (fun hHeld => ?_); refine with_tabW impl_MaskedWord.tab1 impl_MaskedWord.bits1 (fun HT_ HW_ => ?_)
   generalize w20.drew = w21 at BK283 BK284 HB hHeld ⊢
   refine zT 0 (some 7) HT_.out HW_.out rfl rfl hHeld ?_
   refine zT 1 (some 8) HT_.out HW_.out rfl rfl hHeld ?_
   refine zO 2 (some 9) HT_.out rfl rfl (fun K hK => ?_)
   refine goes_ Try.func58 (by kernel_rfl) rfl #[.agg #[.string a2_0, .slice A2_1 l2_1.length c2_1], .agg #[.int .i64 a0_0, .int .i64 a0_1, .int .i64 a0_2, .int .i64 a0_3]] (by rfl) rfl rfl (by (try simp only [List.map_toArray, List.map_cons, List.map_nil]); first | done | rfl | (simp only [List.length_drop, List.length_take]; rfl)) ?_
   with_reducible refine (impl_isPlaced.calls k a2_0 _ _ l2_1 a0_0 a0_1 a0_2 a0_3 true _ ?side1 ?side2 A4.out).mono ?_
   (case side1 => repeat (first | exact (cb HR2_1.out HB.out) | (with_reducible first | refine ca ?_ _ | refine cn ?_ _ | refine ce ?_)))
   (case side2 => exact HC2_1.out)
   rintro e w22 ⟨rfl, hb⟩
   refine ⟨_, rfl, ?_⟩
   have n0_ := Am (kb (g := gb283) (o := o11b0 a0_0 a0_1 a0_2 a0_3) (by (with_reducible repeat (first | refine kn ?_ _ | refine ke ?_ | refine ka ?_ _)); exact BK283.out) hb)
   have n1_ := Am (kb (g := gb284) (o := o11b2 a2_0 A2_1 l2_1.length c2_1) (by (with_reducible repeat (first | refine kn ?_ _ | refine ke ?_ | refine ka ?_ _)); exact BK284.out) hb)
   have n2_ := Am (bq (by repeat (first | (with_reducible first | exact HB.out | apply ba | apply bn | apply be | refine bs ?_ GE283.out | refine bs ?_ GE284.out) | exact HB.out)) hb)
   clear BK283
   clear BK284
   clear HB
   have BK283 := n0_
   have BK284 := n1_
   have HB := n2_
   clear n0_ n1_ n2_
   (try clear hb)
   (try clear hb2)
   (try clear hk)
   (try clear hi)
   refine hK.out _ _ ⟨(kc BK284.out 0).trans rfl, (kc BK284.out 1).trans rfl, (kc BK283.out 0).trans rfl, (kc BK283.out 1).trans rfl, (kc BK283.out 2).trans rfl, (kc BK283.out 3).trans rfl⟩ (fun hHeld => ?_)
   clear hK K
   refine zN (some 9) ?_
   refine zA 3 (some 10) HT_.out rfl rfl ?_
   refine zA 4 (some 11) HT_.out rfl rfl ?_
   refine zA 5 (some 12) HT_.out rfl rfl ?_
   refine zA 6 (some 13) HT_.out rfl rfl ?_
   refine zT 7 (some 14) HT_.out HW_.out rfl rfl hHeld ?_
   refine zT 8 (some 15) HT_.out HW_.out rfl rfl hHeld ?_
   refine zO 9 (some 16) HT_.out rfl rfl (fun K hK => ?_)
   refine goes_ Try.func60 (by kernel_rfl) rfl #[.agg #[.int .i64 a0_0, .int .i64 a0_1, .int .i64 a0_2, .int .i64 a0_3]] (by rfl) rfl rfl (by (try simp only [List.map_toArray, List.map_cons, List.map_nil]); first | done | rfl | (simp only [List.length_drop, List.length_take]; rfl)) ?_
   with_reducible refine (impl_Geo_partWords.calls a0_0 a0_1 a0_2 a0_3 t286 _ A6.out).mono ?_
   rintro e w23 ⟨rfl, hb⟩
   refine ⟨_, rfl, ?_⟩
   have n0_ := Am (kb (g := gb283) (o := o11b0 a0_0 a0_1 a0_2 a0_3) (by (with_reducible repeat (first | refine kn ?_ _ | refine ke ?_ | refine ka ?_ _)); exact BK283.out) hb)
   have n1_ := Am (kb (g := gb284) (o := o11b2 a2_0 A2_1 l2_1.length c2_1) (by (with_reducible repeat (first | refine kn ?_ _ | refine ke ?_ | refine ka ?_ _)); exact BK284.out) hb)
   have n2_ := Am (bq (by repeat (first | (with_reducible first | exact HB.out | apply ba | apply bn | apply be | refine bs ?_ GE283.out | refine bs ?_ GE284.out) | exact HB.out)) hb)
   clear BK283
   clear BK284
   clear HB
   have BK283 := n0_
   have BK284 := n1_
   have HB := n2_
   clear n0_ n1_ n2_
   (try clear hb)
   (try clear hb2)
   (try clear hk)
   (try clear hi)
   refine hK.out _ _ ⟨(kc BK284.out 0).trans rfl, (kc BK284.out 1).trans rfl, (kc BK283.out 0).trans rfl, (kc BK283.out 1).trans rfl, (kc BK283.out 2).trans rfl, (kc BK283.out 3).trans rfl⟩ (fun hHeld => ?_)
   clear hK K
   refine zN (some 16) ?_
   refine zA 10 (some 17) HT_.out rfl rfl ?_
   refine zA 11 (some 18) HT_.out rfl rfl ?_
   refine zO 12 (some 19) HT_.out rfl rfl (fun K hK => ?_)
   refine goes_ Try.func59 (by kernel_rfl) rfl #[.int .i64 a1, .int .i64 0, .int .i64 (wrap64 ((wrap64 (a0_0 * t286)) - 1))] (by rfl) rfl rfl (by (try simp only [List.map_toArray, List.map_cons, List.map_nil]); first | done | rfl | (simp only [List.length_drop, List.length_take]; rfl)) ?_
   with_reducible refine (impl_within.calls a1 0 (wrap64 ((wrap64 (a0_0 * t286)) - 1)) false _ A7.out).mono ?_
   rintro e w' ⟨rfl, ⟨nd, rfl⟩⟩
   refine ⟨_, rfl, ?_⟩
   refine hK.out _ _ ⟨(kc BK284.out 0).trans rfl, (kc BK284.out 1).trans rfl, (kc BK283.out 0).trans rfl, (kc BK283.out 1).trans rfl, (kc BK283.out 2).trans rfl, (kc BK283.out 3).trans rfl⟩ (fun hHeld => ?_)
   clear hK K
   refine zN (some 19) ?_
   refine zA 13 (some 20) HT_.out rfl rfl ?_
   refine zA 14 (some 21) HT_.out rfl rfl ?_
   refine done_ (done_of HT_.out (by kernel_rfl)) ?_
   try go_wp2
   go_ret
   exact ⟨by first | rfl | (simp [errW_none, errW_some] <;> rfl) | (simp [*, errW_none, errW_some] <;> rfl), by repeat (first | (with_reducible first | exact HB.out | apply ba | apply bn | apply be | refine bs ?_ GE283.out | refine bs ?_ GE284.out) | exact HB.out)⟩
 ·replace c5 := Bool.eq_false_iff.mpr c5
  subst c5
  have H1 : (some (⟨#[]⟩ : ByteArray)) = some r := by rw [if_neg (show ¬ (false = true) by decide)] at H; exact H
  clear H
  have H := H1
  clear H1
  obtain rfl := Option.some.inj H
  go_enter Try.func14, Try.ntmps14
  try go_wp2_with (first | ((with_reducible refine gate_dst (N := 3) rfl ?_); refine box_event ?hg (N := 3) ?hd (cs := #[.int .i64 a0_0, .int .i64 a0_1, .int .i64 a0_2, .int .i64 a0_3]) (t := 29) ?hr ?_; (case hd => rfl); (case hg => rfl); (case hr => first | (go_simp; done) | (go_simp; rfl)); intro gb283 hg w24 hbox hb; have BK283 := Am (hbox); have GW283 := Am ((by rw [hg]; exact (bz (by repeat (first | (with_reducible first | exact HB.out | apply ba | apply bn | apply be) | exact HB.out))) : w.heap.size ≤ gb283)); have GE283 := Am ((by rw [hg]; exact (bz (by repeat (first | (with_reducible first | exact HB.out | apply ba | apply bn | apply be) | exact HB.out))) : w.heap.size ≤ gb283)); replace HB := Am (bq (by repeat (first | (with_reducible first | exact HB.out | apply ba | apply bn | apply be) | exact HB.out)) hb); clear hb hbox hg) | ((with_reducible refine gate_dst (N := 5) rfl ?_); refine box_event ?hg (N := 5) ?hd (cs := #[.string a2_0, .slice A2_1 l2_1.length c2_1]) (t := 33) ?hr ?_; (case hd => rfl); (case hg => rfl); (case hr => first | (go_simp; done) | (go_simp; rfl)); intro gb284 hg w25 hbox hb; have n0_ := Am (kb (g := gb283) (o := o11b0 a0_0 a0_1 a0_2 a0_3) (by (with_reducible repeat (first | refine kn ?_ _ | refine ke ?_ | refine ka ?_ _)); exact BK283.out) hb); have n1_ := Am (bq (by repeat (first | (with_reducible first | exact HB.out | apply ba | apply bn | apply be | refine bs ?_ GE283.out) | exact HB.out)) hb); have n2_ := Am (hbox); have n3_ := Am ((by rw [hg]; exact (bz (by repeat (first | (with_reducible first | exact HB.out | apply ba | apply bn | apply be | refine bs ?_ GE283.out) | exact HB.out))) : w.heap.size ≤ gb284)); have n4_ := Am ((by rw [hg]; exact (bz (by repeat (first | (with_reducible first | exact HB.out | apply ba | apply bn | apply be | refine bs ?_ GE283.out) | exact HB.out))) : w.heap.size ≤ gb284)); have n5_ := Am ((by rw [hg]; exact Nat.ne_of_lt (kl (g := gb283) (o := o11b0 a0_0 a0_1 a0_2 a0_3) (by (with_reducible repeat (first | refine kn ?_ _ | refine ke ?_ | refine ka ?_ _)); exact BK283.out)) : gb283 ≠ gb284)); have n6_ := Am ((by rw [hg]; exact Nat.ne_of_gt (kl (g := gb283) (o := o11b0 a0_0 a0_1 a0_2 a0_3) (by (with_reducible repeat (first | refine kn ?_ _ | refine ke ?_ | refine ka ?_ _)); exact BK283.out)) : gb284 ≠ gb283)); clear BK283; clear HB; have BK283 := n0_; have HB := n1_; have BK284 := n2_; have GW284 := n3_; have GE284 := n4_; have NB283_284 := n5_; have NB284_283 := n6_; clear n0_ n1_ n2_ n3_ n4_ n5_ n6_; clear hb hbox hg))
  have n0_ := Am (ke BK283.out)
  have n1_ := Am (ke BK284.out)
  have n2_ := Am (be HB.out)
  clear BK283
  clear BK284
  clear HB
  have BK283 := n0_
  have BK284 := n1_
  have HB := n2_
  clear n0_ n1_ n2_
  refine start_ (n := 15) (S := fun w' => w'.cell? ⟨gb284, 0, none⟩ = some (.string a2_0) ∧ w'.cell? ⟨gb284, 1, none⟩ = some (.slice A2_1 l2_1.length c2_1) ∧ w'.cell? ⟨gb283, 0, none⟩ = some (.int .i64 a0_0) ∧ w'.cell? ⟨gb283, 1, none⟩ = some (.int .i64 a0_1) ∧ w'.cell? ⟨gb283, 2, none⟩ = some (.int .i64 a0_2) ∧ w'.cell? ⟨gb283, 3, none⟩ = some (.int .i64 a0_3)) (ds := []) #[false, false, false, false, false, false, false, false, false, false, false, false, false, false, false] (by kernel_rfl) rfl rfl ⟨(kc BK284.out 0).trans rfl, (kc BK284.out 1).trans rfl, (kc BK283.out 0).trans rfl, (kc BK283.out 1).trans rfl, (kc BK283.out 2).trans rfl, (kc BK283.out 3).trans rfl⟩ (fun hHeld => ?_); refine with_tabW impl_MaskedWord.tab1 impl_MaskedWord.bits1 (fun HT_ HW_ => ?_)
  generalize w25.drew = w26 at BK283 BK284 HB hHeld ⊢
  refine zT 0 (some 7) HT_.out HW_.out rfl rfl hHeld ?_
  refine zT 1 (some 8) HT_.out HW_.out rfl rfl hHeld ?_
  refine zO 2 (some 9) HT_.out rfl rfl (fun K hK => ?_)
  refine goes_ Try.func58 (by kernel_rfl) rfl #[.agg #[.string a2_0, .slice A2_1 l2_1.length c2_1], .agg #[.int .i64 a0_0, .int .i64 a0_1, .int .i64 a0_2, .int .i64 a0_3]] (by rfl) rfl rfl (by (try simp only [List.map_toArray, List.map_cons, List.map_nil]); first | done | rfl | (simp only [List.length_drop, List.length_take]; rfl)) ?_
  with_reducible refine (impl_isPlaced.calls k a2_0 _ _ l2_1 a0_0 a0_1 a0_2 a0_3 false _ ?side1 ?side2 A4.out).mono ?_
  (case side1 => repeat (first | exact (cb HR2_1.out HB.out) | (with_reducible first | refine ca ?_ _ | refine cn ?_ _ | refine ce ?_)))
  (case side2 => exact HC2_1.out)
  rintro e w27 ⟨rfl, hb⟩
  refine ⟨_, rfl, ?_⟩
  have n0_ := Am (kb (g := gb283) (o := o11b0 a0_0 a0_1 a0_2 a0_3) (by (with_reducible repeat (first | refine kn ?_ _ | refine ke ?_ | refine ka ?_ _)); exact BK283.out) hb)
  have n1_ := Am (kb (g := gb284) (o := o11b2 a2_0 A2_1 l2_1.length c2_1) (by (with_reducible repeat (first | refine kn ?_ _ | refine ke ?_ | refine ka ?_ _)); exact BK284.out) hb)
  have n2_ := Am (bq (by repeat (first | (with_reducible first | exact HB.out | apply ba | apply bn | apply be | refine bs ?_ GE283.out | refine bs ?_ GE284.out) | exact HB.out)) hb)
  clear BK283
  clear BK284
  clear HB
  have BK283 := n0_
  have BK284 := n1_
  have HB := n2_
  clear n0_ n1_ n2_
  (try clear hb)
  (try clear hb2)
  (try clear hk)
  (try clear hi)
  refine hK.out _ _ ⟨(kc BK284.out 0).trans rfl, (kc BK284.out 1).trans rfl, (kc BK283.out 0).trans rfl, (kc BK283.out 1).trans rfl, (kc BK283.out 2).trans rfl, (kc BK283.out 3).trans rfl⟩ (fun hHeld => ?_)
  clear hK K
  refine zN (some 9) ?_
  refine zA 3 (some 10) HT_.out rfl rfl ?_
  refine zA 4 (some 11) HT_.out rfl rfl ?_
  refine zI 5 (some 12) HT_.out rfl rfl ?_
  refine zI 6 (some 13) HT_.out rfl rfl ?_
  refine zI 7 (some 14) HT_.out rfl rfl ?_
  refine zI 8 (some 15) HT_.out rfl rfl ?_
  refine zI 9 (some 16) HT_.out rfl rfl ?_
  refine zI 10 (some 17) HT_.out rfl rfl ?_
  refine zI 11 (some 18) HT_.out rfl rfl ?_
  refine zI 12 (some 19) HT_.out rfl rfl ?_
  refine zI 13 (some 20) HT_.out rfl rfl ?_
  refine zA 14 (some 21) HT_.out rfl rfl ?_
  refine done_ (done_of HT_.out (by kernel_rfl)) ?_
  try go_wp2
  go_ret
  exact ⟨by first | rfl | (simp [errW_none, errW_some] <;> rfl) | (simp [*, errW_none, errW_some] <;> rfl), by repeat (first | (with_reducible first | exact HB.out | apply ba | apply bn | apply be | refine bs ?_ GE283.out | refine bs ?_ GE284.out) | exact HB.out)⟩

/-! ### laws_eqCell: function 113 -/
def laws_eqCell.f (a0_0 : Int) (a0_1 : ByteArray) (a0_2 : Bool) (a1_0 : Int) (a1_1 : ByteArray) (a1_2 : Bool) : Option (Bool) := if a0_0 = a1_0 then (if a0_1.toList = a1_1.toList then (if (a0_2 != a1_2) = true then (some false) else (some true)) else (some false)) else (some false)
set_option maxHeartbeats 8000000 in
set_option maxRecDepth 100000 in
theorem laws_eqCell.calls (a0_0 : Int) (a0_1 : ByteArray) (a0_2 : Bool) (a1_0 : Int) (a1_1 : ByteArray) (a1_2 : Bool) (r : Bool) (w : World) (h : laws_eqCell.f a0_0 a0_1 a0_2 a1_0 a1_1 a1_2 = some r) :
  Calls Try.prog 113 #[.agg #[.int .i64 a0_0, .string a0_1, .bool a0_2], .agg #[.int .i64 a1_0, .string a1_1, .bool a1_2]] w fun e w' => e = .returned (.bool r) ∧ Below w.heap.size w w' := by
 have hu155 := Try.underlying155
 have HB := Am (Below.refl w.heap.size w)
 have H : (if a0_0 = a1_0 then (if a0_1.toList = a1_1.toList then (if (a0_2 != a1_2) = true then (some false) else (some true)) else (some false)) else (some false)) = some r := h
 clear h
 by_cases c3 : a0_0 = a1_0
 ·rw [if_pos c3] at H
  have c3b0 : (a0_0 == a1_0) = true := beq_iff_eq.mpr c3
  have c3b1 : (a0_0 != a1_0) = false := bne_eq_false_iff_eq.mpr c3
  clear c3
  by_cases c4 : a0_1.toList = a1_1.toList
  ·rw [if_pos c4] at H
   have c4b0 : (a0_1.toList == a1_1.toList) = true := beq_iff_eq.mpr c4
   have c4b1 : (a0_1.toList != a1_1.toList) = false := bne_eq_false_iff_eq.mpr c4
   clear c4
   by_cases c5 : (a0_2 != a1_2) = true
   ·rw [if_pos c5] at H
    have c5b0 : (a0_2 != a1_2) = true := c5
    (try (have c5b1 : decide (a0_2 = a1_2) = false := by simpa using c5))
    (try (have c5b2 : (a0_2 == a1_2) = false := by simpa using c5))
    (try (have c5b3 : ¬ (a0_2 = a1_2) := by simpa using c5))
    clear c5
    obtain rfl := Option.some.inj H
    go_enter Try.func113, Try.ntmps113
    go_wp2_with (first | ((with_reducible refine gate_dst (N := 2) rfl ?_); refine box_event ?hg (N := 2) ?hd (cs := #[.int .i64 a0_0, .string a0_1, .bool a0_2]) (t := 155) ?hr ?_; (case hd => rfl); (case hg => rfl); (case hr => first | (go_simp; done) | (go_simp; rfl)); intro gb289 hg w6 hbox hb; have BK289 := Am (hbox); have GW289 := Am ((by rw [hg]; exact (bz (by repeat (first | (with_reducible first | exact HB.out | apply ba | apply bn | apply be) | exact HB.out))) : w.heap.size ≤ gb289)); have GE289 := Am ((by rw [hg]; exact (bz (by repeat (first | (with_reducible first | exact HB.out | apply ba | apply bn | apply be) | exact HB.out))) : w.heap.size ≤ gb289)); replace HB := Am (bq (by repeat (first | (with_reducible first | exact HB.out | apply ba | apply bn | apply be) | exact HB.out)) hb); clear hb hbox hg) | ((with_reducible refine gate_dst (N := 3) rfl ?_); refine box_event ?hg (N := 3) ?hd (cs := #[.int .i64 a1_0, .string a1_1, .bool a1_2]) (t := 155) ?hr ?_; (case hd => rfl); (case hg => rfl); (case hr => first | (go_simp; done) | (go_simp; rfl)); intro gb290 hg w7 hbox hb; have n0_ := Am (kb (g := gb289) (o := o11b1 a0_0 a0_1 a0_2) (by (with_reducible repeat (first | refine kn ?_ _ | refine ke ?_ | refine ka ?_ _)); exact BK289.out) hb); have n1_ := Am (bq (by repeat (first | (with_reducible first | exact HB.out | apply ba | apply bn | apply be | refine bs ?_ GE289.out) | exact HB.out)) hb); have n2_ := Am (hbox); have n3_ := Am ((by rw [hg]; exact (bz (by repeat (first | (with_reducible first | exact HB.out | apply ba | apply bn | apply be | refine bs ?_ GE289.out) | exact HB.out))) : w.heap.size ≤ gb290)); have n4_ := Am ((by rw [hg]; exact (bz (by repeat (first | (with_reducible first | exact HB.out | apply ba | apply bn | apply be | refine bs ?_ GE289.out) | exact HB.out))) : w.heap.size ≤ gb290)); have n5_ := Am ((by rw [hg]; exact Nat.ne_of_lt (kl (g := gb289) (o := o11b1 a0_0 a0_1 a0_2) (by (with_reducible repeat (first | refine kn ?_ _ | refine ke ?_ | refine ka ?_ _)); exact BK289.out)) : gb289 ≠ gb290)); have n6_ := Am ((by rw [hg]; exact Nat.ne_of_gt (kl (g := gb289) (o := o11b1 a0_0 a0_1 a0_2) (by (with_reducible repeat (first | refine kn ?_ _ | refine ke ?_ | refine ka ?_ _)); exact BK289.out)) : gb290 ≠ gb289)); clear BK289; clear HB; have BK289 := n0_; have HB := n1_; have BK290 := n2_; have GW290 := n3_; have GE290 := n4_; have NB289_290 := n5_; have NB290_289 := n6_; clear n0_ n1_ n2_ n3_ n4_ n5_ n6_; clear hb hbox hg; have hnb8 := NB289_290.out; have hnc8 := NB290_289.out; have hcz9_0 : w7.cell? ⟨gb289, 0, none⟩ = some (.int .i64 a0_0) := (kc BK289.out 0).trans rfl; have hcz9_1 : w7.cell? ⟨gb289, 1, none⟩ = some (.string a0_1) := (kc BK289.out 1).trans rfl; have hcz9_2 : w7.cell? ⟨gb289, 2, none⟩ = some (.bool a0_2) := (kc BK289.out 2).trans rfl; have hfz9_0 := kf BK289.out 0; have hfz9_1 := kf BK289.out 1; have hfz9_2 := kf BK289.out 2; have hcz10_0 : w7.cell? ⟨gb290, 0, none⟩ = some (.int .i64 a1_0) := (kc BK290.out 0).trans rfl; have hcz10_1 : w7.cell? ⟨gb290, 1, none⟩ = some (.string a1_1) := (kc BK290.out 1).trans rfl; have hcz10_2 : w7.cell? ⟨gb290, 2, none⟩ = some (.bool a1_2) := (kc BK290.out 2).trans rfl; have hfz10_0 := kf BK290.out 0; have hfz10_1 := kf BK290.out 1; have hfz10_2 := kf BK290.out 2))
    go_ret
    exact ⟨by first | rfl | (simp [errW_none, errW_some] <;> rfl) | (simp [*, errW_none, errW_some] <;> rfl), by repeat (first | (with_reducible first | exact HB.out | apply ba | apply bn | apply be | refine bs ?_ GE289.out | refine bs ?_ GE290.out) | exact HB.out)⟩
   ·rw [if_neg c5] at H
    have c5b0 : (a0_2 != a1_2) = false := by simpa using c5
    (try (have c5b1 : decide (a0_2 = a1_2) = true := by simpa using c5))
    (try (have c5b2 : (a0_2 == a1_2) = true := by simpa using c5))
    clear c5
    obtain rfl := Option.some.inj H
    go_enter Try.func113, Try.ntmps113
    go_wp2_with (first | ((with_reducible refine gate_dst (N := 2) rfl ?_); refine box_event ?hg (N := 2) ?hd (cs := #[.int .i64 a0_0, .string a0_1, .bool a0_2]) (t := 155) ?hr ?_; (case hd => rfl); (case hg => rfl); (case hr => first | (go_simp; done) | (go_simp; rfl)); intro gb289 hg w11 hbox hb; have BK289 := Am (hbox); have GW289 := Am ((by rw [hg]; exact (bz (by repeat (first | (with_reducible first | exact HB.out | apply ba | apply bn | apply be) | exact HB.out))) : w.heap.size ≤ gb289)); have GE289 := Am ((by rw [hg]; exact (bz (by repeat (first | (with_reducible first | exact HB.out | apply ba | apply bn | apply be) | exact HB.out))) : w.heap.size ≤ gb289)); replace HB := Am (bq (by repeat (first | (with_reducible first | exact HB.out | apply ba | apply bn | apply be) | exact HB.out)) hb); clear hb hbox hg) | ((with_reducible refine gate_dst (N := 3) rfl ?_); refine box_event ?hg (N := 3) ?hd (cs := #[.int .i64 a1_0, .string a1_1, .bool a1_2]) (t := 155) ?hr ?_; (case hd => rfl); (case hg => rfl); (case hr => first | (go_simp; done) | (go_simp; rfl)); intro gb290 hg w12 hbox hb; have n0_ := Am (kb (g := gb289) (o := o11b1 a0_0 a0_1 a0_2) (by (with_reducible repeat (first | refine kn ?_ _ | refine ke ?_ | refine ka ?_ _)); exact BK289.out) hb); have n1_ := Am (bq (by repeat (first | (with_reducible first | exact HB.out | apply ba | apply bn | apply be | refine bs ?_ GE289.out) | exact HB.out)) hb); have n2_ := Am (hbox); have n3_ := Am ((by rw [hg]; exact (bz (by repeat (first | (with_reducible first | exact HB.out | apply ba | apply bn | apply be | refine bs ?_ GE289.out) | exact HB.out))) : w.heap.size ≤ gb290)); have n4_ := Am ((by rw [hg]; exact (bz (by repeat (first | (with_reducible first | exact HB.out | apply ba | apply bn | apply be | refine bs ?_ GE289.out) | exact HB.out))) : w.heap.size ≤ gb290)); have n5_ := Am ((by rw [hg]; exact Nat.ne_of_lt (kl (g := gb289) (o := o11b1 a0_0 a0_1 a0_2) (by (with_reducible repeat (first | refine kn ?_ _ | refine ke ?_ | refine ka ?_ _)); exact BK289.out)) : gb289 ≠ gb290)); have n6_ := Am ((by rw [hg]; exact Nat.ne_of_gt (kl (g := gb289) (o := o11b1 a0_0 a0_1 a0_2) (by (with_reducible repeat (first | refine kn ?_ _ | refine ke ?_ | refine ka ?_ _)); exact BK289.out)) : gb290 ≠ gb289)); clear BK289; clear HB; have BK289 := n0_; have HB := n1_; have BK290 := n2_; have GW290 := n3_; have GE290 := n4_; have NB289_290 := n5_; have NB290_289 := n6_; clear n0_ n1_ n2_ n3_ n4_ n5_ n6_; clear hb hbox hg; have hnb13 := NB289_290.out; have hnc13 := NB290_289.out; have hcz14_0 : w12.cell? ⟨gb289, 0, none⟩ = some (.int .i64 a0_0) := (kc BK289.out 0).trans rfl; have hcz14_1 : w12.cell? ⟨gb289, 1, none⟩ = some (.string a0_1) := (kc BK289.out 1).trans rfl; have hcz14_2 : w12.cell? ⟨gb289, 2, none⟩ = some (.bool a0_2) := (kc BK289.out 2).trans rfl; have hfz14_0 := kf BK289.out 0; have hfz14_1 := kf BK289.out 1; have hfz14_2 := kf BK289.out 2; have hcz15_0 : w12.cell? ⟨gb290, 0, none⟩ = some (.int .i64 a1_0) := (kc BK290.out 0).trans rfl; have hcz15_1 : w12.cell? ⟨gb290, 1, none⟩ = some (.string a1_1) := (kc BK290.out 1).trans rfl; have hcz15_2 : w12.cell? ⟨gb290, 2, none⟩ = some (.bool a1_2) := (kc BK290.out 2).trans rfl; have hfz15_0 := kf BK290.out 0; have hfz15_1 := kf BK290.out 1; have hfz15_2 := kf BK290.out 2))
    go_ret
    exact ⟨by first | rfl | (simp [errW_none, errW_some] <;> rfl) | (simp [*, errW_none, errW_some] <;> rfl), by repeat (first | (with_reducible first | exact HB.out | apply ba | apply bn | apply be | refine bs ?_ GE289.out | refine bs ?_ GE290.out) | exact HB.out)⟩
  ·rw [if_neg c4] at H
   have c4b0 : (a0_1.toList == a1_1.toList) = false := beq_eq_false_iff_ne.mpr c4
   have c4b1 : (a0_1.toList != a1_1.toList) = true := bne_iff_ne.mpr c4
   obtain rfl := Option.some.inj H
   go_enter Try.func113, Try.ntmps113
   go_wp2_with (first | ((with_reducible refine gate_dst (N := 2) rfl ?_); refine box_event ?hg (N := 2) ?hd (cs := #[.int .i64 a0_0, .string a0_1, .bool a0_2]) (t := 155) ?hr ?_; (case hd => rfl); (case hg => rfl); (case hr => first | (go_simp; done) | (go_simp; rfl)); intro gb289 hg w16 hbox hb; have BK289 := Am (hbox); have GW289 := Am ((by rw [hg]; exact (bz (by repeat (first | (with_reducible first | exact HB.out | apply ba | apply bn | apply be) | exact HB.out))) : w.heap.size ≤ gb289)); have GE289 := Am ((by rw [hg]; exact (bz (by repeat (first | (with_reducible first | exact HB.out | apply ba | apply bn | apply be) | exact HB.out))) : w.heap.size ≤ gb289)); replace HB := Am (bq (by repeat (first | (with_reducible first | exact HB.out | apply ba | apply bn | apply be) | exact HB.out)) hb); clear hb hbox hg) | ((with_reducible refine gate_dst (N := 3) rfl ?_); refine box_event ?hg (N := 3) ?hd (cs := #[.int .i64 a1_0, .string a1_1, .bool a1_2]) (t := 155) ?hr ?_; (case hd => rfl); (case hg => rfl); (case hr => first | (go_simp; done) | (go_simp; rfl)); intro gb290 hg w17 hbox hb; have n0_ := Am (kb (g := gb289) (o := o11b1 a0_0 a0_1 a0_2) (by (with_reducible repeat (first | refine kn ?_ _ | refine ke ?_ | refine ka ?_ _)); exact BK289.out) hb); have n1_ := Am (bq (by repeat (first | (with_reducible first | exact HB.out | apply ba | apply bn | apply be | refine bs ?_ GE289.out) | exact HB.out)) hb); have n2_ := Am (hbox); have n3_ := Am ((by rw [hg]; exact (bz (by repeat (first | (with_reducible first | exact HB.out | apply ba | apply bn | apply be | refine bs ?_ GE289.out) | exact HB.out))) : w.heap.size ≤ gb290)); have n4_ := Am ((by rw [hg]; exact (bz (by repeat (first | (with_reducible first | exact HB.out | apply ba | apply bn | apply be | refine bs ?_ GE289.out) | exact HB.out))) : w.heap.size ≤ gb290)); have n5_ := Am ((by rw [hg]; exact Nat.ne_of_lt (kl (g := gb289) (o := o11b1 a0_0 a0_1 a0_2) (by (with_reducible repeat (first | refine kn ?_ _ | refine ke ?_ | refine ka ?_ _)); exact BK289.out)) : gb289 ≠ gb290)); have n6_ := Am ((by rw [hg]; exact Nat.ne_of_gt (kl (g := gb289) (o := o11b1 a0_0 a0_1 a0_2) (by (with_reducible repeat (first | refine kn ?_ _ | refine ke ?_ | refine ka ?_ _)); exact BK289.out)) : gb290 ≠ gb289)); clear BK289; clear HB; have BK289 := n0_; have HB := n1_; have BK290 := n2_; have GW290 := n3_; have GE290 := n4_; have NB289_290 := n5_; have NB290_289 := n6_; clear n0_ n1_ n2_ n3_ n4_ n5_ n6_; clear hb hbox hg; have hnb18 := NB289_290.out; have hnc18 := NB290_289.out; have hcz19_0 : w17.cell? ⟨gb289, 0, none⟩ = some (.int .i64 a0_0) := (kc BK289.out 0).trans rfl; have hcz19_1 : w17.cell? ⟨gb289, 1, none⟩ = some (.string a0_1) := (kc BK289.out 1).trans rfl; have hcz19_2 : w17.cell? ⟨gb289, 2, none⟩ = some (.bool a0_2) := (kc BK289.out 2).trans rfl; have hfz19_0 := kf BK289.out 0; have hfz19_1 := kf BK289.out 1; have hfz19_2 := kf BK289.out 2; have hcz20_0 : w17.cell? ⟨gb290, 0, none⟩ = some (.int .i64 a1_0) := (kc BK290.out 0).trans rfl; have hcz20_1 : w17.cell? ⟨gb290, 1, none⟩ = some (.string a1_1) := (kc BK290.out 1).trans rfl; have hcz20_2 : w17.cell? ⟨gb290, 2, none⟩ = some (.bool a1_2) := (kc BK290.out 2).trans rfl; have hfz20_0 := kf BK290.out 0; have hfz20_1 := kf BK290.out 1; have hfz20_2 := kf BK290.out 2))
   go_ret
   exact ⟨by first | rfl | (simp [errW_none, errW_some] <;> rfl) | (simp [*, errW_none, errW_some] <;> rfl), by repeat (first | (with_reducible first | exact HB.out | apply ba | apply bn | apply be | refine bs ?_ GE289.out | refine bs ?_ GE290.out) | exact HB.out)⟩
 ·rw [if_neg c3] at H
  have c3b0 : (a0_0 == a1_0) = false := beq_eq_false_iff_ne.mpr c3
  have c3b1 : (a0_0 != a1_0) = true := bne_iff_ne.mpr c3
  obtain rfl := Option.some.inj H
  go_enter Try.func113, Try.ntmps113
  go_wp2_with (first | ((with_reducible refine gate_dst (N := 2) rfl ?_); refine box_event ?hg (N := 2) ?hd (cs := #[.int .i64 a0_0, .string a0_1, .bool a0_2]) (t := 155) ?hr ?_; (case hd => rfl); (case hg => rfl); (case hr => first | (go_simp; done) | (go_simp; rfl)); intro gb289 hg w21 hbox hb; have BK289 := Am (hbox); have GW289 := Am ((by rw [hg]; exact (bz (by repeat (first | (with_reducible first | exact HB.out | apply ba | apply bn | apply be) | exact HB.out))) : w.heap.size ≤ gb289)); have GE289 := Am ((by rw [hg]; exact (bz (by repeat (first | (with_reducible first | exact HB.out | apply ba | apply bn | apply be) | exact HB.out))) : w.heap.size ≤ gb289)); replace HB := Am (bq (by repeat (first | (with_reducible first | exact HB.out | apply ba | apply bn | apply be) | exact HB.out)) hb); clear hb hbox hg) | ((with_reducible refine gate_dst (N := 3) rfl ?_); refine box_event ?hg (N := 3) ?hd (cs := #[.int .i64 a1_0, .string a1_1, .bool a1_2]) (t := 155) ?hr ?_; (case hd => rfl); (case hg => rfl); (case hr => first | (go_simp; done) | (go_simp; rfl)); intro gb290 hg w22 hbox hb; have n0_ := Am (kb (g := gb289) (o := o11b1 a0_0 a0_1 a0_2) (by (with_reducible repeat (first | refine kn ?_ _ | refine ke ?_ | refine ka ?_ _)); exact BK289.out) hb); have n1_ := Am (bq (by repeat (first | (with_reducible first | exact HB.out | apply ba | apply bn | apply be | refine bs ?_ GE289.out) | exact HB.out)) hb); have n2_ := Am (hbox); have n3_ := Am ((by rw [hg]; exact (bz (by repeat (first | (with_reducible first | exact HB.out | apply ba | apply bn | apply be | refine bs ?_ GE289.out) | exact HB.out))) : w.heap.size ≤ gb290)); have n4_ := Am ((by rw [hg]; exact (bz (by repeat (first | (with_reducible first | exact HB.out | apply ba | apply bn | apply be | refine bs ?_ GE289.out) | exact HB.out))) : w.heap.size ≤ gb290)); have n5_ := Am ((by rw [hg]; exact Nat.ne_of_lt (kl (g := gb289) (o := o11b1 a0_0 a0_1 a0_2) (by (with_reducible repeat (first | refine kn ?_ _ | refine ke ?_ | refine ka ?_ _)); exact BK289.out)) : gb289 ≠ gb290)); have n6_ := Am ((by rw [hg]; exact Nat.ne_of_gt (kl (g := gb289) (o := o11b1 a0_0 a0_1 a0_2) (by (with_reducible repeat (first | refine kn ?_ _ | refine ke ?_ | refine ka ?_ _)); exact BK289.out)) : gb290 ≠ gb289)); clear BK289; clear HB; have BK289 := n0_; have HB := n1_; have BK290 := n2_; have GW290 := n3_; have GE290 := n4_; have NB289_290 := n5_; have NB290_289 := n6_; clear n0_ n1_ n2_ n3_ n4_ n5_ n6_; clear hb hbox hg; have hnb23 := NB289_290.out; have hnc23 := NB290_289.out; have hcz24_0 : w22.cell? ⟨gb289, 0, none⟩ = some (.int .i64 a0_0) := (kc BK289.out 0).trans rfl; have hcz24_1 : w22.cell? ⟨gb289, 1, none⟩ = some (.string a0_1) := (kc BK289.out 1).trans rfl; have hcz24_2 : w22.cell? ⟨gb289, 2, none⟩ = some (.bool a0_2) := (kc BK289.out 2).trans rfl; have hfz24_0 := kf BK289.out 0; have hfz24_1 := kf BK289.out 1; have hfz24_2 := kf BK289.out 2; have hcz25_0 : w22.cell? ⟨gb290, 0, none⟩ = some (.int .i64 a1_0) := (kc BK290.out 0).trans rfl; have hcz25_1 : w22.cell? ⟨gb290, 1, none⟩ = some (.string a1_1) := (kc BK290.out 1).trans rfl; have hcz25_2 : w22.cell? ⟨gb290, 2, none⟩ = some (.bool a1_2) := (kc BK290.out 2).trans rfl; have hfz25_0 := kf BK290.out 0; have hfz25_1 := kf BK290.out 1; have hfz25_2 := kf BK290.out 2))
  go_ret
  exact ⟨by first | rfl | (simp [errW_none, errW_some] <;> rfl) | (simp [*, errW_none, errW_some] <;> rfl), by repeat (first | (with_reducible first | exact HB.out | apply ba | apply bn | apply be | refine bs ?_ GE289.out | refine bs ?_ GE290.out) | exact HB.out)⟩

end Go.Proofs.Ytconffflmbakgaa.QFnExactMaskedWord
