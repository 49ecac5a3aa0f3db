/- Go functions as Lean functions, and their contracts. Own text: written by wip/gen/pr.py (a turned copy of the print). -/
import Derived.Test.YtconffflmbakgaaQFnExactMaskedWordx0
import Derived.Test.YtconffflmbakgaaQFnExactMaskedWordx1
import Derived.Test.YtconffflmbakgaaQFnExactMaskedWordx5
import Derived.Test.YtconffflmbakgaaQFnExactMaskedWordx11
import Derived.Test.YtconffflmbakgaaQFnExactMaskedWordx12
namespace Go.Proofs.Ytconffflmbakgaa.QFnExactMaskedWord
open Go.RowKit Go.Proofs.YtconffflmbakgaaW.PrintWords Go.Proofs.YtconffflmbakgaaW.PrintLast Go.Proofs.YtconffflmbakgaaW.PrintMore
attribute [local go_sem] max2_int min2_int max_two min_two max_three min_three max_four min_four   -- for this text's walks alone
open Go.Proofs.YtconffflmbakgaaW.PrintWords renaming below_alloc → ba, pw_below_drewN → bn, below_drew1 → be, below_set → bs, blk_drewN → kn, blk_drew → ke, blk_alloc → ka, blk_below → kb, blk_frozen → kf, blk_cell → kc, below_step → bq, below_size → bz, blk_lt → kl, blk_put → kp
open Go.Proofs.YtconffflmbakgaaW.PrintWords.Kd renaming R_alloc → ra, R_drewN → rn, R_drew → re, C_alloc → ca, C_drewN → cn, C_drew → ce, R_below → rb, C_below → cb
open Go.Proofs.YtconffflmbakgaaW.PrintWords.Aside0 renaming mk → Am
set_option linter.unusedVariables false
set_option linter.unusedSimpArgs false

def o13b0 (p0 : Int) (p1 : Int) (p2 : Int) (p3 : Int) : Obj := .cells #[.int .i64 p0, .int .i64 p1, .int .i64 p2, .int .i64 p3] 23 (0, 0)
def o13b1 (p0 : ByteArray) (p1 : Option Addr) (p2 p3 : Nat) : Obj := .cells #[.string p0, .slice p1 p2 p3] 26 (0, 0)
def o13b2 (p0 : ByteArray) (p1 : Option Addr) (p2 p3 : Nat) : Obj := .cells #[.string p0, .slice p1 p2 p3] 33 (0, 0)
def o13b3 (p0 : ByteArray) (p1 : Option Addr) (p2 p3 : Nat) : Obj := .cells #[.string p0, .slice p1 p2 p3] 33 (0, 0)
/-! ### laws_FnExactMaskedWord: function 3 -/
def laws_FnExactMaskedWord.f (k : Nat) (a0_0 : Int) (a0_1 : Int) (a0_2 : Int) (a0_3 : Int) (a1 : Int) (a2_0 : ByteArray) (l2_1 : List (S149)) : Option (Bool) := (laws_szMemory.f k a2_0 l2_1 1048576).bind fun t299 => (if t299 < 0 then (some true) else ((laws_toGeo.f a0_0 a0_1 a0_2 a0_3).bind fun bt300 => ((laws_toMemory.f k a2_0 l2_1).bind fun bt304 => ((spec_MaskedWord.f k bt300.1 bt300.2.1 bt300.2.2.1 bt300.2.2.2 a1 bt304.1 bt304.2).bind fun t308 => ((laws_toMemory.f k a2_0 l2_1).bind fun bt309 => ((laws_toGeo.f a0_0 a0_1 a0_2 a0_3).bind fun bt314 => ((impl_MaskedWord.f k bt314.1 bt314.2.1 bt314.2.2.1 bt314.2.2.2 a1 bt309.1 bt309.2).bind fun t318 => (if t318.toList = t308.toList then ((laws_toMemory.f k a2_0 l2_1).bind fun bt319 => ((laws_eqMemory.f k bt309.1 bt309.2 bt319.1 bt319.2).bind fun t323 => (if t323 = true then (some true) else (some false)))) else (some false)))))))))
theorem laws_FnExactMaskedWord.mono : ∀ a0 a1 a2 a3 a4 a5 a6 k, LeO (laws_FnExactMaskedWord.f k a0 a1 a2 a3 a4 a5 a6) (laws_FnExactMaskedWord.f (k + 1) a0 a1 a2 a3 a4 a5 a6) := by
 intro a0 a1 a2 a3 a4 a5 a6 k
 unfold laws_FnExactMaskedWord.f
 repeat' first
   | (with_reducible exact impl_MaskedWord.mono _ _ _ _ _ _ _ _)
   | (with_reducible exact laws_eqMemory.mono _ _ _ _ _)
   | (with_reducible exact laws_szMemory.mono _ _ _ _)
   | (with_reducible exact laws_toMemory.mono _ _ _)
   | (with_reducible exact spec_MaskedWord.mono _ _ _ _ _ _ _ _)
   | (with_reducible exact LeO.refl _)
   | (with_reducible exact LeO.none _)
   | (with_reducible refine LeO.ite ?_ ?_)
   | (with_reducible refine LeO.bind ?_ (fun _ => ?_))
   | exact impl_MaskedWord.mono _ _ _ _ _ _ _ _
   | exact laws_eqMemory.mono _ _ _ _ _
   | exact laws_szMemory.mono _ _ _ _
   | exact laws_toMemory.mono _ _ _
   | exact spec_MaskedWord.mono _ _ _ _ _ _ _ _
   | exact LeO.none _
   | refine LeO.ite ?_ ?_
   | refine LeO.bind ?_ (fun _ => ?_)
set_option maxHeartbeats 8000000 in
set_option maxRecDepth 100000 in
theorem laws_FnExactMaskedWord.calls (k : Nat) (a0_0 : Int) (a0_1 : Int) (a0_2 : Int) (a0_3 : Int) (a1 : Int) (a2_0 : ByteArray) (A2_1 : Option Addr) (c2_1 : Nat) (l2_1 : List (S149)) (r : Bool) (w : World) (hr2_1 : Kd.C k149 w A2_1 l2_1.length l2_1) (hc2_1 : l2_1.length ≤ c2_1) (h : laws_FnExactMaskedWord.f k a0_0 a0_1 a0_2 a0_3 a1 a2_0 l2_1 = some r) :
  Calls Try.prog 3 #[.agg #[.int .i64 a0_0, .int .i64 a0_1, .int .i64 a0_2, .int .i64 a0_3], .int .i64 a1, .agg #[.string a2_0, .slice A2_1 l2_1.length c2_1]] w fun e w' => e = .returned (.bool r) ∧ Below w.heap.size w w' := by
 have hu23 := Try.underlying23
 have hu26 := Try.underlying26
 have hu33 := Try.underlying33
 have HR2_1 := Am hr2_1
 have HC2_1 := Am hc2_1
 clear hr2_1 hc2_1
 have HB := Am (Below.refl w.heap.size w)
 have H : ((laws_szMemory.f k a2_0 l2_1 1048576).bind fun t299 => (if t299 < 0 then (some true) else ((laws_toGeo.f a0_0 a0_1 a0_2 a0_3).bind fun bt300 => ((laws_toMemory.f k a2_0 l2_1).bind fun bt304 => ((spec_MaskedWord.f k bt300.1 bt300.2.1 bt300.2.2.1 bt300.2.2.2 a1 bt304.1 bt304.2).bind fun t308 => ((laws_toMemory.f k a2_0 l2_1).bind fun bt309 => ((laws_toGeo.f a0_0 a0_1 a0_2 a0_3).bind fun bt314 => ((impl_MaskedWord.f k bt314.1 bt314.2.1 bt314.2.2.1 bt314.2.2.2 a1 bt309.1 bt309.2).bind fun t318 => (if t318.toList = t308.toList then ((laws_toMemory.f k a2_0 l2_1).bind fun bt319 => ((laws_eqMemory.f k bt309.1 bt309.2 bt319.1 bt319.2).bind fun t323 => (if t323 = true then (some true) else (some false)))) else (some false)))))))))) = some r := h
 clear h
 replace H := Option.bind_eq_some_iff.mp H
 obtain ⟨t299, A40, H⟩ := H
 replace H : (if t299 < 0 then (some true) else ((laws_toGeo.f a0_0 a0_1 a0_2 a0_3).bind fun bt300 => ((laws_toMemory.f k a2_0 l2_1).bind fun bt304 => ((spec_MaskedWord.f k bt300.1 bt300.2.1 bt300.2.2.1 bt300.2.2.2 a1 bt304.1 bt304.2).bind fun t308 => ((laws_toMemory.f k a2_0 l2_1).bind fun bt309 => ((laws_toGeo.f a0_0 a0_1 a0_2 a0_3).bind fun bt314 => ((impl_MaskedWord.f k bt314.1 bt314.2.1 bt314.2.2.1 bt314.2.2.2 a1 bt309.1 bt309.2).bind fun t318 => (if t318.toList = t308.toList then ((laws_toMemory.f k a2_0 l2_1).bind fun bt319 => ((laws_eqMemory.f k bt309.1 bt309.2 bt319.1 bt319.2).bind fun t323 => (if t323 = true then (some true) else (some false)))) else (some false))))))))) = some r := H
 have A4 := Am A40
 clear A40
 by_cases c5 : t299 < 0
 ·rw [if_pos c5] at H
  have c5b0 : decide (t299 < 0) = true := decide_eq_true c5
  clear c5
  obtain rfl := Option.some.inj H
  go_enter Try.func3, Try.ntmps3
  go_wp2_with (first | ((with_reducible refine gate_dst (N := 3) rfl ?_); refine box_event ?hg (N := 3) ?hd (cs := #[.int .i64 a0_0, .int .i64 a0_1, .int .i64 a0_2, .int .i64 a0_3]) (t := 23) ?hr ?_; (case hd => rfl); (case hg => rfl); (case hr => first | (go_simp; done) | (go_simp; rfl)); intro gb297 hg w6 hbox hb; have BK297 := Am (hbox); have GW297 := Am ((by rw [hg]; exact (bz (by repeat (first | (with_reducible first | exact HB.out | apply ba | apply bn | apply be) | exact HB.out))) : w.heap.size ≤ gb297)); have GE297 := Am ((by rw [hg]; exact (bz (by repeat (first | (with_reducible first | exact HB.out | apply ba | apply bn | apply be) | exact HB.out))) : w.heap.size ≤ gb297)); replace HB := Am (bq (by repeat (first | (with_reducible first | exact HB.out | apply ba | apply bn | apply be) | exact HB.out)) hb); clear hb hbox hg) | ((with_reducible refine gate_dst (N := 5) rfl ?_); refine box_event ?hg (N := 5) ?hd (cs := #[.string a2_0, .slice A2_1 l2_1.length c2_1]) (t := 26) ?hr ?_; (case hd => rfl); (case hg => rfl); (case hr => first | (go_simp; done) | (go_simp; rfl)); intro gb298 hg w7 hbox hb; have n0_ := Am (kb (g := gb297) (o := o13b0 a0_0 a0_1 a0_2 a0_3) (by (with_reducible repeat (first | refine kn ?_ _ | refine ke ?_ | refine ka ?_ _)); exact BK297.out) hb); have n1_ := Am (bq (by repeat (first | (with_reducible first | exact HB.out | apply ba | apply bn | apply be | refine bs ?_ GE297.out) | exact HB.out)) hb); have n2_ := Am (hbox); have n3_ := Am ((by rw [hg]; exact (bz (by repeat (first | (with_reducible first | exact HB.out | apply ba | apply bn | apply be | refine bs ?_ GE297.out) | exact HB.out))) : w.heap.size ≤ gb298)); have n4_ := Am ((by rw [hg]; exact (bz (by repeat (first | (with_reducible first | exact HB.out | apply ba | apply bn | apply be | refine bs ?_ GE297.out) | exact HB.out))) : w.heap.size ≤ gb298)); have n5_ := Am ((by rw [hg]; exact Nat.ne_of_lt (kl (g := gb297) (o := o13b0 a0_0 a0_1 a0_2 a0_3) (by (with_reducible repeat (first | refine kn ?_ _ | refine ke ?_ | refine ka ?_ _)); exact BK297.out)) : gb297 ≠ gb298)); have n6_ := Am ((by rw [hg]; exact Nat.ne_of_gt (kl (g := gb297) (o := o13b0 a0_0 a0_1 a0_2 a0_3) (by (with_reducible repeat (first | refine kn ?_ _ | refine ke ?_ | refine ka ?_ _)); exact BK297.out)) : gb298 ≠ gb297)); clear BK297; clear HB; have BK297 := n0_; have HB := n1_; have BK298 := n2_; have GW298 := n3_; have GE298 := n4_; have NB297_298 := n5_; have NB298_297 := n6_; clear n0_ n1_ n2_ n3_ n4_ n5_ n6_; clear hb hbox hg; have hnb8 := NB298_297.out; have hnc8 := NB297_298.out; have hcz9_0 : w7.cell? ⟨gb298, 0, none⟩ = some (.string a2_0) := (kc BK298.out 0).trans rfl; have hcz9_1 : w7.cell? ⟨gb298, 1, none⟩ = some (.slice A2_1 l2_1.length c2_1) := (kc BK298.out 1).trans rfl; have hfz9_0 := kf BK298.out 0; have hfz9_1 := kf BK298.out 1) | ((with_reducible refine gate_callee (f := 10) rfl ?_); refine goesL_ (some 13) rfl rfl Try.func10 (by kernel_rfl) rfl #[.agg #[.string a2_0, .slice A2_1 l2_1.length c2_1], .int .i64 1048576] rfl (by (try simp only [List.map_toArray, List.map_cons, List.map_nil]); first | done | rfl | (simp only [List.length_drop, List.length_take]; rfl)) ?_; (with_reducible refine (laws_szMemory.calls k a2_0 _ _ l2_1 1048576 t299 _ ?side1 ?side2 A4.out).mono ?_); (case side1 => repeat (first | exact (cb HR2_1.out HB.out) | (with_reducible first | refine ca ?_ _ | refine cn ?_ _ | refine ce ?_))); (case side2 => exact HC2_1.out); rintro e w10 ⟨rfl, hb⟩; refine ⟨_, rfl, ?_⟩; have n0_ := Am (kb (g := gb297) (o := o13b0 a0_0 a0_1 a0_2 a0_3) (by (with_reducible repeat (first | refine kn ?_ _ | refine ke ?_ | refine ka ?_ _)); exact BK297.out) hb); have n1_ := Am (kb (g := gb298) (o := o13b1 a2_0 A2_1 l2_1.length c2_1) (by (with_reducible repeat (first | refine kn ?_ _ | refine ke ?_ | refine ka ?_ _)); exact BK298.out) hb); have n2_ := Am (bq (by repeat (first | (with_reducible first | exact HB.out | apply ba | apply bn | apply be | refine bs ?_ GE297.out | refine bs ?_ GE298.out) | exact HB.out)) hb); clear BK297; clear BK298; clear HB; have BK297 := n0_; have BK298 := n1_; have HB := n2_; clear n0_ n1_ n2_; (try clear hb)))
  go_ret
  exact ⟨by first | rfl | (simp [errW_none, errW_some] <;> rfl) | (simp [*, errW_none, errW_some] <;> rfl), by repeat (first | (with_reducible first | exact HB.out | apply ba | apply bn | apply be | refine bs ?_ GE297.out | refine bs ?_ GE298.out) | exact HB.out)⟩
 ·rw [if_neg c5] at H
  have c5b0 : decide (t299 < 0) = false := decide_eq_false c5
  clear c5
  replace H := Option.bind_eq_some_iff.mp H
  obtain ⟨⟨t300, t301, t302, t303⟩, A110, H⟩ := H
  replace H : ((laws_toMemory.f k a2_0 l2_1).bind fun bt304 => ((spec_MaskedWord.f k t300 t301 t302 t303 a1 bt304.1 bt304.2).bind fun t308 => ((laws_toMemory.f k a2_0 l2_1).bind fun bt309 => ((laws_toGeo.f a0_0 a0_1 a0_2 a0_3).bind fun bt314 => ((impl_MaskedWord.f k bt314.1 bt314.2.1 bt314.2.2.1 bt314.2.2.2 a1 bt309.1 bt309.2).bind fun t318 => (if t318.toList = t308.toList then ((laws_toMemory.f k a2_0 l2_1).bind fun bt319 => ((laws_eqMemory.f k bt309.1 bt309.2 bt319.1 bt319.2).bind fun t323 => (if t323 = true then (some true) else (some false)))) else (some false))))))) = some r := H
  have A11 := Am A110
  clear A110
  replace H := Option.bind_eq_some_iff.mp H
  obtain ⟨⟨t304, t305⟩, A120, H⟩ := H
  replace H : ((spec_MaskedWord.f k t300 t301 t302 t303 a1 t304 t305).bind fun t308 => ((laws_toMemory.f k a2_0 l2_1).bind fun bt309 => ((laws_toGeo.f a0_0 a0_1 a0_2 a0_3).bind fun bt314 => ((impl_MaskedWord.f k bt314.1 bt314.2.1 bt314.2.2.1 bt314.2.2.2 a1 bt309.1 bt309.2).bind fun t318 => (if t318.toList = t308.toList then ((laws_toMemory.f k a2_0 l2_1).bind fun bt319 => ((laws_eqMemory.f k bt309.1 bt309.2 bt319.1 bt319.2).bind fun t323 => (if t323 = true then (some true) else (some false)))) else (some false)))))) = some r := H
  have A12 := Am A120
  clear A120
  replace H := Option.bind_eq_some_iff.mp H
  obtain ⟨t308, A130, H⟩ := H
  replace H : ((laws_toMemory.f k a2_0 l2_1).bind fun bt309 => ((laws_toGeo.f a0_0 a0_1 a0_2 a0_3).bind fun bt314 => ((impl_MaskedWord.f k bt314.1 bt314.2.1 bt314.2.2.1 bt314.2.2.2 a1 bt309.1 bt309.2).bind fun t318 => (if t318.toList = t308.toList then ((laws_toMemory.f k a2_0 l2_1).bind fun bt319 => ((laws_eqMemory.f k bt309.1 bt309.2 bt319.1 bt319.2).bind fun t323 => (if t323 = true then (some true) else (some false)))) else (some false))))) = some r := H
  have A13 := Am A130
  clear A130
  replace H := Option.bind_eq_some_iff.mp H
  obtain ⟨⟨t309, t310⟩, A140, H⟩ := H
  replace H : ((laws_toGeo.f a0_0 a0_1 a0_2 a0_3).bind fun bt314 => ((impl_MaskedWord.f k bt314.1 bt314.2.1 bt314.2.2.1 bt314.2.2.2 a1 t309 t310).bind fun t318 => (if t318.toList = t308.toList then ((laws_toMemory.f k a2_0 l2_1).bind fun bt319 => ((laws_eqMemory.f k t309 t310 bt319.1 bt319.2).bind fun t323 => (if t323 = true then (some true) else (some false)))) else (some false)))) = some r := H
  have A14 := Am A140
  clear A140
  replace H := Option.bind_eq_some_iff.mp H
  obtain ⟨⟨t314, t315, t316, t317⟩, A150, H⟩ := H
  replace H : ((impl_MaskedWord.f k t314 t315 t316 t317 a1 t309 t310).bind fun t318 => (if t318.toList = t308.toList then ((laws_toMemory.f k a2_0 l2_1).bind fun bt319 => ((laws_eqMemory.f k t309 t310 bt319.1 bt319.2).bind fun t323 => (if t323 = true then (some true) else (some false)))) else (some false))) = some r := H
  have A15 := Am A150
  clear A150
  replace H := Option.bind_eq_some_iff.mp H
  obtain ⟨t318, A160, H⟩ := H
  replace H : (if t318.toList = t308.toList then ((laws_toMemory.f k a2_0 l2_1).bind fun bt319 => ((laws_eqMemory.f k t309 t310 bt319.1 bt319.2).bind fun t323 => (if t323 = true then (some true) else (some false)))) else (some false)) = some r := H
  have A16 := Am A160
  clear A160
  by_cases c17 : t318.toList = t308.toList
  ·rw [if_pos c17] at H
   have c17b0 : (t318.toList == t308.toList) = true := beq_iff_eq.mpr c17
   have c17b1 : (t318.toList != t308.toList) = false := bne_eq_false_iff_eq.mpr c17
   clear c17
   replace H := Option.bind_eq_some_iff.mp H
   obtain ⟨⟨t319, t320⟩, A180, H⟩ := H
   replace H : ((laws_eqMemory.f k t309 t310 t319 t320).bind fun t323 => (if t323 = true then (some true) else (some false))) = some r := H
   have A18 := Am A180
   clear A180
   replace H := Option.bind_eq_some_iff.mp H
   obtain ⟨t323, A190, H⟩ := H
   replace H : (if t323 = true then (some true) else (some false)) = some r := H
   have A19 := Am A190
   clear A190
   by_cases c20 : t323 = true
   ·subst c20
    have H1 : (some true) = some r := by rw [if_pos rfl] at H; exact H
    clear H
    have H := H1
    clear H1
    obtain rfl := Option.some.inj H
    go_enter Try.func3, Try.ntmps3
    try go_wp2_with (first | ((with_reducible refine gate_dst (N := 3) rfl ?_); refine box_event ?hg (N := 3) ?hd (cs := #[.int .i64 a0_0, .int .i64 a0_1, .int .i64 a0_2, .int .i64 a0_3]) (t := 23) ?hr ?_; (case hd => rfl); (case hg => rfl); (case hr => first | (go_simp; done) | (go_simp; rfl)); intro gb297 hg w21 hbox hb; have BK297 := Am (hbox); have GW297 := Am ((by rw [hg]; exact (bz (by repeat (first | (with_reducible first | exact HB.out | apply ba | apply bn | apply be) | exact HB.out))) : w.heap.size ≤ gb297)); have GE297 := Am ((by rw [hg]; exact (bz (by repeat (first | (with_reducible first | exact HB.out | apply ba | apply bn | apply be) | exact HB.out))) : w.heap.size ≤ gb297)); replace HB := Am (bq (by repeat (first | (with_reducible first | exact HB.out | apply ba | apply bn | apply be) | exact HB.out)) hb); clear hb hbox hg) | ((with_reducible refine gate_dst (N := 5) rfl ?_); refine box_event ?hg (N := 5) ?hd (cs := #[.string a2_0, .slice A2_1 l2_1.length c2_1]) (t := 26) ?hr ?_; (case hd => rfl); (case hg => rfl); (case hr => first | (go_simp; done) | (go_simp; rfl)); intro gb298 hg w22 hbox hb; have n0_ := Am (kb (g := gb297) (o := o13b0 a0_0 a0_1 a0_2 a0_3) (by (with_reducible repeat (first | refine kn ?_ _ | refine ke ?_ | refine ka ?_ _)); exact BK297.out) hb); have n1_ := Am (bq (by repeat (first | (with_reducible first | exact HB.out | apply ba | apply bn | apply be | refine bs ?_ GE297.out) | exact HB.out)) hb); have n2_ := Am (hbox); have n3_ := Am ((by rw [hg]; exact (bz (by repeat (first | (with_reducible first | exact HB.out | apply ba | apply bn | apply be | refine bs ?_ GE297.out) | exact HB.out))) : w.heap.size ≤ gb298)); have n4_ := Am ((by rw [hg]; exact (bz (by repeat (first | (with_reducible first | exact HB.out | apply ba | apply bn | apply be | refine bs ?_ GE297.out) | exact HB.out))) : w.heap.size ≤ gb298)); have n5_ := Am ((by rw [hg]; exact Nat.ne_of_lt (kl (g := gb297) (o := o13b0 a0_0 a0_1 a0_2 a0_3) (by (with_reducible repeat (first | refine kn ?_ _ | refine ke ?_ | refine ka ?_ _)); exact BK297.out)) : gb297 ≠ gb298)); have n6_ := Am ((by rw [hg]; exact Nat.ne_of_gt (kl (g := gb297) (o := o13b0 a0_0 a0_1 a0_2 a0_3) (by (with_reducible repeat (first | refine kn ?_ _ | refine ke ?_ | refine ka ?_ _)); exact BK297.out)) : gb298 ≠ gb297)); clear BK297; clear HB; have BK297 := n0_; have HB := n1_; have BK298 := n2_; have GW298 := n3_; have GE298 := n4_; have NB297_298 := n5_; have NB298_297 := n6_; clear n0_ n1_ n2_ n3_ n4_ n5_ n6_; clear hb hbox hg; have hnb23 := NB298_297.out; have hnc23 := NB297_298.out; have hcz24_0 : w22.cell? ⟨gb298, 0, none⟩ = some (.string a2_0) := (kc BK298.out 0).trans rfl; have hcz24_1 : w22.cell? ⟨gb298, 1, none⟩ = some (.slice A2_1 l2_1.length c2_1) := (kc BK298.out 1).trans rfl; have hfz24_0 := kf BK298.out 0; have hfz24_1 := kf BK298.out 1) | ((with_reducible refine gate_callee (f := 10) rfl ?_); refine goesL_ (some 13) rfl rfl Try.func10 (by kernel_rfl) rfl #[.agg #[.string a2_0, .slice A2_1 l2_1.length c2_1], .int .i64 1048576] rfl (by (try simp only [List.map_toArray, List.map_cons, List.map_nil]); first | done | rfl | (simp only [List.length_drop, List.length_take]; rfl)) ?_; (with_reducible refine (laws_szMemory.calls k a2_0 _ _ l2_1 1048576 t299 _ ?side1 ?side2 A4.out).mono ?_); (case side1 => repeat (first | exact (cb HR2_1.out HB.out) | (with_reducible first | refine ca ?_ _ | refine cn ?_ _ | refine ce ?_))); (case side2 => exact HC2_1.out); rintro e w25 ⟨rfl, hb⟩; refine ⟨_, rfl, ?_⟩; have n0_ := Am (kb (g := gb297) (o := o13b0 a0_0 a0_1 a0_2 a0_3) (by (with_reducible repeat (first | refine kn ?_ _ | refine ke ?_ | refine ka ?_ _)); exact BK297.out) hb); have n1_ := Am (kb (g := gb298) (o := o13b1 a2_0 A2_1 l2_1.length c2_1) (by (with_reducible repeat (first | refine kn ?_ _ | refine ke ?_ | refine ka ?_ _)); exact BK298.out) hb); have n2_ := Am (bq (by repeat (first | (with_reducible first | exact HB.out | apply ba | apply bn | apply be | refine bs ?_ GE297.out | refine bs ?_ GE298.out) | exact HB.out)) hb); clear BK297; clear BK298; clear HB; have BK297 := n0_; have BK298 := n1_; have HB := n2_; clear n0_ n1_ n2_; (try clear hb)))
    have n0_ := Am (ke BK297.out)
    have n1_ := Am (ke BK298.out)
    have n2_ := Am (be HB.out)
    clear BK297
    clear BK298
    clear HB
    have BK297 := n0_
    have BK298 := n1_
    have HB := n2_
    clear n0_ n1_ n2_
    refine start_ (n := 7) (S := fun w' => w'.cell? ⟨gb297, 0, none⟩ = some (.int .i64 a0_0) ∧ w'.cell? ⟨gb297, 1, none⟩ = some (.int .i64 a0_1) ∧ w'.cell? ⟨gb297, 2, none⟩ = some (.int .i64 a0_2) ∧ w'.cell? ⟨gb297, 3, none⟩ = some (.int .i64 a0_3) ∧ w'.cell? ⟨gb298, 0, none⟩ = some (.string a2_0) ∧ w'.cell? ⟨gb298, 1, none⟩ = some (.slice A2_1 l2_1.length c2_1)) (ds := []) #[false, false, false, false, false, false, false] (by kernel_rfl) rfl rfl ⟨(kc BK297.out 0).trans rfl, (kc BK297.out 1).trans rfl, (kc BK297.out 2).trans rfl, (kc BK297.out 3).trans rfl, (kc BK298.out 0).trans rfl, (kc BK298.out 1).trans rfl⟩ (fun hHeld => ?_)
    generalize w25.drew = w26 at BK297 BK298 HB hHeld ⊢
    refine yA 2 (some 18) rfl rfl ?_
    refine yT 0 (some 16) rfl rfl hHeld ?_
    refine yT 3 (some 19) rfl rfl hHeld ?_
    refine yO 1 (some 17) rfl rfl (fun K hK => ?_)
    refine goes_ Try.func12 (by kernel_rfl) rfl #[.agg #[.int .i64 a0_0, .int .i64 a0_1, .int .i64 a0_2, .int .i64 a0_3]] (by rfl) rfl rfl (by (try simp only [List.map_toArray, List.map_cons, List.map_nil]); first | done | rfl | (simp only [List.length_drop, List.length_take]; rfl)) ?_
    with_reducible refine (laws_toGeo.calls a0_0 a0_1 a0_2 a0_3 t300 t301 t302 t303 _ A11.out).mono ?_
    rintro e w27 ⟨rfl, hb⟩
    refine ⟨_, rfl, ?_⟩
    have n0_ := Am (kb (g := gb297) (o := o13b0 a0_0 a0_1 a0_2 a0_3) (by (with_reducible repeat (first | refine kn ?_ _ | refine ke ?_ | refine ka ?_ _)); exact BK297.out) hb)
    have n1_ := Am (kb (g := gb298) (o := o13b1 a2_0 A2_1 l2_1.length c2_1) (by (with_reducible repeat (first | refine kn ?_ _ | refine ke ?_ | refine ka ?_ _)); exact BK298.out) hb)
    have n2_ := Am (bq (by repeat (first | (with_reducible first | exact HB.out | apply ba | apply bn | apply be | refine bs ?_ GE297.out | refine bs ?_ GE298.out) | exact HB.out)) hb)
    clear BK297
    clear BK298
    clear HB
    have BK297 := n0_
    have BK298 := n1_
    have HB := n2_
    clear n0_ n1_ n2_
    (try clear hb)
    (try clear hb2)
    (try clear hk)
    (try clear hi)
    refine hK.out _ _ ⟨(kc BK297.out 0).trans rfl, (kc BK297.out 1).trans rfl, (kc BK297.out 2).trans rfl, (kc BK297.out 3).trans rfl, (kc BK298.out 0).trans rfl, (kc BK298.out 1).trans rfl⟩ (fun hHeld => ?_)
    clear hK K
    refine zN (some 17) ?_
    refine yO 4 (some 20) rfl rfl (fun K hK => ?_)
    refine goes_ Try.func13 (by kernel_rfl) rfl #[.agg #[.string a2_0, .slice A2_1 l2_1.length c2_1]] (by rfl) rfl rfl (by (try simp only [List.map_toArray, List.map_cons, List.map_nil]); first | done | rfl | (simp only [List.length_drop, List.length_take]; rfl)) ?_
    with_reducible refine (laws_toMemory.calls k a2_0 _ _ l2_1 t304 t305 _ ?side1 ?side2 A12.out).mono ?_
    (case side1 => repeat (first | exact (cb HR2_1.out HB.out) | (with_reducible first | refine ca ?_ _ | refine cn ?_ _ | refine ce ?_)))
    (case side2 => exact HC2_1.out)
    rintro e w28 ⟨v306, rfl, ho0, hb⟩
    refine ⟨_, rfl, ?_⟩
    have n0_ := Am (Kd.R_lower ho0 (bz (by repeat (first | (with_reducible first | exact HB.out | apply ba | apply bn | apply be | refine bs ?_ GE297.out | refine bs ?_ GE298.out) | exact HB.out))))
    have n1_ := Am (kb (g := gb297) (o := o13b0 a0_0 a0_1 a0_2 a0_3) (by (with_reducible repeat (first | refine kn ?_ _ | refine ke ?_ | refine ka ?_ _)); exact BK297.out) hb)
    have n2_ := Am (kb (g := gb298) (o := o13b1 a2_0 A2_1 l2_1.length c2_1) (by (with_reducible repeat (first | refine kn ?_ _ | refine ke ?_ | refine ka ?_ _)); exact BK298.out) hb)
    have n3_ := Am (bq (by repeat (first | (with_reducible first | exact HB.out | apply ba | apply bn | apply be | refine bs ?_ GE297.out | refine bs ?_ GE298.out) | exact HB.out)) hb)
    clear BK297
    clear BK298
    clear HB
    have HO307 := n0_
    have BK297 := n1_
    have BK298 := n2_
    have HB := n3_
    clear n0_ n1_ n2_ n3_
    (try clear hb)
    (try clear hb2)
    (try clear hk)
    (try clear hi)
    (try clear ho0)
    obtain ⟨Ao29, co29, eo29⟩ := Kd.R_slice HO307.out
    (first | subst eo29 | (injection eo29 with f1_ f2_ f3_; have f4_ := f1_.symm; have f5_ := f3_.symm; clear f1_ f2_ f3_; subst f4_; subst f5_))
    refine hK.out _ _ ⟨(kc BK297.out 0).trans rfl, (kc BK297.out 1).trans rfl, (kc BK297.out 2).trans rfl, (kc BK297.out 3).trans rfl, (kc BK298.out 0).trans rfl, (kc BK298.out 1).trans rfl⟩ (fun hHeld => ?_)
    clear hK K
    refine zN (some 20) ?_
    refine yO 5 (some 21) rfl rfl (fun K hK => ?_)
    refine goes_ Try.func11 (by kernel_rfl) rfl #[.agg #[.int .i64 t300, .int .i64 t301, .int .i64 t302, .int .i64 t303], .int .i64 a1, .agg #[.string t304, .slice Ao29 t305.length co29]] (by rfl) rfl rfl (by (try simp only [List.map_toArray, List.map_cons, List.map_nil]); first | done | rfl | (simp only [List.length_drop, List.length_take]; rfl)) ?_
    with_reducible refine (spec_MaskedWord.calls k t300 t301 t302 t303 a1 t304 _ _ t305 t308 _ ?side1 ?side2 A13.out).mono ?_
    (case side1 => repeat (first | exact (Kd.R_reads' HO307.out).2.2 | (with_reducible first | refine ca ?_ _ | refine cn ?_ _ | refine ce ?_)))
    (case side2 => exact (Kd.R_reads' HO307.out).2.1)
    rintro e w30 ⟨rfl, hb⟩
    refine ⟨_, rfl, ?_⟩
    have n0_ := Am (rb (by (with_reducible repeat (first | apply ra | apply rn | apply re)); exact HO307.out) hb)
    have n1_ := Am (kb (g := gb297) (o := o13b0 a0_0 a0_1 a0_2 a0_3) (by (with_reducible repeat (first | refine kn ?_ _ | refine ke ?_ | refine ka ?_ _)); exact BK297.out) hb)
    have n2_ := Am (kb (g := gb298) (o := o13b1 a2_0 A2_1 l2_1.length c2_1) (by (with_reducible repeat (first | refine kn ?_ _ | refine ke ?_ | refine ka ?_ _)); exact BK298.out) hb)
    have n3_ := Am (bq (by repeat (first | (with_reducible first | exact HB.out | apply ba | apply bn | apply be | refine bs ?_ GE297.out | refine bs ?_ GE298.out) | exact HB.out)) hb)
    clear HO307
    clear BK297
    clear BK298
    clear HB
    have HO307 := n0_
    have BK297 := n1_
    have BK298 := n2_
    have HB := n3_
    clear n0_ n1_ n2_ n3_
    (try clear hb)
    (try clear hb2)
    (try clear hk)
    (try clear hi)
    refine hK.out _ _ ⟨(kc BK297.out 0).trans rfl, (kc BK297.out 1).trans rfl, (kc BK297.out 2).trans rfl, (kc BK297.out 3).trans rfl, (kc BK298.out 0).trans rfl, (kc BK298.out 1).trans rfl⟩ (fun hHeld => ?_)
    clear hK K
    refine zN (some 21) ?_
    refine yA 6 (some 8) rfl rfl ?_
    refine done_ (by kernel_rfl) ?_
    have hcz31_0 : w30.cell? ⟨gb298, 0, none⟩ = some (.string a2_0) := (kc BK298.out 0).trans rfl
    have hcz31_1 : w30.cell? ⟨gb298, 1, none⟩ = some (.slice A2_1 l2_1.length c2_1) := (kc BK298.out 1).trans rfl
    have hfz31_0 := kf BK298.out 0
    have hfz31_1 := kf BK298.out 1
    try go_wp2_with (first | ((with_reducible refine gate_callee (f := 13) rfl ?_); refine goesL_ (some 23) rfl rfl Try.func13 (by kernel_rfl) rfl #[.agg #[.string a2_0, .slice A2_1 l2_1.length c2_1]] rfl (by (try simp only [List.map_toArray, List.map_cons, List.map_nil]); first | done | rfl | (simp only [List.length_drop, List.length_take]; rfl)) ?_; (with_reducible refine (laws_toMemory.calls k a2_0 _ _ l2_1 t309 t310 _ ?side1 ?side2 A14.out).mono ?_); (case side1 => repeat (first | exact (cb HR2_1.out HB.out) | (with_reducible first | refine ca ?_ _ | refine cn ?_ _ | refine ce ?_))); (case side2 => exact HC2_1.out); rintro e w32 ⟨v311, rfl, ho0, hb⟩; refine ⟨_, rfl, ?_⟩; have n0_ := Am (Kd.R_elder' (by (with_reducible repeat (first | apply ra | apply rn | apply re)); exact HO307.out) (Kd.R_base ho0) hb); have n1_ := Am (Kd.R_lower (Kd.R_new' ho0 (Kd.R_lt (by (with_reducible repeat (first | apply ra | apply rn | apply re)); exact HO307.out))) (bz (by repeat (first | (with_reducible first | exact HB.out | apply ba | apply bn | apply be | refine bs ?_ GE297.out | refine bs ?_ GE298.out) | exact HB.out)))); have n2_ := Am (kb (g := gb297) (o := o13b0 a0_0 a0_1 a0_2 a0_3) (by (with_reducible repeat (first | refine kn ?_ _ | refine ke ?_ | refine ka ?_ _)); exact BK297.out) hb); have n3_ := Am (kb (g := gb298) (o := o13b1 a2_0 A2_1 l2_1.length c2_1) (by (with_reducible repeat (first | refine kn ?_ _ | refine ke ?_ | refine ka ?_ _)); exact BK298.out) hb); have n4_ := Am (bq (by repeat (first | (with_reducible first | exact HB.out | apply ba | apply bn | apply be | refine bs ?_ GE297.out | refine bs ?_ GE298.out) | exact HB.out)) hb); clear HO307; clear BK297; clear BK298; clear HB; have HO307 := n0_; have HO312 := n1_; have BK297 := n2_; have BK298 := n3_; have HB := n4_; clear n0_ n1_ n2_ n3_ n4_; (try clear hb ho0)) | ((with_reducible refine gate_dst (N := 9) rfl ?_); refine box_event ?hg (N := 9) ?hd (cs := #[.string (⟨#[]⟩ : ByteArray), .slice none 0 0]) (t := 33) ?hr ?_; (case hd => rfl); (case hg => rfl); (case hr => first | (go_simp; done) | (go_simp; rfl)); intro gb313 hg w33 hbox hb; have n0_ := Am (rb (by (with_reducible repeat (first | apply ra | apply rn | apply re)); exact HO307.out) hb); have n1_ := Am (rb (by (with_reducible repeat (first | apply ra | apply rn | apply re)); exact HO312.out) hb); have n2_ := Am (kb (g := gb297) (o := o13b0 a0_0 a0_1 a0_2 a0_3) (by (with_reducible repeat (first | refine kn ?_ _ | refine ke ?_ | refine ka ?_ _)); exact BK297.out) hb); have n3_ := Am (kb (g := gb298) (o := o13b1 a2_0 A2_1 l2_1.length c2_1) (by (with_reducible repeat (first | refine kn ?_ _ | refine ke ?_ | refine ka ?_ _)); exact BK298.out) hb); have n4_ := Am (bq (by repeat (first | (with_reducible first | exact HB.out | apply ba | apply bn | apply be | refine bs ?_ GE297.out | refine bs ?_ GE298.out) | exact HB.out)) hb); have n5_ := Am (hbox); have n6_ := Am ((by rw [hg]; exact (bz (by repeat (first | (with_reducible first | exact HB.out | apply ba | apply bn | apply be | refine bs ?_ GE297.out | refine bs ?_ GE298.out) | exact HB.out))) : w.heap.size ≤ gb313)); have n7_ := Am ((by rw [hg]; exact (bz (by repeat (first | (with_reducible first | exact HB.out | apply ba | apply bn | apply be | refine bs ?_ GE297.out | refine bs ?_ GE298.out) | exact HB.out))) : w.heap.size ≤ gb313)); have n8_ := Am ((by rw [hg]; exact Nat.ne_of_lt (kl (g := gb297) (o := o13b0 a0_0 a0_1 a0_2 a0_3) (by (with_reducible repeat (first | refine kn ?_ _ | refine ke ?_ | refine ka ?_ _)); exact BK297.out)) : gb297 ≠ gb313)); have n9_ := Am ((by rw [hg]; exact Nat.ne_of_gt (kl (g := gb297) (o := o13b0 a0_0 a0_1 a0_2 a0_3) (by (with_reducible repeat (first | refine kn ?_ _ | refine ke ?_ | refine ka ?_ _)); exact BK297.out)) : gb313 ≠ gb297)); have n10_ := Am ((by rw [hg]; exact Nat.ne_of_lt (kl (g := gb298) (o := o13b1 a2_0 A2_1 l2_1.length c2_1) (by (with_reducible repeat (first | refine kn ?_ _ | refine ke ?_ | refine ka ?_ _)); exact BK298.out)) : gb298 ≠ gb313)); have n11_ := Am ((by rw [hg]; exact Nat.ne_of_gt (kl (g := gb298) (o := o13b1 a2_0 A2_1 l2_1.length c2_1) (by (with_reducible repeat (first | refine kn ?_ _ | refine ke ?_ | refine ka ?_ _)); exact BK298.out)) : gb313 ≠ gb298)); clear HO307; clear HO312; clear BK297; clear BK298; clear HB; have HO307 := n0_; have HO312 := n1_; have BK297 := n2_; have BK298 := n3_; have HB := n4_; have BK313 := n5_; have GW313 := n6_; have GE313 := n7_; have NB297_313 := n8_; have NB313_297 := n9_; have NB298_313 := n10_; have NB313_298 := n11_; clear n0_ n1_ n2_ n3_ n4_ n5_ n6_ n7_ n8_ n9_ n10_ n11_; clear hb hbox hg; have hnb34 := NB313_297.out; have hnc34 := NB297_313.out; have hnb35 := NB313_298.out; have hnc35 := NB298_313.out; have hcz36_0 : w33.cell? ⟨gb313, 0, none⟩ = some (.string (⟨#[]⟩ : ByteArray)) := (kc BK313.out 0).trans rfl; have hcz36_1 : w33.cell? ⟨gb313, 1, none⟩ = some (.slice none 0 0) := (kc BK313.out 1).trans rfl; have hfz36_0 := kf BK313.out 0; have hfz36_1 := kf BK313.out 1; obtain ⟨Ao37, co37, eo37⟩ := Kd.R_slice HO312.out; subst eo37))
    have n0_ : Aside0 (Kd.R k155 155 ((w33.setCell ⟨gb313, 0, none⟩ (.string t309)).setCell ⟨gb313, 1, none⟩ (.slice Ao37 t310.length co37)) w.heap.size (fun k_ => some k_ ≠ (.slice Ao37 t310.length co37 : Value).ownBlock) (.slice Ao29 t305.length co29) t305) := ⟨by (with_reducible repeat (first | apply ra | apply rn | apply re)); exact Kd.R_mono (Kd.R_far (p := ⟨gb313, 1, none⟩) (Kd.R_far (p := ⟨gb313, 0, none⟩) (Kd.R_types HO307.out BK313.out (by decide)) (fun _ hk => hk.2) (.string t309)) (fun _ hk => hk.2) (.slice Ao37 t310.length co37)) (fun _ hk => hk.1.2)⟩
    have n1_ : Aside0 (Kd.R k155 155 ((w33.setCell ⟨gb313, 0, none⟩ (.string t309)).setCell ⟨gb313, 1, none⟩ (.slice Ao37 t310.length co37)) w.heap.size (fun k_ => some k_ ≠ (.slice Ao29 t305.length co29 : Value).ownBlock) (.slice Ao37 t310.length co37) t310) := ⟨by (with_reducible repeat (first | apply ra | apply rn | apply re)); exact Kd.R_mono (Kd.R_far (p := ⟨gb313, 1, none⟩) (Kd.R_far (p := ⟨gb313, 0, none⟩) (Kd.R_types HO312.out BK313.out (by decide)) (fun _ hk => hk.2) (.string t309)) (fun _ hk => hk.2) (.slice Ao37 t310.length co37)) (fun _ hk => hk.1.2)⟩
    have n2_ : Aside0 (((w33.setCell ⟨gb313, 0, none⟩ (.string t309)).setCell ⟨gb313, 1, none⟩ (.slice Ao37 t310.length co37)).heap[gb297]? = some (.cells #[.int .i64 a0_0, .int .i64 a0_1, .int .i64 a0_2, .int .i64 a0_3] 23 (0, 0))) := ⟨by (with_reducible repeat (first | refine kn ?_ _ | refine ke ?_ | refine ka ?_ _)); refine blk_far ?_ NB297_313.out _; (with_reducible repeat (first | refine kn ?_ _ | refine ke ?_ | refine ka ?_ _)); refine blk_far ?_ NB297_313.out _; (with_reducible repeat (first | refine kn ?_ _ | refine ke ?_ | refine ka ?_ _)); exact BK297.out⟩
    have n3_ : Aside0 (((w33.setCell ⟨gb313, 0, none⟩ (.string t309)).setCell ⟨gb313, 1, none⟩ (.slice Ao37 t310.length co37)).heap[gb298]? = some (.cells #[.string a2_0, .slice A2_1 l2_1.length c2_1] 26 (0, 0))) := ⟨by (with_reducible repeat (first | refine kn ?_ _ | refine ke ?_ | refine ka ?_ _)); refine blk_far ?_ NB298_313.out _; (with_reducible repeat (first | refine kn ?_ _ | refine ke ?_ | refine ka ?_ _)); refine blk_far ?_ NB298_313.out _; (with_reducible repeat (first | refine kn ?_ _ | refine ke ?_ | refine ka ?_ _)); exact BK298.out⟩
    have n4_ : Aside0 (((w33.setCell ⟨gb313, 0, none⟩ (.string t309)).setCell ⟨gb313, 1, none⟩ (.slice Ao37 t310.length co37)).heap[gb313]? = some (.cells #[.string t309, .slice Ao37 t310.length co37] 33 (0, 0))) := ⟨by (with_reducible repeat (first | refine kn ?_ _ | refine ke ?_ | refine ka ?_ _)); refine kp (cs := #[.string t309, .slice none 0 0]) ?_ 1 _ rfl; (with_reducible repeat (first | refine kn ?_ _ | refine ke ?_ | refine ka ?_ _)); refine kp (cs := #[.string (⟨#[]⟩ : ByteArray), .slice none 0 0]) ?_ 0 _ rfl; (with_reducible repeat (first | refine kn ?_ _ | refine ke ?_ | refine ka ?_ _)); exact BK313.out⟩
    have n5_ : Aside0 (Below w.heap.size w ((w33.setCell ⟨gb313, 0, none⟩ (.string t309)).setCell ⟨gb313, 1, none⟩ (.slice Ao37 t310.length co37))) := ⟨by repeat (first | (with_reducible first | exact HB.out | apply ba | apply bn | apply be | refine bs ?_ GE297.out | refine bs ?_ GE298.out | refine bs ?_ GE313.out) | exact HB.out)⟩
    (try clear HO307)
    (try clear HO312)
    (try clear BK297)
    (try clear BK298)
    (try clear BK313)
    (try clear HB)
    generalize ((w33.setCell ⟨gb313, 0, none⟩ (.string t309)).setCell ⟨gb313, 1, none⟩ (.slice Ao37 t310.length co37)) = w38 at n0_ n1_ n2_ n3_ n4_ n5_ ⊢
    have HO307 := n0_
    have HO312 := n1_
    have BK297 := n2_
    have BK298 := n3_
    have BK313 := n4_
    have HB := n5_
    clear n0_ n1_ n2_ n3_ n4_ n5_
    have n0_ := Am (re HO307.out)
    have n1_ := Am (re HO312.out)
    have n2_ := Am (ke BK297.out)
    have n3_ := Am (ke BK298.out)
    have n4_ := Am (ke BK313.out)
    have n5_ := Am (be HB.out)
    clear HO307
    clear HO312
    clear BK297
    clear BK298
    clear BK313
    clear HB
    have HO307 := n0_
    have HO312 := n1_
    have BK297 := n2_
    have BK298 := n3_
    have BK313 := n4_
    have HB := n5_
    clear n0_ n1_ n2_ n3_ n4_ n5_
    refine start_ (n := 6) (S := fun w' => w'.cell? ⟨gb297, 0, none⟩ = some (.int .i64 a0_0) ∧ w'.cell? ⟨gb297, 1, none⟩ = some (.int .i64 a0_1) ∧ w'.cell? ⟨gb297, 2, none⟩ = some (.int .i64 a0_2) ∧ w'.cell? ⟨gb297, 3, none⟩ = some (.int .i64 a0_3) ∧ w'.cell? ⟨gb313, 0, none⟩ = some (.string t309) ∧ w'.cell? ⟨gb313, 1, none⟩ = some (.slice Ao37 t310.length co37)) (ds := []) #[false, false, false, false, false, false] (by kernel_rfl) rfl rfl ⟨(kc BK297.out 0).trans rfl, (kc BK297.out 1).trans rfl, (kc BK297.out 2).trans rfl, (kc BK297.out 3).trans rfl, (kc BK313.out 0).trans rfl, (kc BK313.out 1).trans rfl⟩ (fun hHeld => ?_)
    generalize w38.drew = w39 at HO307 HO312 BK297 BK298 BK313 HB hHeld ⊢
    refine yA 2 (some 26) rfl rfl ?_
    refine yT 0 (some 24) rfl rfl hHeld ?_
    refine yT 3 (some 27) rfl rfl hHeld ?_
    refine yO 1 (some 25) rfl rfl (fun K hK => ?_)
    refine goes_ Try.func12 (by kernel_rfl) rfl #[.agg #[.int .i64 a0_0, .int .i64 a0_1, .int .i64 a0_2, .int .i64 a0_3]] (by rfl) rfl rfl (by (try simp only [List.map_toArray, List.map_cons, List.map_nil]); first | done | rfl | (simp only [List.length_drop, List.length_take]; rfl)) ?_
    with_reducible refine (laws_toGeo.calls a0_0 a0_1 a0_2 a0_3 t314 t315 t316 t317 _ A15.out).mono ?_
    rintro e w40 ⟨rfl, hb⟩
    refine ⟨_, rfl, ?_⟩
    have n0_ := Am (rb (by (with_reducible repeat (first | apply ra | apply rn | apply re)); exact HO307.out) hb)
    have n1_ := Am (rb (by (with_reducible repeat (first | apply ra | apply rn | apply re)); exact HO312.out) hb)
    have n2_ := Am (kb (g := gb297) (o := o13b0 a0_0 a0_1 a0_2 a0_3) (by (with_reducible repeat (first | refine kn ?_ _ | refine ke ?_ | refine ka ?_ _)); exact BK297.out) hb)
    have n3_ := Am (kb (g := gb298) (o := o13b1 a2_0 A2_1 l2_1.length c2_1) (by (with_reducible repeat (first | refine kn ?_ _ | refine ke ?_ | refine ka ?_ _)); exact BK298.out) hb)
    have n4_ := Am (kb (g := gb313) (o := o13b2 t309 Ao37 t310.length co37) (by (with_reducible repeat (first | refine kn ?_ _ | refine ke ?_ | refine ka ?_ _)); exact BK313.out) hb)
    have n5_ := Am (bq (by repeat (first | (with_reducible first | exact HB.out | apply ba | apply bn | apply be | refine bs ?_ GE297.out | refine bs ?_ GE298.out | refine bs ?_ GE313.out) | exact HB.out)) hb)
    clear HO307
    clear HO312
    clear BK297
    clear BK298
    clear BK313
    clear HB
    have HO307 := n0_
    have HO312 := n1_
    have BK297 := n2_
    have BK298 := n3_
    have BK313 := n4_
    have HB := n5_
    clear n0_ n1_ n2_ n3_ n4_ n5_
    (try clear hb)
    (try clear hb2)
    (try clear hk)
    (try clear hi)
    refine hK.out _ _ ⟨(kc BK297.out 0).trans rfl, (kc BK297.out 1).trans rfl, (kc BK297.out 2).trans rfl, (kc BK297.out 3).trans rfl, (kc BK313.out 0).trans rfl, (kc BK313.out 1).trans rfl⟩ (fun hHeld => ?_)
    clear hK K
    refine zN (some 25) ?_
    refine yO 4 (some 28) rfl rfl (fun K hK => ?_)
    refine goes_ Try.func14 (by kernel_rfl) rfl #[.agg #[.int .i64 t314, .int .i64 t315, .int .i64 t316, .int .i64 t317], .int .i64 a1, .agg #[.string t309, .slice Ao37 t310.length co37]] (by rfl) rfl rfl (by (try simp only [List.map_toArray, List.map_cons, List.map_nil]); first | done | rfl | (simp only [List.length_drop, List.length_take]; rfl)) ?_
    with_reducible refine (impl_MaskedWord.calls k t314 t315 t316 t317 a1 t309 _ _ t310 t318 _ ?side1 ?side2 A16.out).mono ?_
    (case side1 => repeat (first | exact (Kd.R_reads' HO312.out).2.2 | (with_reducible first | refine ca ?_ _ | refine cn ?_ _ | refine ce ?_)))
    (case side2 => exact (Kd.R_reads' HO312.out).2.1)
    rintro e w41 ⟨rfl, hb⟩
    refine ⟨_, rfl, ?_⟩
    have n0_ := Am (rb (by (with_reducible repeat (first | apply ra | apply rn | apply re)); exact HO307.out) hb)
    have n1_ := Am (rb (by (with_reducible repeat (first | apply ra | apply rn | apply re)); exact HO312.out) hb)
    have n2_ := Am (kb (g := gb297) (o := o13b0 a0_0 a0_1 a0_2 a0_3) (by (with_reducible repeat (first | refine kn ?_ _ | refine ke ?_ | refine ka ?_ _)); exact BK297.out) hb)
    have n3_ := Am (kb (g := gb298) (o := o13b1 a2_0 A2_1 l2_1.length c2_1) (by (with_reducible repeat (first | refine kn ?_ _ | refine ke ?_ | refine ka ?_ _)); exact BK298.out) hb)
    have n4_ := Am (kb (g := gb313) (o := o13b2 t309 Ao37 t310.length co37) (by (with_reducible repeat (first | refine kn ?_ _ | refine ke ?_ | refine ka ?_ _)); exact BK313.out) hb)
    have n5_ := Am (bq (by repeat (first | (with_reducible first | exact HB.out | apply ba | apply bn | apply be | refine bs ?_ GE297.out | refine bs ?_ GE298.out | refine bs ?_ GE313.out) | exact HB.out)) hb)
    clear HO307
    clear HO312
    clear BK297
    clear BK298
    clear BK313
    clear HB
    have HO307 := n0_
    have HO312 := n1_
    have BK297 := n2_
    have BK298 := n3_
    have BK313 := n4_
    have HB := n5_
    clear n0_ n1_ n2_ n3_ n4_ n5_
    (try clear hb)
    (try clear hb2)
    (try clear hk)
    (try clear hi)
    refine hK.out _ _ ⟨(kc BK297.out 0).trans rfl, (kc BK297.out 1).trans rfl, (kc BK297.out 2).trans rfl, (kc BK297.out 3).trans rfl, (kc BK313.out 0).trans rfl, (kc BK313.out 1).trans rfl⟩ (fun hHeld => ?_)
    clear hK K
    refine zN (some 28) ?_
    refine yA 5 (some 10) rfl rfl ?_
    refine done_ (by kernel_rfl) ?_
    try go_wp2
    have n0_ := Am (re HO307.out)
    have n1_ := Am (re HO312.out)
    have n2_ := Am (ke BK297.out)
    have n3_ := Am (ke BK298.out)
    have n4_ := Am (ke BK313.out)
    have n5_ := Am (be HB.out)
    clear HO307
    clear HO312
    clear BK297
    clear BK298
    clear BK313
    clear HB
    have HO307 := n0_
    have HO312 := n1_
    have BK297 := n2_
    have BK298 := n3_
    have BK313 := n4_
    have HB := n5_
    clear n0_ n1_ n2_ n3_ n4_ n5_
    refine start_ (n := 5) (S := fun w' => w'.cell? ⟨gb313, 0, none⟩ = some (.string t309) ∧ w'.cell? ⟨gb313, 1, none⟩ = some (.slice Ao37 t310.length co37) ∧ w'.cell? ⟨gb298, 0, none⟩ = some (.string a2_0) ∧ w'.cell? ⟨gb298, 1, none⟩ = some (.slice A2_1 l2_1.length c2_1)) (ds := []) #[false, false, false, false, false] (by kernel_rfl) rfl rfl ⟨(kc BK313.out 0).trans rfl, (kc BK313.out 1).trans rfl, (kc BK298.out 0).trans rfl, (kc BK298.out 1).trans rfl⟩ (fun hHeld => ?_)
    generalize w41.drew = w42 at HO307 HO312 BK297 BK298 BK313 HB hHeld ⊢
    refine yT 0 (some 32) rfl rfl hHeld ?_
    refine yT 1 (some 33) rfl rfl hHeld ?_
    refine yO 2 (some 34) rfl rfl (fun K hK => ?_)
    refine goes_ Try.func13 (by kernel_rfl) rfl #[.agg #[.string a2_0, .slice A2_1 l2_1.length c2_1]] (by rfl) rfl rfl (by (try simp only [List.map_toArray, List.map_cons, List.map_nil]); first | done | rfl | (simp only [List.length_drop, List.length_take]; rfl)) ?_
    with_reducible refine (laws_toMemory.calls k a2_0 _ _ l2_1 t319 t320 _ ?side1 ?side2 A18.out).mono ?_
    (case side1 => repeat (first | exact (cb HR2_1.out HB.out) | (with_reducible first | refine ca ?_ _ | refine cn ?_ _ | refine ce ?_)))
    (case side2 => exact HC2_1.out)
    rintro e w43 ⟨v321, rfl, ho0, hb⟩
    refine ⟨_, rfl, ?_⟩
    have n0_ := Am (Kd.R_elder' (by (with_reducible repeat (first | apply ra | apply rn | apply re)); exact HO307.out) (Kd.R_base ho0) hb)
    have n1_ := Am (Kd.R_elder' (by (with_reducible repeat (first | apply ra | apply rn | apply re)); exact HO312.out) (Kd.R_base ho0) hb)
    have n2_ := Am (Kd.R_lower (Kd.R_new' (Kd.R_new' ho0 (Kd.R_lt (by (with_reducible repeat (first | apply ra | apply rn | apply re)); exact HO307.out))) (Kd.R_lt (by (with_reducible repeat (first | apply ra | apply rn | apply re)); exact HO312.out))) (bz (by repeat (first | (with_reducible first | exact HB.out | apply ba | apply bn | apply be | refine bs ?_ GE297.out | refine bs ?_ GE298.out | refine bs ?_ GE313.out) | exact HB.out))))
    have n3_ := Am (kb (g := gb297) (o := o13b0 a0_0 a0_1 a0_2 a0_3) (by (with_reducible repeat (first | refine kn ?_ _ | refine ke ?_ | refine ka ?_ _)); exact BK297.out) hb)
    have n4_ := Am (kb (g := gb298) (o := o13b1 a2_0 A2_1 l2_1.length c2_1) (by (with_reducible repeat (first | refine kn ?_ _ | refine ke ?_ | refine ka ?_ _)); exact BK298.out) hb)
    have n5_ := Am (kb (g := gb313) (o := o13b2 t309 Ao37 t310.length co37) (by (with_reducible repeat (first | refine kn ?_ _ | refine ke ?_ | refine ka ?_ _)); exact BK313.out) hb)
    have n6_ := Am (bq (by repeat (first | (with_reducible first | exact HB.out | apply ba | apply bn | apply be | refine bs ?_ GE297.out | refine bs ?_ GE298.out | refine bs ?_ GE313.out) | exact HB.out)) hb)
    clear HO307
    clear HO312
    clear BK297
    clear BK298
    clear BK313
    clear HB
    have HO307 := n0_
    have HO312 := n1_
    have HO322 := n2_
    have BK297 := n3_
    have BK298 := n4_
    have BK313 := n5_
    have HB := n6_
    clear n0_ n1_ n2_ n3_ n4_ n5_ n6_
    (try clear hb)
    (try clear hb2)
    (try clear hk)
    (try clear hi)
    (try clear ho0)
    obtain ⟨Ao44, co44, eo44⟩ := Kd.R_slice HO322.out
    (first | subst eo44 | (injection eo44 with f1_ f2_ f3_; have f4_ := f1_.symm; have f5_ := f3_.symm; clear f1_ f2_ f3_; subst f4_; subst f5_))
    refine hK.out _ _ ⟨(kc BK313.out 0).trans rfl, (kc BK313.out 1).trans rfl, (kc BK298.out 0).trans rfl, (kc BK298.out 1).trans rfl⟩ (fun hHeld => ?_)
    clear hK K
    refine zN (some 34) ?_
    refine yO 3 (some 35) rfl rfl (fun K hK => ?_)
    refine goes_ Try.func15 (by kernel_rfl) rfl #[.agg #[.string t309, .slice Ao37 t310.length co37], .agg #[.string t319, .slice Ao44 t320.length co44]] (by rfl) rfl rfl (by (try simp only [List.map_toArray, List.map_cons, List.map_nil]); first | done | rfl | (simp only [List.length_drop, List.length_take]; rfl)) ?_
    with_reducible refine (laws_eqMemory.calls k t309 _ _ t310 t319 _ _ t320 true _ ?side1 ?side2 ?side3 ?side4 A19.out).mono ?_
    (case side1 => repeat (first | exact (Kd.R_reads' HO312.out).2.2 | (with_reducible first | refine ca ?_ _ | refine cn ?_ _ | refine ce ?_)))
    (case side2 => exact (Kd.R_reads' HO312.out).2.1)
    (case side3 => repeat (first | exact (Kd.R_reads' HO322.out).2.2 | (with_reducible first | refine ca ?_ _ | refine cn ?_ _ | refine ce ?_)))
    (case side4 => exact (Kd.R_reads' HO322.out).2.1)
    rintro e w45 ⟨rfl, hb⟩
    refine ⟨_, rfl, ?_⟩
    have n0_ := Am (rb (by (with_reducible repeat (first | apply ra | apply rn | apply re)); exact HO307.out) hb)
    have n1_ := Am (rb (by (with_reducible repeat (first | apply ra | apply rn | apply re)); exact HO312.out) hb)
    have n2_ := Am (rb (by (with_reducible repeat (first | apply ra | apply rn | apply re)); exact HO322.out) hb)
    have n3_ := Am (kb (g := gb297) (o := o13b0 a0_0 a0_1 a0_2 a0_3) (by (with_reducible repeat (first | refine kn ?_ _ | refine ke ?_ | refine ka ?_ _)); exact BK297.out) hb)
    have n4_ := Am (kb (g := gb298) (o := o13b1 a2_0 A2_1 l2_1.length c2_1) (by (with_reducible repeat (first | refine kn ?_ _ | refine ke ?_ | refine ka ?_ _)); exact BK298.out) hb)
    have n5_ := Am (kb (g := gb313) (o := o13b2 t309 Ao37 t310.length co37) (by (with_reducible repeat (first | refine kn ?_ _ | refine ke ?_ | refine ka ?_ _)); exact BK313.out) hb)
    have n6_ := Am (bq (by repeat (first | (with_reducible first | exact HB.out | apply ba | apply bn | apply be | refine bs ?_ GE297.out | refine bs ?_ GE298.out | refine bs ?_ GE313.out) | exact HB.out)) hb)
    clear HO307
    clear HO312
    clear HO322
    clear BK297
    clear BK298
    clear BK313
    clear HB
    have HO307 := n0_
    have HO312 := n1_
    have HO322 := n2_
    have BK297 := n3_
    have BK298 := n4_
    have BK313 := n5_
    have HB := n6_
    clear n0_ n1_ n2_ n3_ n4_ n5_ n6_
    (try clear hb)
    (try clear hb2)
    (try clear hk)
    (try clear hi)
    refine hK.out _ _ ⟨(kc BK313.out 0).trans rfl, (kc BK313.out 1).trans rfl, (kc BK298.out 0).trans rfl, (kc BK298.out 1).trans rfl⟩ (fun hHeld => ?_)
    clear hK K
    refine zN (some 35) ?_
    refine yA 4 (some 36) rfl rfl ?_
    refine done_ (by kernel_rfl) ?_
    try go_wp2
    go_ret
    exact ⟨by first | rfl | (simp [errW_none, errW_some] <;> rfl) | (simp [*, errW_none, errW_some] <;> rfl), by repeat (first | (with_reducible first | exact HB.out | apply ba | apply bn | apply be | refine bs ?_ GE297.out | refine bs ?_ GE298.out | refine bs ?_ GE313.out) | exact HB.out)⟩
   ·replace c20 := Bool.eq_false_iff.mpr c20
    subst c20
    have H1 : (some false) = some r := by rw [if_neg (show ¬ (false = true) by decide)] at H; exact H
    clear H
    have H := H1
    clear H1
    obtain rfl := Option.some.inj H
    go_enter Try.func3, Try.ntmps3
    try go_wp2_with (first | ((with_reducible refine gate_dst (N := 3) rfl ?_); refine box_event ?hg (N := 3) ?hd (cs := #[.int .i64 a0_0, .int .i64 a0_1, .int .i64 a0_2, .int .i64 a0_3]) (t := 23) ?hr ?_; (case hd => rfl); (case hg => rfl); (case hr => first | (go_simp; done) | (go_simp; rfl)); intro gb297 hg w46 hbox hb; have BK297 := Am (hbox); have GW297 := Am ((by rw [hg]; exact (bz (by repeat (first | (with_reducible first | exact HB.out | apply ba | apply bn | apply be) | exact HB.out))) : w.heap.size ≤ gb297)); have GE297 := Am ((by rw [hg]; exact (bz (by repeat (first | (with_reducible first | exact HB.out | apply ba | apply bn | apply be) | exact HB.out))) : w.heap.size ≤ gb297)); replace HB := Am (bq (by repeat (first | (with_reducible first | exact HB.out | apply ba | apply bn | apply be) | exact HB.out)) hb); clear hb hbox hg) | ((with_reducible refine gate_dst (N := 5) rfl ?_); refine box_event ?hg (N := 5) ?hd (cs := #[.string a2_0, .slice A2_1 l2_1.length c2_1]) (t := 26) ?hr ?_; (case hd => rfl); (case hg => rfl); (case hr => first | (go_simp; done) | (go_simp; rfl)); intro gb298 hg w47 hbox hb; have n0_ := Am (kb (g := gb297) (o := o13b0 a0_0 a0_1 a0_2 a0_3) (by (with_reducible repeat (first | refine kn ?_ _ | refine ke ?_ | refine ka ?_ _)); exact BK297.out) hb); have n1_ := Am (bq (by repeat (first | (with_reducible first | exact HB.out | apply ba | apply bn | apply be | refine bs ?_ GE297.out) | exact HB.out)) hb); have n2_ := Am (hbox); have n3_ := Am ((by rw [hg]; exact (bz (by repeat (first | (with_reducible first | exact HB.out | apply ba | apply bn | apply be | refine bs ?_ GE297.out) | exact HB.out))) : w.heap.size ≤ gb298)); have n4_ := Am ((by rw [hg]; exact (bz (by repeat (first | (with_reducible first | exact HB.out | apply ba | apply bn | apply be | refine bs ?_ GE297.out) | exact HB.out))) : w.heap.size ≤ gb298)); have n5_ := Am ((by rw [hg]; exact Nat.ne_of_lt (kl (g := gb297) (o := o13b0 a0_0 a0_1 a0_2 a0_3) (by (with_reducible repeat (first | refine kn ?_ _ | refine ke ?_ | refine ka ?_ _)); exact BK297.out)) : gb297 ≠ gb298)); have n6_ := Am ((by rw [hg]; exact Nat.ne_of_gt (kl (g := gb297) (o := o13b0 a0_0 a0_1 a0_2 a0_3) (by (with_reducible repeat (first | refine kn ?_ _ | refine ke ?_ | refine ka ?_ _)); exact BK297.out)) : gb298 ≠ gb297)); clear BK297; clear HB; have BK297 := n0_; have HB := n1_; have BK298 := n2_; have GW298 := n3_; have GE298 := n4_; have NB297_298 := n5_; have NB298_297 := n6_; clear n0_ n1_ n2_ n3_ n4_ n5_ n6_; clear hb hbox hg; have hnb48 := NB298_297.out; have hnc48 := NB297_298.out; have hcz49_0 : w47.cell? ⟨gb298, 0, none⟩ = some (.string a2_0) := (kc BK298.out 0).trans rfl; have hcz49_1 : w47.cell? ⟨gb298, 1, none⟩ = some (.slice A2_1 l2_1.length c2_1) := (kc BK298.out 1).trans rfl; have hfz49_0 := kf BK298.out 0; have hfz49_1 := kf BK298.out 1) | ((with_reducible refine gate_callee (f := 10) rfl ?_); refine goesL_ (some 13) rfl rfl Try.func10 (by kernel_rfl) rfl #[.agg #[.string a2_0, .slice A2_1 l2_1.length c2_1], .int .i64 1048576] rfl (by (try simp only [List.map_toArray, List.map_cons, List.map_nil]); first | done | rfl | (simp only [List.length_drop, List.length_take]; rfl)) ?_; (with_reducible refine (laws_szMemory.calls k a2_0 _ _ l2_1 1048576 t299 _ ?side1 ?side2 A4.out).mono ?_); (case side1 => repeat (first | exact (cb HR2_1.out HB.out) | (with_reducible first | refine ca ?_ _ | refine cn ?_ _ | refine ce ?_))); (case side2 => exact HC2_1.out); rintro e w50 ⟨rfl, hb⟩; refine ⟨_, rfl, ?_⟩; have n0_ := Am (kb (g := gb297) (o := o13b0 a0_0 a0_1 a0_2 a0_3) (by (with_reducible repeat (first | refine kn ?_ _ | refine ke ?_ | refine ka ?_ _)); exact BK297.out) hb); have n1_ := Am (kb (g := gb298) (o := o13b1 a2_0 A2_1 l2_1.length c2_1) (by (with_reducible repeat (first | refine kn ?_ _ | refine ke ?_ | refine ka ?_ _)); exact BK298.out) hb); have n2_ := Am (bq (by repeat (first | (with_reducible first | exact HB.out | apply ba | apply bn | apply be | refine bs ?_ GE297.out | refine bs ?_ GE298.out) | exact HB.out)) hb); clear BK297; clear BK298; clear HB; have BK297 := n0_; have BK298 := n1_; have HB := n2_; clear n0_ n1_ n2_; (try clear hb)))
    have n0_ := Am (ke BK297.out)
    have n1_ := Am (ke BK298.out)
    have n2_ := Am (be HB.out)
    clear BK297
    clear BK298
    clear HB
    have BK297 := n0_
    have BK298 := n1_
    have HB := n2_
    clear n0_ n1_ n2_
    refine start_ (n := 7) (S := fun w' => w'.cell? ⟨gb297, 0, none⟩ = some (.int .i64 a0_0) ∧ w'.cell? ⟨gb297, 1, none⟩ = some (.int .i64 a0_1) ∧ w'.cell? ⟨gb297, 2, none⟩ = some (.int .i64 a0_2) ∧ w'.cell? ⟨gb297, 3, none⟩ = some (.int .i64 a0_3) ∧ w'.cell? ⟨gb298, 0, none⟩ = some (.string a2_0) ∧ w'.cell? ⟨gb298, 1, none⟩ = some (.slice A2_1 l2_1.length c2_1)) (ds := []) #[false, false, false, false, false, false, false] (by kernel_rfl) rfl rfl ⟨(kc BK297.out 0).trans rfl, (kc BK297.out 1).trans rfl, (kc BK297.out 2).trans rfl, (kc BK297.out 3).trans rfl, (kc BK298.out 0).trans rfl, (kc BK298.out 1).trans rfl⟩ (fun hHeld => ?_)
    generalize w50.drew = w51 at BK297 BK298 HB hHeld ⊢
    refine yA 2 (some 18) rfl rfl ?_
    refine yT 0 (some 16) rfl rfl hHeld ?_
    refine yT 3 (some 19) rfl rfl hHeld ?_
    refine yO 1 (some 17) rfl rfl (fun K hK => ?_)
    refine goes_ Try.func12 (by kernel_rfl) rfl #[.agg #[.int .i64 a0_0, .int .i64 a0_1, .int .i64 a0_2, .int .i64 a0_3]] (by rfl) rfl rfl (by (try simp only [List.map_toArray, List.map_cons, List.map_nil]); first | done | rfl | (simp only [List.length_drop, List.length_take]; rfl)) ?_
    with_reducible refine (laws_toGeo.calls a0_0 a0_1 a0_2 a0_3 t300 t301 t302 t303 _ A11.out).mono ?_
    rintro e w52 ⟨rfl, hb⟩
    refine ⟨_, rfl, ?_⟩
    have n0_ := Am (kb (g := gb297) (o := o13b0 a0_0 a0_1 a0_2 a0_3) (by (with_reducible repeat (first | refine kn ?_ _ | refine ke ?_ | refine ka ?_ _)); exact BK297.out) hb)
    have n1_ := Am (kb (g := gb298) (o := o13b1 a2_0 A2_1 l2_1.length c2_1) (by (with_reducible repeat (first | refine kn ?_ _ | refine ke ?_ | refine ka ?_ _)); exact BK298.out) hb)
    have n2_ := Am (bq (by repeat (first | (with_reducible first | exact HB.out | apply ba | apply bn | apply be | refine bs ?_ GE297.out | refine bs ?_ GE298.out) | exact HB.out)) hb)
    clear BK297
    clear BK298
    clear HB
    have BK297 := n0_
    have BK298 := n1_
    have HB := n2_
    clear n0_ n1_ n2_
    (try clear hb)
    (try clear hb2)
    (try clear hk)
    (try clear hi)
    refine hK.out _ _ ⟨(kc BK297.out 0).trans rfl, (kc BK297.out 1).trans rfl, (kc BK297.out 2).trans rfl, (kc BK297.out 3).trans rfl, (kc BK298.out 0).trans rfl, (kc BK298.out 1).trans rfl⟩ (fun hHeld => ?_)
    clear hK K
    refine zN (some 17) ?_
    refine yO 4 (some 20) rfl rfl (fun K hK => ?_)
    refine goes_ Try.func13 (by kernel_rfl) rfl #[.agg #[.string a2_0, .slice A2_1 l2_1.length c2_1]] (by rfl) rfl rfl (by (try simp only [List.map_toArray, List.map_cons, List.map_nil]); first | done | rfl | (simp only [List.length_drop, List.length_take]; rfl)) ?_
    with_reducible refine (laws_toMemory.calls k a2_0 _ _ l2_1 t304 t305 _ ?side1 ?side2 A12.out).mono ?_
    (case side1 => repeat (first | exact (cb HR2_1.out HB.out) | (with_reducible first | refine ca ?_ _ | refine cn ?_ _ | refine ce ?_)))
    (case side2 => exact HC2_1.out)
    rintro e w53 ⟨v306, rfl, ho0, hb⟩
    refine ⟨_, rfl, ?_⟩
    have n0_ := Am (Kd.R_lower ho0 (bz (by repeat (first | (with_reducible first | exact HB.out | apply ba | apply bn | apply be | refine bs ?_ GE297.out | refine bs ?_ GE298.out) | exact HB.out))))
    have n1_ := Am (kb (g := gb297) (o := o13b0 a0_0 a0_1 a0_2 a0_3) (by (with_reducible repeat (first | refine kn ?_ _ | refine ke ?_ | refine ka ?_ _)); exact BK297.out) hb)
    have n2_ := Am (kb (g := gb298) (o := o13b1 a2_0 A2_1 l2_1.length c2_1) (by (with_reducible repeat (first | refine kn ?_ _ | refine ke ?_ | refine ka ?_ _)); exact BK298.out) hb)
    have n3_ := Am (bq (by repeat (first | (with_reducible first | exact HB.out | apply ba | apply bn | apply be | refine bs ?_ GE297.out | refine bs ?_ GE298.out) | exact HB.out)) hb)
    clear BK297
    clear BK298
    clear HB
    have HO307 := n0_
    have BK297 := n1_
    have BK298 := n2_
    have HB := n3_
    clear n0_ n1_ n2_ n3_
    (try clear hb)
    (try clear hb2)
    (try clear hk)
    (try clear hi)
    (try clear ho0)
    obtain ⟨Ao54, co54, eo54⟩ := Kd.R_slice HO307.out
    (first | subst eo54 | (injection eo54 with f1_ f2_ f3_; have f4_ := f1_.symm; have f5_ := f3_.symm; clear f1_ f2_ f3_; subst f4_; subst f5_))
    refine hK.out _ _ ⟨(kc BK297.out 0).trans rfl, (kc BK297.out 1).trans rfl, (kc BK297.out 2).trans rfl, (kc BK297.out 3).trans rfl, (kc BK298.out 0).trans rfl, (kc BK298.out 1).trans rfl⟩ (fun hHeld => ?_)
    clear hK K
    refine zN (some 20) ?_
    refine yO 5 (some 21) rfl rfl (fun K hK => ?_)
    refine goes_ Try.func11 (by kernel_rfl) rfl #[.agg #[.int .i64 t300, .int .i64 t301, .int .i64 t302, .int .i64 t303], .int .i64 a1, .agg #[.string t304, .slice Ao54 t305.length co54]] (by rfl) rfl rfl (by (try simp only [List.map_toArray, List.map_cons, List.map_nil]); first | done | rfl | (simp only [List.length_drop, List.length_take]; rfl)) ?_
    with_reducible refine (spec_MaskedWord.calls k t300 t301 t302 t303 a1 t304 _ _ t305 t308 _ ?side1 ?side2 A13.out).mono ?_
    (case side1 => repeat (first | exact (Kd.R_reads' HO307.out).2.2 | (with_reducible first | refine ca ?_ _ | refine cn ?_ _ | refine ce ?_)))
    (case side2 => exact (Kd.R_reads' HO307.out).2.1)
    rintro e w55 ⟨rfl, hb⟩
    refine ⟨_, rfl, ?_⟩
    have n0_ := Am (rb (by (with_reducible repeat (first | apply ra | apply rn | apply re)); exact HO307.out) hb)
    have n1_ := Am (kb (g := gb297) (o := o13b0 a0_0 a0_1 a0_2 a0_3) (by (with_reducible repeat (first | refine kn ?_ _ | refine ke ?_ | refine ka ?_ _)); exact BK297.out) hb)
    have n2_ := Am (kb (g := gb298) (o := o13b1 a2_0 A2_1 l2_1.length c2_1) (by (with_reducible repeat (first | refine kn ?_ _ | refine ke ?_ | refine ka ?_ _)); exact BK298.out) hb)
    have n3_ := Am (bq (by repeat (first | (with_reducible first | exact HB.out | apply ba | apply bn | apply be | refine bs ?_ GE297.out | refine bs ?_ GE298.out) | exact HB.out)) hb)
    clear HO307
    clear BK297
    clear BK298
    clear HB
    have HO307 := n0_
    have BK297 := n1_
    have BK298 := n2_
    have HB := n3_
    clear n0_ n1_ n2_ n3_
    (try clear hb)
    (try clear hb2)
    (try clear hk)
    (try clear hi)
    refine hK.out _ _ ⟨(kc BK297.out 0).trans rfl, (kc BK297.out 1).trans rfl, (kc BK297.out 2).trans rfl, (kc BK297.out 3).trans rfl, (kc BK298.out 0).trans rfl, (kc BK298.out 1).trans rfl⟩ (fun hHeld => ?_)
    clear hK K
    refine zN (some 21) ?_
    refine yA 6 (some 8) rfl rfl ?_
    refine done_ (by kernel_rfl) ?_
    have hcz56_0 : w55.cell? ⟨gb298, 0, none⟩ = some (.string a2_0) := (kc BK298.out 0).trans rfl
    have hcz56_1 : w55.cell? ⟨gb298, 1, none⟩ = some (.slice A2_1 l2_1.length c2_1) := (kc BK298.out 1).trans rfl
    have hfz56_0 := kf BK298.out 0
    have hfz56_1 := kf BK298.out 1
    try go_wp2_with (first | ((with_reducible refine gate_callee (f := 13) rfl ?_); refine goesL_ (some 23) rfl rfl Try.func13 (by kernel_rfl) rfl #[.agg #[.string a2_0, .slice A2_1 l2_1.length c2_1]] rfl (by (try simp only [List.map_toArray, List.map_cons, List.map_nil]); first | done | rfl | (simp only [List.length_drop, List.length_take]; rfl)) ?_; (with_reducible refine (laws_toMemory.calls k a2_0 _ _ l2_1 t309 t310 _ ?side1 ?side2 A14.out).mono ?_); (case side1 => repeat (first | exact (cb HR2_1.out HB.out) | (with_reducible first | refine ca ?_ _ | refine cn ?_ _ | refine ce ?_))); (case side2 => exact HC2_1.out); rintro e w57 ⟨v311, rfl, ho0, hb⟩; refine ⟨_, rfl, ?_⟩; have n0_ := Am (Kd.R_elder' (by (with_reducible repeat (first | apply ra | apply rn | apply re)); exact HO307.out) (Kd.R_base ho0) hb); have n1_ := Am (Kd.R_lower (Kd.R_new' ho0 (Kd.R_lt (by (with_reducible repeat (first | apply ra | apply rn | apply re)); exact HO307.out))) (bz (by repeat (first | (with_reducible first | exact HB.out | apply ba | apply bn | apply be | refine bs ?_ GE297.out | refine bs ?_ GE298.out) | exact HB.out)))); have n2_ := Am (kb (g := gb297) (o := o13b0 a0_0 a0_1 a0_2 a0_3) (by (with_reducible repeat (first | refine kn ?_ _ | refine ke ?_ | refine ka ?_ _)); exact BK297.out) hb); have n3_ := Am (kb (g := gb298) (o := o13b1 a2_0 A2_1 l2_1.length c2_1) (by (with_reducible repeat (first | refine kn ?_ _ | refine ke ?_ | refine ka ?_ _)); exact BK298.out) hb); have n4_ := Am (bq (by repeat (first | (with_reducible first | exact HB.out | apply ba | apply bn | apply be | refine bs ?_ GE297.out | refine bs ?_ GE298.out) | exact HB.out)) hb); clear HO307; clear BK297; clear BK298; clear HB; have HO307 := n0_; have HO312 := n1_; have BK297 := n2_; have BK298 := n3_; have HB := n4_; clear n0_ n1_ n2_ n3_ n4_; (try clear hb ho0)) | ((with_reducible refine gate_dst (N := 9) rfl ?_); refine box_event ?hg (N := 9) ?hd (cs := #[.string (⟨#[]⟩ : ByteArray), .slice none 0 0]) (t := 33) ?hr ?_; (case hd => rfl); (case hg => rfl); (case hr => first | (go_simp; done) | (go_simp; rfl)); intro gb313 hg w58 hbox hb; have n0_ := Am (rb (by (with_reducible repeat (first | apply ra | apply rn | apply re)); exact HO307.out) hb); have n1_ := Am (rb (by (with_reducible repeat (first | apply ra | apply rn | apply re)); exact HO312.out) hb); have n2_ := Am (kb (g := gb297) (o := o13b0 a0_0 a0_1 a0_2 a0_3) (by (with_reducible repeat (first | refine kn ?_ _ | refine ke ?_ | refine ka ?_ _)); exact BK297.out) hb); have n3_ := Am (kb (g := gb298) (o := o13b1 a2_0 A2_1 l2_1.length c2_1) (by (with_reducible repeat (first | refine kn ?_ _ | refine ke ?_ | refine ka ?_ _)); exact BK298.out) hb); have n4_ := Am (bq (by repeat (first | (with_reducible first | exact HB.out | apply ba | apply bn | apply be | refine bs ?_ GE297.out | refine bs ?_ GE298.out) | exact HB.out)) hb); have n5_ := Am (hbox); have n6_ := Am ((by rw [hg]; exact (bz (by repeat (first | (with_reducible first | exact HB.out | apply ba | apply bn | apply be | refine bs ?_ GE297.out | refine bs ?_ GE298.out) | exact HB.out))) : w.heap.size ≤ gb313)); have n7_ := Am ((by rw [hg]; exact (bz (by repeat (first | (with_reducible first | exact HB.out | apply ba | apply bn | apply be | refine bs ?_ GE297.out | refine bs ?_ GE298.out) | exact HB.out))) : w.heap.size ≤ gb313)); have n8_ := Am ((by rw [hg]; exact Nat.ne_of_lt (kl (g := gb297) (o := o13b0 a0_0 a0_1 a0_2 a0_3) (by (with_reducible repeat (first | refine kn ?_ _ | refine ke ?_ | refine ka ?_ _)); exact BK297.out)) : gb297 ≠ gb313)); have n9_ := Am ((by rw [hg]; exact Nat.ne_of_gt (kl (g := gb297) (o := o13b0 a0_0 a0_1 a0_2 a0_3) (by (with_reducible repeat (first | refine kn ?_ _ | refine ke ?_ | refine ka ?_ _)); exact BK297.out)) : gb313 ≠ gb297)); have n10_ := Am ((by rw [hg]; exact Nat.ne_of_lt (kl (g := gb298) (o := o13b1 a2_0 A2_1 l2_1.length c2_1) (by (with_reducible repeat (first | refine kn ?_ _ | refine ke ?_ | refine ka ?_ _)); exact BK298.out)) : gb298 ≠ gb313)); have n11_ := Am ((by rw [hg]; exact Nat.ne_of_gt (kl (g := gb298) (o := o13b1 a2_0 A2_1 l2_1.length c2_1) (by (with_reducible repeat (first | refine kn ?_ _ | refine ke ?_ | refine ka ?_ _)); exact BK298.out)) : gb313 ≠ gb298)); clear HO307; clear HO312; clear BK297; clear BK298; clear HB; have HO307 := n0_; have HO312 := n1_; have BK297 := n2_; have BK298 := n3_; have HB := n4_; have BK313 := n5_; have GW313 := n6_; have GE313 := n7_; have NB297_313 := n8_; have NB313_297 := n9_; have NB298_313 := n10_; have NB313_298 := n11_; clear n0_ n1_ n2_ n3_ n4_ n5_ n6_ n7_ n8_ n9_ n10_ n11_; clear hb hbox hg; have hnb59 := NB313_297.out; have hnc59 := NB297_313.out; have hnb60 := NB313_298.out; have hnc60 := NB298_313.out; have hcz61_0 : w58.cell? ⟨gb313, 0, none⟩ = some (.string (⟨#[]⟩ : ByteArray)) := (kc BK313.out 0).trans rfl; have hcz61_1 : w58.cell? ⟨gb313, 1, none⟩ = some (.slice none 0 0) := (kc BK313.out 1).trans rfl; have hfz61_0 := kf BK313.out 0; have hfz61_1 := kf BK313.out 1; obtain ⟨Ao62, co62, eo62⟩ := Kd.R_slice HO312.out; subst eo62))
    have n0_ : Aside0 (Kd.R k155 155 ((w58.setCell ⟨gb313, 0, none⟩ (.string t309)).setCell ⟨gb313, 1, none⟩ (.slice Ao62 t310.length co62)) w.heap.size (fun k_ => some k_ ≠ (.slice Ao62 t310.length co62 : Value).ownBlock) (.slice Ao54 t305.length co54) t305) := ⟨by (with_reducible repeat (first | apply ra | apply rn | apply re)); exact Kd.R_mono (Kd.R_far (p := ⟨gb313, 1, none⟩) (Kd.R_far (p := ⟨gb313, 0, none⟩) (Kd.R_types HO307.out BK313.out (by decide)) (fun _ hk => hk.2) (.string t309)) (fun _ hk => hk.2) (.slice Ao62 t310.length co62)) (fun _ hk => hk.1.2)⟩
    have n1_ : Aside0 (Kd.R k155 155 ((w58.setCell ⟨gb313, 0, none⟩ (.string t309)).setCell ⟨gb313, 1, none⟩ (.slice Ao62 t310.length co62)) w.heap.size (fun k_ => some k_ ≠ (.slice Ao54 t305.length co54 : Value).ownBlock) (.slice Ao62 t310.length co62) t310) := ⟨by (with_reducible repeat (first | apply ra | apply rn | apply re)); exact Kd.R_mono (Kd.R_far (p := ⟨gb313, 1, none⟩) (Kd.R_far (p := ⟨gb313, 0, none⟩) (Kd.R_types HO312.out BK313.out (by decide)) (fun _ hk => hk.2) (.string t309)) (fun _ hk => hk.2) (.slice Ao62 t310.length co62)) (fun _ hk => hk.1.2)⟩
    have n2_ : Aside0 (((w58.setCell ⟨gb313, 0, none⟩ (.string t309)).setCell ⟨gb313, 1, none⟩ (.slice Ao62 t310.length co62)).heap[gb297]? = some (.cells #[.int .i64 a0_0, .int .i64 a0_1, .int .i64 a0_2, .int .i64 a0_3] 23 (0, 0))) := ⟨by (with_reducible repeat (first | refine kn ?_ _ | refine ke ?_ | refine ka ?_ _)); refine blk_far ?_ NB297_313.out _; (with_reducible repeat (first | refine kn ?_ _ | refine ke ?_ | refine ka ?_ _)); refine blk_far ?_ NB297_313.out _; (with_reducible repeat (first | refine kn ?_ _ | refine ke ?_ | refine ka ?_ _)); exact BK297.out⟩
    have n3_ : Aside0 (((w58.setCell ⟨gb313, 0, none⟩ (.string t309)).setCell ⟨gb313, 1, none⟩ (.slice Ao62 t310.length co62)).heap[gb298]? = some (.cells #[.string a2_0, .slice A2_1 l2_1.length c2_1] 26 (0, 0))) := ⟨by (with_reducible repeat (first | refine kn ?_ _ | refine ke ?_ | refine ka ?_ _)); refine blk_far ?_ NB298_313.out _; (with_reducible repeat (first | refine kn ?_ _ | refine ke ?_ | refine ka ?_ _)); refine blk_far ?_ NB298_313.out _; (with_reducible repeat (first | refine kn ?_ _ | refine ke ?_ | refine ka ?_ _)); exact BK298.out⟩
    have n4_ : Aside0 (((w58.setCell ⟨gb313, 0, none⟩ (.string t309)).setCell ⟨gb313, 1, none⟩ (.slice Ao62 t310.length co62)).heap[gb313]? = some (.cells #[.string t309, .slice Ao62 t310.length co62] 33 (0, 0))) := ⟨by (with_reducible repeat (first | refine kn ?_ _ | refine ke ?_ | refine ka ?_ _)); refine kp (cs := #[.string t309, .slice none 0 0]) ?_ 1 _ rfl; (with_reducible repeat (first | refine kn ?_ _ | refine ke ?_ | refine ka ?_ _)); refine kp (cs := #[.string (⟨#[]⟩ : ByteArray), .slice none 0 0]) ?_ 0 _ rfl; (with_reducible repeat (first | refine kn ?_ _ | refine ke ?_ | refine ka ?_ _)); exact BK313.out⟩
    have n5_ : Aside0 (Below w.heap.size w ((w58.setCell ⟨gb313, 0, none⟩ (.string t309)).setCell ⟨gb313, 1, none⟩ (.slice Ao62 t310.length co62))) := ⟨by repeat (first | (with_reducible first | exact HB.out | apply ba | apply bn | apply be | refine bs ?_ GE297.out | refine bs ?_ GE298.out | refine bs ?_ GE313.out) | exact HB.out)⟩
    (try clear HO307)
    (try clear HO312)
    (try clear BK297)
    (try clear BK298)
    (try clear BK313)
    (try clear HB)
    generalize ((w58.setCell ⟨gb313, 0, none⟩ (.string t309)).setCell ⟨gb313, 1, none⟩ (.slice Ao62 t310.length co62)) = w63 at n0_ n1_ n2_ n3_ n4_ n5_ ⊢
    have HO307 := n0_
    have HO312 := n1_
    have BK297 := n2_
    have BK298 := n3_
    have BK313 := n4_
    have HB := n5_
    clear n0_ n1_ n2_ n3_ n4_ n5_
    have n0_ := Am (re HO307.out)
    have n1_ := Am (re HO312.out)
    have n2_ := Am (ke BK297.out)
    have n3_ := Am (ke BK298.out)
    have n4_ := Am (ke BK313.out)
    have n5_ := Am (be HB.out)
    clear HO307
    clear HO312
    clear BK297
    clear BK298
    clear BK313
    clear HB
    have HO307 := n0_
    have HO312 := n1_
    have BK297 := n2_
    have BK298 := n3_
    have BK313 := n4_
    have HB := n5_
    clear n0_ n1_ n2_ n3_ n4_ n5_
    refine start_ (n := 6) (S := fun w' => w'.cell? ⟨gb297, 0, none⟩ = some (.int .i64 a0_0) ∧ w'.cell? ⟨gb297, 1, none⟩ = some (.int .i64 a0_1) ∧ w'.cell? ⟨gb297, 2, none⟩ = some (.int .i64 a0_2) ∧ w'.cell? ⟨gb297, 3, none⟩ = some (.int .i64 a0_3) ∧ w'.cell? ⟨gb313, 0, none⟩ = some (.string t309) ∧ w'.cell? ⟨gb313, 1, none⟩ = some (.slice Ao62 t310.length co62)) (ds := []) #[false, false, false, false, false, false] (by kernel_rfl) rfl rfl ⟨(kc BK297.out 0).trans rfl, (kc BK297.out 1).trans rfl, (kc BK297.out 2).trans rfl, (kc BK297.out 3).trans rfl, (kc BK313.out 0).trans rfl, (kc BK313.out 1).trans rfl⟩ (fun hHeld => ?_)
    generalize w63.drew = w64 at HO307 HO312 BK297 BK298 BK313 HB hHeld ⊢
    refine yA 2 (some 26) rfl rfl ?_
    refine yT 0 (some 24) rfl rfl hHeld ?_
    refine yT 3 (some 27) rfl rfl hHeld ?_
    refine yO 1 (some 25) rfl rfl (fun K hK => ?_)
    refine goes_ Try.func12 (by kernel_rfl) rfl #[.agg #[.int .i64 a0_0, .int .i64 a0_1, .int .i64 a0_2, .int .i64 a0_3]] (by rfl) rfl rfl (by (try simp only [List.map_toArray, List.map_cons, List.map_nil]); first | done | rfl | (simp only [List.length_drop, List.length_take]; rfl)) ?_
    with_reducible refine (laws_toGeo.calls a0_0 a0_1 a0_2 a0_3 t314 t315 t316 t317 _ A15.out).mono ?_
    rintro e w65 ⟨rfl, hb⟩
    refine ⟨_, rfl, ?_⟩
    have n0_ := Am (rb (by (with_reducible repeat (first | apply ra | apply rn | apply re)); exact HO307.out) hb)
    have n1_ := Am (rb (by (with_reducible repeat (first | apply ra | apply rn | apply re)); exact HO312.out) hb)
    have n2_ := Am (kb (g := gb297) (o := o13b0 a0_0 a0_1 a0_2 a0_3) (by (with_reducible repeat (first | refine kn ?_ _ | refine ke ?_ | refine ka ?_ _)); exact BK297.out) hb)
    have n3_ := Am (kb (g := gb298) (o := o13b1 a2_0 A2_1 l2_1.length c2_1) (by (with_reducible repeat (first | refine kn ?_ _ | refine ke ?_ | refine ka ?_ _)); exact BK298.out) hb)
    have n4_ := Am (kb (g := gb313) (o := o13b3 t309 Ao62 t310.length co62) (by (with_reducible repeat (first | refine kn ?_ _ | refine ke ?_ | refine ka ?_ _)); exact BK313.out) hb)
    have n5_ := Am (bq (by repeat (first | (with_reducible first | exact HB.out | apply ba | apply bn | apply be | refine bs ?_ GE297.out | refine bs ?_ GE298.out | refine bs ?_ GE313.out) | exact HB.out)) hb)
    clear HO307
    clear HO312
    clear BK297
    clear BK298
    clear BK313
    clear HB
    have HO307 := n0_
    have HO312 := n1_
    have BK297 := n2_
    have BK298 := n3_
    have BK313 := n4_
    have HB := n5_
    clear n0_ n1_ n2_ n3_ n4_ n5_
    (try clear hb)
    (try clear hb2)
    (try clear hk)
    (try clear hi)
    refine hK.out _ _ ⟨(kc BK297.out 0).trans rfl, (kc BK297.out 1).trans rfl, (kc BK297.out 2).trans rfl, (kc BK297.out 3).trans rfl, (kc BK313.out 0).trans rfl, (kc BK313.out 1).trans rfl⟩ (fun hHeld => ?_)
    clear hK K
    refine zN (some 25) ?_
    refine yO 4 (some 28) rfl rfl (fun K hK => ?_)
    refine goes_ Try.func14 (by kernel_rfl) rfl #[.agg #[.int .i64 t314, .int .i64 t315, .int .i64 t316, .int .i64 t317], .int .i64 a1, .agg #[.string t309, .slice Ao62 t310.length co62]] (by rfl) rfl rfl (by (try simp only [List.map_toArray, List.map_cons, List.map_nil]); first | done | rfl | (simp only [List.length_drop, List.length_take]; rfl)) ?_
    with_reducible refine (impl_MaskedWord.calls k t314 t315 t316 t317 a1 t309 _ _ t310 t318 _ ?side1 ?side2 A16.out).mono ?_
    (case side1 => repeat (first | exact (Kd.R_reads' HO312.out).2.2 | (with_reducible first | refine ca ?_ _ | refine cn ?_ _ | refine ce ?_)))
    (case side2 => exact (Kd.R_reads' HO312.out).2.1)
    rintro e w66 ⟨rfl, hb⟩
    refine ⟨_, rfl, ?_⟩
    have n0_ := Am (rb (by (with_reducible repeat (first | apply ra | apply rn | apply re)); exact HO307.out) hb)
    have n1_ := Am (rb (by (with_reducible repeat (first | apply ra | apply rn | apply re)); exact HO312.out) hb)
    have n2_ := Am (kb (g := gb297) (o := o13b0 a0_0 a0_1 a0_2 a0_3) (by (with_reducible repeat (first | refine kn ?_ _ | refine ke ?_ | refine ka ?_ _)); exact BK297.out) hb)
    have n3_ := Am (kb (g := gb298) (o := o13b1 a2_0 A2_1 l2_1.length c2_1) (by (with_reducible repeat (first | refine kn ?_ _ | refine ke ?_ | refine ka ?_ _)); exact BK298.out) hb)
    have n4_ := Am (kb (g := gb313) (o := o13b3 t309 Ao62 t310.length co62) (by (with_reducible repeat (first | refine kn ?_ _ | refine ke ?_ | refine ka ?_ _)); exact BK313.out) hb)
    have n5_ := Am (bq (by repeat (first | (with_reducible first | exact HB.out | apply ba | apply bn | apply be | refine bs ?_ GE297.out | refine bs ?_ GE298.out | refine bs ?_ GE313.out) | exact HB.out)) hb)
    clear HO307
    clear HO312
    clear BK297
    clear BK298
    clear BK313
    clear HB
    have HO307 := n0_
    have HO312 := n1_
    have BK297 := n2_
    have BK298 := n3_
    have BK313 := n4_
    have HB := n5_
    clear n0_ n1_ n2_ n3_ n4_ n5_
    (try clear hb)
    (try clear hb2)
    (try clear hk)
    (try clear hi)
    refine hK.out _ _ ⟨(kc BK297.out 0).trans rfl, (kc BK297.out 1).trans rfl, (kc BK297.out 2).trans rfl, (kc BK297.out 3).trans rfl, (kc BK313.out 0).trans rfl, (kc BK313.out 1).trans rfl⟩ (fun hHeld => ?_)
    clear hK K
    refine zN (some 28) ?_
    refine yA 5 (some 10) rfl rfl ?_
    refine done_ (by kernel_rfl) ?_
    try go_wp2
    have n0_ := Am (re HO307.out)
    have n1_ := Am (re HO312.out)
    have n2_ := Am (ke BK297.out)
    have n3_ := Am (ke BK298.out)
    have n4_ := Am (ke BK313.out)
    have n5_ := Am (be HB.out)
    clear HO307
    clear HO312
    clear BK297
    clear BK298
    clear BK313
    clear HB
    have HO307 := n0_
    have HO312 := n1_
    have BK297 := n2_
    have BK298 := n3_
    have BK313 := n4_
    have HB := n5_
    clear n0_ n1_ n2_ n3_ n4_ n5_
    refine start_ (n := 5) (S := fun w' => w'.cell? ⟨gb313, 0, none⟩ = some (.string t309) ∧ w'.cell? ⟨gb313, 1, none⟩ = some (.slice Ao62 t310.length co62) ∧ w'.cell? ⟨gb298, 0, none⟩ = some (.string a2_0) ∧ w'.cell? ⟨gb298, 1, none⟩ = some (.slice A2_1 l2_1.length c2_1)) (ds := []) #[false, false, false, false, false] (by kernel_rfl) rfl rfl ⟨(kc BK313.out 0).trans rfl, (kc BK313.out 1).trans rfl, (kc BK298.out 0).trans rfl, (kc BK298.out 1).trans rfl⟩ (fun hHeld => ?_)
    generalize w66.drew = w67 at HO307 HO312 BK297 BK298 BK313 HB hHeld ⊢
    refine yT 0 (some 32) rfl rfl hHeld ?_
    refine yT 1 (some 33) rfl rfl hHeld ?_
    refine yO 2 (some 34) rfl rfl (fun K hK => ?_)
    refine goes_ Try.func13 (by kernel_rfl) rfl #[.agg #[.string a2_0, .slice A2_1 l2_1.length c2_1]] (by rfl) rfl rfl (by (try simp only [List.map_toArray, List.map_cons, List.map_nil]); first | done | rfl | (simp only [List.length_drop, List.length_take]; rfl)) ?_
    with_reducible refine (laws_toMemory.calls k a2_0 _ _ l2_1 t319 t320 _ ?side1 ?side2 A18.out).mono ?_
    (case side1 => repeat (first | exact (cb HR2_1.out HB.out) | (with_reducible first | refine ca ?_ _ | refine cn ?_ _ | refine ce ?_)))
    (case side2 => exact HC2_1.out)
    rintro e w68 ⟨v321, rfl, ho0, hb⟩
    refine ⟨_, rfl, ?_⟩
    have n0_ := Am (Kd.R_elder' (by (with_reducible repeat (first | apply ra | apply rn | apply re)); exact HO307.out) (Kd.R_base ho0) hb)
    have n1_ := Am (Kd.R_elder' (by (with_reducible repeat (first | apply ra | apply rn | apply re)); exact HO312.out) (Kd.R_base ho0) hb)
    have n2_ := Am (Kd.R_lower (Kd.R_new' (Kd.R_new' ho0 (Kd.R_lt (by (with_reducible repeat (first | apply ra | apply rn | apply re)); exact HO307.out))) (Kd.R_lt (by (with_reducible repeat (first | apply ra | apply rn | apply re)); exact HO312.out))) (bz (by repeat (first | (with_reducible first | exact HB.out | apply ba | apply bn | apply be | refine bs ?_ GE297.out | refine bs ?_ GE298.out | refine bs ?_ GE313.out) | exact HB.out))))
    have n3_ := Am (kb (g := gb297) (o := o13b0 a0_0 a0_1 a0_2 a0_3) (by (with_reducible repeat (first | refine kn ?_ _ | refine ke ?_ | refine ka ?_ _)); exact BK297.out) hb)
    have n4_ := Am (kb (g := gb298) (o := o13b1 a2_0 A2_1 l2_1.length c2_1) (by (with_reducible repeat (first | refine kn ?_ _ | refine ke ?_ | refine ka ?_ _)); exact BK298.out) hb)
    have n5_ := Am (kb (g := gb313) (o := o13b3 t309 Ao62 t310.length co62) (by (with_reducible repeat (first | refine kn ?_ _ | refine ke ?_ | refine ka ?_ _)); exact BK313.out) hb)
    have n6_ := Am (bq (by repeat (first | (with_reducible first | exact HB.out | apply ba | apply bn | apply be | refine bs ?_ GE297.out | refine bs ?_ GE298.out | refine bs ?_ GE313.out) | exact HB.out)) hb)
    clear HO307
    clear HO312
    clear BK297
    clear BK298
    clear BK313
    clear HB
    have HO307 := n0_
    have HO312 := n1_
    have HO322 := n2_
    have BK297 := n3_
    have BK298 := n4_
    have BK313 := n5_
    have HB := n6_
    clear n0_ n1_ n2_ n3_ n4_ n5_ n6_
    (try clear hb)
    (try clear hb2)
    (try clear hk)
    (try clear hi)
    (try clear ho0)
    obtain ⟨Ao69, co69, eo69⟩ := Kd.R_slice HO322.out
    (first | subst eo69 | (injection eo69 with f1_ f2_ f3_; have f4_ := f1_.symm; have f5_ := f3_.symm; clear f1_ f2_ f3_; subst f4_; subst f5_))
    refine hK.out _ _ ⟨(kc BK313.out 0).trans rfl, (kc BK313.out 1).trans rfl, (kc BK298.out 0).trans rfl, (kc BK298.out 1).trans rfl⟩ (fun hHeld => ?_)
    clear hK K
    refine zN (some 34) ?_
    refine yO 3 (some 35) rfl rfl (fun K hK => ?_)
    refine goes_ Try.func15 (by kernel_rfl) rfl #[.agg #[.string t309, .slice Ao62 t310.length co62], .agg #[.string t319, .slice Ao69 t320.length co69]] (by rfl) rfl rfl (by (try simp only [List.map_toArray, List.map_cons, List.map_nil]); first | done | rfl | (simp only [List.length_drop, List.length_take]; rfl)) ?_
    with_reducible refine (laws_eqMemory.calls k t309 _ _ t310 t319 _ _ t320 false _ ?side1 ?side2 ?side3 ?side4 A19.out).mono ?_
    (case side1 => repeat (first | exact (Kd.R_reads' HO312.out).2.2 | (with_reducible first | refine ca ?_ _ | refine cn ?_ _ | refine ce ?_)))
    (case side2 => exact (Kd.R_reads' HO312.out).2.1)
    (case side3 => repeat (first | exact (Kd.R_reads' HO322.out).2.2 | (with_reducible first | refine ca ?_ _ | refine cn ?_ _ | refine ce ?_)))
    (case side4 => exact (Kd.R_reads' HO322.out).2.1)
    rintro e w70 ⟨rfl, hb⟩
    refine ⟨_, rfl, ?_⟩
    have n0_ := Am (rb (by (with_reducible repeat (first | apply ra | apply rn | apply re)); exact HO307.out) hb)
    have n1_ := Am (rb (by (with_reducible repeat (first | apply ra | apply rn | apply re)); exact HO312.out) hb)
    have n2_ := Am (rb (by (with_reducible repeat (first | apply ra | apply rn | apply re)); exact HO322.out) hb)
    have n3_ := Am (kb (g := gb297) (o := o13b0 a0_0 a0_1 a0_2 a0_3) (by (with_reducible repeat (first | refine kn ?_ _ | refine ke ?_ | refine ka ?_ _)); exact BK297.out) hb)
    have n4_ := Am (kb (g := gb298) (o := o13b1 a2_0 A2_1 l2_1.length c2_1) (by (with_reducible repeat (first | refine kn ?_ _ | refine ke ?_ | refine ka ?_ _)); exact BK298.out) hb)
    have n5_ := Am (kb (g := gb313) (o := o13b3 t309 Ao62 t310.length co62) (by (with_reducible repeat (first | refine kn ?_ _ | refine ke ?_ | refine ka ?_ _)); exact BK313.out) hb)
    have n6_ := Am (bq (by repeat (first | (with_reducible first | exact HB.out | apply ba | apply bn | apply be | refine bs ?_ GE297.out | refine bs ?_ GE298.out | refine bs ?_ GE313.out) | exact HB.out)) hb)
    clear HO307
    clear HO312
    clear HO322
    clear BK297
    clear BK298
    clear BK313
    clear HB
    have HO307 := n0_
    have HO312 := n1_
    have HO322 := n2_
    have BK297 := n3_
    have BK298 := n4_
    have BK313 := n5_
    have HB := n6_
    clear n0_ n1_ n2_ n3_ n4_ n5_ n6_
    (try clear hb)
    (try clear hb2)
    (try clear hk)
    (try clear hi)
    refine hK.out _ _ ⟨(kc BK313.out 0).trans rfl, (kc BK313.out 1).trans rfl, (kc BK298.out 0).trans rfl, (kc BK298.out 1).trans rfl⟩ (fun hHeld => ?_)
    clear hK K
    refine zN (some 35) ?_
    refine yA 4 (some 36) rfl rfl ?_
    refine done_ (by kernel_rfl) ?_
    try go_wp2
    go_ret
    exact ⟨by first | rfl | (simp [errW_none, errW_some] <;> rfl) | (simp [*, errW_none, errW_some] <;> rfl), by repeat (first | (with_reducible first | exact HB.out | apply ba | apply bn | apply be | refine bs ?_ GE297.out | refine bs ?_ GE298.out | refine bs ?_ GE313.out) | exact HB.out)⟩
  ·rw [if_neg c17] at H
   have c17b0 : (t318.toList == t308.toList) = false := beq_eq_false_iff_ne.mpr c17
   have c17b1 : (t318.toList != t308.toList) = true := bne_iff_ne.mpr c17
   obtain rfl := Option.some.inj H
   go_enter Try.func3, Try.ntmps3
   try go_wp2_with (first | ((with_reducible refine gate_dst (N := 3) rfl ?_); refine box_event ?hg (N := 3) ?hd (cs := #[.int .i64 a0_0, .int .i64 a0_1, .int .i64 a0_2, .int .i64 a0_3]) (t := 23) ?hr ?_; (case hd => rfl); (case hg => rfl); (case hr => first | (go_simp; done) | (go_simp; rfl)); intro gb297 hg w71 hbox hb; have BK297 := Am (hbox); have GW297 := Am ((by rw [hg]; exact (bz (by repeat (first | (with_reducible first | exact HB.out | apply ba | apply bn | apply be) | exact HB.out))) : w.heap.size ≤ gb297)); have GE297 := Am ((by rw [hg]; exact (bz (by repeat (first | (with_reducible first | exact HB.out | apply ba | apply bn | apply be) | exact HB.out))) : w.heap.size ≤ gb297)); replace HB := Am (bq (by repeat (first | (with_reducible first | exact HB.out | apply ba | apply bn | apply be) | exact HB.out)) hb); clear hb hbox hg) | ((with_reducible refine gate_dst (N := 5) rfl ?_); refine box_event ?hg (N := 5) ?hd (cs := #[.string a2_0, .slice A2_1 l2_1.length c2_1]) (t := 26) ?hr ?_; (case hd => rfl); (case hg => rfl); (case hr => first | (go_simp; done) | (go_simp; rfl)); intro gb298 hg w72 hbox hb; have n0_ := Am (kb (g := gb297) (o := o13b0 a0_0 a0_1 a0_2 a0_3) (by (with_reducible repeat (first | refine kn ?_ _ | refine ke ?_ | refine ka ?_ _)); exact BK297.out) hb); have n1_ := Am (bq (by repeat (first | (with_reducible first | exact HB.out | apply ba | apply bn | apply be | refine bs ?_ GE297.out) | exact HB.out)) hb); have n2_ := Am (hbox); have n3_ := Am ((by rw [hg]; exact (bz (by repeat (first | (with_reducible first | exact HB.out | apply ba | apply bn | apply be | refine bs ?_ GE297.out) | exact HB.out))) : w.heap.size ≤ gb298)); have n4_ := Am ((by rw [hg]; exact (bz (by repeat (first | (with_reducible first | exact HB.out | apply ba | apply bn | apply be | refine bs ?_ GE297.out) | exact HB.out))) : w.heap.size ≤ gb298)); have n5_ := Am ((by rw [hg]; exact Nat.ne_of_lt (kl (g := gb297) (o := o13b0 a0_0 a0_1 a0_2 a0_3) (by (with_reducible repeat (first | refine kn ?_ _ | refine ke ?_ | refine ka ?_ _)); exact BK297.out)) : gb297 ≠ gb298)); have n6_ := Am ((by rw [hg]; exact Nat.ne_of_gt (kl (g := gb297) (o := o13b0 a0_0 a0_1 a0_2 a0_3) (by (with_reducible repeat (first | refine kn ?_ _ | refine ke ?_ | refine ka ?_ _)); exact BK297.out)) : gb298 ≠ gb297)); clear BK297; clear HB; have BK297 := n0_; have HB := n1_; have BK298 := n2_; have GW298 := n3_; have GE298 := n4_; have NB297_298 := n5_; have NB298_297 := n6_; clear n0_ n1_ n2_ n3_ n4_ n5_ n6_; clear hb hbox hg; have hnb73 := NB298_297.out; have hnc73 := NB297_298.out; have hcz74_0 : w72.cell? ⟨gb298, 0, none⟩ = some (.string a2_0) := (kc BK298.out 0).trans rfl; have hcz74_1 : w72.cell? ⟨gb298, 1, none⟩ = some (.slice A2_1 l2_1.length c2_1) := (kc BK298.out 1).trans rfl; have hfz74_0 := kf BK298.out 0; have hfz74_1 := kf BK298.out 1) | ((with_reducible refine gate_callee (f := 10) rfl ?_); refine goesL_ (some 13) rfl rfl Try.func10 (by kernel_rfl) rfl #[.agg #[.string a2_0, .slice A2_1 l2_1.length c2_1], .int .i64 1048576] rfl (by (try simp only [List.map_toArray, List.map_cons, List.map_nil]); first | done | rfl | (simp only [List.length_drop, List.length_take]; rfl)) ?_; (with_reducible refine (laws_szMemory.calls k a2_0 _ _ l2_1 1048576 t299 _ ?side1 ?side2 A4.out).mono ?_); (case side1 => repeat (first | exact (cb HR2_1.out HB.out) | (with_reducible first | refine ca ?_ _ | refine cn ?_ _ | refine ce ?_))); (case side2 => exact HC2_1.out); rintro e w75 ⟨rfl, hb⟩; refine ⟨_, rfl, ?_⟩; have n0_ := Am (kb (g := gb297) (o := o13b0 a0_0 a0_1 a0_2 a0_3) (by (with_reducible repeat (first | refine kn ?_ _ | refine ke ?_ | refine ka ?_ _)); exact BK297.out) hb); have n1_ := Am (kb (g := gb298) (o := o13b1 a2_0 A2_1 l2_1.length c2_1) (by (with_reducible repeat (first | refine kn ?_ _ | refine ke ?_ | refine ka ?_ _)); exact BK298.out) hb); have n2_ := Am (bq (by repeat (first | (with_reducible first | exact HB.out | apply ba | apply bn | apply be | refine bs ?_ GE297.out | refine bs ?_ GE298.out) | exact HB.out)) hb); clear BK297; clear BK298; clear HB; have BK297 := n0_; have BK298 := n1_; have HB := n2_; clear n0_ n1_ n2_; (try clear hb)))
   have n0_ := Am (ke BK297.out)
   have n1_ := Am (ke BK298.out)
   have n2_ := Am (be HB.out)
   clear BK297
   clear BK298
   clear HB
   have BK297 := n0_
   have BK298 := n1_
   have HB := n2_
   clear n0_ n1_ n2_
   refine start_ (n := 7) (S := fun w' => w'.cell? ⟨gb297, 0, none⟩ = some (.int .i64 a0_0) ∧ w'.cell? ⟨gb297, 1, none⟩ = some (.int .i64 a0_1) ∧ w'.cell? ⟨gb297, 2, none⟩ = some (.int .i64 a0_2) ∧ w'.cell? ⟨gb297, 3, none⟩ = some (.int .i64 a0_3) ∧ w'.cell? ⟨gb298, 0, none⟩ = some (.string a2_0) ∧ w'.cell? ⟨gb298, 1, none⟩ = some (.slice A2_1 l2_1.length c2_1)) (ds := []) #[false, false, false, false, false, false, false] (by kernel_rfl) rfl rfl ⟨(kc BK297.out 0).trans rfl, (kc BK297.out 1).trans rfl, (kc BK297.out 2).trans rfl, (kc BK297.out 3).trans rfl, (kc BK298.out 0).trans rfl, (kc BK298.out 1).trans rfl⟩ (fun hHeld => ?_)
   generalize w75.drew = w76 at BK297 BK298 HB hHeld ⊢
   refine yA 2 (some 18) rfl rfl ?_
   refine yT 0 (some 16) rfl rfl hHeld ?_
   refine yT 3 (some 19) rfl rfl hHeld ?_
   refine yO 1 (some 17) rfl rfl (fun K hK => ?_)
   refine goes_ Try.func12 (by kernel_rfl) rfl #[.agg #[.int .i64 a0_0, .int .i64 a0_1, .int .i64 a0_2, .int .i64 a0_3]] (by rfl) rfl rfl (by (try simp only [List.map_toArray, List.map_cons, List.map_nil]); first | done | rfl | (simp only [List.length_drop, List.length_take]; rfl)) ?_
   with_reducible refine (laws_toGeo.calls a0_0 a0_1 a0_2 a0_3 t300 t301 t302 t303 _ A11.out).mono ?_
   rintro e w77 ⟨rfl, hb⟩
   refine ⟨_, rfl, ?_⟩
   have n0_ := Am (kb (g := gb297) (o := o13b0 a0_0 a0_1 a0_2 a0_3) (by (with_reducible repeat (first | refine kn ?_ _ | refine ke ?_ | refine ka ?_ _)); exact BK297.out) hb)
   have n1_ := Am (kb (g := gb298) (o := o13b1 a2_0 A2_1 l2_1.length c2_1) (by (with_reducible repeat (first | refine kn ?_ _ | refine ke ?_ | refine ka ?_ _)); exact BK298.out) hb)
   have n2_ := Am (bq (by repeat (first | (with_reducible first | exact HB.out | apply ba | apply bn | apply be | refine bs ?_ GE297.out | refine bs ?_ GE298.out) | exact HB.out)) hb)
   clear BK297
   clear BK298
   clear HB
   have BK297 := n0_
   have BK298 := n1_
   have HB := n2_
   clear n0_ n1_ n2_
   (try clear hb)
   (try clear hb2)
   (try clear hk)
   (try clear hi)
   refine hK.out _ _ ⟨(kc BK297.out 0).trans rfl, (kc BK297.out 1).trans rfl, (kc BK297.out 2).trans rfl, (kc BK297.out 3).trans rfl, (kc BK298.out 0).trans rfl, (kc BK298.out 1).trans rfl⟩ (fun hHeld => ?_)
   clear hK K
   refine zN (some 17) ?_
   refine yO 4 (some 20) rfl rfl (fun K hK => ?_)
   refine goes_ Try.func13 (by kernel_rfl) rfl #[.agg #[.string a2_0, .slice A2_1 l2_1.length c2_1]] (by rfl) rfl rfl (by (try simp only [List.map_toArray, List.map_cons, List.map_nil]); first | done | rfl | (simp only [List.length_drop, List.length_take]; rfl)) ?_
   with_reducible refine (laws_toMemory.calls k a2_0 _ _ l2_1 t304 t305 _ ?side1 ?side2 A12.out).mono ?_
   (case side1 => repeat (first | exact (cb HR2_1.out HB.out) | (with_reducible first | refine ca ?_ _ | refine cn ?_ _ | refine ce ?_)))
   (case side2 => exact HC2_1.out)
   rintro e w78 ⟨v306, rfl, ho0, hb⟩
   refine ⟨_, rfl, ?_⟩
   have n0_ := Am (Kd.R_lower ho0 (bz (by repeat (first | (with_reducible first | exact HB.out | apply ba | apply bn | apply be | refine bs ?_ GE297.out | refine bs ?_ GE298.out) | exact HB.out))))
   have n1_ := Am (kb (g := gb297) (o := o13b0 a0_0 a0_1 a0_2 a0_3) (by (with_reducible repeat (first | refine kn ?_ _ | refine ke ?_ | refine ka ?_ _)); exact BK297.out) hb)
   have n2_ := Am (kb (g := gb298) (o := o13b1 a2_0 A2_1 l2_1.length c2_1) (by (with_reducible repeat (first | refine kn ?_ _ | refine ke ?_ | refine ka ?_ _)); exact BK298.out) hb)
   have n3_ := Am (bq (by repeat (first | (with_reducible first | exact HB.out | apply ba | apply bn | apply be | refine bs ?_ GE297.out | refine bs ?_ GE298.out) | exact HB.out)) hb)
   clear BK297
   clear BK298
   clear HB
   have HO307 := n0_
   have BK297 := n1_
   have BK298 := n2_
   have HB := n3_
   clear n0_ n1_ n2_ n3_
   (try clear hb)
   (try clear hb2)
   (try clear hk)
   (try clear hi)
   (try clear ho0)
   obtain ⟨Ao79, co79, eo79⟩ := Kd.R_slice HO307.out
   (first | subst eo79 | (injection eo79 with f1_ f2_ f3_; have f4_ := f1_.symm; have f5_ := f3_.symm; clear f1_ f2_ f3_; subst f4_; subst f5_))
   refine hK.out _ _ ⟨(kc BK297.out 0).trans rfl, (kc BK297.out 1).trans rfl, (kc BK297.out 2).trans rfl, (kc BK297.out 3).trans rfl, (kc BK298.out 0).trans rfl, (kc BK298.out 1).trans rfl⟩ (fun hHeld => ?_)
   clear hK K
   refine zN (some 20) ?_
   refine yO 5 (some 21) rfl rfl (fun K hK => ?_)
   refine goes_ Try.func11 (by kernel_rfl) rfl #[.agg #[.int .i64 t300, .int .i64 t301, .int .i64 t302, .int .i64 t303], .int .i64 a1, .agg #[.string t304, .slice Ao79 t305.length co79]] (by rfl) rfl rfl (by (try simp only [List.map_toArray, List.map_cons, List.map_nil]); first | done | rfl | (simp only [List.length_drop, List.length_take]; rfl)) ?_
   with_reducible refine (spec_MaskedWord.calls k t300 t301 t302 t303 a1 t304 _ _ t305 t308 _ ?side1 ?side2 A13.out).mono ?_
   (case side1 => repeat (first | exact (Kd.R_reads' HO307.out).2.2 | (with_reducible first | refine ca ?_ _ | refine cn ?_ _ | refine ce ?_)))
   (case side2 => exact (Kd.R_reads' HO307.out).2.1)
   rintro e w80 ⟨rfl, hb⟩
   refine ⟨_, rfl, ?_⟩
   have n0_ := Am (rb (by (with_reducible repeat (first | apply ra | apply rn | apply re)); exact HO307.out) hb)
   have n1_ := Am (kb (g := gb297) (o := o13b0 a0_0 a0_1 a0_2 a0_3) (by (with_reducible repeat (first | refine kn ?_ _ | refine ke ?_ | refine ka ?_ _)); exact BK297.out) hb)
   have n2_ := Am (kb (g := gb298) (o := o13b1 a2_0 A2_1 l2_1.length c2_1) (by (with_reducible repeat (first | refine kn ?_ _ | refine ke ?_ | refine ka ?_ _)); exact BK298.out) hb)
   have n3_ := Am (bq (by repeat (first | (with_reducible first | exact HB.out | apply ba | apply bn | apply be | refine bs ?_ GE297.out | refine bs ?_ GE298.out) | exact HB.out)) hb)
   clear HO307
   clear BK297
   clear BK298
   clear HB
   have HO307 := n0_
   have BK297 := n1_
   have BK298 := n2_
   have HB := n3_
   clear n0_ n1_ n2_ n3_
   (try clear hb)
   (try clear hb2)
   (try clear hk)
   (try clear hi)
   refine hK.out _ _ ⟨(kc BK297.out 0).trans rfl, (kc BK297.out 1).trans rfl, (kc BK297.out 2).trans rfl, (kc BK297.out 3).trans rfl, (kc BK298.out 0).trans rfl, (kc BK298.out 1).trans rfl⟩ (fun hHeld => ?_)
   clear hK K
   refine zN (some 21) ?_
   refine yA 6 (some 8) rfl rfl ?_
   refine done_ (by kernel_rfl) ?_
   have hcz81_0 : w80.cell? ⟨gb298, 0, none⟩ = some (.string a2_0) := (kc BK298.out 0).trans rfl
   have hcz81_1 : w80.cell? ⟨gb298, 1, none⟩ = some (.slice A2_1 l2_1.length c2_1) := (kc BK298.out 1).trans rfl
   have hfz81_0 := kf BK298.out 0
   have hfz81_1 := kf BK298.out 1
   try go_wp2_with (first | ((with_reducible refine gate_callee (f := 13) rfl ?_); refine goesL_ (some 23) rfl rfl Try.func13 (by kernel_rfl) rfl #[.agg #[.string a2_0, .slice A2_1 l2_1.length c2_1]] rfl (by (try simp only [List.map_toArray, List.map_cons, List.map_nil]); first | done | rfl | (simp only [List.length_drop, List.length_take]; rfl)) ?_; (with_reducible refine (laws_toMemory.calls k a2_0 _ _ l2_1 t309 t310 _ ?side1 ?side2 A14.out).mono ?_); (case side1 => repeat (first | exact (cb HR2_1.out HB.out) | (with_reducible first | refine ca ?_ _ | refine cn ?_ _ | refine ce ?_))); (case side2 => exact HC2_1.out); rintro e w82 ⟨v311, rfl, ho0, hb⟩; refine ⟨_, rfl, ?_⟩; have n0_ := Am (Kd.R_elder' (by (with_reducible repeat (first | apply ra | apply rn | apply re)); exact HO307.out) (Kd.R_base ho0) hb); have n1_ := Am (Kd.R_lower (Kd.R_new' ho0 (Kd.R_lt (by (with_reducible repeat (first | apply ra | apply rn | apply re)); exact HO307.out))) (bz (by repeat (first | (with_reducible first | exact HB.out | apply ba | apply bn | apply be | refine bs ?_ GE297.out | refine bs ?_ GE298.out) | exact HB.out)))); have n2_ := Am (kb (g := gb297) (o := o13b0 a0_0 a0_1 a0_2 a0_3) (by (with_reducible repeat (first | refine kn ?_ _ | refine ke ?_ | refine ka ?_ _)); exact BK297.out) hb); have n3_ := Am (kb (g := gb298) (o := o13b1 a2_0 A2_1 l2_1.length c2_1) (by (with_reducible repeat (first | refine kn ?_ _ | refine ke ?_ | refine ka ?_ _)); exact BK298.out) hb); have n4_ := Am (bq (by repeat (first | (with_reducible first | exact HB.out | apply ba | apply bn | apply be | refine bs ?_ GE297.out | refine bs ?_ GE298.out) | exact HB.out)) hb); clear HO307; clear BK297; clear BK298; clear HB; have HO307 := n0_; have HO312 := n1_; have BK297 := n2_; have BK298 := n3_; have HB := n4_; clear n0_ n1_ n2_ n3_ n4_; (try clear hb ho0)) | ((with_reducible refine gate_dst (N := 9) rfl ?_); refine box_event ?hg (N := 9) ?hd (cs := #[.string (⟨#[]⟩ : ByteArray), .slice none 0 0]) (t := 33) ?hr ?_; (case hd => rfl); (case hg => rfl); (case hr => first | (go_simp; done) | (go_simp; rfl)); intro gb313 hg w83 hbox hb; have n0_ := Am (rb (by (with_reducible repeat (first | apply ra | apply rn | apply re)); exact HO307.out) hb); have n1_ := Am (rb (by (with_reducible repeat (first | apply ra | apply rn | apply re)); exact HO312.out) hb); have n2_ := Am (kb (g := gb297) (o := o13b0 a0_0 a0_1 a0_2 a0_3) (by (with_reducible repeat (first | refine kn ?_ _ | refine ke ?_ | refine ka ?_ _)); exact BK297.out) hb); have n3_ := Am (kb (g := gb298) (o := o13b1 a2_0 A2_1 l2_1.length c2_1) (by (with_reducible repeat (first | refine kn ?_ _ | refine ke ?_ | refine ka ?_ _)); exact BK298.out) hb); have n4_ := Am (bq (by repeat (first | (with_reducible first | exact HB.out | apply ba | apply bn | apply be | refine bs ?_ GE297.out | refine bs ?_ GE298.out) | exact HB.out)) hb); have n5_ := Am (hbox); have n6_ := Am ((by rw [hg]; exact (bz (by repeat (first | (with_reducible first | exact HB.out | apply ba | apply bn | apply be | refine bs ?_ GE297.out | refine bs ?_ GE298.out) | exact HB.out))) : w.heap.size ≤ gb313)); have n7_ := Am ((by rw [hg]; exact (bz (by repeat (first | (with_reducible first | exact HB.out | apply ba | apply bn | apply be | refine bs ?_ GE297.out | refine bs ?_ GE298.out) | exact HB.out))) : w.heap.size ≤ gb313)); have n8_ := Am ((by rw [hg]; exact Nat.ne_of_lt (kl (g := gb297) (o := o13b0 a0_0 a0_1 a0_2 a0_3) (by (with_reducible repeat (first | refine kn ?_ _ | refine ke ?_ | refine ka ?_ _)); exact BK297.out)) : gb297 ≠ gb313)); have n9_ := Am ((by rw [hg]; exact Nat.ne_of_gt (kl (g := gb297) (o := o13b0 a0_0 a0_1 a0_2 a0_3) (by (with_reducible repeat (first | refine kn ?_ _ | refine ke ?_ | refine ka ?_ _)); exact BK297.out)) : gb313 ≠ gb297)); have n10_ := Am ((by rw [hg]; exact Nat.ne_of_lt (kl (g := gb298) (o := o13b1 a2_0 A2_1 l2_1.length c2_1) (by (with_reducible repeat (first | refine kn ?_ _ | refine ke ?_ | refine ka ?_ _)); exact BK298.out)) : gb298 ≠ gb313)); have n11_ := Am ((by rw [hg]; exact Nat.ne_of_gt (kl (g := gb298) (o := o13b1 a2_0 A2_1 l2_1.length c2_1) (by (with_reducible repeat (first | refine kn ?_ _ | refine ke ?_ | refine ka ?_ _)); exact BK298.out)) : gb313 ≠ gb298)); clear HO307; clear HO312; clear BK297; clear BK298; clear HB; have HO307 := n0_; have HO312 := n1_; have BK297 := n2_; have BK298 := n3_; have HB := n4_; have BK313 := n5_; have GW313 := n6_; have GE313 := n7_; have NB297_313 := n8_; have NB313_297 := n9_; have NB298_313 := n10_; have NB313_298 := n11_; clear n0_ n1_ n2_ n3_ n4_ n5_ n6_ n7_ n8_ n9_ n10_ n11_; clear hb hbox hg; have hnb84 := NB313_297.out; have hnc84 := NB297_313.out; have hnb85 := NB313_298.out; have hnc85 := NB298_313.out; have hcz86_0 : w83.cell? ⟨gb313, 0, none⟩ = some (.string (⟨#[]⟩ : ByteArray)) := (kc BK313.out 0).trans rfl; have hcz86_1 : w83.cell? ⟨gb313, 1, none⟩ = some (.slice none 0 0) := (kc BK313.out 1).trans rfl; have hfz86_0 := kf BK313.out 0; have hfz86_1 := kf BK313.out 1; obtain ⟨Ao87, co87, eo87⟩ := Kd.R_slice HO312.out; subst eo87))
   have n0_ : Aside0 (Kd.R k155 155 ((w83.setCell ⟨gb313, 0, none⟩ (.string t309)).setCell ⟨gb313, 1, none⟩ (.slice Ao87 t310.length co87)) w.heap.size (fun k_ => some k_ ≠ (.slice Ao87 t310.length co87 : Value).ownBlock) (.slice Ao79 t305.length co79) t305) := ⟨by (with_reducible repeat (first | apply ra | apply rn | apply re)); exact Kd.R_mono (Kd.R_far (p := ⟨gb313, 1, none⟩) (Kd.R_far (p := ⟨gb313, 0, none⟩) (Kd.R_types HO307.out BK313.out (by decide)) (fun _ hk => hk.2) (.string t309)) (fun _ hk => hk.2) (.slice Ao87 t310.length co87)) (fun _ hk => hk.1.2)⟩
   have n1_ : Aside0 (Kd.R k155 155 ((w83.setCell ⟨gb313, 0, none⟩ (.string t309)).setCell ⟨gb313, 1, none⟩ (.slice Ao87 t310.length co87)) w.heap.size (fun k_ => some k_ ≠ (.slice Ao79 t305.length co79 : Value).ownBlock) (.slice Ao87 t310.length co87) t310) := ⟨by (with_reducible repeat (first | apply ra | apply rn | apply re)); exact Kd.R_mono (Kd.R_far (p := ⟨gb313, 1, none⟩) (Kd.R_far (p := ⟨gb313, 0, none⟩) (Kd.R_types HO312.out BK313.out (by decide)) (fun _ hk => hk.2) (.string t309)) (fun _ hk => hk.2) (.slice Ao87 t310.length co87)) (fun _ hk => hk.1.2)⟩
   have n2_ : Aside0 (((w83.setCell ⟨gb313, 0, none⟩ (.string t309)).setCell ⟨gb313, 1, none⟩ (.slice Ao87 t310.length co87)).heap[gb297]? = some (.cells #[.int .i64 a0_0, .int .i64 a0_1, .int .i64 a0_2, .int .i64 a0_3] 23 (0, 0))) := ⟨by (with_reducible repeat (first | refine kn ?_ _ | refine ke ?_ | refine ka ?_ _)); refine blk_far ?_ NB297_313.out _; (with_reducible repeat (first | refine kn ?_ _ | refine ke ?_ | refine ka ?_ _)); refine blk_far ?_ NB297_313.out _; (with_reducible repeat (first | refine kn ?_ _ | refine ke ?_ | refine ka ?_ _)); exact BK297.out⟩
   have n3_ : Aside0 (((w83.setCell ⟨gb313, 0, none⟩ (.string t309)).setCell ⟨gb313, 1, none⟩ (.slice Ao87 t310.length co87)).heap[gb298]? = some (.cells #[.string a2_0, .slice A2_1 l2_1.length c2_1] 26 (0, 0))) := ⟨by (with_reducible repeat (first | refine kn ?_ _ | refine ke ?_ | refine ka ?_ _)); refine blk_far ?_ NB298_313.out _; (with_reducible repeat (first | refine kn ?_ _ | refine ke ?_ | refine ka ?_ _)); refine blk_far ?_ NB298_313.out _; (with_reducible repeat (first | refine kn ?_ _ | refine ke ?_ | refine ka ?_ _)); exact BK298.out⟩
   have n4_ : Aside0 (((w83.setCell ⟨gb313, 0, none⟩ (.string t309)).setCell ⟨gb313, 1, none⟩ (.slice Ao87 t310.length co87)).heap[gb313]? = some (.cells #[.string t309, .slice Ao87 t310.length co87] 33 (0, 0))) := ⟨by (with_reducible repeat (first | refine kn ?_ _ | refine ke ?_ | refine ka ?_ _)); refine kp (cs := #[.string t309, .slice none 0 0]) ?_ 1 _ rfl; (with_reducible repeat (first | refine kn ?_ _ | refine ke ?_ | refine ka ?_ _)); refine kp (cs := #[.string (⟨#[]⟩ : ByteArray), .slice none 0 0]) ?_ 0 _ rfl; (with_reducible repeat (first | refine kn ?_ _ | refine ke ?_ | refine ka ?_ _)); exact BK313.out⟩
   have n5_ : Aside0 (Below w.heap.size w ((w83.setCell ⟨gb313, 0, none⟩ (.string t309)).setCell ⟨gb313, 1, none⟩ (.slice Ao87 t310.length co87))) := ⟨by repeat (first | (with_reducible first | exact HB.out | apply ba | apply bn | apply be | refine bs ?_ GE297.out | refine bs ?_ GE298.out | refine bs ?_ GE313.out) | exact HB.out)⟩
   (try clear HO307)
   (try clear HO312)
   (try clear BK297)
   (try clear BK298)
   (try clear BK313)
   (try clear HB)
   generalize ((w83.setCell ⟨gb313, 0, none⟩ (.string t309)).setCell ⟨gb313, 1, none⟩ (.slice Ao87 t310.length co87)) = w88 at n0_ n1_ n2_ n3_ n4_ n5_ ⊢
   have HO307 := n0_
   have HO312 := n1_
   have BK297 := n2_
   have BK298 := n3_
   have BK313 := n4_
   have HB := n5_
   clear n0_ n1_ n2_ n3_ n4_ n5_
   have n0_ := Am (re HO307.out)
   have n1_ := Am (re HO312.out)
   have n2_ := Am (ke BK297.out)
   have n3_ := Am (ke BK298.out)
   have n4_ := Am (ke BK313.out)
   have n5_ := Am (be HB.out)
   clear HO307
   clear HO312
   clear BK297
   clear BK298
   clear BK313
   clear HB
   have HO307 := n0_
   have HO312 := n1_
   have BK297 := n2_
   have BK298 := n3_
   have BK313 := n4_
   have HB := n5_
   clear n0_ n1_ n2_ n3_ n4_ n5_
   refine start_ (n := 6) (S := fun w' => w'.cell? ⟨gb297, 0, none⟩ = some (.int .i64 a0_0) ∧ w'.cell? ⟨gb297, 1, none⟩ = some (.int .i64 a0_1) ∧ w'.cell? ⟨gb297, 2, none⟩ = some (.int .i64 a0_2) ∧ w'.cell? ⟨gb297, 3, none⟩ = some (.int .i64 a0_3) ∧ w'.cell? ⟨gb313, 0, none⟩ = some (.string t309) ∧ w'.cell? ⟨gb313, 1, none⟩ = some (.slice Ao87 t310.length co87)) (ds := []) #[false, false, false, false, false, false] (by kernel_rfl) rfl rfl ⟨(kc BK297.out 0).trans rfl, (kc BK297.out 1).trans rfl, (kc BK297.out 2).trans rfl, (kc BK297.out 3).trans rfl, (kc BK313.out 0).trans rfl, (kc BK313.out 1).trans rfl⟩ (fun hHeld => ?_)
   generalize w88.drew = w89 at HO307 HO312 BK297 BK298 BK313 HB hHeld ⊢
   refine yA 2 (some 26) rfl rfl ?_
   refine yT 0 (some 24) rfl rfl hHeld ?_
   refine yT 3 (some 27) rfl rfl hHeld ?_
   refine yO 1 (some 25) rfl rfl (fun K hK => ?_)
   refine goes_ Try.func12 (by kernel_rfl) rfl #[.agg #[.int .i64 a0_0, .int .i64 a0_1, .int .i64 a0_2, .int .i64 a0_3]] (by rfl) rfl rfl (by (try simp only [List.map_toArray, List.map_cons, List.map_nil]); first | done | rfl | (simp only [List.length_drop, List.length_take]; rfl)) ?_
   with_reducible refine (laws_toGeo.calls a0_0 a0_1 a0_2 a0_3 t314 t315 t316 t317 _ A15.out).mono ?_
   rintro e w90 ⟨rfl, hb⟩
   refine ⟨_, rfl, ?_⟩
   have n0_ := Am (rb (by (with_reducible repeat (first | apply ra | apply rn | apply re)); exact HO307.out) hb)
   have n1_ := Am (rb (by (with_reducible repeat (first | apply ra | apply rn | apply re)); exact HO312.out) hb)
   have n2_ := Am (kb (g := gb297) (o := o13b0 a0_0 a0_1 a0_2 a0_3) (by (with_reducible repeat (first | refine kn ?_ _ | refine ke ?_ | refine ka ?_ _)); exact BK297.out) hb)
   have n3_ := Am (kb (g := gb298) (o := o13b1 a2_0 A2_1 l2_1.length c2_1) (by (with_reducible repeat (first | refine kn ?_ _ | refine ke ?_ | refine ka ?_ _)); exact BK298.out) hb)
   have n4_ := Am (kb (g := gb313) (o := .cells #[.string t309, .slice Ao87 t310.length co87] 33 (0, 0)) (by (with_reducible repeat (first | refine kn ?_ _ | refine ke ?_ | refine ka ?_ _)); exact BK313.out) hb)
   have n5_ := Am (bq (by repeat (first | (with_reducible first | exact HB.out | apply ba | apply bn | apply be | refine bs ?_ GE297.out | refine bs ?_ GE298.out | refine bs ?_ GE313.out) | exact HB.out)) hb)
   clear HO307
   clear HO312
   clear BK297
   clear BK298
   clear BK313
   clear HB
   have HO307 := n0_
   have HO312 := n1_
   have BK297 := n2_
   have BK298 := n3_
   have BK313 := n4_
   have HB := n5_
   clear n0_ n1_ n2_ n3_ n4_ n5_
   (try clear hb)
   (try clear hb2)
   (try clear hk)
   (try clear hi)
   refine hK.out _ _ ⟨(kc BK297.out 0).trans rfl, (kc BK297.out 1).trans rfl, (kc BK297.out 2).trans rfl, (kc BK297.out 3).trans rfl, (kc BK313.out 0).trans rfl, (kc BK313.out 1).trans rfl⟩ (fun hHeld => ?_)
   clear hK K
   refine zN (some 25) ?_
   refine yO 4 (some 28) rfl rfl (fun K hK => ?_)
   refine goes_ Try.func14 (by kernel_rfl) rfl #[.agg #[.int .i64 t314, .int .i64 t315, .int .i64 t316, .int .i64 t317], .int .i64 a1, .agg #[.string t309, .slice Ao87 t310.length co87]] (by rfl) rfl rfl (by (try simp only [List.map_toArray, List.map_cons, List.map_nil]); first | done | rfl | (simp only [List.length_drop, List.length_take]; rfl)) ?_
   with_reducible refine (impl_MaskedWord.calls k t314 t315 t316 t317 a1 t309 _ _ t310 t318 _ ?side1 ?side2 A16.out).mono ?_
   (case side1 => repeat (first | exact (Kd.R_reads' HO312.out).2.2 | (with_reducible first | refine ca ?_ _ | refine cn ?_ _ | refine ce ?_)))
   (case side2 => exact (Kd.R_reads' HO312.out).2.1)
   rintro e w91 ⟨rfl, hb⟩
   refine ⟨_, rfl, ?_⟩
   have n0_ := Am (rb (by (with_reducible repeat (first | apply ra | apply rn | apply re)); exact HO307.out) hb)
   have n1_ := Am (rb (by (with_reducible repeat (first | apply ra | apply rn | apply re)); exact HO312.out) hb)
   have n2_ := Am (kb (g := gb297) (o := o13b0 a0_0 a0_1 a0_2 a0_3) (by (with_reducible repeat (first | refine kn ?_ _ | refine ke ?_ | refine ka ?_ _)); exact BK297.out) hb)
   have n3_ := Am (kb (g := gb298) (o := o13b1 a2_0 A2_1 l2_1.length c2_1) (by (with_reducible repeat (first | refine kn ?_ _ | refine ke ?_ | refine ka ?_ _)); exact BK298.out) hb)
   have n4_ := Am (kb (g := gb313) (o := .cells #[.string t309, .slice Ao87 t310.length co87] 33 (0, 0)) (by (with_reducible repeat (first | refine kn ?_ _ | refine ke ?_ | refine ka ?_ _)); exact BK313.out) hb)
   have n5_ := Am (bq (by repeat (first | (with_reducible first | exact HB.out | apply ba | apply bn | apply be | refine bs ?_ GE297.out | refine bs ?_ GE298.out | refine bs ?_ GE313.out) | exact HB.out)) hb)
   clear HO307
   clear HO312
   clear BK297
   clear BK298
   clear BK313
   clear HB
   have HO307 := n0_
   have HO312 := n1_
   have BK297 := n2_
   have BK298 := n3_
   have BK313 := n4_
   have HB := n5_
   clear n0_ n1_ n2_ n3_ n4_ n5_
   (try clear hb)
   (try clear hb2)
   (try clear hk)
   (try clear hi)
   refine hK.out _ _ ⟨(kc BK297.out 0).trans rfl, (kc BK297.out 1).trans rfl, (kc BK297.out 2).trans rfl, (kc BK297.out 3).trans rfl, (kc BK313.out 0).trans rfl, (kc BK313.out 1).trans rfl⟩ (fun hHeld => ?_)
   clear hK K
   refine zN (some 28) ?_
   refine yA 5 (some 10) rfl rfl ?_
   refine done_ (by kernel_rfl) ?_
   try go_wp2
   go_ret
   exact ⟨by first | rfl | (simp [errW_none, errW_some] <;> rfl) | (simp [*, errW_none, errW_some] <;> rfl), by repeat (first | (with_reducible first | exact HB.out | apply ba | apply bn | apply be | refine bs ?_ GE297.out | refine bs ?_ GE298.out | refine bs ?_ GE313.out) | exact HB.out)⟩

end Go.Proofs.Ytconffflmbakgaa.QFnExactMaskedWord
