/- Go functions as Lean functions, and their contracts. Own text: written by wip/gen/pr.py (a turned copy of the print). -/
import Derived.Test.YtconffflmbakgaaQFnExactMaskedImagex0
import Derived.Test.YtconffflmbakgaaQFnExactMaskedImagex1
import Derived.Test.YtconffflmbakgaaQFnExactMaskedImagex2
import Derived.Test.YtconffflmbakgaaQFnExactMaskedImagex6
import Derived.Test.YtconffflmbakgaaQFnExactMaskedImagex12
namespace Go.Proofs.Ytconffflmbakgaa.QFnExactMaskedImage
open Go.RowKit Go.Proofs.YtconffflmbakgaaW.PrintWords Go.Proofs.YtconffflmbakgaaW.PrintLast Go.Proofs.YtconffflmbakgaaW.PrintMore
attribute [local go_sem] max2_int min2_int max_two min_two max_three min_three max_four min_four   -- for this text's walks alone
open Go.Proofs.YtconffflmbakgaaW.PrintWords renaming below_alloc → ba, pw_below_drewN → bn, below_drew1 → be, below_set → bs, blk_drewN → kn, blk_drew → ke, blk_alloc → ka, blk_below → kb, blk_frozen → kf, blk_cell → kc, below_step → bq, below_size → bz, blk_lt → kl, blk_put → kp
open Go.Proofs.YtconffflmbakgaaW.PrintWords.Kd renaming R_alloc → ra, R_drewN → rn, R_drew → re, C_alloc → ca, C_drewN → cn, C_drew → ce, R_below → rb, C_below → cb
open Go.Proofs.YtconffflmbakgaaW.PrintWords.Aside0 renaming mk → Am
set_option linter.unusedVariables false
set_option linter.unusedSimpArgs false

def o13b0 (p0 : ByteArray) (p1 : Option Addr) (p2 p3 : Nat) : Obj := .cells #[.string p0, .slice p1 p2 p3] 26 (0, 0)
def o13b1 (p0 : Int) (p1 : Int) (p2 : Int) (p3 : Int) : Obj := .cells #[.int .i64 p0, .int .i64 p1, .int .i64 p2, .int .i64 p3] 23 (0, 0)
def o13b2 (p0 : ByteArray) (p1 : Option Addr) (p2 p3 : Nat) : Obj := .cells #[.string p0, .slice p1 p2 p3] 33 (0, 0)
def o13b3 (p0 : ByteArray) (p1 : Option Addr) (p2 p3 : Nat) : Obj := .cells #[.string p0, .slice p1 p2 p3] 33 (0, 0)
/-! ### laws_FnExactMaskedImage: function 9 -/
def laws_FnExactMaskedImage.f (k : Nat) (a0_0 : ByteArray) (l0_1 : List (S149)) (a1_0 : Int) (a1_1 : Int) (a1_2 : Int) (a1_3 : Int) : Option (Bool) := (laws_szMemory.f k a0_0 l0_1 1048576).bind fun t309 => (if t309 < 0 then (some true) else ((laws_toMemory.f k a0_0 l0_1).bind fun bt310 => ((laws_toGeo.f a1_0 a1_1 a1_2 a1_3).bind fun bt314 => ((spec_MaskedImage.f k bt310.1 bt310.2 bt314.1 bt314.2.1 bt314.2.2.1 bt314.2.2.2).bind fun t318 => ((laws_toMemory.f k a0_0 l0_1).bind fun bt319 => ((laws_toGeo.f a1_0 a1_1 a1_2 a1_3).bind fun bt324 => ((impl_MaskedImage.f k bt319.1 bt319.2 bt324.1 bt324.2.1 bt324.2.2.1 bt324.2.2.2).bind fun t328 => (if t328.toList = t318.toList then ((laws_toMemory.f k a0_0 l0_1).bind fun bt329 => ((laws_eqMemory.f k bt319.1 bt319.2 bt329.1 bt329.2).bind fun t333 => (if t333 = true then (some true) else (some false)))) else (some false)))))))))
theorem laws_FnExactMaskedImage.mono : ∀ a0 a1 a2 a3 a4 a5 k, LeO (laws_FnExactMaskedImage.f k a0 a1 a2 a3 a4 a5) (laws_FnExactMaskedImage.f (k + 1) a0 a1 a2 a3 a4 a5) := by
 intro a0 a1 a2 a3 a4 a5 k
 unfold laws_FnExactMaskedImage.f
 repeat' first
   | (with_reducible exact impl_MaskedImage.mono _ _ _ _ _ _ _)
   | (with_reducible exact laws_eqMemory.mono _ _ _ _ _)
   | (with_reducible exact laws_szMemory.mono _ _ _ _)
   | (with_reducible exact laws_toMemory.mono _ _ _)
   | (with_reducible exact spec_MaskedImage.mono _ _ _ _ _ _ _)
   | (with_reducible exact LeO.refl _)
   | (with_reducible exact LeO.none _)
   | (with_reducible refine LeO.ite ?_ ?_)
   | (with_reducible refine LeO.bind ?_ (fun _ => ?_))
   | exact impl_MaskedImage.mono _ _ _ _ _ _ _
   | exact laws_eqMemory.mono _ _ _ _ _
   | exact laws_szMemory.mono _ _ _ _
   | exact laws_toMemory.mono _ _ _
   | exact spec_MaskedImage.mono _ _ _ _ _ _ _
   | exact LeO.none _
   | refine LeO.ite ?_ ?_
   | refine LeO.bind ?_ (fun _ => ?_)
set_option maxHeartbeats 8000000 in
set_option maxRecDepth 100000 in
theorem laws_FnExactMaskedImage.calls (k : Nat) (a0_0 : ByteArray) (A0_1 : Option Addr) (c0_1 : Nat) (l0_1 : List (S149)) (a1_0 : Int) (a1_1 : Int) (a1_2 : Int) (a1_3 : Int) (r : Bool) (w : World) (hr0_1 : Kd.C k149 w A0_1 l0_1.length l0_1) (hc0_1 : l0_1.length ≤ c0_1) (h : laws_FnExactMaskedImage.f k a0_0 l0_1 a1_0 a1_1 a1_2 a1_3 = some r) :
  Calls Try.prog 9 #[.agg #[.string a0_0, .slice A0_1 l0_1.length c0_1], .agg #[.int .i64 a1_0, .int .i64 a1_1, .int .i64 a1_2, .int .i64 a1_3]] w fun e w' => e = .returned (.bool r) ∧ Below w.heap.size w w' := by
 have hu26 := Try.underlying26
 have hu23 := Try.underlying23
 have hu33 := Try.underlying33
 have HR0_1 := Am hr0_1
 have HC0_1 := Am hc0_1
 clear hr0_1 hc0_1
 have HB := Am (Below.refl w.heap.size w)
 have H : ((laws_szMemory.f k a0_0 l0_1 1048576).bind fun t309 => (if t309 < 0 then (some true) else ((laws_toMemory.f k a0_0 l0_1).bind fun bt310 => ((laws_toGeo.f a1_0 a1_1 a1_2 a1_3).bind fun bt314 => ((spec_MaskedImage.f k bt310.1 bt310.2 bt314.1 bt314.2.1 bt314.2.2.1 bt314.2.2.2).bind fun t318 => ((laws_toMemory.f k a0_0 l0_1).bind fun bt319 => ((laws_toGeo.f a1_0 a1_1 a1_2 a1_3).bind fun bt324 => ((impl_MaskedImage.f k bt319.1 bt319.2 bt324.1 bt324.2.1 bt324.2.2.1 bt324.2.2.2).bind fun t328 => (if t328.toList = t318.toList then ((laws_toMemory.f k a0_0 l0_1).bind fun bt329 => ((laws_eqMemory.f k bt319.1 bt319.2 bt329.1 bt329.2).bind fun t333 => (if t333 = true then (some true) else (some false)))) else (some false)))))))))) = some r := h
 clear h
 replace H := Option.bind_eq_some_iff.mp H
 obtain ⟨t309, A30, H⟩ := H
 replace H : (if t309 < 0 then (some true) else ((laws_toMemory.f k a0_0 l0_1).bind fun bt310 => ((laws_toGeo.f a1_0 a1_1 a1_2 a1_3).bind fun bt314 => ((spec_MaskedImage.f k bt310.1 bt310.2 bt314.1 bt314.2.1 bt314.2.2.1 bt314.2.2.2).bind fun t318 => ((laws_toMemory.f k a0_0 l0_1).bind fun bt319 => ((laws_toGeo.f a1_0 a1_1 a1_2 a1_3).bind fun bt324 => ((impl_MaskedImage.f k bt319.1 bt319.2 bt324.1 bt324.2.1 bt324.2.2.1 bt324.2.2.2).bind fun t328 => (if t328.toList = t318.toList then ((laws_toMemory.f k a0_0 l0_1).bind fun bt329 => ((laws_eqMemory.f k bt319.1 bt319.2 bt329.1 bt329.2).bind fun t333 => (if t333 = true then (some true) else (some false)))) else (some false))))))))) = some r := H
 have A3 := Am A30
 clear A30
 by_cases c4 : t309 < 0
 ·rw [if_pos c4] at H
  have c4b0 : decide (t309 < 0) = true := decide_eq_true c4
  clear c4
  obtain rfl := Option.some.inj H
  go_enter Try.func9, Try.ntmps9
  go_wp2_with (first | ((with_reducible refine gate_dst (N := 2) rfl ?_); refine box_event ?hg (N := 2) ?hd (cs := #[.string a0_0, .slice A0_1 l0_1.length c0_1]) (t := 26) ?hr ?_; (case hd => rfl); (case hg => rfl); (case hr => first | (go_simp; done) | (go_simp; rfl)); intro gb307 hg w5 hbox hb; have BK307 := Am (hbox); have GW307 := Am ((by rw [hg]; exact (bz zB) : w.heap.size ≤ gb307)); have GE307 := Am ((by rw [hg]; exact (bz zB) : w.heap.size ≤ gb307)); replace HB := Am (bq zB hb); clear hb hbox hg) | ((with_reducible refine gate_dst (N := 3) rfl ?_); refine box_event ?hg (N := 3) ?hd (cs := #[.int .i64 a1_0, .int .i64 a1_1, .int .i64 a1_2, .int .i64 a1_3]) (t := 23) ?hr ?_; (case hd => rfl); (case hg => rfl); (case hr => first | (go_simp; done) | (go_simp; rfl)); intro gb308 hg w6 hbox hb; have n0_ := Am (zK BK307 hb); have n1_ := Am (bq zG hb); have n2_ := Am (hbox); have n3_ := Am ((by rw [hg]; exact (bz zG) : w.heap.size ≤ gb308)); have n4_ := Am ((by rw [hg]; exact (bz zG) : w.heap.size ≤ gb308)); have n5_ := Am ((by rw [hg]; exact Nat.ne_of_lt (zL BK307) : gb307 ≠ gb308)); have n6_ := Am ((by rw [hg]; exact Nat.ne_of_gt (zL BK307) : gb308 ≠ gb307)); clear BK307; clear HB; have BK307 := n0_; have HB := n1_; have BK308 := n2_; have GW308 := n3_; have GE308 := n4_; have NB307_308 := n5_; have NB308_307 := n6_; clear n0_ n1_ n2_ n3_ n4_ n5_ n6_; clear hb hbox hg; have hnb7 := NB307_308.out; have hnc7 := NB308_307.out; obtain ⟨hcz8_0, hcz8_1⟩ := kc2 (w := w6) BK307.out; have hfz8_0 := kf BK307.out) | ((with_reducible refine gate_callee (f := 10) rfl ?_); refine zC (some 11) rfl rfl Try.func10 rfl #[.agg #[.string a0_0, .slice A0_1 l0_1.length c0_1], .int .i64 1048576] rfl ?_; (with_reducible refine (laws_szMemory.calls k a0_0 _ _ l0_1 1048576 t309 _ ?side1 ?side2 A3.out).mono ?_); (case side1 => repeat (first | exact (cb HR0_1.out HB.out) | (with_reducible first | refine ca ?_ _ | refine cn ?_ _ | refine ce ?_))); (case side2 => exact HC0_1.out); rintro e w9 ⟨rfl, hb⟩; refine ⟨_, rfl, ?_⟩; have n0_ := Am (zK BK307 hb); have n1_ := Am (zK BK308 hb); have n2_ := Am (bq zG hb); clear BK307; clear BK308; clear HB; have BK307 := n0_; have BK308 := n1_; have HB := n2_; clear n0_ n1_ n2_; (try clear hb)))
  go_ret
  exact ⟨zR, zG⟩
 ·rw [if_neg c4] at H
  have c4b0 : decide (t309 < 0) = false := decide_eq_false c4
  clear c4
  replace H := Option.bind_eq_some_iff.mp H
  obtain ⟨⟨t310, t311⟩, A100, H⟩ := H
  replace H : ((laws_toGeo.f a1_0 a1_1 a1_2 a1_3).bind fun bt314 => ((spec_MaskedImage.f k t310 t311 bt314.1 bt314.2.1 bt314.2.2.1 bt314.2.2.2).bind fun t318 => ((laws_toMemory.f k a0_0 l0_1).bind fun bt319 => ((laws_toGeo.f a1_0 a1_1 a1_2 a1_3).bind fun bt324 => ((impl_MaskedImage.f k bt319.1 bt319.2 bt324.1 bt324.2.1 bt324.2.2.1 bt324.2.2.2).bind fun t328 => (if t328.toList = t318.toList then ((laws_toMemory.f k a0_0 l0_1).bind fun bt329 => ((laws_eqMemory.f k bt319.1 bt319.2 bt329.1 bt329.2).bind fun t333 => (if t333 = true then (some true) else (some false)))) else (some false))))))) = some r := H
  have A10 := Am A100
  clear A100
  replace H := Option.bind_eq_some_iff.mp H
  obtain ⟨⟨t314, t315, t316, t317⟩, A110, H⟩ := H
  replace H : ((spec_MaskedImage.f k t310 t311 t314 t315 t316 t317).bind fun t318 => ((laws_toMemory.f k a0_0 l0_1).bind fun bt319 => ((laws_toGeo.f a1_0 a1_1 a1_2 a1_3).bind fun bt324 => ((impl_MaskedImage.f k bt319.1 bt319.2 bt324.1 bt324.2.1 bt324.2.2.1 bt324.2.2.2).bind fun t328 => (if t328.toList = t318.toList then ((laws_toMemory.f k a0_0 l0_1).bind fun bt329 => ((laws_eqMemory.f k bt319.1 bt319.2 bt329.1 bt329.2).bind fun t333 => (if t333 = true then (some true) else (some false)))) else (some false)))))) = some r := H
  have A11 := Am A110
  clear A110
  replace H := Option.bind_eq_some_iff.mp H
  obtain ⟨t318, A120, H⟩ := H
  replace H : ((laws_toMemory.f k a0_0 l0_1).bind fun bt319 => ((laws_toGeo.f a1_0 a1_1 a1_2 a1_3).bind fun bt324 => ((impl_MaskedImage.f k bt319.1 bt319.2 bt324.1 bt324.2.1 bt324.2.2.1 bt324.2.2.2).bind fun t328 => (if t328.toList = t318.toList then ((laws_toMemory.f k a0_0 l0_1).bind fun bt329 => ((laws_eqMemory.f k bt319.1 bt319.2 bt329.1 bt329.2).bind fun t333 => (if t333 = true then (some true) else (some false)))) else (some false))))) = some r := H
  have A12 := Am A120
  clear A120
  replace H := Option.bind_eq_some_iff.mp H
  obtain ⟨⟨t319, t320⟩, A130, H⟩ := H
  replace H : ((laws_toGeo.f a1_0 a1_1 a1_2 a1_3).bind fun bt324 => ((impl_MaskedImage.f k t319 t320 bt324.1 bt324.2.1 bt324.2.2.1 bt324.2.2.2).bind fun t328 => (if t328.toList = t318.toList then ((laws_toMemory.f k a0_0 l0_1).bind fun bt329 => ((laws_eqMemory.f k t319 t320 bt329.1 bt329.2).bind fun t333 => (if t333 = true then (some true) else (some false)))) else (some false)))) = some r := H
  have A13 := Am A130
  clear A130
  replace H := Option.bind_eq_some_iff.mp H
  obtain ⟨⟨t324, t325, t326, t327⟩, A140, H⟩ := H
  replace H : ((impl_MaskedImage.f k t319 t320 t324 t325 t326 t327).bind fun t328 => (if t328.toList = t318.toList then ((laws_toMemory.f k a0_0 l0_1).bind fun bt329 => ((laws_eqMemory.f k t319 t320 bt329.1 bt329.2).bind fun t333 => (if t333 = true then (some true) else (some false)))) else (some false))) = some r := H
  have A14 := Am A140
  clear A140
  replace H := Option.bind_eq_some_iff.mp H
  obtain ⟨t328, A150, H⟩ := H
  replace H : (if t328.toList = t318.toList then ((laws_toMemory.f k a0_0 l0_1).bind fun bt329 => ((laws_eqMemory.f k t319 t320 bt329.1 bt329.2).bind fun t333 => (if t333 = true then (some true) else (some false)))) else (some false)) = some r := H
  have A15 := Am A150
  clear A150
  by_cases c16 : t328.toList = t318.toList
  ·rw [if_pos c16] at H
   have c16b0 : (t328.toList == t318.toList) = true := beq_iff_eq.mpr c16
   have c16b1 : (t328.toList != t318.toList) = false := bne_eq_false_iff_eq.mpr c16
   clear c16
   replace H := Option.bind_eq_some_iff.mp H
   obtain ⟨⟨t329, t330⟩, A170, H⟩ := H
   replace H : ((laws_eqMemory.f k t319 t320 t329 t330).bind fun t333 => (if t333 = true then (some true) else (some false))) = some r := H
   have A17 := Am A170
   clear A170
   replace H := Option.bind_eq_some_iff.mp H
   obtain ⟨t333, A180, H⟩ := H
   replace H : (if t333 = true then (some true) else (some false)) = some r := H
   have A18 := Am A180
   clear A180
   by_cases c19 : t333 = true
   ·subst c19
    have H1 : (some true) = some r := by rw [if_pos rfl] at H; exact H
    clear H
    have H := H1
    clear H1
    obtain rfl := Option.some.inj H
    go_enter Try.func9, Try.ntmps9
    try go_wp2_with (first | ((with_reducible refine gate_dst (N := 2) rfl ?_); refine box_event ?hg (N := 2) ?hd (cs := #[.string a0_0, .slice A0_1 l0_1.length c0_1]) (t := 26) ?hr ?_; (case hd => rfl); (case hg => rfl); (case hr => first | (go_simp; done) | (go_simp; rfl)); intro gb307 hg w20 hbox hb; have BK307 := Am (hbox); have GW307 := Am ((by rw [hg]; exact (bz zB) : w.heap.size ≤ gb307)); have GE307 := Am ((by rw [hg]; exact (bz zB) : w.heap.size ≤ gb307)); replace HB := Am (bq zB hb); clear hb hbox hg) | ((with_reducible refine gate_dst (N := 3) rfl ?_); refine box_event ?hg (N := 3) ?hd (cs := #[.int .i64 a1_0, .int .i64 a1_1, .int .i64 a1_2, .int .i64 a1_3]) (t := 23) ?hr ?_; (case hd => rfl); (case hg => rfl); (case hr => first | (go_simp; done) | (go_simp; rfl)); intro gb308 hg w21 hbox hb; have n0_ := Am (zK BK307 hb); have n1_ := Am (bq zG hb); have n2_ := Am (hbox); have n3_ := Am ((by rw [hg]; exact (bz zG) : w.heap.size ≤ gb308)); have n4_ := Am ((by rw [hg]; exact (bz zG) : w.heap.size ≤ gb308)); have n5_ := Am ((by rw [hg]; exact Nat.ne_of_lt (zL BK307) : gb307 ≠ gb308)); have n6_ := Am ((by rw [hg]; exact Nat.ne_of_gt (zL BK307) : gb308 ≠ gb307)); clear BK307; clear HB; have BK307 := n0_; have HB := n1_; have BK308 := n2_; have GW308 := n3_; have GE308 := n4_; have NB307_308 := n5_; have NB308_307 := n6_; clear n0_ n1_ n2_ n3_ n4_ n5_ n6_; clear hb hbox hg; have hnb22 := NB307_308.out; have hnc22 := NB308_307.out; obtain ⟨hcz23_0, hcz23_1⟩ := kc2 (w := w21) BK307.out; have hfz23_0 := kf BK307.out) | ((with_reducible refine gate_callee (f := 10) rfl ?_); refine zC (some 11) rfl rfl Try.func10 rfl #[.agg #[.string a0_0, .slice A0_1 l0_1.length c0_1], .int .i64 1048576] rfl ?_; (with_reducible refine (laws_szMemory.calls k a0_0 _ _ l0_1 1048576 t309 _ ?side1 ?side2 A3.out).mono ?_); (case side1 => repeat (first | exact (cb HR0_1.out HB.out) | (with_reducible first | refine ca ?_ _ | refine cn ?_ _ | refine ce ?_))); (case side2 => exact HC0_1.out); rintro e w24 ⟨rfl, hb⟩; refine ⟨_, rfl, ?_⟩; have n0_ := Am (zK BK307 hb); have n1_ := Am (zK BK308 hb); have n2_ := Am (bq zG hb); clear BK307; clear BK308; clear HB; have BK307 := n0_; have BK308 := n1_; have HB := n2_; clear n0_ n1_ n2_; (try clear hb)))
    have n0_ := Am (ke BK307.out)
    have n1_ := Am (ke BK308.out)
    have n2_ := Am (be HB.out)
    clear BK307
    clear BK308
    clear HB
    have BK307 := n0_
    have BK308 := n1_
    have HB := n2_
    clear n0_ n1_ n2_
    refine start_ (n := 6) (S := fun w' => w'.cell? ⟨gb307, 0, none⟩ = some (.string a0_0) ∧ w'.cell? ⟨gb307, 1, none⟩ = some (.slice A0_1 l0_1.length c0_1) ∧ w'.cell? ⟨gb308, 0, none⟩ = some (.int .i64 a1_0) ∧ w'.cell? ⟨gb308, 1, none⟩ = some (.int .i64 a1_1) ∧ w'.cell? ⟨gb308, 2, none⟩ = some (.int .i64 a1_2) ∧ w'.cell? ⟨gb308, 3, none⟩ = some (.int .i64 a1_3)) (ds := []) #[false, false, false, false, false, false] (by kernel_rfl) rfl rfl ⟨(kc BK307.out 0).trans rfl, (kc BK307.out 1).trans rfl, (kc BK308.out 0).trans rfl, (kc BK308.out 1).trans rfl, (kc BK308.out 2).trans rfl, (kc BK308.out 3).trans rfl⟩ (fun hHeld => ?_)
    generalize w24.drew = w25 at BK307 BK308 HB hHeld ⊢
    refine yT 0 (some 14) rfl rfl hHeld ?_
    refine yT 2 (some 16) rfl rfl hHeld ?_
    refine yO 1 (some 15) rfl rfl (fun K hK => ?_)
    refine goes_ Try.func13 (by kernel_rfl) rfl #[.agg #[.string a0_0, .slice A0_1 l0_1.length c0_1]] (by rfl) rfl rfl (by (try simp only [List.map_toArray, List.map_cons, List.map_nil]); first | done | rfl | (simp only [List.length_drop, List.length_take]; rfl)) ?_
    with_reducible refine (laws_toMemory.calls k a0_0 _ _ l0_1 t310 t311 _ ?side1 ?side2 A10.out).mono ?_
    (case side1 => repeat (first | exact (cb HR0_1.out HB.out) | (with_reducible first | refine ca ?_ _ | refine cn ?_ _ | refine ce ?_)))
    (case side2 => exact HC0_1.out)
    rintro e w26 ⟨v312, rfl, ho0, hb⟩
    refine ⟨_, rfl, ?_⟩
    have n0_ := Am (Kd.R_lower ho0 (bz zG))
    have n1_ := Am (zK BK307 hb)
    have n2_ := Am (zK BK308 hb)
    have n3_ := Am (bq zG hb)
    clear BK307
    clear BK308
    clear HB
    have HO313 := n0_
    have BK307 := n1_
    have BK308 := n2_
    have HB := n3_
    clear n0_ n1_ n2_ n3_
    (try clear hb)
    (try clear hb2)
    (try clear hk)
    (try clear hi)
    (try clear ho0)
    refine hK.out _ _ ⟨(kc BK307.out 0).trans rfl, (kc BK307.out 1).trans rfl, (kc BK308.out 0).trans rfl, (kc BK308.out 1).trans rfl, (kc BK308.out 2).trans rfl, (kc BK308.out 3).trans rfl⟩ (fun hHeld => ?_)
    clear hK K
    refine zN (some 15) ?_
    refine yO 3 (some 17) rfl rfl (fun K hK => ?_)
    refine goes_ Try.func12 (by kernel_rfl) rfl #[.agg #[.int .i64 a1_0, .int .i64 a1_1, .int .i64 a1_2, .int .i64 a1_3]] (by rfl) rfl rfl (by (try simp only [List.map_toArray, List.map_cons, List.map_nil]); first | done | rfl | (simp only [List.length_drop, List.length_take]; rfl)) ?_
    with_reducible refine (laws_toGeo.calls a1_0 a1_1 a1_2 a1_3 t314 t315 t316 t317 _ A11.out).mono ?_
    rintro e w27 ⟨rfl, hb⟩
    refine ⟨_, rfl, ?_⟩
    have n0_ := Am (rb (by (with_reducible repeat (first | apply ra | apply rn | apply re)); exact HO313.out) hb)
    have n1_ := Am (zK BK307 hb)
    have n2_ := Am (zK BK308 hb)
    have n3_ := Am (bq zG hb)
    clear HO313
    clear BK307
    clear BK308
    clear HB
    have HO313 := n0_
    have BK307 := n1_
    have BK308 := n2_
    have HB := n3_
    clear n0_ n1_ n2_ n3_
    (try clear hb)
    (try clear hb2)
    (try clear hk)
    (try clear hi)
    obtain ⟨Ao28, co28, eo28⟩ := Kd.R_slice HO313.out
    (first | subst eo28 | (injection eo28 with f1_ f2_ f3_; have f4_ := f1_.symm; have f5_ := f3_.symm; clear f1_ f2_ f3_; subst f4_; subst f5_))
    refine hK.out _ _ ⟨(kc BK307.out 0).trans rfl, (kc BK307.out 1).trans rfl, (kc BK308.out 0).trans rfl, (kc BK308.out 1).trans rfl, (kc BK308.out 2).trans rfl, (kc BK308.out 3).trans rfl⟩ (fun hHeld => ?_)
    clear hK K
    refine zN (some 17) ?_
    refine yO 4 (some 18) rfl rfl (fun K hK => ?_)
    refine goes_ Try.func42 (by kernel_rfl) rfl #[.agg #[.string t310, .slice Ao28 t311.length co28], .agg #[.int .i64 t314, .int .i64 t315, .int .i64 t316, .int .i64 t317]] (by rfl) rfl rfl (by (try simp only [List.map_toArray, List.map_cons, List.map_nil]); first | done | rfl | (simp only [List.length_drop, List.length_take]; rfl)) ?_
    with_reducible refine (spec_MaskedImage.calls k t310 _ _ t311 t314 t315 t316 t317 t318 _ ?side1 ?side2 A12.out).mono ?_
    (case side1 => repeat (first | exact (Kd.R_reads' HO313.out).2.2 | (with_reducible first | refine ca ?_ _ | refine cn ?_ _ | refine ce ?_)))
    (case side2 => exact (Kd.R_reads' HO313.out).2.1)
    rintro e w29 ⟨rfl, hb⟩
    refine ⟨_, rfl, ?_⟩
    have n0_ := Am (rb (by (with_reducible repeat (first | apply ra | apply rn | apply re)); exact HO313.out) hb)
    have n1_ := Am (zK BK307 hb)
    have n2_ := Am (zK BK308 hb)
    have n3_ := Am (bq zG hb)
    clear HO313
    clear BK307
    clear BK308
    clear HB
    have HO313 := n0_
    have BK307 := n1_
    have BK308 := n2_
    have HB := n3_
    clear n0_ n1_ n2_ n3_
    (try clear hb)
    (try clear hb2)
    (try clear hk)
    (try clear hi)
    refine hK.out _ _ ⟨(kc BK307.out 0).trans rfl, (kc BK307.out 1).trans rfl, (kc BK308.out 0).trans rfl, (kc BK308.out 1).trans rfl, (kc BK308.out 2).trans rfl, (kc BK308.out 3).trans rfl⟩ (fun hHeld => ?_)
    clear hK K
    refine zN (some 18) ?_
    refine yA 5 (some 6) rfl rfl ?_
    refine done_ (by kernel_rfl) ?_
    obtain ⟨hcz30_0, hcz30_1⟩ := kc2 (w := w29) BK307.out
    have hfz30_0 := kf BK307.out
    try go_wp2_with (first | ((with_reducible refine gate_callee (f := 13) rfl ?_); refine zC (some 20) rfl rfl Try.func13 rfl #[.agg #[.string a0_0, .slice A0_1 l0_1.length c0_1]] rfl ?_; (with_reducible refine (laws_toMemory.calls k a0_0 _ _ l0_1 t319 t320 _ ?side1 ?side2 A13.out).mono ?_); (case side1 => repeat (first | exact (cb HR0_1.out HB.out) | (with_reducible first | refine ca ?_ _ | refine cn ?_ _ | refine ce ?_))); (case side2 => exact HC0_1.out); rintro e w31 ⟨v321, rfl, ho0, hb⟩; refine ⟨_, rfl, ?_⟩; have n0_ := Am (Kd.R_elder' (by (with_reducible repeat (first | apply ra | apply rn | apply re)); exact HO313.out) (Kd.R_base ho0) hb); have n1_ := Am (Kd.R_lower (Kd.R_new' ho0 (Kd.R_lt (by (with_reducible repeat (first | apply ra | apply rn | apply re)); exact HO313.out))) (bz zG)); have n2_ := Am (zK BK307 hb); have n3_ := Am (zK BK308 hb); have n4_ := Am (bq zG hb); clear HO313; clear BK307; clear BK308; clear HB; have HO313 := n0_; have HO322 := n1_; have BK307 := n2_; have BK308 := n3_; have HB := n4_; clear n0_ n1_ n2_ n3_ n4_; (try clear hb ho0)) | ((with_reducible refine gate_dst (N := 7) rfl ?_); refine box_event ?hg (N := 7) ?hd (cs := #[.string (⟨#[]⟩ : ByteArray), .slice none 0 0]) (t := 33) ?hr ?_; (case hd => rfl); (case hg => rfl); (case hr => first | (go_simp; done) | (go_simp; rfl)); intro gb323 hg w32 hbox hb; have n0_ := Am (rb (by (with_reducible repeat (first | apply ra | apply rn | apply re)); exact HO313.out) hb); have n1_ := Am (rb (by (with_reducible repeat (first | apply ra | apply rn | apply re)); exact HO322.out) hb); have n2_ := Am (zK BK307 hb); have n3_ := Am (zK BK308 hb); have n4_ := Am (bq zG hb); have n5_ := Am (hbox); have n6_ := Am ((by rw [hg]; exact (bz zG) : w.heap.size ≤ gb323)); have n7_ := Am ((by rw [hg]; exact (bz zG) : w.heap.size ≤ gb323)); have n8_ := Am ((by rw [hg]; exact Nat.ne_of_lt (zL BK307) : gb307 ≠ gb323)); have n9_ := Am ((by rw [hg]; exact Nat.ne_of_gt (zL BK307) : gb323 ≠ gb307)); have n10_ := Am ((by rw [hg]; exact Nat.ne_of_lt (zL BK308) : gb308 ≠ gb323)); have n11_ := Am ((by rw [hg]; exact Nat.ne_of_gt (zL BK308) : gb323 ≠ gb308)); clear HO313; clear HO322; clear BK307; clear BK308; clear HB; have HO313 := n0_; have HO322 := n1_; have BK307 := n2_; have BK308 := n3_; have HB := n4_; have BK323 := n5_; have GW323 := n6_; have GE323 := n7_; have NB307_323 := n8_; have NB323_307 := n9_; have NB308_323 := n10_; have NB323_308 := n11_; clear n0_ n1_ n2_ n3_ n4_ n5_ n6_ n7_ n8_ n9_ n10_ n11_; clear hb hbox hg; have hnb33 := NB323_307.out; have hnc33 := NB307_323.out; have hnb34 := NB323_308.out; have hnc34 := NB308_323.out; obtain ⟨hcz35_0, hcz35_1⟩ := kc2 (w := w32) BK323.out; have hfz35_0 := kf BK323.out; obtain ⟨Ao36, co36, eo36⟩ := Kd.R_slice HO322.out; subst eo36))
    have n0_ : Aside0 (Kd.R k155 155 ((w32.setCell ⟨gb323, 0, none⟩ (.string t319)).setCell ⟨gb323, 1, none⟩ (.slice Ao36 t320.length co36)) w.heap.size (fun k_ => some k_ ≠ (.slice Ao36 t320.length co36 : Value).ownBlock) (.slice Ao28 t311.length co28) t311) := ⟨by (with_reducible repeat (first | apply ra | apply rn | apply re)); exact Kd.R_mono (Kd.R_far (p := ⟨gb323, 1, none⟩) (Kd.R_far (p := ⟨gb323, 0, none⟩) (Kd.R_types HO313.out BK323.out (by decide)) (fun _ hk => hk.2) (.string t319)) (fun _ hk => hk.2) (.slice Ao36 t320.length co36)) (fun _ hk => hk.1.2)⟩
    have n1_ : Aside0 (Kd.R k155 155 ((w32.setCell ⟨gb323, 0, none⟩ (.string t319)).setCell ⟨gb323, 1, none⟩ (.slice Ao36 t320.length co36)) w.heap.size (fun k_ => some k_ ≠ (.slice Ao28 t311.length co28 : Value).ownBlock) (.slice Ao36 t320.length co36) t320) := ⟨by (with_reducible repeat (first | apply ra | apply rn | apply re)); exact Kd.R_mono (Kd.R_far (p := ⟨gb323, 1, none⟩) (Kd.R_far (p := ⟨gb323, 0, none⟩) (Kd.R_types HO322.out BK323.out (by decide)) (fun _ hk => hk.2) (.string t319)) (fun _ hk => hk.2) (.slice Ao36 t320.length co36)) (fun _ hk => hk.1.2)⟩
    have n2_ : Aside0 (((w32.setCell ⟨gb323, 0, none⟩ (.string t319)).setCell ⟨gb323, 1, none⟩ (.slice Ao36 t320.length co36)).heap[gb307]? = some (.cells #[.string a0_0, .slice A0_1 l0_1.length c0_1] 26 (0, 0))) := ⟨by (with_reducible repeat (first | refine kn ?_ _ | refine ke ?_ | refine ka ?_ _)); refine blk_far ?_ NB307_323.out _; (with_reducible repeat (first | refine kn ?_ _ | refine ke ?_ | refine ka ?_ _)); refine blk_far ?_ NB307_323.out _; (with_reducible repeat (first | refine kn ?_ _ | refine ke ?_ | refine ka ?_ _)); exact BK307.out⟩
    have n3_ : Aside0 (((w32.setCell ⟨gb323, 0, none⟩ (.string t319)).setCell ⟨gb323, 1, none⟩ (.slice Ao36 t320.length co36)).heap[gb308]? = some (.cells #[.int .i64 a1_0, .int .i64 a1_1, .int .i64 a1_2, .int .i64 a1_3] 23 (0, 0))) := ⟨by (with_reducible repeat (first | refine kn ?_ _ | refine ke ?_ | refine ka ?_ _)); refine blk_far ?_ NB308_323.out _; (with_reducible repeat (first | refine kn ?_ _ | refine ke ?_ | refine ka ?_ _)); refine blk_far ?_ NB308_323.out _; (with_reducible repeat (first | refine kn ?_ _ | refine ke ?_ | refine ka ?_ _)); exact BK308.out⟩
    have n4_ : Aside0 (((w32.setCell ⟨gb323, 0, none⟩ (.string t319)).setCell ⟨gb323, 1, none⟩ (.slice Ao36 t320.length co36)).heap[gb323]? = some (.cells #[.string t319, .slice Ao36 t320.length co36] 33 (0, 0))) := ⟨by (with_reducible repeat (first | refine kn ?_ _ | refine ke ?_ | refine ka ?_ _)); refine kp (cs := #[.string t319, .slice none 0 0]) ?_ 1 _ rfl; (with_reducible repeat (first | refine kn ?_ _ | refine ke ?_ | refine ka ?_ _)); refine kp (cs := #[.string (⟨#[]⟩ : ByteArray), .slice none 0 0]) ?_ 0 _ rfl; (with_reducible repeat (first | refine kn ?_ _ | refine ke ?_ | refine ka ?_ _)); exact BK323.out⟩
    have n5_ : Aside0 (Below w.heap.size w ((w32.setCell ⟨gb323, 0, none⟩ (.string t319)).setCell ⟨gb323, 1, none⟩ (.slice Ao36 t320.length co36))) := ⟨zG⟩
    (try clear HO313)
    (try clear HO322)
    (try clear BK307)
    (try clear BK308)
    (try clear BK323)
    (try clear HB)
    generalize ((w32.setCell ⟨gb323, 0, none⟩ (.string t319)).setCell ⟨gb323, 1, none⟩ (.slice Ao36 t320.length co36)) = w37 at n0_ n1_ n2_ n3_ n4_ n5_ ⊢
    have HO313 := n0_
    have HO322 := n1_
    have BK307 := n2_
    have BK308 := n3_
    have BK323 := n4_
    have HB := n5_
    clear n0_ n1_ n2_ n3_ n4_ n5_
    have n0_ := Am (re HO313.out)
    have n1_ := Am (re HO322.out)
    have n2_ := Am (ke BK307.out)
    have n3_ := Am (ke BK308.out)
    have n4_ := Am (ke BK323.out)
    have n5_ := Am (be HB.out)
    clear HO313
    clear HO322
    clear BK307
    clear BK308
    clear BK323
    clear HB
    have HO313 := n0_
    have HO322 := n1_
    have BK307 := n2_
    have BK308 := n3_
    have BK323 := n4_
    have HB := n5_
    clear n0_ n1_ n2_ n3_ n4_ n5_
    refine start_ (n := 5) (S := fun w' => w'.cell? ⟨gb323, 0, none⟩ = some (.string t319) ∧ w'.cell? ⟨gb323, 1, none⟩ = some (.slice Ao36 t320.length co36) ∧ w'.cell? ⟨gb308, 0, none⟩ = some (.int .i64 a1_0) ∧ w'.cell? ⟨gb308, 1, none⟩ = some (.int .i64 a1_1) ∧ w'.cell? ⟨gb308, 2, none⟩ = some (.int .i64 a1_2) ∧ w'.cell? ⟨gb308, 3, none⟩ = some (.int .i64 a1_3)) (ds := []) #[false, false, false, false, false] (by kernel_rfl) rfl rfl ⟨(kc BK323.out 0).trans rfl, (kc BK323.out 1).trans rfl, (kc BK308.out 0).trans rfl, (kc BK308.out 1).trans rfl, (kc BK308.out 2).trans rfl, (kc BK308.out 3).trans rfl⟩ (fun hHeld => ?_)
    generalize w37.drew = w38 at HO313 HO322 BK307 BK308 BK323 HB hHeld ⊢
    refine yT 0 (some 21) rfl rfl hHeld ?_
    refine yT 1 (some 22) rfl rfl hHeld ?_
    refine yO 2 (some 23) rfl rfl (fun K hK => ?_)
    refine goes_ Try.func12 (by kernel_rfl) rfl #[.agg #[.int .i64 a1_0, .int .i64 a1_1, .int .i64 a1_2, .int .i64 a1_3]] (by rfl) rfl rfl (by (try simp only [List.map_toArray, List.map_cons, List.map_nil]); first | done | rfl | (simp only [List.length_drop, List.length_take]; rfl)) ?_
    with_reducible refine (laws_toGeo.calls a1_0 a1_1 a1_2 a1_3 t324 t325 t326 t327 _ A14.out).mono ?_
    rintro e w39 ⟨rfl, hb⟩
    refine ⟨_, rfl, ?_⟩
    have n0_ := Am (rb (by (with_reducible repeat (first | apply ra | apply rn | apply re)); exact HO313.out) hb)
    have n1_ := Am (rb (by (with_reducible repeat (first | apply ra | apply rn | apply re)); exact HO322.out) hb)
    have n2_ := Am (zK BK307 hb)
    have n3_ := Am (zK BK308 hb)
    have n4_ := Am (zK BK323 hb)
    have n5_ := Am (bq zG hb)
    clear HO313
    clear HO322
    clear BK307
    clear BK308
    clear BK323
    clear HB
    have HO313 := n0_
    have HO322 := n1_
    have BK307 := n2_
    have BK308 := n3_
    have BK323 := n4_
    have HB := n5_
    clear n0_ n1_ n2_ n3_ n4_ n5_
    (try clear hb)
    (try clear hb2)
    (try clear hk)
    (try clear hi)
    refine hK.out _ _ ⟨(kc BK323.out 0).trans rfl, (kc BK323.out 1).trans rfl, (kc BK308.out 0).trans rfl, (kc BK308.out 1).trans rfl, (kc BK308.out 2).trans rfl, (kc BK308.out 3).trans rfl⟩ (fun hHeld => ?_)
    clear hK K
    refine zN (some 23) ?_
    refine yO 3 (some 24) rfl rfl (fun K hK => ?_)
    refine goes_ Try.func43 (by kernel_rfl) rfl #[.agg #[.string t319, .slice Ao36 t320.length co36], .agg #[.int .i64 t324, .int .i64 t325, .int .i64 t326, .int .i64 t327]] (by rfl) rfl rfl (by (try simp only [List.map_toArray, List.map_cons, List.map_nil]); first | done | rfl | (simp only [List.length_drop, List.length_take]; rfl)) ?_
    with_reducible refine (impl_MaskedImage.calls k t319 _ _ t320 t324 t325 t326 t327 t328 _ ?side1 ?side2 A15.out).mono ?_
    (case side1 => repeat (first | exact (Kd.R_reads' HO322.out).2.2 | (with_reducible first | refine ca ?_ _ | refine cn ?_ _ | refine ce ?_)))
    (case side2 => exact (Kd.R_reads' HO322.out).2.1)
    rintro e w40 ⟨rfl, hb⟩
    refine ⟨_, rfl, ?_⟩
    have n0_ := Am (rb (by (with_reducible repeat (first | apply ra | apply rn | apply re)); exact HO313.out) hb)
    have n1_ := Am (rb (by (with_reducible repeat (first | apply ra | apply rn | apply re)); exact HO322.out) hb)
    have n2_ := Am (zK BK307 hb)
    have n3_ := Am (zK BK308 hb)
    have n4_ := Am (zK BK323 hb)
    have n5_ := Am (bq zG hb)
    clear HO313
    clear HO322
    clear BK307
    clear BK308
    clear BK323
    clear HB
    have HO313 := n0_
    have HO322 := n1_
    have BK307 := n2_
    have BK308 := n3_
    have BK323 := n4_
    have HB := n5_
    clear n0_ n1_ n2_ n3_ n4_ n5_
    (try clear hb)
    (try clear hb2)
    (try clear hk)
    (try clear hi)
    refine hK.out _ _ ⟨(kc BK323.out 0).trans rfl, (kc BK323.out 1).trans rfl, (kc BK308.out 0).trans rfl, (kc BK308.out 1).trans rfl, (kc BK308.out 2).trans rfl, (kc BK308.out 3).trans rfl⟩ (fun hHeld => ?_)
    clear hK K
    refine zN (some 24) ?_
    refine yA 4 (some 8) rfl rfl ?_
    refine done_ (by kernel_rfl) ?_
    try go_wp2
    have n0_ := Am (re HO313.out)
    have n1_ := Am (re HO322.out)
    have n2_ := Am (ke BK307.out)
    have n3_ := Am (ke BK308.out)
    have n4_ := Am (ke BK323.out)
    have n5_ := Am (be HB.out)
    clear HO313
    clear HO322
    clear BK307
    clear BK308
    clear BK323
    clear HB
    have HO313 := n0_
    have HO322 := n1_
    have BK307 := n2_
    have BK308 := n3_
    have BK323 := n4_
    have HB := n5_
    clear n0_ n1_ n2_ n3_ n4_ n5_
    refine start_ (n := 5) (S := fun w' => w'.cell? ⟨gb323, 0, none⟩ = some (.string t319) ∧ w'.cell? ⟨gb323, 1, none⟩ = some (.slice Ao36 t320.length co36) ∧ w'.cell? ⟨gb307, 0, none⟩ = some (.string a0_0) ∧ w'.cell? ⟨gb307, 1, none⟩ = some (.slice A0_1 l0_1.length c0_1)) (ds := []) #[false, false, false, false, false] (by kernel_rfl) rfl rfl ⟨(kc BK323.out 0).trans rfl, (kc BK323.out 1).trans rfl, (kc BK307.out 0).trans rfl, (kc BK307.out 1).trans rfl⟩ (fun hHeld => ?_)
    generalize w40.drew = w41 at HO313 HO322 BK307 BK308 BK323 HB hHeld ⊢
    refine yT 0 (some 28) rfl rfl hHeld ?_
    refine yT 1 (some 29) rfl rfl hHeld ?_
    refine yO 2 (some 30) rfl rfl (fun K hK => ?_)
    refine goes_ Try.func13 (by kernel_rfl) rfl #[.agg #[.string a0_0, .slice A0_1 l0_1.length c0_1]] (by rfl) rfl rfl (by (try simp only [List.map_toArray, List.map_cons, List.map_nil]); first | done | rfl | (simp only [List.length_drop, List.length_take]; rfl)) ?_
    with_reducible refine (laws_toMemory.calls k a0_0 _ _ l0_1 t329 t330 _ ?side1 ?side2 A17.out).mono ?_
    (case side1 => repeat (first | exact (cb HR0_1.out HB.out) | (with_reducible first | refine ca ?_ _ | refine cn ?_ _ | refine ce ?_)))
    (case side2 => exact HC0_1.out)
    rintro e w42 ⟨v331, rfl, ho0, hb⟩
    refine ⟨_, rfl, ?_⟩
    have n0_ := Am (Kd.R_elder' (by (with_reducible repeat (first | apply ra | apply rn | apply re)); exact HO313.out) (Kd.R_base ho0) hb)
    have n1_ := Am (Kd.R_elder' (by (with_reducible repeat (first | apply ra | apply rn | apply re)); exact HO322.out) (Kd.R_base ho0) hb)
    have n2_ := Am (Kd.R_lower (Kd.R_new' (Kd.R_new' ho0 (Kd.R_lt (by (with_reducible repeat (first | apply ra | apply rn | apply re)); exact HO313.out))) (Kd.R_lt (by (with_reducible repeat (first | apply ra | apply rn | apply re)); exact HO322.out))) (bz zG))
    have n3_ := Am (zK BK307 hb)
    have n4_ := Am (zK BK308 hb)
    have n5_ := Am (zK BK323 hb)
    have n6_ := Am (bq zG hb)
    clear HO313
    clear HO322
    clear BK307
    clear BK308
    clear BK323
    clear HB
    have HO313 := n0_
    have HO322 := n1_
    have HO332 := n2_
    have BK307 := n3_
    have BK308 := n4_
    have BK323 := n5_
    have HB := n6_
    clear n0_ n1_ n2_ n3_ n4_ n5_ n6_
    (try clear hb)
    (try clear hb2)
    (try clear hk)
    (try clear hi)
    (try clear ho0)
    obtain ⟨Ao43, co43, eo43⟩ := Kd.R_slice HO332.out
    (first | subst eo43 | (injection eo43 with f1_ f2_ f3_; have f4_ := f1_.symm; have f5_ := f3_.symm; clear f1_ f2_ f3_; subst f4_; subst f5_))
    refine hK.out _ _ ⟨(kc BK323.out 0).trans rfl, (kc BK323.out 1).trans rfl, (kc BK307.out 0).trans rfl, (kc BK307.out 1).trans rfl⟩ (fun hHeld => ?_)
    clear hK K
    refine zN (some 30) ?_
    refine yO 3 (some 31) rfl rfl (fun K hK => ?_)
    refine goes_ Try.func15 (by kernel_rfl) rfl #[.agg #[.string t319, .slice Ao36 t320.length co36], .agg #[.string t329, .slice Ao43 t330.length co43]] (by rfl) rfl rfl (by (try simp only [List.map_toArray, List.map_cons, List.map_nil]); first | done | rfl | (simp only [List.length_drop, List.length_take]; rfl)) ?_
    with_reducible refine (laws_eqMemory.calls k t319 _ _ t320 t329 _ _ t330 true _ ?side1 ?side2 ?side3 ?side4 A18.out).mono ?_
    (case side1 => repeat (first | exact (Kd.R_reads' HO322.out).2.2 | (with_reducible first | refine ca ?_ _ | refine cn ?_ _ | refine ce ?_)))
    (case side2 => exact (Kd.R_reads' HO322.out).2.1)
    (case side3 => repeat (first | exact (Kd.R_reads' HO332.out).2.2 | (with_reducible first | refine ca ?_ _ | refine cn ?_ _ | refine ce ?_)))
    (case side4 => exact (Kd.R_reads' HO332.out).2.1)
    rintro e w44 ⟨rfl, hb⟩
    refine ⟨_, rfl, ?_⟩
    have n0_ := Am (rb (by (with_reducible repeat (first | apply ra | apply rn | apply re)); exact HO313.out) hb)
    have n1_ := Am (rb (by (with_reducible repeat (first | apply ra | apply rn | apply re)); exact HO322.out) hb)
    have n2_ := Am (rb (by (with_reducible repeat (first | apply ra | apply rn | apply re)); exact HO332.out) hb)
    have n3_ := Am (zK BK307 hb)
    have n4_ := Am (zK BK308 hb)
    have n5_ := Am (zK BK323 hb)
    have n6_ := Am (bq zG hb)
    clear HO313
    clear HO322
    clear HO332
    clear BK307
    clear BK308
    clear BK323
    clear HB
    have HO313 := n0_
    have HO322 := n1_
    have HO332 := n2_
    have BK307 := n3_
    have BK308 := n4_
    have BK323 := n5_
    have HB := n6_
    clear n0_ n1_ n2_ n3_ n4_ n5_ n6_
    (try clear hb)
    (try clear hb2)
    (try clear hk)
    (try clear hi)
    refine hK.out _ _ ⟨(kc BK323.out 0).trans rfl, (kc BK323.out 1).trans rfl, (kc BK307.out 0).trans rfl, (kc BK307.out 1).trans rfl⟩ (fun hHeld => ?_)
    clear hK K
    refine zN (some 31) ?_
    refine yA 4 (some 32) rfl rfl ?_
    refine done_ (by kernel_rfl) ?_
    try go_wp2
    go_ret
    exact ⟨zR, zG⟩
   ·replace c19 := Bool.eq_false_iff.mpr c19
    subst c19
    have H1 : (some false) = some r := by rw [if_neg (show ¬ (false = true) by decide)] at H; exact H
    clear H
    have H := H1
    clear H1
    obtain rfl := Option.some.inj H
    go_enter Try.func9, Try.ntmps9
    try go_wp2_with (first | ((with_reducible refine gate_dst (N := 2) rfl ?_); refine box_event ?hg (N := 2) ?hd (cs := #[.string a0_0, .slice A0_1 l0_1.length c0_1]) (t := 26) ?hr ?_; (case hd => rfl); (case hg => rfl); (case hr => first | (go_simp; done) | (go_simp; rfl)); intro gb307 hg w45 hbox hb; have BK307 := Am (hbox); have GW307 := Am ((by rw [hg]; exact (bz zB) : w.heap.size ≤ gb307)); have GE307 := Am ((by rw [hg]; exact (bz zB) : w.heap.size ≤ gb307)); replace HB := Am (bq zB hb); clear hb hbox hg) | ((with_reducible refine gate_dst (N := 3) rfl ?_); refine box_event ?hg (N := 3) ?hd (cs := #[.int .i64 a1_0, .int .i64 a1_1, .int .i64 a1_2, .int .i64 a1_3]) (t := 23) ?hr ?_; (case hd => rfl); (case hg => rfl); (case hr => first | (go_simp; done) | (go_simp; rfl)); intro gb308 hg w46 hbox hb; have n0_ := Am (zK BK307 hb); have n1_ := Am (bq zG hb); have n2_ := Am (hbox); have n3_ := Am ((by rw [hg]; exact (bz zG) : w.heap.size ≤ gb308)); have n4_ := Am ((by rw [hg]; exact (bz zG) : w.heap.size ≤ gb308)); have n5_ := Am ((by rw [hg]; exact Nat.ne_of_lt (zL BK307) : gb307 ≠ gb308)); have n6_ := Am ((by rw [hg]; exact Nat.ne_of_gt (zL BK307) : gb308 ≠ gb307)); clear BK307; clear HB; have BK307 := n0_; have HB := n1_; have BK308 := n2_; have GW308 := n3_; have GE308 := n4_; have NB307_308 := n5_; have NB308_307 := n6_; clear n0_ n1_ n2_ n3_ n4_ n5_ n6_; clear hb hbox hg; have hnb47 := NB307_308.out; have hnc47 := NB308_307.out; obtain ⟨hcz48_0, hcz48_1⟩ := kc2 (w := w46) BK307.out; have hfz48_0 := kf BK307.out) | ((with_reducible refine gate_callee (f := 10) rfl ?_); refine zC (some 11) rfl rfl Try.func10 rfl #[.agg #[.string a0_0, .slice A0_1 l0_1.length c0_1], .int .i64 1048576] rfl ?_; (with_reducible refine (laws_szMemory.calls k a0_0 _ _ l0_1 1048576 t309 _ ?side1 ?side2 A3.out).mono ?_); (case side1 => repeat (first | exact (cb HR0_1.out HB.out) | (with_reducible first | refine ca ?_ _ | refine cn ?_ _ | refine ce ?_))); (case side2 => exact HC0_1.out); rintro e w49 ⟨rfl, hb⟩; refine ⟨_, rfl, ?_⟩; have n0_ := Am (zK BK307 hb); have n1_ := Am (zK BK308 hb); have n2_ := Am (bq zG hb); clear BK307; clear BK308; clear HB; have BK307 := n0_; have BK308 := n1_; have HB := n2_; clear n0_ n1_ n2_; (try clear hb)))
    have n0_ := Am (ke BK307.out)
    have n1_ := Am (ke BK308.out)
    have n2_ := Am (be HB.out)
    clear BK307
    clear BK308
    clear HB
    have BK307 := n0_
    have BK308 := n1_
    have HB := n2_
    clear n0_ n1_ n2_
    refine start_ (n := 6) (S := fun w' => w'.cell? ⟨gb307, 0, none⟩ = some (.string a0_0) ∧ w'.cell? ⟨gb307, 1, none⟩ = some (.slice A0_1 l0_1.length c0_1) ∧ w'.cell? ⟨gb308, 0, none⟩ = some (.int .i64 a1_0) ∧ w'.cell? ⟨gb308, 1, none⟩ = some (.int .i64 a1_1) ∧ w'.cell? ⟨gb308, 2, none⟩ = some (.int .i64 a1_2) ∧ w'.cell? ⟨gb308, 3, none⟩ = some (.int .i64 a1_3)) (ds := []) #[false, false, false, false, false, false] (by kernel_rfl) rfl rfl ⟨(kc BK307.out 0).trans rfl, (kc BK307.out 1).trans rfl, (kc BK308.out 0).trans rfl, (kc BK308.out 1).trans rfl, (kc BK308.out 2).trans rfl, (kc BK308.out 3).trans rfl⟩ (fun hHeld => ?_)
    generalize w49.drew = w50 at BK307 BK308 HB hHeld ⊢
    refine yT 0 (some 14) rfl rfl hHeld ?_
    refine yT 2 (some 16) rfl rfl hHeld ?_
    refine yO 1 (some 15) rfl rfl (fun K hK => ?_)
    refine goes_ Try.func13 (by kernel_rfl) rfl #[.agg #[.string a0_0, .slice A0_1 l0_1.length c0_1]] (by rfl) rfl rfl (by (try simp only [List.map_toArray, List.map_cons, List.map_nil]); first | done | rfl | (simp only [List.length_drop, List.length_take]; rfl)) ?_
    with_reducible refine (laws_toMemory.calls k a0_0 _ _ l0_1 t310 t311 _ ?side1 ?side2 A10.out).mono ?_
    (case side1 => repeat (first | exact (cb HR0_1.out HB.out) | (with_reducible first | refine ca ?_ _ | refine cn ?_ _ | refine ce ?_)))
    (case side2 => exact HC0_1.out)
    rintro e w51 ⟨v312, rfl, ho0, hb⟩
    refine ⟨_, rfl, ?_⟩
    have n0_ := Am (Kd.R_lower ho0 (bz zG))
    have n1_ := Am (zK BK307 hb)
    have n2_ := Am (zK BK308 hb)
    have n3_ := Am (bq zG hb)
    clear BK307
    clear BK308
    clear HB
    have HO313 := n0_
    have BK307 := n1_
    have BK308 := n2_
    have HB := n3_
    clear n0_ n1_ n2_ n3_
    (try clear hb)
    (try clear hb2)
    (try clear hk)
    (try clear hi)
    (try clear ho0)
    refine hK.out _ _ ⟨(kc BK307.out 0).trans rfl, (kc BK307.out 1).trans rfl, (kc BK308.out 0).trans rfl, (kc BK308.out 1).trans rfl, (kc BK308.out 2).trans rfl, (kc BK308.out 3).trans rfl⟩ (fun hHeld => ?_)
    clear hK K
    refine zN (some 15) ?_
    refine yO 3 (some 17) rfl rfl (fun K hK => ?_)
    refine goes_ Try.func12 (by kernel_rfl) rfl #[.agg #[.int .i64 a1_0, .int .i64 a1_1, .int .i64 a1_2, .int .i64 a1_3]] (by rfl) rfl rfl (by (try simp only [List.map_toArray, List.map_cons, List.map_nil]); first | done | rfl | (simp only [List.length_drop, List.length_take]; rfl)) ?_
    with_reducible refine (laws_toGeo.calls a1_0 a1_1 a1_2 a1_3 t314 t315 t316 t317 _ A11.out).mono ?_
    rintro e w52 ⟨rfl, hb⟩
    refine ⟨_, rfl, ?_⟩
    have n0_ := Am (rb (by (with_reducible repeat (first | apply ra | apply rn | apply re)); exact HO313.out) hb)
    have n1_ := Am (zK BK307 hb)
    have n2_ := Am (zK BK308 hb)
    have n3_ := Am (bq zG hb)
    clear HO313
    clear BK307
    clear BK308
    clear HB
    have HO313 := n0_
    have BK307 := n1_
    have BK308 := n2_
    have HB := n3_
    clear n0_ n1_ n2_ n3_
    (try clear hb)
    (try clear hb2)
    (try clear hk)
    (try clear hi)
    obtain ⟨Ao53, co53, eo53⟩ := Kd.R_slice HO313.out
    (first | subst eo53 | (injection eo53 with f1_ f2_ f3_; have f4_ := f1_.symm; have f5_ := f3_.symm; clear f1_ f2_ f3_; subst f4_; subst f5_))
    refine hK.out _ _ ⟨(kc BK307.out 0).trans rfl, (kc BK307.out 1).trans rfl, (kc BK308.out 0).trans rfl, (kc BK308.out 1).trans rfl, (kc BK308.out 2).trans rfl, (kc BK308.out 3).trans rfl⟩ (fun hHeld => ?_)
    clear hK K
    refine zN (some 17) ?_
    refine yO 4 (some 18) rfl rfl (fun K hK => ?_)
    refine goes_ Try.func42 (by kernel_rfl) rfl #[.agg #[.string t310, .slice Ao53 t311.length co53], .agg #[.int .i64 t314, .int .i64 t315, .int .i64 t316, .int .i64 t317]] (by rfl) rfl rfl (by (try simp only [List.map_toArray, List.map_cons, List.map_nil]); first | done | rfl | (simp only [List.length_drop, List.length_take]; rfl)) ?_
    with_reducible refine (spec_MaskedImage.calls k t310 _ _ t311 t314 t315 t316 t317 t318 _ ?side1 ?side2 A12.out).mono ?_
    (case side1 => repeat (first | exact (Kd.R_reads' HO313.out).2.2 | (with_reducible first | refine ca ?_ _ | refine cn ?_ _ | refine ce ?_)))
    (case side2 => exact (Kd.R_reads' HO313.out).2.1)
    rintro e w54 ⟨rfl, hb⟩
    refine ⟨_, rfl, ?_⟩
    have n0_ := Am (rb (by (with_reducible repeat (first | apply ra | apply rn | apply re)); exact HO313.out) hb)
    have n1_ := Am (zK BK307 hb)
    have n2_ := Am (zK BK308 hb)
    have n3_ := Am (bq zG hb)
    clear HO313
    clear BK307
    clear BK308
    clear HB
    have HO313 := n0_
    have BK307 := n1_
    have BK308 := n2_
    have HB := n3_
    clear n0_ n1_ n2_ n3_
    (try clear hb)
    (try clear hb2)
    (try clear hk)
    (try clear hi)
    refine hK.out _ _ ⟨(kc BK307.out 0).trans rfl, (kc BK307.out 1).trans rfl, (kc BK308.out 0).trans rfl, (kc BK308.out 1).trans rfl, (kc BK308.out 2).trans rfl, (kc BK308.out 3).trans rfl⟩ (fun hHeld => ?_)
    clear hK K
    refine zN (some 18) ?_
    refine yA 5 (some 6) rfl rfl ?_
    refine done_ (by kernel_rfl) ?_
    obtain ⟨hcz55_0, hcz55_1⟩ := kc2 (w := w54) BK307.out
    have hfz55_0 := kf BK307.out
    try go_wp2_with (first | ((with_reducible refine gate_callee (f := 13) rfl ?_); refine zC (some 20) rfl rfl Try.func13 rfl #[.agg #[.string a0_0, .slice A0_1 l0_1.length c0_1]] rfl ?_; (with_reducible refine (laws_toMemory.calls k a0_0 _ _ l0_1 t319 t320 _ ?side1 ?side2 A13.out).mono ?_); (case side1 => repeat (first | exact (cb HR0_1.out HB.out) | (with_reducible first | refine ca ?_ _ | refine cn ?_ _ | refine ce ?_))); (case side2 => exact HC0_1.out); rintro e w56 ⟨v321, rfl, ho0, hb⟩; refine ⟨_, rfl, ?_⟩; have n0_ := Am (Kd.R_elder' (by (with_reducible repeat (first | apply ra | apply rn | apply re)); exact HO313.out) (Kd.R_base ho0) hb); have n1_ := Am (Kd.R_lower (Kd.R_new' ho0 (Kd.R_lt (by (with_reducible repeat (first | apply ra | apply rn | apply re)); exact HO313.out))) (bz zG)); have n2_ := Am (zK BK307 hb); have n3_ := Am (zK BK308 hb); have n4_ := Am (bq zG hb); clear HO313; clear BK307; clear BK308; clear HB; have HO313 := n0_; have HO322 := n1_; have BK307 := n2_; have BK308 := n3_; have HB := n4_; clear n0_ n1_ n2_ n3_ n4_; (try clear hb ho0)) | ((with_reducible refine gate_dst (N := 7) rfl ?_); refine box_event ?hg (N := 7) ?hd (cs := #[.string (⟨#[]⟩ : ByteArray), .slice none 0 0]) (t := 33) ?hr ?_; (case hd => rfl); (case hg => rfl); (case hr => first | (go_simp; done) | (go_simp; rfl)); intro gb323 hg w57 hbox hb; have n0_ := Am (rb (by (with_reducible repeat (first | apply ra | apply rn | apply re)); exact HO313.out) hb); have n1_ := Am (rb (by (with_reducible repeat (first | apply ra | apply rn | apply re)); exact HO322.out) hb); have n2_ := Am (zK BK307 hb); have n3_ := Am (zK BK308 hb); have n4_ := Am (bq zG hb); have n5_ := Am (hbox); have n6_ := Am ((by rw [hg]; exact (bz zG) : w.heap.size ≤ gb323)); have n7_ := Am ((by rw [hg]; exact (bz zG) : w.heap.size ≤ gb323)); have n8_ := Am ((by rw [hg]; exact Nat.ne_of_lt (zL BK307) : gb307 ≠ gb323)); have n9_ := Am ((by rw [hg]; exact Nat.ne_of_gt (zL BK307) : gb323 ≠ gb307)); have n10_ := Am ((by rw [hg]; exact Nat.ne_of_lt (zL BK308) : gb308 ≠ gb323)); have n11_ := Am ((by rw [hg]; exact Nat.ne_of_gt (zL BK308) : gb323 ≠ gb308)); clear HO313; clear HO322; clear BK307; clear BK308; clear HB; have HO313 := n0_; have HO322 := n1_; have BK307 := n2_; have BK308 := n3_; have HB := n4_; have BK323 := n5_; have GW323 := n6_; have GE323 := n7_; have NB307_323 := n8_; have NB323_307 := n9_; have NB308_323 := n10_; have NB323_308 := n11_; clear n0_ n1_ n2_ n3_ n4_ n5_ n6_ n7_ n8_ n9_ n10_ n11_; clear hb hbox hg; have hnb58 := NB323_307.out; have hnc58 := NB307_323.out; have hnb59 := NB323_308.out; have hnc59 := NB308_323.out; obtain ⟨hcz60_0, hcz60_1⟩ := kc2 (w := w57) BK323.out; have hfz60_0 := kf BK323.out; obtain ⟨Ao61, co61, eo61⟩ := Kd.R_slice HO322.out; subst eo61))
    have n0_ : Aside0 (Kd.R k155 155 ((w57.setCell ⟨gb323, 0, none⟩ (.string t319)).setCell ⟨gb323, 1, none⟩ (.slice Ao61 t320.length co61)) w.heap.size (fun k_ => some k_ ≠ (.slice Ao61 t320.length co61 : Value).ownBlock) (.slice Ao53 t311.length co53) t311) := ⟨by (with_reducible repeat (first | apply ra | apply rn | apply re)); exact Kd.R_mono (Kd.R_far (p := ⟨gb323, 1, none⟩) (Kd.R_far (p := ⟨gb323, 0, none⟩) (Kd.R_types HO313.out BK323.out (by decide)) (fun _ hk => hk.2) (.string t319)) (fun _ hk => hk.2) (.slice Ao61 t320.length co61)) (fun _ hk => hk.1.2)⟩
    have n1_ : Aside0 (Kd.R k155 155 ((w57.setCell ⟨gb323, 0, none⟩ (.string t319)).setCell ⟨gb323, 1, none⟩ (.slice Ao61 t320.length co61)) w.heap.size (fun k_ => some k_ ≠ (.slice Ao53 t311.length co53 : Value).ownBlock) (.slice Ao61 t320.length co61) t320) := ⟨by (with_reducible repeat (first | apply ra | apply rn | apply re)); exact Kd.R_mono (Kd.R_far (p := ⟨gb323, 1, none⟩) (Kd.R_far (p := ⟨gb323, 0, none⟩) (Kd.R_types HO322.out BK323.out (by decide)) (fun _ hk => hk.2) (.string t319)) (fun _ hk => hk.2) (.slice Ao61 t320.length co61)) (fun _ hk => hk.1.2)⟩
    have n2_ : Aside0 (((w57.setCell ⟨gb323, 0, none⟩ (.string t319)).setCell ⟨gb323, 1, none⟩ (.slice Ao61 t320.length co61)).heap[gb307]? = some (.cells #[.string a0_0, .slice A0_1 l0_1.length c0_1] 26 (0, 0))) := ⟨by (with_reducible repeat (first | refine kn ?_ _ | refine ke ?_ | refine ka ?_ _)); refine blk_far ?_ NB307_323.out _; (with_reducible repeat (first | refine kn ?_ _ | refine ke ?_ | refine ka ?_ _)); refine blk_far ?_ NB307_323.out _; (with_reducible repeat (first | refine kn ?_ _ | refine ke ?_ | refine ka ?_ _)); exact BK307.out⟩
    have n3_ : Aside0 (((w57.setCell ⟨gb323, 0, none⟩ (.string t319)).setCell ⟨gb323, 1, none⟩ (.slice Ao61 t320.length co61)).heap[gb308]? = some (.cells #[.int .i64 a1_0, .int .i64 a1_1, .int .i64 a1_2, .int .i64 a1_3] 23 (0, 0))) := ⟨by (with_reducible repeat (first | refine kn ?_ _ | refine ke ?_ | refine ka ?_ _)); refine blk_far ?_ NB308_323.out _; (with_reducible repeat (first | refine kn ?_ _ | refine ke ?_ | refine ka ?_ _)); refine blk_far ?_ NB308_323.out _; (with_reducible repeat (first | refine kn ?_ _ | refine ke ?_ | refine ka ?_ _)); exact BK308.out⟩
    have n4_ : Aside0 (((w57.setCell ⟨gb323, 0, none⟩ (.string t319)).setCell ⟨gb323, 1, none⟩ (.slice Ao61 t320.length co61)).heap[gb323]? = some (.cells #[.string t319, .slice Ao61 t320.length co61] 33 (0, 0))) := ⟨by (with_reducible repeat (first | refine kn ?_ _ | refine ke ?_ | refine ka ?_ _)); refine kp (cs := #[.string t319, .slice none 0 0]) ?_ 1 _ rfl; (with_reducible repeat (first | refine kn ?_ _ | refine ke ?_ | refine ka ?_ _)); refine kp (cs := #[.string (⟨#[]⟩ : ByteArray), .slice none 0 0]) ?_ 0 _ rfl; (with_reducible repeat (first | refine kn ?_ _ | refine ke ?_ | refine ka ?_ _)); exact BK323.out⟩
    have n5_ : Aside0 (Below w.heap.size w ((w57.setCell ⟨gb323, 0, none⟩ (.string t319)).setCell ⟨gb323, 1, none⟩ (.slice Ao61 t320.length co61))) := ⟨zG⟩
    (try clear HO313)
    (try clear HO322)
    (try clear BK307)
    (try clear BK308)
    (try clear BK323)
    (try clear HB)
    generalize ((w57.setCell ⟨gb323, 0, none⟩ (.string t319)).setCell ⟨gb323, 1, none⟩ (.slice Ao61 t320.length co61)) = w62 at n0_ n1_ n2_ n3_ n4_ n5_ ⊢
    have HO313 := n0_
    have HO322 := n1_
    have BK307 := n2_
    have BK308 := n3_
    have BK323 := n4_
    have HB := n5_
    clear n0_ n1_ n2_ n3_ n4_ n5_
    have n0_ := Am (re HO313.out)
    have n1_ := Am (re HO322.out)
    have n2_ := Am (ke BK307.out)
    have n3_ := Am (ke BK308.out)
    have n4_ := Am (ke BK323.out)
    have n5_ := Am (be HB.out)
    clear HO313
    clear HO322
    clear BK307
    clear BK308
    clear BK323
    clear HB
    have HO313 := n0_
    have HO322 := n1_
    have BK307 := n2_
    have BK308 := n3_
    have BK323 := n4_
    have HB := n5_
    clear n0_ n1_ n2_ n3_ n4_ n5_
    refine start_ (n := 5) (S := fun w' => w'.cell? ⟨gb323, 0, none⟩ = some (.string t319) ∧ w'.cell? ⟨gb323, 1, none⟩ = some (.slice Ao61 t320.length co61) ∧ w'.cell? ⟨gb308, 0, none⟩ = some (.int .i64 a1_0) ∧ w'.cell? ⟨gb308, 1, none⟩ = some (.int .i64 a1_1) ∧ w'.cell? ⟨gb308, 2, none⟩ = some (.int .i64 a1_2) ∧ w'.cell? ⟨gb308, 3, none⟩ = some (.int .i64 a1_3)) (ds := []) #[false, false, false, false, false] (by kernel_rfl) rfl rfl ⟨(kc BK323.out 0).trans rfl, (kc BK323.out 1).trans rfl, (kc BK308.out 0).trans rfl, (kc BK308.out 1).trans rfl, (kc BK308.out 2).trans rfl, (kc BK308.out 3).trans rfl⟩ (fun hHeld => ?_)
    generalize w62.drew = w63 at HO313 HO322 BK307 BK308 BK323 HB hHeld ⊢
    refine yT 0 (some 21) rfl rfl hHeld ?_
    refine yT 1 (some 22) rfl rfl hHeld ?_
    refine yO 2 (some 23) rfl rfl (fun K hK => ?_)
    refine goes_ Try.func12 (by kernel_rfl) rfl #[.agg #[.int .i64 a1_0, .int .i64 a1_1, .int .i64 a1_2, .int .i64 a1_3]] (by rfl) rfl rfl (by (try simp only [List.map_toArray, List.map_cons, List.map_nil]); first | done | rfl | (simp only [List.length_drop, List.length_take]; rfl)) ?_
    with_reducible refine (laws_toGeo.calls a1_0 a1_1 a1_2 a1_3 t324 t325 t326 t327 _ A14.out).mono ?_
    rintro e w64 ⟨rfl, hb⟩
    refine ⟨_, rfl, ?_⟩
    have n0_ := Am (rb (by (with_reducible repeat (first | apply ra | apply rn | apply re)); exact HO313.out) hb)
    have n1_ := Am (rb (by (with_reducible repeat (first | apply ra | apply rn | apply re)); exact HO322.out) hb)
    have n2_ := Am (zK BK307 hb)
    have n3_ := Am (zK BK308 hb)
    have n4_ := Am (zK BK323 hb)
    have n5_ := Am (bq zG hb)
    clear HO313
    clear HO322
    clear BK307
    clear BK308
    clear BK323
    clear HB
    have HO313 := n0_
    have HO322 := n1_
    have BK307 := n2_
    have BK308 := n3_
    have BK323 := n4_
    have HB := n5_
    clear n0_ n1_ n2_ n3_ n4_ n5_
    (try clear hb)
    (try clear hb2)
    (try clear hk)
    (try clear hi)
    refine hK.out _ _ ⟨(kc BK323.out 0).trans rfl, (kc BK323.out 1).trans rfl, (kc BK308.out 0).trans rfl, (kc BK308.out 1).trans rfl, (kc BK308.out 2).trans rfl, (kc BK308.out 3).trans rfl⟩ (fun hHeld => ?_)
    clear hK K
    refine zN (some 23) ?_
    refine yO 3 (some 24) rfl rfl (fun K hK => ?_)
    refine goes_ Try.func43 (by kernel_rfl) rfl #[.agg #[.string t319, .slice Ao61 t320.length co61], .agg #[.int .i64 t324, .int .i64 t325, .int .i64 t326, .int .i64 t327]] (by rfl) rfl rfl (by (try simp only [List.map_toArray, List.map_cons, List.map_nil]); first | done | rfl | (simp only [List.length_drop, List.length_take]; rfl)) ?_
    with_reducible refine (impl_MaskedImage.calls k t319 _ _ t320 t324 t325 t326 t327 t328 _ ?side1 ?side2 A15.out).mono ?_
    (case side1 => repeat (first | exact (Kd.R_reads' HO322.out).2.2 | (with_reducible first | refine ca ?_ _ | refine cn ?_ _ | refine ce ?_)))
    (case side2 => exact (Kd.R_reads' HO322.out).2.1)
    rintro e w65 ⟨rfl, hb⟩
    refine ⟨_, rfl, ?_⟩
    have n0_ := Am (rb (by (with_reducible repeat (first | apply ra | apply rn | apply re)); exact HO313.out) hb)
    have n1_ := Am (rb (by (with_reducible repeat (first | apply ra | apply rn | apply re)); exact HO322.out) hb)
    have n2_ := Am (zK BK307 hb)
    have n3_ := Am (zK BK308 hb)
    have n4_ := Am (zK BK323 hb)
    have n5_ := Am (bq zG hb)
    clear HO313
    clear HO322
    clear BK307
    clear BK308
    clear BK323
    clear HB
    have HO313 := n0_
    have HO322 := n1_
    have BK307 := n2_
    have BK308 := n3_
    have BK323 := n4_
    have HB := n5_
    clear n0_ n1_ n2_ n3_ n4_ n5_
    (try clear hb)
    (try clear hb2)
    (try clear hk)
    (try clear hi)
    refine hK.out _ _ ⟨(kc BK323.out 0).trans rfl, (kc BK323.out 1).trans rfl, (kc BK308.out 0).trans rfl, (kc BK308.out 1).trans rfl, (kc BK308.out 2).trans rfl, (kc BK308.out 3).trans rfl⟩ (fun hHeld => ?_)
    clear hK K
    refine zN (some 24) ?_
    refine yA 4 (some 8) rfl rfl ?_
    refine done_ (by kernel_rfl) ?_
    try go_wp2
    have n0_ := Am (re HO313.out)
    have n1_ := Am (re HO322.out)
    have n2_ := Am (ke BK307.out)
    have n3_ := Am (ke BK308.out)
    have n4_ := Am (ke BK323.out)
    have n5_ := Am (be HB.out)
    clear HO313
    clear HO322
    clear BK307
    clear BK308
    clear BK323
    clear HB
    have HO313 := n0_
    have HO322 := n1_
    have BK307 := n2_
    have BK308 := n3_
    have BK323 := n4_
    have HB := n5_
    clear n0_ n1_ n2_ n3_ n4_ n5_
    refine start_ (n := 5) (S := fun w' => w'.cell? ⟨gb323, 0, none⟩ = some (.string t319) ∧ w'.cell? ⟨gb323, 1, none⟩ = some (.slice Ao61 t320.length co61) ∧ w'.cell? ⟨gb307, 0, none⟩ = some (.string a0_0) ∧ w'.cell? ⟨gb307, 1, none⟩ = some (.slice A0_1 l0_1.length c0_1)) (ds := []) #[false, false, false, false, false] (by kernel_rfl) rfl rfl ⟨(kc BK323.out 0).trans rfl, (kc BK323.out 1).trans rfl, (kc BK307.out 0).trans rfl, (kc BK307.out 1).trans rfl⟩ (fun hHeld => ?_)
    generalize w65.drew = w66 at HO313 HO322 BK307 BK308 BK323 HB hHeld ⊢
    refine yT 0 (some 28) rfl rfl hHeld ?_
    refine yT 1 (some 29) rfl rfl hHeld ?_
    refine yO 2 (some 30) rfl rfl (fun K hK => ?_)
    refine goes_ Try.func13 (by kernel_rfl) rfl #[.agg #[.string a0_0, .slice A0_1 l0_1.length c0_1]] (by rfl) rfl rfl (by (try simp only [List.map_toArray, List.map_cons, List.map_nil]); first | done | rfl | (simp only [List.length_drop, List.length_take]; rfl)) ?_
    with_reducible refine (laws_toMemory.calls k a0_0 _ _ l0_1 t329 t330 _ ?side1 ?side2 A17.out).mono ?_
    (case side1 => repeat (first | exact (cb HR0_1.out HB.out) | (with_reducible first | refine ca ?_ _ | refine cn ?_ _ | refine ce ?_)))
    (case side2 => exact HC0_1.out)
    rintro e w67 ⟨v331, rfl, ho0, hb⟩
    refine ⟨_, rfl, ?_⟩
    have n0_ := Am (Kd.R_elder' (by (with_reducible repeat (first | apply ra | apply rn | apply re)); exact HO313.out) (Kd.R_base ho0) hb)
    have n1_ := Am (Kd.R_elder' (by (with_reducible repeat (first | apply ra | apply rn | apply re)); exact HO322.out) (Kd.R_base ho0) hb)
    have n2_ := Am (Kd.R_lower (Kd.R_new' (Kd.R_new' ho0 (Kd.R_lt (by (with_reducible repeat (first | apply ra | apply rn | apply re)); exact HO313.out))) (Kd.R_lt (by (with_reducible repeat (first | apply ra | apply rn | apply re)); exact HO322.out))) (bz zG))
    have n3_ := Am (zK BK307 hb)
    have n4_ := Am (zK BK308 hb)
    have n5_ := Am (zK BK323 hb)
    have n6_ := Am (bq zG hb)
    clear HO313
    clear HO322
    clear BK307
    clear BK308
    clear BK323
    clear HB
    have HO313 := n0_
    have HO322 := n1_
    have HO332 := n2_
    have BK307 := n3_
    have BK308 := n4_
    have BK323 := n5_
    have HB := n6_
    clear n0_ n1_ n2_ n3_ n4_ n5_ n6_
    (try clear hb)
    (try clear hb2)
    (try clear hk)
    (try clear hi)
    (try clear ho0)
    obtain ⟨Ao68, co68, eo68⟩ := Kd.R_slice HO332.out
    (first | subst eo68 | (injection eo68 with f1_ f2_ f3_; have f4_ := f1_.symm; have f5_ := f3_.symm; clear f1_ f2_ f3_; subst f4_; subst f5_))
    refine hK.out _ _ ⟨(kc BK323.out 0).trans rfl, (kc BK323.out 1).trans rfl, (kc BK307.out 0).trans rfl, (kc BK307.out 1).trans rfl⟩ (fun hHeld => ?_)
    clear hK K
    refine zN (some 30) ?_
    refine yO 3 (some 31) rfl rfl (fun K hK => ?_)
    refine goes_ Try.func15 (by kernel_rfl) rfl #[.agg #[.string t319, .slice Ao61 t320.length co61], .agg #[.string t329, .slice Ao68 t330.length co68]] (by rfl) rfl rfl (by (try simp only [List.map_toArray, List.map_cons, List.map_nil]); first | done | rfl | (simp only [List.length_drop, List.length_take]; rfl)) ?_
    with_reducible refine (laws_eqMemory.calls k t319 _ _ t320 t329 _ _ t330 false _ ?side1 ?side2 ?side3 ?side4 A18.out).mono ?_
    (case side1 => repeat (first | exact (Kd.R_reads' HO322.out).2.2 | (with_reducible first | refine ca ?_ _ | refine cn ?_ _ | refine ce ?_)))
    (case side2 => exact (Kd.R_reads' HO322.out).2.1)
    (case side3 => repeat (first | exact (Kd.R_reads' HO332.out).2.2 | (with_reducible first | refine ca ?_ _ | refine cn ?_ _ | refine ce ?_)))
    (case side4 => exact (Kd.R_reads' HO332.out).2.1)
    rintro e w69 ⟨rfl, hb⟩
    refine ⟨_, rfl, ?_⟩
    have n0_ := Am (rb (by (with_reducible repeat (first | apply ra | apply rn | apply re)); exact HO313.out) hb)
    have n1_ := Am (rb (by (with_reducible repeat (first | apply ra | apply rn | apply re)); exact HO322.out) hb)
    have n2_ := Am (rb (by (with_reducible repeat (first | apply ra | apply rn | apply re)); exact HO332.out) hb)
    have n3_ := Am (zK BK307 hb)
    have n4_ := Am (zK BK308 hb)
    have n5_ := Am (zK BK323 hb)
    have n6_ := Am (bq zG hb)
    clear HO313
    clear HO322
    clear HO332
    clear BK307
    clear BK308
    clear BK323
    clear HB
    have HO313 := n0_
    have HO322 := n1_
    have HO332 := n2_
    have BK307 := n3_
    have BK308 := n4_
    have BK323 := n5_
    have HB := n6_
    clear n0_ n1_ n2_ n3_ n4_ n5_ n6_
    (try clear hb)
    (try clear hb2)
    (try clear hk)
    (try clear hi)
    refine hK.out _ _ ⟨(kc BK323.out 0).trans rfl, (kc BK323.out 1).trans rfl, (kc BK307.out 0).trans rfl, (kc BK307.out 1).trans rfl⟩ (fun hHeld => ?_)
    clear hK K
    refine zN (some 31) ?_
    refine yA 4 (some 32) rfl rfl ?_
    refine done_ (by kernel_rfl) ?_
    try go_wp2
    go_ret
    exact ⟨zR, zG⟩
  ·rw [if_neg c16] at H
   have c16b0 : (t328.toList == t318.toList) = false := beq_eq_false_iff_ne.mpr c16
   have c16b1 : (t328.toList != t318.toList) = true := bne_iff_ne.mpr c16
   obtain rfl := Option.some.inj H
   go_enter Try.func9, Try.ntmps9
   try go_wp2_with (first | ((with_reducible refine gate_dst (N := 2) rfl ?_); refine box_event ?hg (N := 2) ?hd (cs := #[.string a0_0, .slice A0_1 l0_1.length c0_1]) (t := 26) ?hr ?_; (case hd => rfl); (case hg => rfl); (case hr => first | (go_simp; done) | (go_simp; rfl)); intro gb307 hg w70 hbox hb; have BK307 := Am (hbox); have GW307 := Am ((by rw [hg]; exact (bz zB) : w.heap.size ≤ gb307)); have GE307 := Am ((by rw [hg]; exact (bz zB) : w.heap.size ≤ gb307)); replace HB := Am (bq zB hb); clear hb hbox hg) | ((with_reducible refine gate_dst (N := 3) rfl ?_); refine box_event ?hg (N := 3) ?hd (cs := #[.int .i64 a1_0, .int .i64 a1_1, .int .i64 a1_2, .int .i64 a1_3]) (t := 23) ?hr ?_; (case hd => rfl); (case hg => rfl); (case hr => first | (go_simp; done) | (go_simp; rfl)); intro gb308 hg w71 hbox hb; have n0_ := Am (zK BK307 hb); have n1_ := Am (bq zG hb); have n2_ := Am (hbox); have n3_ := Am ((by rw [hg]; exact (bz zG) : w.heap.size ≤ gb308)); have n4_ := Am ((by rw [hg]; exact (bz zG) : w.heap.size ≤ gb308)); have n5_ := Am ((by rw [hg]; exact Nat.ne_of_lt (zL BK307) : gb307 ≠ gb308)); have n6_ := Am ((by rw [hg]; exact Nat.ne_of_gt (zL BK307) : gb308 ≠ gb307)); clear BK307; clear HB; have BK307 := n0_; have HB := n1_; have BK308 := n2_; have GW308 := n3_; have GE308 := n4_; have NB307_308 := n5_; have NB308_307 := n6_; clear n0_ n1_ n2_ n3_ n4_ n5_ n6_; clear hb hbox hg; have hnb72 := NB307_308.out; have hnc72 := NB308_307.out; obtain ⟨hcz73_0, hcz73_1⟩ := kc2 (w := w71) BK307.out; have hfz73_0 := kf BK307.out) | ((with_reducible refine gate_callee (f := 10) rfl ?_); refine zC (some 11) rfl rfl Try.func10 rfl #[.agg #[.string a0_0, .slice A0_1 l0_1.length c0_1], .int .i64 1048576] rfl ?_; (with_reducible refine (laws_szMemory.calls k a0_0 _ _ l0_1 1048576 t309 _ ?side1 ?side2 A3.out).mono ?_); (case side1 => repeat (first | exact (cb HR0_1.out HB.out) | (with_reducible first | refine ca ?_ _ | refine cn ?_ _ | refine ce ?_))); (case side2 => exact HC0_1.out); rintro e w74 ⟨rfl, hb⟩; refine ⟨_, rfl, ?_⟩; have n0_ := Am (zK BK307 hb); have n1_ := Am (zK BK308 hb); have n2_ := Am (bq zG hb); clear BK307; clear BK308; clear HB; have BK307 := n0_; have BK308 := n1_; have HB := n2_; clear n0_ n1_ n2_; (try clear hb)))
   have n0_ := Am (ke BK307.out)
   have n1_ := Am (ke BK308.out)
   have n2_ := Am (be HB.out)
   clear BK307
   clear BK308
   clear HB
   have BK307 := n0_
   have BK308 := n1_
   have HB := n2_
   clear n0_ n1_ n2_
   refine start_ (n := 6) (S := fun w' => w'.cell? ⟨gb307, 0, none⟩ = some (.string a0_0) ∧ w'.cell? ⟨gb307, 1, none⟩ = some (.slice A0_1 l0_1.length c0_1) ∧ w'.cell? ⟨gb308, 0, none⟩ = some (.int .i64 a1_0) ∧ w'.cell? ⟨gb308, 1, none⟩ = some (.int .i64 a1_1) ∧ w'.cell? ⟨gb308, 2, none⟩ = some (.int .i64 a1_2) ∧ w'.cell? ⟨gb308, 3, none⟩ = some (.int .i64 a1_3)) (ds := []) #[false, false, false, false, false, false] (by kernel_rfl) rfl rfl ⟨(kc BK307.out 0).trans rfl, (kc BK307.out 1).trans rfl, (kc BK308.out 0).trans rfl, (kc BK308.out 1).trans rfl, (kc BK308.out 2).trans rfl, (kc BK308.out 3).trans rfl⟩ (fun hHeld => ?_)
   generalize w74.drew = w75 at BK307 BK308 HB hHeld ⊢
   refine yT 0 (some 14) rfl rfl hHeld ?_
   refine yT 2 (some 16) rfl rfl hHeld ?_
   refine yO 1 (some 15) rfl rfl (fun K hK => ?_)
   refine goes_ Try.func13 (by kernel_rfl) rfl #[.agg #[.string a0_0, .slice A0_1 l0_1.length c0_1]] (by rfl) rfl rfl (by (try simp only [List.map_toArray, List.map_cons, List.map_nil]); first | done | rfl | (simp only [List.length_drop, List.length_take]; rfl)) ?_
   with_reducible refine (laws_toMemory.calls k a0_0 _ _ l0_1 t310 t311 _ ?side1 ?side2 A10.out).mono ?_
   (case side1 => repeat (first | exact (cb HR0_1.out HB.out) | (with_reducible first | refine ca ?_ _ | refine cn ?_ _ | refine ce ?_)))
   (case side2 => exact HC0_1.out)
   rintro e w76 ⟨v312, rfl, ho0, hb⟩
   refine ⟨_, rfl, ?_⟩
   have n0_ := Am (Kd.R_lower ho0 (bz zG))
   have n1_ := Am (zK BK307 hb)
   have n2_ := Am (zK BK308 hb)
   have n3_ := Am (bq zG hb)
   clear BK307
   clear BK308
   clear HB
   have HO313 := n0_
   have BK307 := n1_
   have BK308 := n2_
   have HB := n3_
   clear n0_ n1_ n2_ n3_
   (try clear hb)
   (try clear hb2)
   (try clear hk)
   (try clear hi)
   (try clear ho0)
   refine hK.out _ _ ⟨(kc BK307.out 0).trans rfl, (kc BK307.out 1).trans rfl, (kc BK308.out 0).trans rfl, (kc BK308.out 1).trans rfl, (kc BK308.out 2).trans rfl, (kc BK308.out 3).trans rfl⟩ (fun hHeld => ?_)
   clear hK K
   refine zN (some 15) ?_
   refine yO 3 (some 17) rfl rfl (fun K hK => ?_)
   refine goes_ Try.func12 (by kernel_rfl) rfl #[.agg #[.int .i64 a1_0, .int .i64 a1_1, .int .i64 a1_2, .int .i64 a1_3]] (by rfl) rfl rfl (by (try simp only [List.map_toArray, List.map_cons, List.map_nil]); first | done | rfl | (simp only [List.length_drop, List.length_take]; rfl)) ?_
   with_reducible refine (laws_toGeo.calls a1_0 a1_1 a1_2 a1_3 t314 t315 t316 t317 _ A11.out).mono ?_
   rintro e w77 ⟨rfl, hb⟩
   refine ⟨_, rfl, ?_⟩
   have n0_ := Am (rb (by (with_reducible repeat (first | apply ra | apply rn | apply re)); exact HO313.out) hb)
   have n1_ := Am (zK BK307 hb)
   have n2_ := Am (zK BK308 hb)
   have n3_ := Am (bq zG hb)
   clear HO313
   clear BK307
   clear BK308
   clear HB
   have HO313 := n0_
   have BK307 := n1_
   have BK308 := n2_
   have HB := n3_
   clear n0_ n1_ n2_ n3_
   (try clear hb)
   (try clear hb2)
   (try clear hk)
   (try clear hi)
   obtain ⟨Ao78, co78, eo78⟩ := Kd.R_slice HO313.out
   (first | subst eo78 | (injection eo78 with f1_ f2_ f3_; have f4_ := f1_.symm; have f5_ := f3_.symm; clear f1_ f2_ f3_; subst f4_; subst f5_))
   refine hK.out _ _ ⟨(kc BK307.out 0).trans rfl, (kc BK307.out 1).trans rfl, (kc BK308.out 0).trans rfl, (kc BK308.out 1).trans rfl, (kc BK308.out 2).trans rfl, (kc BK308.out 3).trans rfl⟩ (fun hHeld => ?_)
   clear hK K
   refine zN (some 17) ?_
   refine yO 4 (some 18) rfl rfl (fun K hK => ?_)
   refine goes_ Try.func42 (by kernel_rfl) rfl #[.agg #[.string t310, .slice Ao78 t311.length co78], .agg #[.int .i64 t314, .int .i64 t315, .int .i64 t316, .int .i64 t317]] (by rfl) rfl rfl (by (try simp only [List.map_toArray, List.map_cons, List.map_nil]); first | done | rfl | (simp only [List.length_drop, List.length_take]; rfl)) ?_
   with_reducible refine (spec_MaskedImage.calls k t310 _ _ t311 t314 t315 t316 t317 t318 _ ?side1 ?side2 A12.out).mono ?_
   (case side1 => repeat (first | exact (Kd.R_reads' HO313.out).2.2 | (with_reducible first | refine ca ?_ _ | refine cn ?_ _ | refine ce ?_)))
   (case side2 => exact (Kd.R_reads' HO313.out).2.1)
   rintro e w79 ⟨rfl, hb⟩
   refine ⟨_, rfl, ?_⟩
   have n0_ := Am (rb (by (with_reducible repeat (first | apply ra | apply rn | apply re)); exact HO313.out) hb)
   have n1_ := Am (zK BK307 hb)
   have n2_ := Am (zK BK308 hb)
   have n3_ := Am (bq zG hb)
   clear HO313
   clear BK307
   clear BK308
   clear HB
   have HO313 := n0_
   have BK307 := n1_
   have BK308 := n2_
   have HB := n3_
   clear n0_ n1_ n2_ n3_
   (try clear hb)
   (try clear hb2)
   (try clear hk)
   (try clear hi)
   refine hK.out _ _ ⟨(kc BK307.out 0).trans rfl, (kc BK307.out 1).trans rfl, (kc BK308.out 0).trans rfl, (kc BK308.out 1).trans rfl, (kc BK308.out 2).trans rfl, (kc BK308.out 3).trans rfl⟩ (fun hHeld => ?_)
   clear hK K
   refine zN (some 18) ?_
   refine yA 5 (some 6) rfl rfl ?_
   refine done_ (by kernel_rfl) ?_
   obtain ⟨hcz80_0, hcz80_1⟩ := kc2 (w := w79) BK307.out
   have hfz80_0 := kf BK307.out
   try go_wp2_with (first | ((with_reducible refine gate_callee (f := 13) rfl ?_); refine zC (some 20) rfl rfl Try.func13 rfl #[.agg #[.string a0_0, .slice A0_1 l0_1.length c0_1]] rfl ?_; (with_reducible refine (laws_toMemory.calls k a0_0 _ _ l0_1 t319 t320 _ ?side1 ?side2 A13.out).mono ?_); (case side1 => repeat (first | exact (cb HR0_1.out HB.out) | (with_reducible first | refine ca ?_ _ | refine cn ?_ _ | refine ce ?_))); (case side2 => exact HC0_1.out); rintro e w81 ⟨v321, rfl, ho0, hb⟩; refine ⟨_, rfl, ?_⟩; have n0_ := Am (Kd.R_elder' (by (with_reducible repeat (first | apply ra | apply rn | apply re)); exact HO313.out) (Kd.R_base ho0) hb); have n1_ := Am (Kd.R_lower (Kd.R_new' ho0 (Kd.R_lt (by (with_reducible repeat (first | apply ra | apply rn | apply re)); exact HO313.out))) (bz zG)); have n2_ := Am (zK BK307 hb); have n3_ := Am (zK BK308 hb); have n4_ := Am (bq zG hb); clear HO313; clear BK307; clear BK308; clear HB; have HO313 := n0_; have HO322 := n1_; have BK307 := n2_; have BK308 := n3_; have HB := n4_; clear n0_ n1_ n2_ n3_ n4_; (try clear hb ho0)) | ((with_reducible refine gate_dst (N := 7) rfl ?_); refine box_event ?hg (N := 7) ?hd (cs := #[.string (⟨#[]⟩ : ByteArray), .slice none 0 0]) (t := 33) ?hr ?_; (case hd => rfl); (case hg => rfl); (case hr => first | (go_simp; done) | (go_simp; rfl)); intro gb323 hg w82 hbox hb; have n0_ := Am (rb (by (with_reducible repeat (first | apply ra | apply rn | apply re)); exact HO313.out) hb); have n1_ := Am (rb (by (with_reducible repeat (first | apply ra | apply rn | apply re)); exact HO322.out) hb); have n2_ := Am (zK BK307 hb); have n3_ := Am (zK BK308 hb); have n4_ := Am (bq zG hb); have n5_ := Am (hbox); have n6_ := Am ((by rw [hg]; exact (bz zG) : w.heap.size ≤ gb323)); have n7_ := Am ((by rw [hg]; exact (bz zG) : w.heap.size ≤ gb323)); have n8_ := Am ((by rw [hg]; exact Nat.ne_of_lt (zL BK307) : gb307 ≠ gb323)); have n9_ := Am ((by rw [hg]; exact Nat.ne_of_gt (zL BK307) : gb323 ≠ gb307)); have n10_ := Am ((by rw [hg]; exact Nat.ne_of_lt (zL BK308) : gb308 ≠ gb323)); have n11_ := Am ((by rw [hg]; exact Nat.ne_of_gt (zL BK308) : gb323 ≠ gb308)); clear HO313; clear HO322; clear BK307; clear BK308; clear HB; have HO313 := n0_; have HO322 := n1_; have BK307 := n2_; have BK308 := n3_; have HB := n4_; have BK323 := n5_; have GW323 := n6_; have GE323 := n7_; have NB307_323 := n8_; have NB323_307 := n9_; have NB308_323 := n10_; have NB323_308 := n11_; clear n0_ n1_ n2_ n3_ n4_ n5_ n6_ n7_ n8_ n9_ n10_ n11_; clear hb hbox hg; have hnb83 := NB323_307.out; have hnc83 := NB307_323.out; have hnb84 := NB323_308.out; have hnc84 := NB308_323.out; obtain ⟨hcz85_0, hcz85_1⟩ := kc2 (w := w82) BK323.out; have hfz85_0 := kf BK323.out; obtain ⟨Ao86, co86, eo86⟩ := Kd.R_slice HO322.out; subst eo86))
   have n0_ : Aside0 (Kd.R k155 155 ((w82.setCell ⟨gb323, 0, none⟩ (.string t319)).setCell ⟨gb323, 1, none⟩ (.slice Ao86 t320.length co86)) w.heap.size (fun k_ => some k_ ≠ (.slice Ao86 t320.length co86 : Value).ownBlock) (.slice Ao78 t311.length co78) t311) := ⟨by (with_reducible repeat (first | apply ra | apply rn | apply re)); exact Kd.R_mono (Kd.R_far (p := ⟨gb323, 1, none⟩) (Kd.R_far (p := ⟨gb323, 0, none⟩) (Kd.R_types HO313.out BK323.out (by decide)) (fun _ hk => hk.2) (.string t319)) (fun _ hk => hk.2) (.slice Ao86 t320.length co86)) (fun _ hk => hk.1.2)⟩
   have n1_ : Aside0 (Kd.R k155 155 ((w82.setCell ⟨gb323, 0, none⟩ (.string t319)).setCell ⟨gb323, 1, none⟩ (.slice Ao86 t320.length co86)) w.heap.size (fun k_ => some k_ ≠ (.slice Ao78 t311.length co78 : Value).ownBlock) (.slice Ao86 t320.length co86) t320) := ⟨by (with_reducible repeat (first | apply ra | apply rn | apply re)); exact Kd.R_mono (Kd.R_far (p := ⟨gb323, 1, none⟩) (Kd.R_far (p := ⟨gb323, 0, none⟩) (Kd.R_types HO322.out BK323.out (by decide)) (fun _ hk => hk.2) (.string t319)) (fun _ hk => hk.2) (.slice Ao86 t320.length co86)) (fun _ hk => hk.1.2)⟩
   have n2_ : Aside0 (((w82.setCell ⟨gb323, 0, none⟩ (.string t319)).setCell ⟨gb323, 1, none⟩ (.slice Ao86 t320.length co86)).heap[gb307]? = some (.cells #[.string a0_0, .slice A0_1 l0_1.length c0_1] 26 (0, 0))) := ⟨by (with_reducible repeat (first | refine kn ?_ _ | refine ke ?_ | refine ka ?_ _)); refine blk_far ?_ NB307_323.out _; (with_reducible repeat (first | refine kn ?_ _ | refine ke ?_ | refine ka ?_ _)); refine blk_far ?_ NB307_323.out _; (with_reducible repeat (first | refine kn ?_ _ | refine ke ?_ | refine ka ?_ _)); exact BK307.out⟩
   have n3_ : Aside0 (((w82.setCell ⟨gb323, 0, none⟩ (.string t319)).setCell ⟨gb323, 1, none⟩ (.slice Ao86 t320.length co86)).heap[gb308]? = some (.cells #[.int .i64 a1_0, .int .i64 a1_1, .int .i64 a1_2, .int .i64 a1_3] 23 (0, 0))) := ⟨by (with_reducible repeat (first | refine kn ?_ _ | refine ke ?_ | refine ka ?_ _)); refine blk_far ?_ NB308_323.out _; (with_reducible repeat (first | refine kn ?_ _ | refine ke ?_ | refine ka ?_ _)); refine blk_far ?_ NB308_323.out _; (with_reducible repeat (first | refine kn ?_ _ | refine ke ?_ | refine ka ?_ _)); exact BK308.out⟩
   have n4_ : Aside0 (((w82.setCell ⟨gb323, 0, none⟩ (.string t319)).setCell ⟨gb323, 1, none⟩ (.slice Ao86 t320.length co86)).heap[gb323]? = some (.cells #[.string t319, .slice Ao86 t320.length co86] 33 (0, 0))) := ⟨by (with_reducible repeat (first | refine kn ?_ _ | refine ke ?_ | refine ka ?_ _)); refine kp (cs := #[.string t319, .slice none 0 0]) ?_ 1 _ rfl; (with_reducible repeat (first | refine kn ?_ _ | refine ke ?_ | refine ka ?_ _)); refine kp (cs := #[.string (⟨#[]⟩ : ByteArray), .slice none 0 0]) ?_ 0 _ rfl; (with_reducible repeat (first | refine kn ?_ _ | refine ke ?_ | refine ka ?_ _)); exact BK323.out⟩
   have n5_ : Aside0 (Below w.heap.size w ((w82.setCell ⟨gb323, 0, none⟩ (.string t319)).setCell ⟨gb323, 1, none⟩ (.slice Ao86 t320.length co86))) := ⟨zG⟩
   (try clear HO313)
   (try clear HO322)
   (try clear BK307)
   (try clear BK308)
   (try clear BK323)
   (try clear HB)
   generalize ((w82.setCell ⟨gb323, 0, none⟩ (.string t319)).setCell ⟨gb323, 1, none⟩ (.slice Ao86 t320.length co86)) = w87 at n0_ n1_ n2_ n3_ n4_ n5_ ⊢
   have HO313 := n0_
   have HO322 := n1_
   have BK307 := n2_
   have BK308 := n3_
   have BK323 := n4_
   have HB := n5_
   clear n0_ n1_ n2_ n3_ n4_ n5_
   have n0_ := Am (re HO313.out)
   have n1_ := Am (re HO322.out)
   have n2_ := Am (ke BK307.out)
   have n3_ := Am (ke BK308.out)
   have n4_ := Am (ke BK323.out)
   have n5_ := Am (be HB.out)
   clear HO313
   clear HO322
   clear BK307
   clear BK308
   clear BK323
   clear HB
   have HO313 := n0_
   have HO322 := n1_
   have BK307 := n2_
   have BK308 := n3_
   have BK323 := n4_
   have HB := n5_
   clear n0_ n1_ n2_ n3_ n4_ n5_
   refine start_ (n := 5) (S := fun w' => w'.cell? ⟨gb323, 0, none⟩ = some (.string t319) ∧ w'.cell? ⟨gb323, 1, none⟩ = some (.slice Ao86 t320.length co86) ∧ w'.cell? ⟨gb308, 0, none⟩ = some (.int .i64 a1_0) ∧ w'.cell? ⟨gb308, 1, none⟩ = some (.int .i64 a1_1) ∧ w'.cell? ⟨gb308, 2, none⟩ = some (.int .i64 a1_2) ∧ w'.cell? ⟨gb308, 3, none⟩ = some (.int .i64 a1_3)) (ds := []) #[false, false, false, false, false] (by kernel_rfl) rfl rfl ⟨(kc BK323.out 0).trans rfl, (kc BK323.out 1).trans rfl, (kc BK308.out 0).trans rfl, (kc BK308.out 1).trans rfl, (kc BK308.out 2).trans rfl, (kc BK308.out 3).trans rfl⟩ (fun hHeld => ?_)
   generalize w87.drew = w88 at HO313 HO322 BK307 BK308 BK323 HB hHeld ⊢
   refine yT 0 (some 21) rfl rfl hHeld ?_
   refine yT 1 (some 22) rfl rfl hHeld ?_
   refine yO 2 (some 23) rfl rfl (fun K hK => ?_)
   refine goes_ Try.func12 (by kernel_rfl) rfl #[.agg #[.int .i64 a1_0, .int .i64 a1_1, .int .i64 a1_2, .int .i64 a1_3]] (by rfl) rfl rfl (by (try simp only [List.map_toArray, List.map_cons, List.map_nil]); first | done | rfl | (simp only [List.length_drop, List.length_take]; rfl)) ?_
   with_reducible refine (laws_toGeo.calls a1_0 a1_1 a1_2 a1_3 t324 t325 t326 t327 _ A14.out).mono ?_
   rintro e w89 ⟨rfl, hb⟩
   refine ⟨_, rfl, ?_⟩
   have n0_ := Am (rb (by (with_reducible repeat (first | apply ra | apply rn | apply re)); exact HO313.out) hb)
   have n1_ := Am (rb (by (with_reducible repeat (first | apply ra | apply rn | apply re)); exact HO322.out) hb)
   have n2_ := Am (zK BK307 hb)
   have n3_ := Am (zK BK308 hb)
   have n4_ := Am (zK BK323 hb)
   have n5_ := Am (bq zG hb)
   clear HO313
   clear HO322
   clear BK307
   clear BK308
   clear BK323
   clear HB
   have HO313 := n0_
   have HO322 := n1_
   have BK307 := n2_
   have BK308 := n3_
   have BK323 := n4_
   have HB := n5_
   clear n0_ n1_ n2_ n3_ n4_ n5_
   (try clear hb)
   (try clear hb2)
   (try clear hk)
   (try clear hi)
   refine hK.out _ _ ⟨(kc BK323.out 0).trans rfl, (kc BK323.out 1).trans rfl, (kc BK308.out 0).trans rfl, (kc BK308.out 1).trans rfl, (kc BK308.out 2).trans rfl, (kc BK308.out 3).trans rfl⟩ (fun hHeld => ?_)
   clear hK K
   refine zN (some 23) ?_
   refine yO 3 (some 24) rfl rfl (fun K hK => ?_)
   refine goes_ Try.func43 (by kernel_rfl) rfl #[.agg #[.string t319, .slice Ao86 t320.length co86], .agg #[.int .i64 t324, .int .i64 t325, .int .i64 t326, .int .i64 t327]] (by rfl) rfl rfl (by (try simp only [List.map_toArray, List.map_cons, List.map_nil]); first | done | rfl | (simp only [List.length_drop, List.length_take]; rfl)) ?_
   with_reducible refine (impl_MaskedImage.calls k t319 _ _ t320 t324 t325 t326 t327 t328 _ ?side1 ?side2 A15.out).mono ?_
   (case side1 => repeat (first | exact (Kd.R_reads' HO322.out).2.2 | (with_reducible first | refine ca ?_ _ | refine cn ?_ _ | refine ce ?_)))
   (case side2 => exact (Kd.R_reads' HO322.out).2.1)
   rintro e w90 ⟨rfl, hb⟩
   refine ⟨_, rfl, ?_⟩
   have n0_ := Am (rb (by (with_reducible repeat (first | apply ra | apply rn | apply re)); exact HO313.out) hb)
   have n1_ := Am (rb (by (with_reducible repeat (first | apply ra | apply rn | apply re)); exact HO322.out) hb)
   have n2_ := Am (zK BK307 hb)
   have n3_ := Am (zK BK308 hb)
   have n4_ := Am (zK BK323 hb)
   have n5_ := Am (bq zG hb)
   clear HO313
   clear HO322
   clear BK307
   clear BK308
   clear BK323
   clear HB
   have HO313 := n0_
   have HO322 := n1_
   have BK307 := n2_
   have BK308 := n3_
   have BK323 := n4_
   have HB := n5_
   clear n0_ n1_ n2_ n3_ n4_ n5_
   (try clear hb)
   (try clear hb2)
   (try clear hk)
   (try clear hi)
   refine hK.out _ _ ⟨(kc BK323.out 0).trans rfl, (kc BK323.out 1).trans rfl, (kc BK308.out 0).trans rfl, (kc BK308.out 1).trans rfl, (kc BK308.out 2).trans rfl, (kc BK308.out 3).trans rfl⟩ (fun hHeld => ?_)
   clear hK K
   refine zN (some 24) ?_
   refine yA 4 (some 8) rfl rfl ?_
   refine done_ (by kernel_rfl) ?_
   try go_wp2
   go_ret
   exact ⟨zR, zG⟩

end Go.Proofs.Ytconffflmbakgaa.QFnExactMaskedImage
