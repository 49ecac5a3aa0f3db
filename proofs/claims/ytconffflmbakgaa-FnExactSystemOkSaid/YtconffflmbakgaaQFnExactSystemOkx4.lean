/- Go functions as Lean functions, and their contracts. Own text: written by wip/gen/pr.py (a turned copy of the print). -/
import Derived.Test.YtconffflmbakgaaQFnExactSystemOkx0
import Derived.Test.YtconffflmbakgaaQFnExactSystemOkx2
import Derived.Test.YtconffflmbakgaaQFnExactSystemOkx3
namespace Go.Proofs.Ytconffflmbakgaa.QFnExactSystemOk
open Go.RowKit Go.Proofs.YtconffflmbakgaaW.PrintWords Go.Proofs.YtconffflmbakgaaW.PrintLast Go.Proofs.YtconffflmbakgaaW.PrintMore
attribute [local go_sem] max2_int min2_int max_two min_two max_three min_three max_four min_four   -- for this text's walks alone
open Go.Proofs.YtconffflmbakgaaW.PrintWords renaming below_alloc → ba, pw_below_drewN → bn, below_drew1 → be, below_set → bs, blk_drewN → kn, blk_drew → ke, blk_alloc → ka, blk_below → kb, blk_frozen → kf, blk_cell → kc, below_step → bq, below_size → bz, blk_lt → kl
open Go.Proofs.YtconffflmbakgaaW.PrintWords.Kd renaming C_alloc → ca, C_drewN → cn, C_drew → ce, C_below → cb
open Go.Proofs.YtconffflmbakgaaW.PrintWords.Aside0 renaming mk → Am
set_option linter.unusedVariables false
set_option linter.unusedSimpArgs false

def o4b0 (p0 : ByteArray) (p1 : Option Addr) (p2 p3 : Nat) : Obj := .cells #[.string p0, .slice p1 p2 p3] 33 (0, 0)
def o4b1 (p0 : Int) (p1 : Int) (p2 : Int) (p3 : Int) : Obj := .cells #[.int .i64 p0, .int .i64 p1, .int .i64 p2, .int .i64 p3] 29 (0, 0)
/-! ### spec_l10Words: function 98 -/
def spec_l10Words.f (a0_0 : ByteArray) (l0_1 : List (S155)) : Option (Int) := some (wrap64 ((a0_0.size : Int) / 8))
set_option maxHeartbeats 8000000 in
set_option maxRecDepth 100000 in
theorem spec_l10Words.calls (a0_0 : ByteArray) (A0_1 : Option Addr) (c0_1 : Nat) (l0_1 : List (S155)) (r : Int) (w : World) (hr0_1 : Kd.C k155 w A0_1 l0_1.length l0_1) (hc0_1 : l0_1.length ≤ c0_1) (h : spec_l10Words.f a0_0 l0_1 = some r) :
  Calls Try.prog 98 #[.agg #[.string a0_0, .slice A0_1 l0_1.length c0_1]] w fun e w' => e = .returned (.int .i64 r) ∧ Below w.heap.size w w' := by
 have hu33 := Try.underlying33
 have HR0_1 := Am hr0_1
 have HC0_1 := Am hc0_1
 clear hr0_1 hc0_1
 have HB := Am (Below.refl w.heap.size w)
 have H : (some (wrap64 ((a0_0.size : Int) / 8))) = some r := h
 clear h
 obtain rfl := Option.some.inj H
 go_enter Try.func98, Try.ntmps98
 go_wp2_with (first | ((with_reducible refine gate_dst (N := 1) rfl ?_); refine box_event ?hg (N := 1) ?hd (cs := #[.string a0_0, .slice A0_1 l0_1.length c0_1]) (t := 33) ?hr ?_; (case hd => rfl); (case hg => rfl); (case hr => first | (go_simp; done) | (go_simp; rfl)); intro gb145 hg w2 hbox hb; have BK145 := Am (hbox); have GW145 := Am ((by rw [hg]; exact (bz zB) : w.heap.size ≤ gb145)); have GE145 := Am ((by rw [hg]; exact (bz zB) : w.heap.size ≤ gb145)); replace HB := Am (bq zB hb); clear hb hbox hg; obtain ⟨hcz3_0, hcz3_1⟩ := kc2 (w := w2) BK145.out; have hfz3_0 := kf BK145.out))
 go_ret
 exact ⟨zR, zG⟩

/-! ### spec_l19Has: function 46 -/
def spec_l19Has.f (k : Nat) (a0_0 : ByteArray) (l0_1 : List (S155)) (a1_0 : Int) (a1_1 : Int) (a1_2 : Int) (a1_3 : Int) : Option (Bool) := (spec_GeoOk.f a1_0 a1_1 a1_2 a1_3).bind fun t148 => (if t148 = true then ((spec_MemoryOk.f k a0_0 l0_1).bind fun t149 => (if t149 = true then ((spec_l10Words.f a0_0 l0_1).bind fun t150 => ((spec_LinesIn.f a1_0 a1_1 a1_2 a1_3).bind fun t151 => (some (decide (t150 ≥ (wrap64 (2 * t151))))))) else (some false))) else (some false))
theorem spec_l19Has.mono : ∀ a0 a1 a2 a3 a4 a5 k, LeO (spec_l19Has.f k a0 a1 a2 a3 a4 a5) (spec_l19Has.f (k + 1) a0 a1 a2 a3 a4 a5) := by
 intro a0 a1 a2 a3 a4 a5 k
 unfold spec_l19Has.f
 repeat' first
   | (with_reducible exact spec_MemoryOk.mono _ _ _)
   | (with_reducible exact LeO.refl _)
   | (with_reducible exact LeO.none _)
   | (with_reducible refine LeO.ite ?_ ?_)
   | (with_reducible refine LeO.bind ?_ (fun _ => ?_))
   | exact spec_MemoryOk.mono _ _ _
   | exact LeO.none _
   | refine LeO.ite ?_ ?_
   | refine LeO.bind ?_ (fun _ => ?_)
def spec_l19Has.T1 : Bool × List (List Nat × List Nat) := (true, [([], []), ([0], [0]), ([1, 1], [1]), ([2], [2]), ([3, 2, 2], [2, 3]), ([2, 4], [2, 4]), ([5, 4], [5]), ([6], [6]), ([7, 6, 6], [6, 7]), ([6], [6]), ([9, 8, 6], [6, 9]), ([10, 6], [6, 10]), ([8, 11, 6], [6, 8, 11]), ([6, 12], [6, 12]), ([13, 10, 0, 1, 2, 3, 4, 5, 6, 7, 8, 9, 10, 11, 12, 13], [13])])
def spec_l19Has.B1 : List Nat := [0, 1, 3, 7, 15, 31, 63, 127, 255, 127, 1023, 2047, 4095, 8191, 16383]
theorem spec_l19Has.tab1 : rtab .any (opsOf Try.f46 1) = spec_l19Has.T1 := by kernel_rfl
theorem spec_l19Has.bits1 : waitsOk spec_l19Has.T1.2 spec_l19Has.B1 = true := by kernel_rfl
set_option maxHeartbeats 8000000 in
set_option maxRecDepth 100000 in
theorem spec_l19Has.calls (k : Nat) (a0_0 : ByteArray) (A0_1 : Option Addr) (c0_1 : Nat) (l0_1 : List (S155)) (a1_0 : Int) (a1_1 : Int) (a1_2 : Int) (a1_3 : Int) (r : Bool) (w : World) (hr0_1 : Kd.C k155 w A0_1 l0_1.length l0_1) (hc0_1 : l0_1.length ≤ c0_1) (h : spec_l19Has.f k a0_0 l0_1 a1_0 a1_1 a1_2 a1_3 = some r) :
  Calls Try.prog 46 #[.agg #[.string a0_0, .slice A0_1 l0_1.length c0_1], .agg #[.int .i64 a1_0, .int .i64 a1_1, .int .i64 a1_2, .int .i64 a1_3]] w fun e w' => e = .returned (.bool r) ∧ Below w.heap.size w w' := by
 have hu33 := Try.underlying33
 have hu29 := Try.underlying29
 have HR0_1 := Am hr0_1
 have HC0_1 := Am hc0_1
 clear hr0_1 hc0_1
 have HB := Am (Below.refl w.heap.size w)
 have H : ((spec_GeoOk.f a1_0 a1_1 a1_2 a1_3).bind fun t148 => (if t148 = true then ((spec_MemoryOk.f k a0_0 l0_1).bind fun t149 => (if t149 = true then ((spec_l10Words.f a0_0 l0_1).bind fun t150 => ((spec_LinesIn.f a1_0 a1_1 a1_2 a1_3).bind fun t151 => (some (decide (t150 ≥ (wrap64 (2 * t151))))))) else (some false))) else (some false))) = some r := h
 clear h
 replace H := Option.bind_eq_some_iff.mp H
 obtain ⟨t148, A30, H⟩ := H
 replace H : (if t148 = true then ((spec_MemoryOk.f k a0_0 l0_1).bind fun t149 => (if t149 = true then ((spec_l10Words.f a0_0 l0_1).bind fun t150 => ((spec_LinesIn.f a1_0 a1_1 a1_2 a1_3).bind fun t151 => (some (decide (t150 ≥ (wrap64 (2 * t151))))))) else (some false))) else (some false)) = some r := H
 have A3 := Am A30
 clear A30
 by_cases c4 : t148 = true
 ·subst c4
  have H1 : ((spec_MemoryOk.f k a0_0 l0_1).bind fun t149 => (if t149 = true then ((spec_l10Words.f a0_0 l0_1).bind fun t150 => ((spec_LinesIn.f a1_0 a1_1 a1_2 a1_3).bind fun t151 => (some (decide (t150 ≥ (wrap64 (2 * t151))))))) else (some false))) = some r := by rw [if_pos rfl] at H; exact H
  clear H
  have H := H1
  clear H1
  replace H := Option.bind_eq_some_iff.mp H
  obtain ⟨t149, A50, H⟩ := H
  replace H : (if t149 = true then ((spec_l10Words.f a0_0 l0_1).bind fun t150 => ((spec_LinesIn.f a1_0 a1_1 a1_2 a1_3).bind fun t151 => (some (decide (t150 ≥ (wrap64 (2 * t151))))))) else (some false)) = some r := H
  have A5 := Am A50
  clear A50
  by_cases c6 : t149 = true
  ·subst c6
   have H1 : ((spec_l10Words.f a0_0 l0_1).bind fun t150 => ((spec_LinesIn.f a1_0 a1_1 a1_2 a1_3).bind fun t151 => (some (decide (t150 ≥ (wrap64 (2 * t151))))))) = some r := by rw [if_pos rfl] at H; exact H
   clear H
   have H := H1
   clear H1
   replace H := Option.bind_eq_some_iff.mp H
   obtain ⟨t150, A70, H⟩ := H
   replace H : ((spec_LinesIn.f a1_0 a1_1 a1_2 a1_3).bind fun t151 => (some (decide (t150 ≥ (wrap64 (2 * t151)))))) = some r := H
   have A7 := Am A70
   clear A70
   replace H := Option.bind_eq_some_iff.mp H
   obtain ⟨t151, A80, H⟩ := H
   replace H : (some (decide (t150 ≥ (wrap64 (2 * t151))))) = some r := H
   have A8 := Am A80
   clear A80
   obtain rfl := Option.some.inj H
   go_enter Try.func46, Try.ntmps46
   try go_wp2_with (first | ((with_reducible refine gate_dst (N := 2) rfl ?_); refine box_event ?hg (N := 2) ?hd (cs := #[.string a0_0, .slice A0_1 l0_1.length c0_1]) (t := 33) ?hr ?_; (case hd => rfl); (case hg => rfl); (case hr => first | (go_simp; done) | (go_simp; rfl)); intro gb146 hg w9 hbox hb; have BK146 := Am (hbox); have GW146 := Am ((by rw [hg]; exact (bz zB) : w.heap.size ≤ gb146)); have GE146 := Am ((by rw [hg]; exact (bz zB) : w.heap.size ≤ gb146)); replace HB := Am (bq zB hb); clear hb hbox hg) | ((with_reducible refine gate_dst (N := 3) rfl ?_); refine box_event ?hg (N := 3) ?hd (cs := #[.int .i64 a1_0, .int .i64 a1_1, .int .i64 a1_2, .int .i64 a1_3]) (t := 29) ?hr ?_; (case hd => rfl); (case hg => rfl); (case hr => first | (go_simp; done) | (go_simp; rfl)); intro gb147 hg w10 hbox hb; have n0_ := Am (zK BK146 hb); have n1_ := Am (bq zG hb); have n2_ := Am (hbox); have n3_ := Am ((by rw [hg]; exact (bz zG) : w.heap.size ≤ gb147)); have n4_ := Am ((by rw [hg]; exact (bz zG) : w.heap.size ≤ gb147)); have n5_ := Am ((by rw [hg]; exact Nat.ne_of_lt (zL BK146) : gb146 ≠ gb147)); have n6_ := Am ((by rw [hg]; exact Nat.ne_of_gt (zL BK146) : gb147 ≠ gb146)); clear BK146; clear HB; have BK146 := n0_; have HB := n1_; have BK147 := n2_; have GW147 := n3_; have GE147 := n4_; have NB146_147 := n5_; have NB147_146 := n6_; clear n0_ n1_ n2_ n3_ n4_ n5_ n6_; clear hb hbox hg))
   have n0_ := Am (ke BK146.out)
   have n1_ := Am (ke BK147.out)
   have n2_ := Am (be HB.out)
   clear BK146
   clear BK147
   clear HB
   have BK146 := n0_
   have BK147 := n1_
   have HB := n2_
   clear n0_ n1_ n2_
   refine start_ (n := 15) (S := fun w' => w'.cell? ⟨gb147, 0, none⟩ = some (.int .i64 a1_0) ∧ w'.cell? ⟨gb147, 1, none⟩ = some (.int .i64 a1_1) ∧ w'.cell? ⟨gb147, 2, none⟩ = some (.int .i64 a1_2) ∧ w'.cell? ⟨gb147, 3, none⟩ = some (.int .i64 a1_3) ∧ w'.cell? ⟨gb146, 0, none⟩ = some (.string a0_0) ∧ w'.cell? ⟨gb146, 1, none⟩ = some (.slice A0_1 l0_1.length c0_1)) (ds := []) #[false, false, false, false, false, false, false, false, false, false, false, false, false, false, false] (by kernel_rfl) rfl rfl ⟨(kc BK147.out 0).trans rfl, (kc BK147.out 1).trans rfl, (kc BK147.out 2).trans rfl, (kc BK147.out 3).trans rfl, (kc BK146.out 0).trans rfl, (kc BK146.out 1).trans rfl⟩ (fun hHeld => ?_); refine with_tabW spec_l19Has.tab1 spec_l19Has.bits1 (fun HT_ HW_ => ?_)
   generalize w10.drew = w11 at BK146 BK147 HB hHeld ⊢
   refine zT 0 (some 5) HT_.out HW_.out rfl rfl hHeld ?_
   refine zO 1 (some 6) HT_.out rfl rfl (fun K hK => ?_)
   refine goes_ Try.func96 (by kernel_rfl) rfl #[.agg #[.int .i64 a1_0, .int .i64 a1_1, .int .i64 a1_2, .int .i64 a1_3]] (by rfl) rfl rfl (by (try simp only [List.map_toArray, List.map_cons, List.map_nil]); first | done | rfl | (simp only [List.length_drop, List.length_take]; rfl)) ?_
   with_reducible refine (spec_GeoOk.calls a1_0 a1_1 a1_2 a1_3 true _ A3.out).mono ?_
   rintro e w12 ⟨rfl, hb⟩
   refine ⟨_, rfl, ?_⟩
   have n0_ := Am (zK BK146 hb)
   have n1_ := Am (zK BK147 hb)
   have n2_ := Am (bq zG hb)
   clear BK146
   clear BK147
   clear HB
   have BK146 := n0_
   have BK147 := n1_
   have HB := n2_
   clear n0_ n1_ n2_
   (try clear hb)
   (try clear hb2)
   (try clear hk)
   (try clear hi)
   refine hK.out _ _ ⟨(kc BK147.out 0).trans rfl, (kc BK147.out 1).trans rfl, (kc BK147.out 2).trans rfl, (kc BK147.out 3).trans rfl, (kc BK146.out 0).trans rfl, (kc BK146.out 1).trans rfl⟩ (fun hHeld => ?_)
   clear hK K
   refine zN (some 6) ?_
   refine zA 2 (some 7) HT_.out rfl rfl ?_
   refine zT 3 (some 8) HT_.out HW_.out rfl rfl hHeld ?_
   refine zO 4 (some 9) HT_.out rfl rfl (fun K hK => ?_)
   refine goes_ Try.func97 (by kernel_rfl) rfl #[.agg #[.string a0_0, .slice A0_1 l0_1.length c0_1]] (by rfl) rfl rfl (by (try simp only [List.map_toArray, List.map_cons, List.map_nil]); first | done | rfl | (simp only [List.length_drop, List.length_take]; rfl)) ?_
   with_reducible refine (spec_MemoryOk.calls k a0_0 _ _ l0_1 true _ ?side1 ?side2 A5.out).mono ?_
   (case side1 => repeat (first | exact (cb HR0_1.out HB.out) | (with_reducible first | refine ca ?_ _ | refine cn ?_ _ | refine ce ?_)))
   (case side2 => exact HC0_1.out)
   rintro e w13 ⟨rfl, hb⟩
   refine ⟨_, rfl, ?_⟩
   have n0_ := Am (zK BK146 hb)
   have n1_ := Am (zK BK147 hb)
   have n2_ := Am (bq zG hb)
   clear BK146
   clear BK147
   clear HB
   have BK146 := n0_
   have BK147 := n1_
   have HB := n2_
   clear n0_ n1_ n2_
   (try clear hb)
   (try clear hb2)
   (try clear hk)
   (try clear hi)
   refine hK.out _ _ ⟨(kc BK147.out 0).trans rfl, (kc BK147.out 1).trans rfl, (kc BK147.out 2).trans rfl, (kc BK147.out 3).trans rfl, (kc BK146.out 0).trans rfl, (kc BK146.out 1).trans rfl⟩ (fun hHeld => ?_)
   clear hK K
   refine zN (some 9) ?_
   refine zA 5 (some 10) HT_.out rfl rfl ?_
   refine zA 6 (some 11) HT_.out rfl rfl ?_
   refine zT 7 (some 12) HT_.out HW_.out rfl rfl hHeld ?_
   refine zT 9 (some 14) HT_.out HW_.out rfl rfl hHeld ?_
   refine zO 8 (some 13) HT_.out rfl rfl (fun K hK => ?_)
   refine goes_ Try.func98 (by kernel_rfl) rfl #[.agg #[.string a0_0, .slice A0_1 l0_1.length c0_1]] (by rfl) rfl rfl (by (try simp only [List.map_toArray, List.map_cons, List.map_nil]); first | done | rfl | (simp only [List.length_drop, List.length_take]; rfl)) ?_
   with_reducible refine (spec_l10Words.calls a0_0 _ _ l0_1 t150 _ ?side1 ?side2 A7.out).mono ?_
   (case side1 => repeat (first | exact (cb HR0_1.out HB.out) | (with_reducible first | refine ca ?_ _ | refine cn ?_ _ | refine ce ?_)))
   (case side2 => exact HC0_1.out)
   rintro e w14 ⟨rfl, hb⟩
   refine ⟨_, rfl, ?_⟩
   have n0_ := Am (zK BK146 hb)
   have n1_ := Am (zK BK147 hb)
   have n2_ := Am (bq zG hb)
   clear BK146
   clear BK147
   clear HB
   have BK146 := n0_
   have BK147 := n1_
   have HB := n2_
   clear n0_ n1_ n2_
   (try clear hb)
   (try clear hb2)
   (try clear hk)
   (try clear hi)
   refine hK.out _ _ ⟨(kc BK147.out 0).trans rfl, (kc BK147.out 1).trans rfl, (kc BK147.out 2).trans rfl, (kc BK147.out 3).trans rfl, (kc BK146.out 0).trans rfl, (kc BK146.out 1).trans rfl⟩ (fun hHeld => ?_)
   clear hK K
   refine zN (some 13) ?_
   refine zO 10 (some 15) HT_.out rfl rfl (fun K hK => ?_)
   refine goes_ Try.func48 (by kernel_rfl) rfl #[.agg #[.int .i64 a1_0, .int .i64 a1_1, .int .i64 a1_2, .int .i64 a1_3]] (by rfl) rfl rfl (by (try simp only [List.map_toArray, List.map_cons, List.map_nil]); first | done | rfl | (simp only [List.length_drop, List.length_take]; rfl)) ?_
   with_reducible refine (spec_LinesIn.calls a1_0 a1_1 a1_2 a1_3 t151 _ A8.out).mono ?_
   rintro e w15 ⟨rfl, hb⟩
   refine ⟨_, rfl, ?_⟩
   have n0_ := Am (zK BK146 hb)
   have n1_ := Am (zK BK147 hb)
   have n2_ := Am (bq zG hb)
   clear BK146
   clear BK147
   clear HB
   have BK146 := n0_
   have BK147 := n1_
   have HB := n2_
   clear n0_ n1_ n2_
   (try clear hb)
   (try clear hb2)
   (try clear hk)
   (try clear hi)
   refine hK.out _ _ ⟨(kc BK147.out 0).trans rfl, (kc BK147.out 1).trans rfl, (kc BK147.out 2).trans rfl, (kc BK147.out 3).trans rfl, (kc BK146.out 0).trans rfl, (kc BK146.out 1).trans rfl⟩ (fun hHeld => ?_)
   clear hK K
   refine zN (some 15) ?_
   refine zA 11 (some 16) HT_.out rfl rfl ?_
   refine zA 12 (some 17) HT_.out rfl rfl ?_
   refine zA 13 (some 18) HT_.out rfl rfl ?_
   refine zA 14 (some 4) HT_.out rfl rfl ?_
   refine done_ (done_of HT_.out (by kernel_rfl)) ?_
   try go_wp2
   go_ret
   exact ⟨zR, zG⟩
  ·replace c6 := Bool.eq_false_iff.mpr c6
   subst c6
   have H1 : (some false) = some r := by rw [if_neg (show ¬ (false = true) by decide)] at H; exact H
   clear H
   have H := H1
   clear H1
   obtain rfl := Option.some.inj H
   go_enter Try.func46, Try.ntmps46
   try go_wp2_with (first | ((with_reducible refine gate_dst (N := 2) rfl ?_); refine box_event ?hg (N := 2) ?hd (cs := #[.string a0_0, .slice A0_1 l0_1.length c0_1]) (t := 33) ?hr ?_; (case hd => rfl); (case hg => rfl); (case hr => first | (go_simp; done) | (go_simp; rfl)); intro gb146 hg w16 hbox hb; have BK146 := Am (hbox); have GW146 := Am ((by rw [hg]; exact (bz zB) : w.heap.size ≤ gb146)); have GE146 := Am ((by rw [hg]; exact (bz zB) : w.heap.size ≤ gb146)); replace HB := Am (bq zB hb); clear hb hbox hg) | ((with_reducible refine gate_dst (N := 3) rfl ?_); refine box_event ?hg (N := 3) ?hd (cs := #[.int .i64 a1_0, .int .i64 a1_1, .int .i64 a1_2, .int .i64 a1_3]) (t := 29) ?hr ?_; (case hd => rfl); (case hg => rfl); (case hr => first | (go_simp; done) | (go_simp; rfl)); intro gb147 hg w17 hbox hb; have n0_ := Am (zK BK146 hb); have n1_ := Am (bq zG hb); have n2_ := Am (hbox); have n3_ := Am ((by rw [hg]; exact (bz zG) : w.heap.size ≤ gb147)); have n4_ := Am ((by rw [hg]; exact (bz zG) : w.heap.size ≤ gb147)); have n5_ := Am ((by rw [hg]; exact Nat.ne_of_lt (zL BK146) : gb146 ≠ gb147)); have n6_ := Am ((by rw [hg]; exact Nat.ne_of_gt (zL BK146) : gb147 ≠ gb146)); clear BK146; clear HB; have BK146 := n0_; have HB := n1_; have BK147 := n2_; have GW147 := n3_; have GE147 := n4_; have NB146_147 := n5_; have NB147_146 := n6_; clear n0_ n1_ n2_ n3_ n4_ n5_ n6_; clear hb hbox hg))
   have n0_ := Am (ke BK146.out)
   have n1_ := Am (ke BK147.out)
   have n2_ := Am (be HB.out)
   clear BK146
   clear BK147
   clear HB
   have BK146 := n0_
   have BK147 := n1_
   have HB := n2_
   clear n0_ n1_ n2_
   refine start_ (n := 15) (S := fun w' => w'.cell? ⟨gb147, 0, none⟩ = some (.int .i64 a1_0) ∧ w'.cell? ⟨gb147, 1, none⟩ = some (.int .i64 a1_1) ∧ w'.cell? ⟨gb147, 2, none⟩ = some (.int .i64 a1_2) ∧ w'.cell? ⟨gb147, 3, none⟩ = some (.int .i64 a1_3) ∧ w'.cell? ⟨gb146, 0, none⟩ = some (.string a0_0) ∧ w'.cell? ⟨gb146, 1, none⟩ = some (.slice A0_1 l0_1.length c0_1)) (ds := []) #[false, false, false, false, false, false, false, false, false, false, false, false, false, false, false] (by kernel_rfl) rfl rfl ⟨(kc BK147.out 0).trans rfl, (kc BK147.out 1).trans rfl, (kc BK147.out 2).trans rfl, (kc BK147.out 3).trans rfl, (kc BK146.out 0).trans rfl, (kc BK146.out 1).trans rfl⟩ (fun hHeld => ?_); refine with_tabW spec_l19Has.tab1 spec_l19Has.bits1 (fun HT_ HW_ => ?_)
   generalize w17.drew = w18 at BK146 BK147 HB hHeld ⊢
   refine zT 0 (some 5) HT_.out HW_.out rfl rfl hHeld ?_
   refine zO 1 (some 6) HT_.out rfl rfl (fun K hK => ?_)
   refine goes_ Try.func96 (by kernel_rfl) rfl #[.agg #[.int .i64 a1_0, .int .i64 a1_1, .int .i64 a1_2, .int .i64 a1_3]] (by rfl) rfl rfl (by (try simp only [List.map_toArray, List.map_cons, List.map_nil]); first | done | rfl | (simp only [List.length_drop, List.length_take]; rfl)) ?_
   with_reducible refine (spec_GeoOk.calls a1_0 a1_1 a1_2 a1_3 true _ A3.out).mono ?_
   rintro e w19 ⟨rfl, hb⟩
   refine ⟨_, rfl, ?_⟩
   have n0_ := Am (zK BK146 hb)
   have n1_ := Am (zK BK147 hb)
   have n2_ := Am (bq zG hb)
   clear BK146
   clear BK147
   clear HB
   have BK146 := n0_
   have BK147 := n1_
   have HB := n2_
   clear n0_ n1_ n2_
   (try clear hb)
   (try clear hb2)
   (try clear hk)
   (try clear hi)
   refine hK.out _ _ ⟨(kc BK147.out 0).trans rfl, (kc BK147.out 1).trans rfl, (kc BK147.out 2).trans rfl, (kc BK147.out 3).trans rfl, (kc BK146.out 0).trans rfl, (kc BK146.out 1).trans rfl⟩ (fun hHeld => ?_)
   clear hK K
   refine zN (some 6) ?_
   refine zA 2 (some 7) HT_.out rfl rfl ?_
   refine zT 3 (some 8) HT_.out HW_.out rfl rfl hHeld ?_
   refine zO 4 (some 9) HT_.out rfl rfl (fun K hK => ?_)
   refine goes_ Try.func97 (by kernel_rfl) rfl #[.agg #[.string a0_0, .slice A0_1 l0_1.length c0_1]] (by rfl) rfl rfl (by (try simp only [List.map_toArray, List.map_cons, List.map_nil]); first | done | rfl | (simp only [List.length_drop, List.length_take]; rfl)) ?_
   with_reducible refine (spec_MemoryOk.calls k a0_0 _ _ l0_1 false _ ?side1 ?side2 A5.out).mono ?_
   (case side1 => repeat (first | exact (cb HR0_1.out HB.out) | (with_reducible first | refine ca ?_ _ | refine cn ?_ _ | refine ce ?_)))
   (case side2 => exact HC0_1.out)
   rintro e w20 ⟨rfl, hb⟩
   refine ⟨_, rfl, ?_⟩
   have n0_ := Am (zK BK146 hb)
   have n1_ := Am (zK BK147 hb)
   have n2_ := Am (bq zG hb)
   clear BK146
   clear BK147
   clear HB
   have BK146 := n0_
   have BK147 := n1_
   have HB := n2_
   clear n0_ n1_ n2_
   (try clear hb)
   (try clear hb2)
   (try clear hk)
   (try clear hi)
   refine hK.out _ _ ⟨(kc BK147.out 0).trans rfl, (kc BK147.out 1).trans rfl, (kc BK147.out 2).trans rfl, (kc BK147.out 3).trans rfl, (kc BK146.out 0).trans rfl, (kc BK146.out 1).trans rfl⟩ (fun hHeld => ?_)
   clear hK K
   refine zN (some 9) ?_
   refine zA 5 (some 10) HT_.out rfl rfl ?_
   refine zA 6 (some 11) HT_.out rfl rfl ?_
   refine zI 7 (some 12) HT_.out rfl rfl ?_
   refine zI 8 (some 13) HT_.out rfl rfl ?_
   refine zI 9 (some 14) HT_.out rfl rfl ?_
   refine zI 10 (some 15) HT_.out rfl rfl ?_
   refine zI 11 (some 16) HT_.out rfl rfl ?_
   refine zI 12 (some 17) HT_.out rfl rfl ?_
   refine zA 13 (some 18) HT_.out rfl rfl ?_
   refine zA 14 (some 4) HT_.out rfl rfl ?_
   refine done_ (done_of HT_.out (by kernel_rfl)) ?_
   try go_wp2
   go_ret
   exact ⟨zR, zG⟩
 ·replace c4 := Bool.eq_false_iff.mpr c4
  subst c4
  have H1 : (some false) = some r := by rw [if_neg (show ¬ (false = true) by decide)] at H; exact H
  clear H
  have H := H1
  clear H1
  obtain rfl := Option.some.inj H
  go_enter Try.func46, Try.ntmps46
  try go_wp2_with (first | ((with_reducible refine gate_dst (N := 2) rfl ?_); refine box_event ?hg (N := 2) ?hd (cs := #[.string a0_0, .slice A0_1 l0_1.length c0_1]) (t := 33) ?hr ?_; (case hd => rfl); (case hg => rfl); (case hr => first | (go_simp; done) | (go_simp; rfl)); intro gb146 hg w21 hbox hb; have BK146 := Am (hbox); have GW146 := Am ((by rw [hg]; exact (bz zB) : w.heap.size ≤ gb146)); have GE146 := Am ((by rw [hg]; exact (bz zB) : w.heap.size ≤ gb146)); replace HB := Am (bq zB hb); clear hb hbox hg) | ((with_reducible refine gate_dst (N := 3) rfl ?_); refine box_event ?hg (N := 3) ?hd (cs := #[.int .i64 a1_0, .int .i64 a1_1, .int .i64 a1_2, .int .i64 a1_3]) (t := 29) ?hr ?_; (case hd => rfl); (case hg => rfl); (case hr => first | (go_simp; done) | (go_simp; rfl)); intro gb147 hg w22 hbox hb; have n0_ := Am (zK BK146 hb); have n1_ := Am (bq zG hb); have n2_ := Am (hbox); have n3_ := Am ((by rw [hg]; exact (bz zG) : w.heap.size ≤ gb147)); have n4_ := Am ((by rw [hg]; exact (bz zG) : w.heap.size ≤ gb147)); have n5_ := Am ((by rw [hg]; exact Nat.ne_of_lt (zL BK146) : gb146 ≠ gb147)); have n6_ := Am ((by rw [hg]; exact Nat.ne_of_gt (zL BK146) : gb147 ≠ gb146)); clear BK146; clear HB; have BK146 := n0_; have HB := n1_; have BK147 := n2_; have GW147 := n3_; have GE147 := n4_; have NB146_147 := n5_; have NB147_146 := n6_; clear n0_ n1_ n2_ n3_ n4_ n5_ n6_; clear hb hbox hg))
  have n0_ := Am (ke BK146.out)
  have n1_ := Am (ke BK147.out)
  have n2_ := Am (be HB.out)
  clear BK146
  clear BK147
  clear HB
  have BK146 := n0_
  have BK147 := n1_
  have HB := n2_
  clear n0_ n1_ n2_
  refine start_ (n := 15) (S := fun w' => w'.cell? ⟨gb147, 0, none⟩ = some (.int .i64 a1_0) ∧ w'.cell? ⟨gb147, 1, none⟩ = some (.int .i64 a1_1) ∧ w'.cell? ⟨gb147, 2, none⟩ = some (.int .i64 a1_2) ∧ w'.cell? ⟨gb147, 3, none⟩ = some (.int .i64 a1_3)) (ds := []) #[false, false, false, false, false, false, false, false, false, false, false, false, false, false, false] (by kernel_rfl) rfl rfl ⟨(kc BK147.out 0).trans rfl, (kc BK147.out 1).trans rfl, (kc BK147.out 2).trans rfl, (kc BK147.out 3).trans rfl⟩ (fun hHeld => ?_); refine with_tabW spec_l19Has.tab1 spec_l19Has.bits1 (fun HT_ HW_ => ?_)
  generalize w22.drew = w23 at BK146 BK147 HB hHeld ⊢
  refine zT 0 (some 5) HT_.out HW_.out rfl rfl hHeld ?_
  refine zO 1 (some 6) HT_.out rfl rfl (fun K hK => ?_)
  refine goes_ Try.func96 (by kernel_rfl) rfl #[.agg #[.int .i64 a1_0, .int .i64 a1_1, .int .i64 a1_2, .int .i64 a1_3]] (by rfl) rfl rfl (by (try simp only [List.map_toArray, List.map_cons, List.map_nil]); first | done | rfl | (simp only [List.length_drop, List.length_take]; rfl)) ?_
  with_reducible refine (spec_GeoOk.calls a1_0 a1_1 a1_2 a1_3 false _ A3.out).mono ?_
  rintro e w24 ⟨rfl, hb⟩
  refine ⟨_, rfl, ?_⟩
  have n0_ := Am (zK BK146 hb)
  have n1_ := Am (zK BK147 hb)
  have n2_ := Am (bq zG hb)
  clear BK146
  clear BK147
  clear HB
  have BK146 := n0_
  have BK147 := n1_
  have HB := n2_
  clear n0_ n1_ n2_
  (try clear hb)
  (try clear hb2)
  (try clear hk)
  (try clear hi)
  refine hK.out _ _ ⟨(kc BK147.out 0).trans rfl, (kc BK147.out 1).trans rfl, (kc BK147.out 2).trans rfl, (kc BK147.out 3).trans rfl⟩ (fun hHeld => ?_)
  clear hK K
  refine zN (some 6) ?_
  refine zA 2 (some 7) HT_.out rfl rfl ?_
  refine zI 3 (some 8) HT_.out rfl rfl ?_
  refine zI 4 (some 9) HT_.out rfl rfl ?_
  refine zA 5 (some 10) HT_.out rfl rfl ?_
  refine zA 6 (some 11) HT_.out rfl rfl ?_
  refine zI 7 (some 12) HT_.out rfl rfl ?_
  refine zI 8 (some 13) HT_.out rfl rfl ?_
  refine zI 9 (some 14) HT_.out rfl rfl ?_
  refine zI 10 (some 15) HT_.out rfl rfl ?_
  refine zI 11 (some 16) HT_.out rfl rfl ?_
  refine zI 12 (some 17) HT_.out rfl rfl ?_
  refine zA 13 (some 18) HT_.out rfl rfl ?_
  refine zA 14 (some 4) HT_.out rfl rfl ?_
  refine done_ (done_of HT_.out (by kernel_rfl)) ?_
  try go_wp2
  go_ret
  exact ⟨zR, zG⟩

end Go.Proofs.Ytconffflmbakgaa.QFnExactSystemOk
