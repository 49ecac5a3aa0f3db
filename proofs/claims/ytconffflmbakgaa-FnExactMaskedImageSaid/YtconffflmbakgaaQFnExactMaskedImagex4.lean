/- Go functions as Lean functions, and their contracts. Own text: written by wip/gen/pr.py (a turned copy of the print). -/
import Derived.Test.YtconffflmbakgaaQFnExactMaskedImagex0
import Derived.Test.YtconffflmbakgaaQFnExactMaskedImagex2
import Derived.Test.YtconffflmbakgaaQFnExactMaskedImagex3
namespace Go.Proofs.Ytconffflmbakgaa.QFnExactMaskedImage
open Go.RowKit Go.Proofs.YtconffflmbakgaaW.PrintWords Go.Proofs.YtconffflmbakgaaW.PrintLast Go.Proofs.YtconffflmbakgaaW.PrintMore
attribute [local go_sem] max2_int min2_int max_two min_two max_three min_three max_four min_four   -- for this text's walks alone
open Go.Proofs.YtconffflmbakgaaW.PrintWords renaming below_alloc → ba, pw_below_drewN → bn, below_drew1 → be, below_set → bs, blk_drewN → kn, blk_drew → ke, blk_alloc → ka, blk_below → kb, blk_frozen → kf, blk_cell → kc, below_step → bq, below_size → bz, blk_lt → kl
open Go.Proofs.YtconffflmbakgaaW.PrintWords.Kd renaming R_alloc → ra, R_drewN → rn, R_drew → re, C_alloc → ca, C_drewN → cn, C_drew → ce, C_below → cb
open Go.Proofs.YtconffflmbakgaaW.PrintWords.Aside0 renaming mk → Am
set_option linter.unusedVariables false
set_option linter.unusedSimpArgs false

def o4b0 (p0 : ByteArray) (p1 : Option Addr) (p2 p3 : Nat) : Obj := .cells #[.string p0, .slice p1 p2 p3] 33 (0, 0)
def o4b1 (p0 : Int) (p1 : Int) (p2 : Int) (p3 : Int) : Obj := .cells #[.int .i64 p0, .int .i64 p1, .int .i64 p2, .int .i64 p3] 29 (0, 0)
/-! ### spec_l10Words: function 98 -/
def spec_l10Words.f (a0_0 : ByteArray) (l0_1 : List (S155)) : Option (Int) := some (wrap64 ((a0_0.size : Int) / 8))
set_option maxHeartbeats 8000000 in
set_option maxRecDepth 100000 in
theorem spec_l10Words.calls (a0_0 : ByteArray) (A0_1 : Option Addr) (c0_1 : Nat) (l0_1 : List (S155)) (r : Int) (w : World) (hr0_1 : Kd.C k155 w A0_1 l0_1.length l0_1) (hc0_1 : l0_1.length ≤ c0_1) (h : spec_l10Words.f a0_0 l0_1 = some r) :
  Calls Try.prog 98 #[.agg #[.string a0_0, .slice A0_1 l0_1.length c0_1]] w fun e w' => e = .returned (.int .i64 r) ∧ Below w.heap.size w w' := by
 have hu33 := Try.underlying33
 have HR0_1 := Am hr0_1
 have HC0_1 := Am hc0_1
 clear hr0_1 hc0_1
 have HB := Am (Below.refl w.heap.size w)
 have H : (some (wrap64 ((a0_0.size : Int) / 8))) = some r := h
 clear h
 obtain rfl := Option.some.inj H
 go_enter Try.func98, Try.ntmps98
 go_wp2_with (first | ((with_reducible refine gate_dst (N := 1) rfl ?_); refine box_event ?hg (N := 1) ?hd (cs := #[.string a0_0, .slice A0_1 l0_1.length c0_1]) (t := 33) ?hr ?_; (case hd => rfl); (case hg => rfl); (case hr => first | (go_simp; done) | (go_simp; rfl)); intro gb155 hg w2 hbox hb; have BK155 := Am (hbox); have GW155 := Am ((by rw [hg]; exact (bz zB) : w.heap.size ≤ gb155)); have GE155 := Am ((by rw [hg]; exact (bz zB) : w.heap.size ≤ gb155)); replace HB := Am (bq zB hb); clear hb hbox hg; obtain ⟨hcz3_0, hcz3_1⟩ := kc2 (w := w2) BK155.out; have hfz3_0 := kf BK155.out))
 go_ret
 exact ⟨zR, zG⟩

/-! ### spec_l19Has: function 46 -/
def spec_l19Has.f (k : Nat) (a0_0 : ByteArray) (l0_1 : List (S155)) (a1_0 : Int) (a1_1 : Int) (a1_2 : Int) (a1_3 : Int) : Option (Bool) := (spec_GeoOk.f a1_0 a1_1 a1_2 a1_3).bind fun t158 => (if t158 = true then ((spec_MemoryOk.f k a0_0 l0_1).bind fun t159 => (if t159 = true then ((spec_l10Words.f a0_0 l0_1).bind fun t160 => ((spec_LinesIn.f a1_0 a1_1 a1_2 a1_3).bind fun t161 => (some (decide (t160 ≥ (wrap64 (2 * t161))))))) else (some false))) else (some false))
theorem spec_l19Has.mono : ∀ a0 a1 a2 a3 a4 a5 k, LeO (spec_l19Has.f k a0 a1 a2 a3 a4 a5) (spec_l19Has.f (k + 1) a0 a1 a2 a3 a4 a5) := by
 intro a0 a1 a2 a3 a4 a5 k
 unfold spec_l19Has.f
 repeat' first
   | (with_reducible exact spec_MemoryOk.mono _ _ _)
   | (with_reducible exact LeO.refl _)
   | (with_reducible exact LeO.none _)
   | (with_reducible refine LeO.ite ?_ ?_)
   | (with_reducible refine LeO.bind ?_ (fun _ => ?_))
   | exact spec_MemoryOk.mono _ _ _
   | exact LeO.none _
   | refine LeO.ite ?_ ?_
   | refine LeO.bind ?_ (fun _ => ?_)
def spec_l19Has.T1 : Bool × List (List Nat × List Nat) := (true, [([], []), ([0], [0]), ([1, 1], [1]), ([2], [2]), ([3, 2, 2], [2, 3]), ([2, 4], [2, 4]), ([5, 4], [5]), ([6], [6]), ([7, 6, 6], [6, 7]), ([6], [6]), ([9, 8, 6], [6, 9]), ([10, 6], [6, 10]), ([8, 11, 6], [6, 8, 11]), ([6, 12], [6, 12]), ([13, 10, 0, 1, 2, 3, 4, 5, 6, 7, 8, 9, 10, 11, 12, 13], [13])])
def spec_l19Has.B1 : List Nat := [0, 1, 3, 7, 15, 31, 63, 127, 255, 127, 1023, 2047, 4095, 8191, 16383]
theorem spec_l19Has.tab1 : rtab .any (opsOf Try.f46 1) = spec_l19Has.T1 := by kernel_rfl
theorem spec_l19Has.bits1 : waitsOk spec_l19Has.T1.2 spec_l19Has.B1 = true := by kernel_rfl
set_option maxHeartbeats 8000000 in
set_option maxRecDepth 100000 in
theorem spec_l19Has.calls (k : Nat) (a0_0 : ByteArray) (A0_1 : Option Addr) (c0_1 : Nat) (l0_1 : List (S155)) (a1_0 : Int) (a1_1 : Int) (a1_2 : Int) (a1_3 : Int) (r : Bool) (w : World) (hr0_1 : Kd.C k155 w A0_1 l0_1.length l0_1) (hc0_1 : l0_1.length ≤ c0_1) (h : spec_l19Has.f k a0_0 l0_1 a1_0 a1_1 a1_2 a1_3 = some r) :
  Calls Try.prog 46 #[.agg #[.string a0_0, .slice A0_1 l0_1.length c0_1], .agg #[.int .i64 a1_0, .int .i64 a1_1, .int .i64 a1_2, .int .i64 a1_3]] w fun e w' => e = .returned (.bool r) ∧ Below w.heap.size w w' := by
 have hu33 := Try.underlying33
 have hu29 := Try.underlying29
 have HR0_1 := Am hr0_1
 have HC0_1 := Am hc0_1
 clear hr0_1 hc0_1
 have HB := Am (Below.refl w.heap.size w)
 have H : ((spec_GeoOk.f a1_0 a1_1 a1_2 a1_3).bind fun t158 => (if t158 = true then ((spec_MemoryOk.f k a0_0 l0_1).bind fun t159 => (if t159 = true then ((spec_l10Words.f a0_0 l0_1).bind fun t160 => ((spec_LinesIn.f a1_0 a1_1 a1_2 a1_3).bind fun t161 => (some (decide (t160 ≥ (wrap64 (2 * t161))))))) else (some false))) else (some false))) = some r := h
 clear h
 replace H := Option.bind_eq_some_iff.mp H
 obtain ⟨t158, A30, H⟩ := H
 replace H : (if t158 = true then ((spec_MemoryOk.f k a0_0 l0_1).bind fun t159 => (if t159 = true then ((spec_l10Words.f a0_0 l0_1).bind fun t160 => ((spec_LinesIn.f a1_0 a1_1 a1_2 a1_3).bind fun t161 => (some (decide (t160 ≥ (wrap64 (2 * t161))))))) else (some false))) else (some false)) = some r := H
 have A3 := Am A30
 clear A30
 by_cases c4 : t158 = true
 ·subst c4
  have H1 : ((spec_MemoryOk.f k a0_0 l0_1).bind fun t159 => (if t159 = true then ((spec_l10Words.f a0_0 l0_1).bind fun t160 => ((spec_LinesIn.f a1_0 a1_1 a1_2 a1_3).bind fun t161 => (some (decide (t160 ≥ (wrap64 (2 * t161))))))) else (some false))) = some r := by rw [if_pos rfl] at H; exact H
  clear H
  have H := H1
  clear H1
  replace H := Option.bind_eq_some_iff.mp H
  obtain ⟨t159, A50, H⟩ := H
  replace H : (if t159 = true then ((spec_l10Words.f a0_0 l0_1).bind fun t160 => ((spec_LinesIn.f a1_0 a1_1 a1_2 a1_3).bind fun t161 => (some (decide (t160 ≥ (wrap64 (2 * t161))))))) else (some false)) = some r := H
  have A5 := Am A50
  clear A50
  by_cases c6 : t159 = true
  ·subst c6
   have H1 : ((spec_l10Words.f a0_0 l0_1).bind fun t160 => ((spec_LinesIn.f a1_0 a1_1 a1_2 a1_3).bind fun t161 => (some (decide (t160 ≥ (wrap64 (2 * t161))))))) = some r := by rw [if_pos rfl] at H; exact H
   clear H
   have H := H1
   clear H1
   replace H := Option.bind_eq_some_iff.mp H
   obtain ⟨t160, A70, H⟩ := H
   replace H : ((spec_LinesIn.f a1_0 a1_1 a1_2 a1_3).bind fun t161 => (some (decide (t160 ≥ (wrap64 (2 * t161)))))) = some r := H
   have A7 := Am A70
   clear A70
   replace H := Option.bind_eq_some_iff.mp H
   obtain ⟨t161, A80, H⟩ := H
   replace H : (some (decide (t160 ≥ (wrap64 (2 * t161))))) = some r := H
   have A8 := Am A80
   clear A80
   obtain rfl := Option.some.inj H
   go_enter Try.func46, Try.ntmps46
   try go_wp2_with (first | ((with_reducible refine gate_dst (N := 2) rfl ?_); refine box_event ?hg (N := 2) ?hd (cs := #[.string a0_0, .slice A0_1 l0_1.length c0_1]) (t := 33) ?hr ?_; (case hd => rfl); (case hg => rfl); (case hr => first | (go_simp; done) | (go_simp; rfl)); intro gb156 hg w9 hbox hb; have BK156 := Am (hbox); have GW156 := Am ((by rw [hg]; exact (bz zB) : w.heap.size ≤ gb156)); have GE156 := Am ((by rw [hg]; exact (bz zB) : w.heap.size ≤ gb156)); replace HB := Am (bq zB hb); clear hb hbox hg) | ((with_reducible refine gate_dst (N := 3) rfl ?_); refine box_event ?hg (N := 3) ?hd (cs := #[.int .i64 a1_0, .int .i64 a1_1, .int .i64 a1_2, .int .i64 a1_3]) (t := 29) ?hr ?_; (case hd => rfl); (case hg => rfl); (case hr => first | (go_simp; done) | (go_simp; rfl)); intro gb157 hg w10 hbox hb; have n0_ := Am (zK BK156 hb); have n1_ := Am (bq zG hb); have n2_ := Am (hbox); have n3_ := Am ((by rw [hg]; exact (bz zG) : w.heap.size ≤ gb157)); have n4_ := Am ((by rw [hg]; exact (bz zG) : w.heap.size ≤ gb157)); have n5_ := Am ((by rw [hg]; exact Nat.ne_of_lt (zL BK156) : gb156 ≠ gb157)); have n6_ := Am ((by rw [hg]; exact Nat.ne_of_gt (zL BK156) : gb157 ≠ gb156)); clear BK156; clear HB; have BK156 := n0_; have HB := n1_; have BK157 := n2_; have GW157 := n3_; have GE157 := n4_; have NB156_157 := n5_; have NB157_156 := n6_; clear n0_ n1_ n2_ n3_ n4_ n5_ n6_; clear hb hbox hg))
   have n0_ := Am (ke BK156.out)
   have n1_ := Am (ke BK157.out)
   have n2_ := Am (be HB.out)
   clear BK156
   clear BK157
   clear HB
   have BK156 := n0_
   have BK157 := n1_
   have HB := n2_
   clear n0_ n1_ n2_
   refine start_ (n := 15) (S := fun w' => w'.cell? ⟨gb157, 0, none⟩ = some (.int .i64 a1_0) ∧ w'.cell? ⟨gb157, 1, none⟩ = some (.int .i64 a1_1) ∧ w'.cell? ⟨gb157, 2, none⟩ = some (.int .i64 a1_2) ∧ w'.cell? ⟨gb157, 3, none⟩ = some (.int .i64 a1_3) ∧ w'.cell? ⟨gb156, 0, none⟩ = some (.string a0_0) ∧ w'.cell? ⟨gb156, 1, none⟩ = some (.slice A0_1 l0_1.length c0_1)) (ds := []) #[false, false, false, false, false, false, false, false, false, false, false, false, false, false, false] (by kernel_rfl) rfl rfl ⟨(kc BK157.out 0).trans rfl, (kc BK157.out 1).trans rfl, (kc BK157.out 2).trans rfl, (kc BK157.out 3).trans rfl, (kc BK156.out 0).trans rfl, (kc BK156.out 1).trans rfl⟩ (fun hHeld => ?_); refine with_tabW spec_l19Has.tab1 spec_l19Has.bits1 (fun HT_ HW_ => ?_)
   generalize w10.drew = w11 at BK156 BK157 HB hHeld ⊢
   refine zT 0 (some 5) HT_.out HW_.out rfl rfl hHeld ?_
   refine zO 1 (some 6) HT_.out rfl rfl (fun K hK => ?_)
   refine goes_ Try.func96 (by kernel_rfl) rfl #[.agg #[.int .i64 a1_0, .int .i64 a1_1, .int .i64 a1_2, .int .i64 a1_3]] (by rfl) rfl rfl (by (try simp only [List.map_toArray, List.map_cons, List.map_nil]); first | done | rfl | (simp only [List.length_drop, List.length_take]; rfl)) ?_
   with_reducible refine (spec_GeoOk.calls a1_0 a1_1 a1_2 a1_3 true _ A3.out).mono ?_
   rintro e w12 ⟨rfl, hb⟩
   refine ⟨_, rfl, ?_⟩
   have n0_ := Am (zK BK156 hb)
   have n1_ := Am (zK BK157 hb)
   have n2_ := Am (bq zG hb)
   clear BK156
   clear BK157
   clear HB
   have BK156 := n0_
   have BK157 := n1_
   have HB := n2_
   clear n0_ n1_ n2_
   (try clear hb)
   (try clear hb2)
   (try clear hk)
   (try clear hi)
   refine hK.out _ _ ⟨(kc BK157.out 0).trans rfl, (kc BK157.out 1).trans rfl, (kc BK157.out 2).trans rfl, (kc BK157.out 3).trans rfl, (kc BK156.out 0).trans rfl, (kc BK156.out 1).trans rfl⟩ (fun hHeld => ?_)
   clear hK K
   refine zN (some 6) ?_
   refine zA 2 (some 7) HT_.out rfl rfl ?_
   refine zT 3 (some 8) HT_.out HW_.out rfl rfl hHeld ?_
   refine zO 4 (some 9) HT_.out rfl rfl (fun K hK => ?_)
   refine goes_ Try.func97 (by kernel_rfl) rfl #[.agg #[.string a0_0, .slice A0_1 l0_1.length c0_1]] (by rfl) rfl rfl (by (try simp only [List.map_toArray, List.map_cons, List.map_nil]); first | done | rfl | (simp only [List.length_drop, List.length_take]; rfl)) ?_
   with_reducible refine (spec_MemoryOk.calls k a0_0 _ _ l0_1 true _ ?side1 ?side2 A5.out).mono ?_
   (case side1 => repeat (first | exact (cb HR0_1.out HB.out) | (with_reducible first | refine ca ?_ _ | refine cn ?_ _ | refine ce ?_)))
   (case side2 => exact HC0_1.out)
   rintro e w13 ⟨rfl, hb⟩
   refine ⟨_, rfl, ?_⟩
   have n0_ := Am (zK BK156 hb)
   have n1_ := Am (zK BK157 hb)
   have n2_ := Am (bq zG hb)
   clear BK156
   clear BK157
   clear HB
   have BK156 := n0_
   have BK157 := n1_
   have HB := n2_
   clear n0_ n1_ n2_
   (try clear hb)
   (try clear hb2)
   (try clear hk)
   (try clear hi)
   refine hK.out _ _ ⟨(kc BK157.out 0).trans rfl, (kc BK157.out 1).trans rfl, (kc BK157.out 2).trans rfl, (kc BK157.out 3).trans rfl, (kc BK156.out 0).trans rfl, (kc BK156.out 1).trans rfl⟩ (fun hHeld => ?_)
   clear hK K
   refine zN (some 9) ?_
   refine zA 5 (some 10) HT_.out rfl rfl ?_
   refine zA 6 (some 11) HT_.out rfl rfl ?_
   refine zT 7 (some 12) HT_.out HW_.out rfl rfl hHeld ?_
   refine zT 9 (some 14) HT_.out HW_.out rfl rfl hHeld ?_
   refine zO 8 (some 13) HT_.out rfl rfl (fun K hK => ?_)
   refine goes_ Try.func98 (by kernel_rfl) rfl #[.agg #[.string a0_0, .slice A0_1 l0_1.length c0_1]] (by rfl) rfl rfl (by (try simp only [List.map_toArray, List.map_cons, List.map_nil]); first | done | rfl | (simp only [List.length_drop, List.length_take]; rfl)) ?_
   with_reducible refine (spec_l10Words.calls a0_0 _ _ l0_1 t160 _ ?side1 ?side2 A7.out).mono ?_
   (case side1 => repeat (first | exact (cb HR0_1.out HB.out) | (with_reducible first | refine ca ?_ _ | refine cn ?_ _ | refine ce ?_)))
   (case side2 => exact HC0_1.out)
   rintro e w14 ⟨rfl, hb⟩
   refine ⟨_, rfl, ?_⟩
   have n0_ := Am (zK BK156 hb)
   have n1_ := Am (zK BK157 hb)
   have n2_ := Am (bq zG hb)
   clear BK156
   clear BK157
   clear HB
   have BK156 := n0_
   have BK157 := n1_
   have HB := n2_
   clear n0_ n1_ n2_
   (try clear hb)
   (try clear hb2)
   (try clear hk)
   (try clear hi)
   refine hK.out _ _ ⟨(kc BK157.out 0).trans rfl, (kc BK157.out 1).trans rfl, (kc BK157.out 2).trans rfl, (kc BK157.out 3).trans rfl, (kc BK156.out 0).trans rfl, (kc BK156.out 1).trans rfl⟩ (fun hHeld => ?_)
   clear hK K
   refine zN (some 13) ?_
   refine zO 10 (some 15) HT_.out rfl rfl (fun K hK => ?_)
   refine goes_ Try.func48 (by kernel_rfl) rfl #[.agg #[.int .i64 a1_0, .int .i64 a1_1, .int .i64 a1_2, .int .i64 a1_3]] (by rfl) rfl rfl (by (try simp only [List.map_toArray, List.map_cons, List.map_nil]); first | done | rfl | (simp only [List.length_drop, List.length_take]; rfl)) ?_
   with_reducible refine (spec_LinesIn.calls a1_0 a1_1 a1_2 a1_3 t161 _ A8.out).mono ?_
   rintro e w15 ⟨rfl, hb⟩
   refine ⟨_, rfl, ?_⟩
   have n0_ := Am (zK BK156 hb)
   have n1_ := Am (zK BK157 hb)
   have n2_ := Am (bq zG hb)
   clear BK156
   clear BK157
   clear HB
   have BK156 := n0_
   have BK157 := n1_
   have HB := n2_
   clear n0_ n1_ n2_
   (try clear hb)
   (try clear hb2)
   (try clear hk)
   (try clear hi)
   refine hK.out _ _ ⟨(kc BK157.out 0).trans rfl, (kc BK157.out 1).trans rfl, (kc BK157.out 2).trans rfl, (kc BK157.out 3).trans rfl, (kc BK156.out 0).trans rfl, (kc BK156.out 1).trans rfl⟩ (fun hHeld => ?_)
   clear hK K
   refine zN (some 15) ?_
   refine zA 11 (some 16) HT_.out rfl rfl ?_
   refine zA 12 (some 17) HT_.out rfl rfl ?_
   refine zA 13 (some 18) HT_.out rfl rfl ?_
   refine zA 14 (some 4) HT_.out rfl rfl ?_
   refine done_ (done_of HT_.out (by kernel_rfl)) ?_
   try go_wp2
   go_ret
   exact ⟨zR, zG⟩
  ·replace c6 := Bool.eq_false_iff.mpr c6
   subst c6
   have H1 : (some false) = some r := by rw [if_neg (show ¬ (false = true) by decide)] at H; exact H
   clear H
   have H := H1
   clear H1
   obtain rfl := Option.some.inj H
   go_enter Try.func46, Try.ntmps46
   try go_wp2_with (first | ((with_reducible refine gate_dst (N := 2) rfl ?_); refine box_event ?hg (N := 2) ?hd (cs := #[.string a0_0, .slice A0_1 l0_1.length c0_1]) (t := 33) ?hr ?_; (case hd => rfl); (case hg => rfl); (case hr => first | (go_simp; done) | (go_simp; rfl)); intro gb156 hg w16 hbox hb; have BK156 := Am (hbox); have GW156 := Am ((by rw [hg]; exact (bz zB) : w.heap.size ≤ gb156)); have GE156 := Am ((by rw [hg]; exact (bz zB) : w.heap.size ≤ gb156)); replace HB := Am (bq zB hb); clear hb hbox hg) | ((with_reducible refine gate_dst (N := 3) rfl ?_); refine box_event ?hg (N := 3) ?hd (cs := #[.int .i64 a1_0, .int .i64 a1_1, .int .i64 a1_2, .int .i64 a1_3]) (t := 29) ?hr ?_; (case hd => rfl); (case hg => rfl); (case hr => first | (go_simp; done) | (go_simp; rfl)); intro gb157 hg w17 hbox hb; have n0_ := Am (zK BK156 hb); have n1_ := Am (bq zG hb); have n2_ := Am (hbox); have n3_ := Am ((by rw [hg]; exact (bz zG) : w.heap.size ≤ gb157)); have n4_ := Am ((by rw [hg]; exact (bz zG) : w.heap.size ≤ gb157)); have n5_ := Am ((by rw [hg]; exact Nat.ne_of_lt (zL BK156) : gb156 ≠ gb157)); have n6_ := Am ((by rw [hg]; exact Nat.ne_of_gt (zL BK156) : gb157 ≠ gb156)); clear BK156; clear HB; have BK156 := n0_; have HB := n1_; have BK157 := n2_; have GW157 := n3_; have GE157 := n4_; have NB156_157 := n5_; have NB157_156 := n6_; clear n0_ n1_ n2_ n3_ n4_ n5_ n6_; clear hb hbox hg))
   have n0_ := Am (ke BK156.out)
   have n1_ := Am (ke BK157.out)
   have n2_ := Am (be HB.out)
   clear BK156
   clear BK157
   clear HB
   have BK156 := n0_
   have BK157 := n1_
   have HB := n2_
   clear n0_ n1_ n2_
   refine start_ (n := 15) (S := fun w' => w'.cell? ⟨gb157, 0, none⟩ = some (.int .i64 a1_0) ∧ w'.cell? ⟨gb157, 1, none⟩ = some (.int .i64 a1_1) ∧ w'.cell? ⟨gb157, 2, none⟩ = some (.int .i64 a1_2) ∧ w'.cell? ⟨gb157, 3, none⟩ = some (.int .i64 a1_3) ∧ w'.cell? ⟨gb156, 0, none⟩ = some (.string a0_0) ∧ w'.cell? ⟨gb156, 1, none⟩ = some (.slice A0_1 l0_1.length c0_1)) (ds := []) #[false, false, false, false, false, false, false, false, false, false, false, false, false, false, false] (by kernel_rfl) rfl rfl ⟨(kc BK157.out 0).trans rfl, (kc BK157.out 1).trans rfl, (kc BK157.out 2).trans rfl, (kc BK157.out 3).trans rfl, (kc BK156.out 0).trans rfl, (kc BK156.out 1).trans rfl⟩ (fun hHeld => ?_); refine with_tabW spec_l19Has.tab1 spec_l19Has.bits1 (fun HT_ HW_ => ?_)
   generalize w17.drew = w18 at BK156 BK157 HB hHeld ⊢
   refine zT 0 (some 5) HT_.out HW_.out rfl rfl hHeld ?_
   refine zO 1 (some 6) HT_.out rfl rfl (fun K hK => ?_)
   refine goes_ Try.func96 (by kernel_rfl) rfl #[.agg #[.int .i64 a1_0, .int .i64 a1_1, .int .i64 a1_2, .int .i64 a1_3]] (by rfl) rfl rfl (by (try simp only [List.map_toArray, List.map_cons, List.map_nil]); first | done | rfl | (simp only [List.length_drop, List.length_take]; rfl)) ?_
   with_reducible refine (spec_GeoOk.calls a1_0 a1_1 a1_2 a1_3 true _ A3.out).mono ?_
   rintro e w19 ⟨rfl, hb⟩
   refine ⟨_, rfl, ?_⟩
   have n0_ := Am (zK BK156 hb)
   have n1_ := Am (zK BK157 hb)
   have n2_ := Am (bq zG hb)
   clear BK156
   clear BK157
   clear HB
   have BK156 := n0_
   have BK157 := n1_
   have HB := n2_
   clear n0_ n1_ n2_
   (try clear hb)
   (try clear hb2)
   (try clear hk)
   (try clear hi)
   refine hK.out _ _ ⟨(kc BK157.out 0).trans rfl, (kc BK157.out 1).trans rfl, (kc BK157.out 2).trans rfl, (kc BK157.out 3).trans rfl, (kc BK156.out 0).trans rfl, (kc BK156.out 1).trans rfl⟩ (fun hHeld => ?_)
   clear hK K
   refine zN (some 6) ?_
   refine zA 2 (some 7) HT_.out rfl rfl ?_
   refine zT 3 (some 8) HT_.out HW_.out rfl rfl hHeld ?_
   refine zO 4 (some 9) HT_.out rfl rfl (fun K hK => ?_)
   refine goes_ Try.func97 (by kernel_rfl) rfl #[.agg #[.string a0_0, .slice A0_1 l0_1.length c0_1]] (by rfl) rfl rfl (by (try simp only [List.map_toArray, List.map_cons, List.map_nil]); first | done | rfl | (simp only [List.length_drop, List.length_take]; rfl)) ?_
   with_reducible refine (spec_MemoryOk.calls k a0_0 _ _ l0_1 false _ ?side1 ?side2 A5.out).mono ?_
   (case side1 => repeat (first | exact (cb HR0_1.out HB.out) | (with_reducible first | refine ca ?_ _ | refine cn ?_ _ | refine ce ?_)))
   (case side2 => exact HC0_1.out)
   rintro e w20 ⟨rfl, hb⟩
   refine ⟨_, rfl, ?_⟩
   have n0_ := Am (zK BK156 hb)
   have n1_ := Am (zK BK157 hb)
   have n2_ := Am (bq zG hb)
   clear BK156
   clear BK157
   clear HB
   have BK156 := n0_
   have BK157 := n1_
   have HB := n2_
   clear n0_ n1_ n2_
   (try clear hb)
   (try clear hb2)
   (try clear hk)
   (try clear hi)
   refine hK.out _ _ ⟨(kc BK157.out 0).trans rfl, (kc BK157.out 1).trans rfl, (kc BK157.out 2).trans rfl, (kc BK157.out 3).trans rfl, (kc BK156.out 0).trans rfl, (kc BK156.out 1).trans rfl⟩ (fun hHeld => ?_)
   clear hK K
   refine zN (some 9) ?_
   refine zA 5 (some 10) HT_.out rfl rfl ?_
   refine zA 6 (some 11) HT_.out rfl rfl ?_
   refine zI 7 (some 12) HT_.out rfl rfl ?_
   refine zI 8 (some 13) HT_.out rfl rfl ?_
   refine zI 9 (some 14) HT_.out rfl rfl ?_
   refine zI 10 (some 15) HT_.out rfl rfl ?_
   refine zI 11 (some 16) HT_.out rfl rfl ?_
   refine zI 12 (some 17) HT_.out rfl rfl ?_
   refine zA 13 (some 18) HT_.out rfl rfl ?_
   refine zA 14 (some 4) HT_.out rfl rfl ?_
   refine done_ (done_of HT_.out (by kernel_rfl)) ?_
   try go_wp2
   go_ret
   exact ⟨zR, zG⟩
 ·replace c4 := Bool.eq_false_iff.mpr c4
  subst c4
  have H1 : (some false) = some r := by rw [if_neg (show ¬ (false = true) by decide)] at H; exact H
  clear H
  have H := H1
  clear H1
  obtain rfl := Option.some.inj H
  go_enter Try.func46, Try.ntmps46
  try go_wp2_with (first | ((with_reducible refine gate_dst (N := 2) rfl ?_); refine box_event ?hg (N := 2) ?hd (cs := #[.string a0_0, .slice A0_1 l0_1.length c0_1]) (t := 33) ?hr ?_; (case hd => rfl); (case hg => rfl); (case hr => first | (go_simp; done) | (go_simp; rfl)); intro gb156 hg w21 hbox hb; have BK156 := Am (hbox); have GW156 := Am ((by rw [hg]; exact (bz zB) : w.heap.size ≤ gb156)); have GE156 := Am ((by rw [hg]; exact (bz zB) : w.heap.size ≤ gb156)); replace HB := Am (bq zB hb); clear hb hbox hg) | ((with_reducible refine gate_dst (N := 3) rfl ?_); refine box_event ?hg (N := 3) ?hd (cs := #[.int .i64 a1_0, .int .i64 a1_1, .int .i64 a1_2, .int .i64 a1_3]) (t := 29) ?hr ?_; (case hd => rfl); (case hg => rfl); (case hr => first | (go_simp; done) | (go_simp; rfl)); intro gb157 hg w22 hbox hb; have n0_ := Am (zK BK156 hb); have n1_ := Am (bq zG hb); have n2_ := Am (hbox); have n3_ := Am ((by rw [hg]; exact (bz zG) : w.heap.size ≤ gb157)); have n4_ := Am ((by rw [hg]; exact (bz zG) : w.heap.size ≤ gb157)); have n5_ := Am ((by rw [hg]; exact Nat.ne_of_lt (zL BK156) : gb156 ≠ gb157)); have n6_ := Am ((by rw [hg]; exact Nat.ne_of_gt (zL BK156) : gb157 ≠ gb156)); clear BK156; clear HB; have BK156 := n0_; have HB := n1_; have BK157 := n2_; have GW157 := n3_; have GE157 := n4_; have NB156_157 := n5_; have NB157_156 := n6_; clear n0_ n1_ n2_ n3_ n4_ n5_ n6_; clear hb hbox hg))
  have n0_ := Am (ke BK156.out)
  have n1_ := Am (ke BK157.out)
  have n2_ := Am (be HB.out)
  clear BK156
  clear BK157
  clear HB
  have BK156 := n0_
  have BK157 := n1_
  have HB := n2_
  clear n0_ n1_ n2_
  refine start_ (n := 15) (S := fun w' => w'.cell? ⟨gb157, 0, none⟩ = some (.int .i64 a1_0) ∧ w'.cell? ⟨gb157, 1, none⟩ = some (.int .i64 a1_1) ∧ w'.cell? ⟨gb157, 2, none⟩ = some (.int .i64 a1_2) ∧ w'.cell? ⟨gb157, 3, none⟩ = some (.int .i64 a1_3)) (ds := []) #[false, false, false, false, false, false, false, false, false, false, false, false, false, false, false] (by kernel_rfl) rfl rfl ⟨(kc BK157.out 0).trans rfl, (kc BK157.out 1).trans rfl, (kc BK157.out 2).trans rfl, (kc BK157.out 3).trans rfl⟩ (fun hHeld => ?_); refine with_tabW spec_l19Has.tab1 spec_l19Has.bits1 (fun HT_ HW_ => ?_)
  generalize w22.drew = w23 at BK156 BK157 HB hHeld ⊢
  refine zT 0 (some 5) HT_.out HW_.out rfl rfl hHeld ?_
  refine zO 1 (some 6) HT_.out rfl rfl (fun K hK => ?_)
  refine goes_ Try.func96 (by kernel_rfl) rfl #[.agg #[.int .i64 a1_0, .int .i64 a1_1, .int .i64 a1_2, .int .i64 a1_3]] (by rfl) rfl rfl (by (try simp only [List.map_toArray, List.map_cons, List.map_nil]); first | done | rfl | (simp only [List.length_drop, List.length_take]; rfl)) ?_
  with_reducible refine (spec_GeoOk.calls a1_0 a1_1 a1_2 a1_3 false _ A3.out).mono ?_
  rintro e w24 ⟨rfl, hb⟩
  refine ⟨_, rfl, ?_⟩
  have n0_ := Am (zK BK156 hb)
  have n1_ := Am (zK BK157 hb)
  have n2_ := Am (bq zG hb)
  clear BK156
  clear BK157
  clear HB
  have BK156 := n0_
  have BK157 := n1_
  have HB := n2_
  clear n0_ n1_ n2_
  (try clear hb)
  (try clear hb2)
  (try clear hk)
  (try clear hi)
  refine hK.out _ _ ⟨(kc BK157.out 0).trans rfl, (kc BK157.out 1).trans rfl, (kc BK157.out 2).trans rfl, (kc BK157.out 3).trans rfl⟩ (fun hHeld => ?_)
  clear hK K
  refine zN (some 6) ?_
  refine zA 2 (some 7) HT_.out rfl rfl ?_
  refine zI 3 (some 8) HT_.out rfl rfl ?_
  refine zI 4 (some 9) HT_.out rfl rfl ?_
  refine zA 5 (some 10) HT_.out rfl rfl ?_
  refine zA 6 (some 11) HT_.out rfl rfl ?_
  refine zI 7 (some 12) HT_.out rfl rfl ?_
  refine zI 8 (some 13) HT_.out rfl rfl ?_
  refine zI 9 (some 14) HT_.out rfl rfl ?_
  refine zI 10 (some 15) HT_.out rfl rfl ?_
  refine zI 11 (some 16) HT_.out rfl rfl ?_
  refine zI 12 (some 17) HT_.out rfl rfl ?_
  refine zA 13 (some 18) HT_.out rfl rfl ?_
  refine zA 14 (some 4) HT_.out rfl rfl ?_
  refine done_ (done_of HT_.out (by kernel_rfl)) ?_
  try go_wp2
  go_ret
  exact ⟨zR, zG⟩

/-! ### spec_l26Kept: function 49 -/
def spec_l26Kept.f (a0_0 : ByteArray) (l0_1 : List (S155)) (a1 : Int) : Option (ByteArray) := if 0 ≤ (wrap64 (a1 * 8)) then (if (wrap64 (a1 * 8)) ≤ (wrap64 ((wrap64 (a1 + 1)) * 8)) then (if (wrap64 ((wrap64 (a1 + 1)) * 8)) ≤ (a0_0.size : Int) then (some (a0_0.extract ((wrap64 (a1 * 8)) : Int).toNat ((wrap64 ((wrap64 (a1 + 1)) * 8)) : Int).toNat)) else (none)) else (none)) else (none)
set_option maxHeartbeats 8000000 in
set_option maxRecDepth 100000 in
theorem spec_l26Kept.calls (a0_0 : ByteArray) (A0_1 : Option Addr) (c0_1 : Nat) (l0_1 : List (S155)) (a1 : Int) (r : ByteArray) (w : World) (hr0_1 : Kd.C k155 w A0_1 l0_1.length l0_1) (hc0_1 : l0_1.length ≤ c0_1) (h : spec_l26Kept.f a0_0 l0_1 a1 = some r) :
  Calls Try.prog 49 #[.agg #[.string a0_0, .slice A0_1 l0_1.length c0_1], .int .i64 a1] w fun e w' => e = .returned (.string r) ∧ Below w.heap.size w w' := by
 have hu33 := Try.underlying33
 have HR0_1 := Am hr0_1
 have HC0_1 := Am hc0_1
 clear hr0_1 hc0_1
 have HB := Am (Below.refl w.heap.size w)
 have H : (if 0 ≤ (wrap64 (a1 * 8)) then (if (wrap64 (a1 * 8)) ≤ (wrap64 ((wrap64 (a1 + 1)) * 8)) then (if (wrap64 ((wrap64 (a1 + 1)) * 8)) ≤ (a0_0.size : Int) then (some (a0_0.extract ((wrap64 (a1 * 8)) : Int).toNat ((wrap64 ((wrap64 (a1 + 1)) * 8)) : Int).toNat)) else (none)) else (none)) else (none)) = some r := h
 clear h
 obtain ⟨ji3, hji3⟩ : ∃ j_ : Int, (wrap64 (a1 * 8)) = j_ := ⟨_, rfl⟩
 replace H : (if 0 ≤ (ji3) then (if (ji3) ≤ (wrap64 ((wrap64 (a1 + 1)) * 8)) then (if (wrap64 ((wrap64 (a1 + 1)) * 8)) ≤ (a0_0.size : Int) then (some (a0_0.extract ((ji3) : Int).toNat ((wrap64 ((wrap64 (a1 + 1)) * 8)) : Int).toNat)) else (none)) else (none)) else (none)) = some r := by first | (rw [hji3] at H; exact H) | (simp only [hji3] at H ⊢; exact H)
 have hji3w : (IntKind.i64.wrap (a1 * 8)) = ji3 := (i64_w _).trans hji3
 by_cases c4 : 0 ≤ (ji3)
 ·rw [if_pos c4] at H
  have c4b0 := eq_true c4
  have c4b1 : decide (0 ≤ (ji3)) = true := decide_eq_true c4
  clear c4
  by_cases c5 : (ji3) ≤ (wrap64 ((wrap64 (a1 + 1)) * 8))
  ·rw [if_pos c5] at H
   have c5b0 := eq_true c5
   have c5b1 : decide ((ji3) ≤ (wrap64 ((wrap64 (a1 + 1)) * 8))) = true := decide_eq_true c5
   by_cases c6 : (wrap64 ((wrap64 (a1 + 1)) * 8)) ≤ (a0_0.size : Int)
   ·rw [if_pos c6] at H
    have c6b0 := eq_true c6
    have c6b1 : decide ((wrap64 ((wrap64 (a1 + 1)) * 8)) ≤ (a0_0.size : Int)) = true := decide_eq_true c6
    obtain rfl := Option.some.inj H
    go_enter Try.func49, Try.ntmps49
    go_wp2_with (first | ((with_reducible refine gate_dst (N := 2) rfl ?_); refine box_event ?hg (N := 2) ?hd (cs := #[.string a0_0, .slice A0_1 l0_1.length c0_1]) (t := 33) ?hr ?_; (case hd => rfl); (case hg => rfl); (case hr => first | (go_simp; done) | (go_simp; rfl)); intro gb162 hg w7 hbox hb; have BK162 := Am (hbox); have GW162 := Am ((by rw [hg]; exact (bz zB) : w.heap.size ≤ gb162)); have GE162 := Am ((by rw [hg]; exact (bz zB) : w.heap.size ≤ gb162)); replace HB := Am (bq zB hb); clear hb hbox hg; obtain ⟨hcz8_0, hcz8_1⟩ := kc2 (w := w7) BK162.out; have hfz8_0 := kf BK162.out))
    go_ret
    exact ⟨by first | rfl | (simp [errW_none, errW_some] <;> rfl) | (simp only [← hji3]; first | rfl | (simp [errW_none, errW_some] <;> rfl)) | (simp [*, errW_none, errW_some] <;> rfl), zG⟩
   ·rw [if_neg c6] at H
    exact absurd H (by simp)
  ·rw [if_neg c5] at H
   exact absurd H (by simp)
 ·rw [if_neg c4] at H
  exact absurd H (by simp)

/-! ### spec_l01Long: function 54 -/
def spec_l01Long.l0 : Nat → Int → Int → List Int → Int → Option (ByteArray)
 | 0, _, _, _, _ => none
 | k + 1, x0, x1, x5, x6 => if x6 < x0 then (if 0 ≤ x6 then (if x6 < (x5.length : Int) then (spec_l01Long.l0 k x0 x1 (x5.set (x6 : Int).toNat x1) (wrap64 (x6 + 1))) else (none)) else (none)) else (some (strOfNums x5))
def spec_l01Long.f (k : Nat) (a0 : Int) (a1 : Int) : Option (ByteArray) := if 0 ≤ a0 then (if (a0 : Int).toNat ≤ 281474976710656 then (spec_l01Long.l0 k a0 a1 (List.replicate (a0 : Int).toNat 0) 0) else (none)) else (none)
theorem spec_l01Long.mono_l : ∀ k, (∀ y0 y1 y2 y3, LeO (spec_l01Long.l0 k y0 y1 y2 y3) (spec_l01Long.l0 (k + 1) y0 y1 y2 y3))
 | 0 => fun _ _ _ _ r h => by simp [spec_l01Long.l0] at h
 | k + 1 => by
  have ih0 := spec_l01Long.mono_l k
  ·intro y0 y1 y2 y3
   unfold spec_l01Long.l0
   repeat' first
   | (with_reducible exact ih0 _ _ _ _)
   | (with_reducible exact LeO.refl _)
   | (with_reducible exact LeO.none _)
   | (with_reducible refine LeO.ite ?_ ?_)
   | (with_reducible refine LeO.bind ?_ (fun _ => ?_))
   | exact ih0 _ _ _ _
   | exact LeO.none _
   | refine LeO.ite ?_ ?_
   | refine LeO.bind ?_ (fun _ => ?_)
theorem spec_l01Long.mono : ∀ a0 a1 k, LeO (spec_l01Long.f k a0 a1) (spec_l01Long.f (k + 1) a0 a1) := by
 intro a0 a1 k
 have ih0 := spec_l01Long.mono_l k
 unfold spec_l01Long.f
 repeat' first
   | (with_reducible exact ih0 _ _ _ _)
   | (with_reducible exact LeO.refl _)
   | (with_reducible exact LeO.none _)
   | (with_reducible refine LeO.ite ?_ ?_)
   | (with_reducible refine LeO.bind ?_ (fun _ => ?_))
   | exact ih0 _ _ _ _
   | exact LeO.none _
   | refine LeO.ite ?_ ?_
   | refine LeO.bind ?_ (fun _ => ?_)
set_option maxHeartbeats 8000000 in
set_option maxRecDepth 100000 in
theorem spec_l01Long.calls (k : Nat) (a0 : Int) (a1 : Int) (r : ByteArray) (w : World) (h : spec_l01Long.f k a0 a1 = some r) :
  Calls Try.prog 54 #[.int .i64 a0, .int .u8 a1] w fun e w' => e = .returned (.string r) ∧ Below w.heap.size w w' := by
 have HB := Am (Below.refl w.heap.size w)
 have H : (if 0 ≤ a0 then (if (a0 : Int).toNat ≤ 281474976710656 then (spec_l01Long.l0 k a0 a1 (List.replicate (a0 : Int).toNat 0) 0) else (none)) else (none)) = some r := h
 clear h
 by_cases c3 : 0 ≤ a0
 ·rw [if_pos c3] at H
  have c3b0 := eq_true c3
  have c3b1 : decide (0 ≤ a0) = true := decide_eq_true c3
  clear c3
  by_cases c4 : (a0 : Int).toNat ≤ 281474976710656
  ·rw [if_pos c4] at H
   have c4b0 := eq_true c4
   have c4b1 : decide ((a0 : Int).toNat ≤ 281474976710656) = true := decide_eq_true c4
   clear c4
   obtain ⟨y163, hy163⟩ : ∃ y_ : List Int, y_ = (List.replicate (a0 : Int).toNat 0) := ⟨_, rfl⟩
   replace H : (spec_l01Long.l0 k a0 a1 y163 0) = some r := by first | (rw [hy163]; with_reducible exact H) | (have H2_ := (Option.bind_some _ _).symm.trans H; rw [hy163]; with_reducible exact H2_) | (have H2_ := (Option.bind_some _ _).symm.trans H; with_reducible exact H2_) | with_reducible exact H | (rw [hy163]; exact H) | exact H
   have Ny163 := Am hy163
   clear hy163
   have H' := Am H
   clear H
   go_enter Try.func54, Try.ntmps54
   go_wp2_with (first | ((with_reducible refine gate_dst (N := 8) rfl ?_); refine Kd.R_make (Kd.int .u8) _ 5 rfl (N := 8) rfl 138 _ _ rfl a0 rfl rfl Try.underlying138 (.int .u8 0) 1 info5 rfl (by decide) (by omega) 0 (ok := fun _ => True) (okp := fun _ => True) rfl (fun _ hk => hk) trivial (of_decide_eq_true (by first | (with_reducible assumption) | assumption)) (Nat.le_trans (Nat.mul_le_mul_right _ (of_decide_eq_true (by first | (with_reducible assumption) | assumption) : a0.toNat ≤ 281474976710656)) (by omega)) (Below.refl _ _) (Nat.le_refl _) ?_; intro v164 w5 ho6 hb hg_ hnew_; clear hg_ hnew_; (first | rw [← Ny163.out] at ho6 | (simp only [Int.reduceToNat] at ho6; rw [← Ny163.out] at ho6)); have HO165 := Am (Kd.R_lower ho6 (bz zB)); replace HB := Am (bq zB hb); clear hb ho6))
   go_loopg [6] k (fun kq v6 w' => ∃ (x5_1 : List Int) (x6_1 : Int), v6 = .int .i64 x6_1 ∧ Aside0 (spec_l01Long.l0 kq a0 a1 x5_1 x6_1 = some r) ∧ Aside0 (kq ≤ k) ∧ Aside0 (Kd.R (Kd.int .u8) 5 w' w.heap.size (fun _ => True) v164 x5_1) ∧ Aside0 (Below w.heap.size w w'))
   case atStart => exact ⟨(y163), (0), (by first | rfl | (simp; done) | (simp [*]; done)), H', ⟨Nat.le_refl _⟩, ⟨by (with_reducible repeat (first | apply ra | apply rn | apply re)); exact HO165.out⟩, ⟨zB⟩⟩
   case round =>
    clear H'
    try clear p2; try clear c3; try clear c3b0; try clear c3b1; try clear c4; try clear c4b0; try clear c4b1; try clear c5
    obtain ⟨x5_1, x6_1, rfl, HA, HK1, HO_5, HB⟩ := hrel
    cases gk with
    | zero => exact absurd HA.out (by simp [spec_l01Long.l0])
    | succ k1 =>
     have H := HA.out
     clear HA
     simp only [spec_l01Long.l0] at H
     by_cases c7 : x6_1 < a0
     ·rw [if_pos c7] at H
      have c7b0 : decide (x6_1 < a0) = true := decide_eq_true c7
      clear c7
      by_cases c8 : 0 ≤ x6_1
      ·rw [if_pos c8] at H
       have c8b0 : decide (0 ≤ x6_1) = true := decide_eq_true c8
       clear c8
       by_cases c9 : x6_1 < (x5_1.length : Int)
       ·rw [if_pos c9] at H
        have c9b0 : decide (x6_1 < (x5_1.length : Int)) = true := decide_eq_true c9
        clear c9
        obtain ⟨y166, hy166⟩ : ∃ y_ : List Int, y_ = (x5_1.set (x6_1 : Int).toNat a1) := ⟨_, rfl⟩
        replace H : (spec_l01Long.l0 k1 a0 a1 y166 (wrap64 (x6_1 + 1))) = some r := by first | (rw [hy166]; with_reducible exact H) | (have H2_ := (Option.bind_some _ _).symm.trans H; rw [hy166]; with_reducible exact H2_) | (have H2_ := (Option.bind_some _ _).symm.trans H; with_reducible exact H2_) | with_reducible exact H | (rw [hy166]; exact H) | exact H
        have Ny166 := Am hy166
        clear hy166
        have H' := Am H
        clear H
        have p10 : 0 ≤ (x6_1 : Int) := of_decide_eq_true (by first | (with_reducible assumption) | assumption)
        have q10 : (x6_1 : Int) < ((x5_1.length : Int) : Int) := of_decide_eq_true (by first | (with_reducible assumption) | assumption)
        obtain ⟨go10, co10, eo10, gb10, gl10, cl10, HG10⟩ := Kd.R_form HO_5.out (by omega)
        (first | cases eo10 | (injection eo10 with ea_ en_ ec_; (first | subst ea_ | (injection ea_ with ea_; subst ea_)); subst ec_; clear en_))
        have GB10 := Am gb10
        have GG10 := Am HG10
        clear gb10 gl10 HG10
        obtain ⟨hx10_0, hf10_0⟩ := Kd.R_celln 0 HO_5.out (x6_1 : Int) p10 q10
        replace p10 := eq_true p10
        replace q10 := eq_true q10
        have HP11 := Kd.R_putg HO_5.out (x6_1 : Int) a1
        go_wp2_with (first | ((with_reducible refine gate_store (t := 5) (p := 17) rfl ?_); refine store_event (t := 5) (p := 17) (v := ?vo_w12) (w1 := (wr.setCell ⟨go10, (x6_1 : Int).toNat, none⟩ (.int .u8 a1))) ?hg ?ho ?hn ?hr ?_; (case ho => rfl); (case hg => rfl); (case hn => rfl); (case hr => first | (go_simp; done) | (go_simp; rfl)); intro w12 hw; have hg : wr.grownBy w12 (some go10) := (by rw [hw]; exact HP11.2); have hp_ : Kd.R (Kd.int .u8) 5 w12 w.heap.size (fun _ => True) (.slice (some ⟨go10, 0, none⟩) x5_1.length co10) y166 := (by rw [hw, Ny166.out]; exact HP11.1); clear HP11; replace HO_5 := Am (hp_); replace HB := Am ((by rw [hw]; exact bs (HB.out) GB10.out : Below w.heap.size w w12)); clear hg hw hp_))
        go_roundg k1
        case measure => have := HK1.out; omega
        case rel => exact ⟨(y166), (wrap64 (x6_1 + 1)), (by first | rfl | (simp; done) | (simp [*]; done)), H', ⟨by have := HK1.out; omega⟩, ⟨by (with_reducible repeat (first | apply ra | apply rn | apply re)); exact HO_5.out⟩, ⟨zB⟩⟩
       ·rw [if_neg c9] at H
        exact absurd H (by simp)
      ·rw [if_neg c8] at H
       exact absurd H (by simp)
     ·rw [if_neg c7] at H
      have c7b0 : decide (x6_1 < a0) = false := decide_eq_false c7
      clear c7
      obtain rfl := Option.some.inj H
      have hcv13 := own_string (P := Try.prog) Try.underlying138 Try.underlying5 Try.underlying9 (Kd.own_of_R HO_5.out)
      go_wp2
      go_ret
      exact ⟨zR, zB⟩
  ·rw [if_neg c4] at H
   exact absurd H (by simp)
 ·rw [if_neg c3] at H
  exact absurd H (by simp)

/-! ### spec_ZeroText: function 99 -/
def spec_ZeroText.f (k : Nat) (a0 : Int) : Option (ByteArray) := (spec_l01In.f a0 0 20000).bind fun t167 => (if t167 = true then ((spec_l01Long.f k a0 0).bind fun t168 => (some t168)) else (some (⟨#[]⟩ : ByteArray)))
theorem spec_ZeroText.mono : ∀ a0 k, LeO (spec_ZeroText.f k a0) (spec_ZeroText.f (k + 1) a0) := by
 intro a0 k
 unfold spec_ZeroText.f
 repeat' first
   | (with_reducible exact spec_l01Long.mono _ _ _)
   | (with_reducible exact LeO.refl _)
   | (with_reducible exact LeO.none _)
   | (with_reducible refine LeO.ite ?_ ?_)
   | (with_reducible refine LeO.bind ?_ (fun _ => ?_))
   | exact spec_l01Long.mono _ _ _
   | exact LeO.none _
   | refine LeO.ite ?_ ?_
   | refine LeO.bind ?_ (fun _ => ?_)
set_option maxHeartbeats 8000000 in
set_option maxRecDepth 100000 in
theorem spec_ZeroText.calls (k : Nat) (a0 : Int) (r : ByteArray) (w : World) (h : spec_ZeroText.f k a0 = some r) :
  Calls Try.prog 99 #[.int .i64 a0] w fun e w' => e = .returned (.string r) ∧ Below w.heap.size w w' := by
 have HB := Am (Below.refl w.heap.size w)
 have H : ((spec_l01In.f a0 0 20000).bind fun t167 => (if t167 = true then ((spec_l01Long.f k a0 0).bind fun t168 => (some t168)) else (some (⟨#[]⟩ : ByteArray)))) = some r := h
 clear h
 replace H := Option.bind_eq_some_iff.mp H
 obtain ⟨t167, A20, H⟩ := H
 replace H : (if t167 = true then ((spec_l01Long.f k a0 0).bind fun t168 => (some t168)) else (some (⟨#[]⟩ : ByteArray))) = some r := H
 have A2 := Am A20
 clear A20
 by_cases c3 : t167 = true
 ·subst c3
  have H1 : ((spec_l01Long.f k a0 0).bind fun t168 => (some t168)) = some r := by rw [if_pos rfl] at H; exact H
  clear H
  have H := H1
  clear H1
  replace H := Option.bind_eq_some_iff.mp H
  obtain ⟨t168, A40, H⟩ := H
  replace H : (some t168) = some r := H
  have A4 := Am A40
  clear A40
  obtain rfl := Option.some.inj H
  go_enter Try.func99, Try.ntmps99
  go_wp2_with (first | ((with_reducible refine gate_callee (f := 47) rfl ?_); refine zC (some 4) rfl rfl Try.func47 rfl #[.int .i64 a0, .int .i64 0, .int .i64 20000] rfl ?_; (with_reducible refine (spec_l01In.calls a0 0 20000 true _ A2.out).mono ?_); rintro e w' ⟨rfl, ⟨nd, rfl⟩⟩; refine ⟨_, rfl, ?_⟩) | ((with_reducible refine gate_callee (f := 54) rfl ?_); refine zC (some 7) rfl rfl Try.func54 rfl #[.int .i64 a0, .int .u8 0] rfl ?_; (with_reducible refine (spec_l01Long.calls k a0 0 t168 _ A4.out).mono ?_); rintro e w5 ⟨rfl, hb⟩; refine ⟨_, rfl, ?_⟩; replace HB := Am (bq zB hb); (try clear hb)))
  go_ret
  exact ⟨zR, zB⟩
 ·replace c3 := Bool.eq_false_iff.mpr c3
  subst c3
  have H1 : (some (⟨#[]⟩ : ByteArray)) = some r := by rw [if_neg (show ¬ (false = true) by decide)] at H; exact H
  clear H
  have H := H1
  clear H1
  obtain rfl := Option.some.inj H
  go_enter Try.func99, Try.ntmps99
  go_wp2_with (first | ((with_reducible refine gate_callee (f := 47) rfl ?_); refine zC (some 4) rfl rfl Try.func47 rfl #[.int .i64 a0, .int .i64 0, .int .i64 20000] rfl ?_; (with_reducible refine (spec_l01In.calls a0 0 20000 false _ A2.out).mono ?_); rintro e w' ⟨rfl, ⟨nd, rfl⟩⟩; refine ⟨_, rfl, ?_⟩))
  go_ret
  exact ⟨zR, zB⟩

/-! ### spec_WordText: function 50 -/
def spec_WordText.f (k : Nat) (a0 : ByteArray) : Option (ByteArray) := if (a0.size : Int) > 8 then (some (⟨#[]⟩ : ByteArray)) else ((spec_ZeroText.f k (wrap64 (8 - (a0.size : Int)))).bind fun t169 => (if a0.size + t169.size ≤ 9223372036854775807 then (some (a0 ++ t169)) else (none)))
theorem spec_WordText.mono : ∀ a0 k, LeO (spec_WordText.f k a0) (spec_WordText.f (k + 1) a0) := by
 intro a0 k
 unfold spec_WordText.f
 repeat' first
   | (with_reducible exact spec_ZeroText.mono _ _)
   | (with_reducible exact LeO.refl _)
   | (with_reducible exact LeO.none _)
   | (with_reducible refine LeO.ite ?_ ?_)
   | (with_reducible refine LeO.bind ?_ (fun _ => ?_))
   | exact spec_ZeroText.mono _ _
   | exact LeO.none _
   | refine LeO.ite ?_ ?_
   | refine LeO.bind ?_ (fun _ => ?_)
set_option maxHeartbeats 8000000 in
set_option maxRecDepth 100000 in
theorem spec_WordText.calls (k : Nat) (a0 : ByteArray) (r : ByteArray) (w : World) (h : spec_WordText.f k a0 = some r) :
  Calls Try.prog 50 #[.string a0] w fun e w' => e = .returned (.string r) ∧ Below w.heap.size w w' := by
 have HB := Am (Below.refl w.heap.size w)
 have H : (if (a0.size : Int) > 8 then (some (⟨#[]⟩ : ByteArray)) else ((spec_ZeroText.f k (wrap64 (8 - (a0.size : Int)))).bind fun t169 => (if a0.size + t169.size ≤ 9223372036854775807 then (some (a0 ++ t169)) else (none)))) = some r := h
 clear h
 by_cases c2 : (a0.size : Int) > 8
 ·rw [if_pos c2] at H
  have c2b0 : decide (8 < (a0.size : Int)) = true := decide_eq_true c2
  have c2b1 : decide (8 < a0.size) = true := decide_eq_true (by omega)
  clear c2
  obtain rfl := Option.some.inj H
  go_enter Try.func50, Try.ntmps50
  go_wp2
  go_ret
  exact ⟨zR, zB⟩
 ·rw [if_neg c2] at H
  have c2b0 : decide (8 < (a0.size : Int)) = false := decide_eq_false c2
  have c2b1 : decide (8 < a0.size) = false := decide_eq_false (by omega)
  clear c2
  replace H := Option.bind_eq_some_iff.mp H
  obtain ⟨t169, A30, H⟩ := H
  replace H : (if a0.size + t169.size ≤ 9223372036854775807 then (some (a0 ++ t169)) else (none)) = some r := H
  have A3 := Am A30
  clear A30
  by_cases c4 : a0.size + t169.size ≤ 9223372036854775807
  ·rw [if_pos c4] at H
   have c4b0 := eq_true c4
   have c4b1 : decide (a0.size + t169.size ≤ 9223372036854775807) = true := decide_eq_true c4
   try have c4b2 : (9223372036854775807 < a0.size + t169.size) = False := eq_false (Nat.not_lt.2 c4)
   try (have c4b3 := c4b2; simp only [ByteArray.size_extract, Nat.sub_zero] at c4b3)
   try clear c4
   obtain rfl := Option.some.inj H
   go_enter Try.func50, Try.ntmps50
   go_wp2_with (first | ((with_reducible refine gate_callee (f := 99) rfl ?_); refine zC (some 10) rfl rfl Try.func99 rfl #[.int .i64 (wrap64 (8 - (a0.size : Int)))] rfl ?_; (with_reducible refine (spec_ZeroText.calls k (wrap64 (8 - (a0.size : Int))) t169 _ A3.out).mono ?_); rintro e w5 ⟨rfl, hb⟩; refine ⟨_, rfl, ?_⟩; replace HB := Am (bq zB hb); (try clear hb)))
   go_ret
   exact ⟨zR, zB⟩
  ·rw [if_neg c4] at H
   exact absurd H (by simp)

end Go.Proofs.Ytconffflmbakgaa.QFnExactMaskedImage
