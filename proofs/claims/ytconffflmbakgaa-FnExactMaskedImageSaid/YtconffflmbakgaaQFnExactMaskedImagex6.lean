/- Go functions as Lean functions, and their contracts. Own text: written by wip/gen/pr.py (a turned copy of the print). -/
import Derived.Test.YtconffflmbakgaaQFnExactMaskedImagex0
import Derived.Test.YtconffflmbakgaaQFnExactMaskedImagex2
import Derived.Test.YtconffflmbakgaaQFnExactMaskedImagex4
import Derived.Test.YtconffflmbakgaaQFnExactMaskedImagex5
namespace Go.Proofs.Ytconffflmbakgaa.QFnExactMaskedImage
open Go.RowKit Go.Proofs.YtconffflmbakgaaW.PrintWords Go.Proofs.YtconffflmbakgaaW.PrintLast Go.Proofs.YtconffflmbakgaaW.PrintMore
attribute [local go_sem] max2_int min2_int max_two min_two max_three min_three max_four min_four   -- for this text's walks alone
open Go.Proofs.YtconffflmbakgaaW.PrintWords renaming below_alloc → ba, pw_below_drewN → bn, below_drew1 → be, below_set → bs, blk_drewN → kn, blk_drew → ke, blk_alloc → ka, blk_below → kb, blk_frozen → kf, blk_cell → kc, below_step → bq, below_size → bz, blk_lt → kl, blk_grown → kg
open Go.Proofs.YtconffflmbakgaaW.PrintWords.Kd renaming R_alloc → ra, R_drewN → rn, R_drew → re, C_alloc → ca, C_drewN → cn, C_drew → ce, R_below → rb, C_below → cb
open Go.Proofs.YtconffflmbakgaaW.PrintWords.Aside0 renaming mk → Am
set_option linter.unusedVariables false
set_option linter.unusedSimpArgs false

def o6b0 (p0 : Int) (p1 : Int) (p2 : Int) (p3 : Int) : Obj := .cells #[.int .i64 p0, .int .i64 p1, .int .i64 p2, .int .i64 p3] 29 (0, 0)
def o6b1 (p0 : ByteArray) (p1 : Option Addr) (p2 p3 : Nat) : Obj := .cells #[.string p0, .slice p1 p2 p3] 33 (0, 0)
def o6b2 (p0 : ByteArray) (p1 : Option Addr) (p2 p3 : Nat) : Obj := .cells #[.string p0, .slice p1 p2 p3] 33 (0, 0)
def o6b3 (p0 : Int) (p1 : Int) (p2 : Int) (p3 : Int) : Obj := .cells #[.int .i64 p0, .int .i64 p1, .int .i64 p2, .int .i64 p3] 29 (0, 0)
/-! ### spec_MaskedWord: function 11 -/
def spec_MaskedWord.j0 : Nat → Int → Int → Bool → Int → Int → Int → Int → ByteArray → List (S155) → Option (ByteArray)
 | 0, _, _, _, _, _, _, _, _, _ => none
 | k + 1, x1, x8, x30, x192000, x192001, x192002, x192003, x193000, x193001 => if x30 = true then (some (⟨#[]⟩ : ByteArray)) else ((spec_l26Kept.f x193000 x193001 x1).bind fun t198 => (if x8 = 1 then (if 0 ≤ 1 then (if 1 ≤ (t198.size : Int) then ((spec_WordText.f k (t198.extract 0 1)).bind fun t199 => (some t199)) else (none)) else (none)) else (if x8 = 5 then ((spec_l26Rec.f k x192000 x192001 x192002 x192003 x1).bind fun t200 => (if t200 = true then ((spec_MaskRec.f k t198).bind fun t201 => (some t201)) else (some t198))) else (if x8 = 6 then ((spec_l26All.f k t198 0).bind fun t202 => (if t202 = true then (some t198) else ((spec_l01Long.f k 8 255).bind fun t203 => (some t203)))) else (if x8 = 3 then ((spec_PartWords.f x192000 x192001 x192002 x192003).bind fun t204 => (if t204 = 0 then (none) else (if (Int.tmod (Int.tmod x1 t204) 2) = 1 then ((spec_l26Kept.f x193000 x193001 (wrap64 (x1 - 1))).bind fun t205 => ((spec_ReadAddress.f k t205).bind fun bt206 => (if bt206.2 = true then ((spec_l26Rec.f k x192000 x192001 x192002 x192003 bt206.1).bind fun t208 => (if t208 = true then ((spec_MaskRec.f k t198).bind fun t209 => (some t209)) else (some t198))) else (some t198)))) else (some t198)))) else (some t198))))))
def spec_MaskedWord.f (k : Nat) (a0_0 : Int) (a0_1 : Int) (a0_2 : Int) (a0_3 : Int) (a1 : Int) (a2_0 : ByteArray) (l2_1 : List (S155)) : Option (ByteArray) := (spec_PartAt.f k a0_0 a0_1 a0_2 a0_3 a1).bind fun bt193 => ((spec_l19Has.f k a2_0 l2_1 a0_0 a0_1 a0_2 a0_3).bind fun t195 => (if t195 = true then ((spec_LinesIn.f a0_0 a0_1 a0_2 a0_3).bind fun t196 => ((spec_l01In.f a1 0 (wrap64 ((wrap64 (2 * t196)) - 1))).bind fun t197 => (spec_MaskedWord.j0 k a1 bt193.2 (!t197) a0_0 a0_1 a0_2 a0_3 a2_0 l2_1))) else (spec_MaskedWord.j0 k a1 bt193.2 true a0_0 a0_1 a0_2 a0_3 a2_0 l2_1)))
theorem spec_MaskedWord.mono_l : ∀ k, (∀ y0 y1 y2 y3 y4 y5 y6 y7 y8, LeO (spec_MaskedWord.j0 k y0 y1 y2 y3 y4 y5 y6 y7 y8) (spec_MaskedWord.j0 (k + 1) y0 y1 y2 y3 y4 y5 y6 y7 y8))
 | 0 => fun _ _ _ _ _ _ _ _ _ r h => by simp [spec_MaskedWord.j0] at h
 | k + 1 => by
  have ih0 := spec_MaskedWord.mono_l k
  ·intro y0 y1 y2 y3 y4 y5 y6 y7 y8
   unfold spec_MaskedWord.j0
   repeat' first
   | (with_reducible exact ih0 _ _ _ _ _ _ _ _ _)
   | (with_reducible exact spec_MaskRec.mono _ _)
   | (with_reducible exact spec_PartAt.mono _ _ _ _ _ _)
   | (with_reducible exact spec_ReadAddress.mono _ _)
   | (with_reducible exact spec_WordText.mono _ _)
   | (with_reducible exact spec_l01Long.mono _ _ _)
   | (with_reducible exact spec_l19Has.mono _ _ _ _ _ _ _)
   | (with_reducible exact spec_l26All.mono _ _ _)
   | (with_reducible exact spec_l26Rec.mono _ _ _ _ _ _)
   | (with_reducible exact LeO.refl _)
   | (with_reducible exact LeO.none _)
   | (with_reducible refine LeO.ite ?_ ?_)
   | (with_reducible refine LeO.bind ?_ (fun _ => ?_))
   | exact ih0 _ _ _ _ _ _ _ _ _
   | exact spec_MaskRec.mono _ _
   | exact spec_PartAt.mono _ _ _ _ _ _
   | exact spec_ReadAddress.mono _ _
   | exact spec_WordText.mono _ _
   | exact spec_l01Long.mono _ _ _
   | exact spec_l19Has.mono _ _ _ _ _ _ _
   | exact spec_l26All.mono _ _ _
   | exact spec_l26Rec.mono _ _ _ _ _ _
   | exact LeO.none _
   | refine LeO.ite ?_ ?_
   | refine LeO.bind ?_ (fun _ => ?_)
theorem spec_MaskedWord.mono : ∀ a0 a1 a2 a3 a4 a5 a6 k, LeO (spec_MaskedWord.f k a0 a1 a2 a3 a4 a5 a6) (spec_MaskedWord.f (k + 1) a0 a1 a2 a3 a4 a5 a6) := by
 intro a0 a1 a2 a3 a4 a5 a6 k
 have ih0 := spec_MaskedWord.mono_l k
 unfold spec_MaskedWord.f
 repeat' first
   | (with_reducible exact ih0 _ _ _ _ _ _ _ _ _)
   | (with_reducible exact spec_MaskRec.mono _ _)
   | (with_reducible exact spec_PartAt.mono _ _ _ _ _ _)
   | (with_reducible exact spec_ReadAddress.mono _ _)
   | (with_reducible exact spec_WordText.mono _ _)
   | (with_reducible exact spec_l01Long.mono _ _ _)
   | (with_reducible exact spec_l19Has.mono _ _ _ _ _ _ _)
   | (with_reducible exact spec_l26All.mono _ _ _)
   | (with_reducible exact spec_l26Rec.mono _ _ _ _ _ _)
   | (with_reducible exact LeO.refl _)
   | (with_reducible exact LeO.none _)
   | (with_reducible refine LeO.ite ?_ ?_)
   | (with_reducible refine LeO.bind ?_ (fun _ => ?_))
   | exact ih0 _ _ _ _ _ _ _ _ _
   | exact spec_MaskRec.mono _ _
   | exact spec_PartAt.mono _ _ _ _ _ _
   | exact spec_ReadAddress.mono _ _
   | exact spec_WordText.mono _ _
   | exact spec_l01Long.mono _ _ _
   | exact spec_l19Has.mono _ _ _ _ _ _ _
   | exact spec_l26All.mono _ _ _
   | exact spec_l26Rec.mono _ _ _ _ _ _
   | exact LeO.none _
   | refine LeO.ite ?_ ?_
   | refine LeO.bind ?_ (fun _ => ?_)
set_option maxHeartbeats 8000000 in
set_option maxRecDepth 100000 in
theorem spec_MaskedWord.calls (k : Nat) (a0_0 : Int) (a0_1 : Int) (a0_2 : Int) (a0_3 : Int) (a1 : Int) (a2_0 : ByteArray) (A2_1 : Option Addr) (c2_1 : Nat) (l2_1 : List (S155)) (r : ByteArray) (w : World) (hr2_1 : Kd.C k155 w A2_1 l2_1.length l2_1) (hc2_1 : l2_1.length ≤ c2_1) (h : spec_MaskedWord.f k a0_0 a0_1 a0_2 a0_3 a1 a2_0 l2_1 = some r) :
  Calls Try.prog 11 #[.agg #[.int .i64 a0_0, .int .i64 a0_1, .int .i64 a0_2, .int .i64 a0_3], .int .i64 a1, .agg #[.string a2_0, .slice A2_1 l2_1.length c2_1]] w fun e w' => e = .returned (.string r) ∧ Below w.heap.size w w' := by
 have hu29 := Try.underlying29
 have hu33 := Try.underlying33
 have HR2_1 := Am hr2_1
 have HC2_1 := Am hc2_1
 clear hr2_1 hc2_1
 have HB := Am (Below.refl w.heap.size w)
 have H : ((spec_PartAt.f k a0_0 a0_1 a0_2 a0_3 a1).bind fun bt193 => ((spec_l19Has.f k a2_0 l2_1 a0_0 a0_1 a0_2 a0_3).bind fun t195 => (if t195 = true then ((spec_LinesIn.f a0_0 a0_1 a0_2 a0_3).bind fun t196 => ((spec_l01In.f a1 0 (wrap64 ((wrap64 (2 * t196)) - 1))).bind fun t197 => (spec_MaskedWord.j0 k a1 bt193.2 (!t197) a0_0 a0_1 a0_2 a0_3 a2_0 l2_1))) else (spec_MaskedWord.j0 k a1 bt193.2 true a0_0 a0_1 a0_2 a0_3 a2_0 l2_1)))) = some r := h
 clear h
 replace H := Option.bind_eq_some_iff.mp H
 obtain ⟨⟨t193, t194⟩, A40, H⟩ := H
 replace H : ((spec_l19Has.f k a2_0 l2_1 a0_0 a0_1 a0_2 a0_3).bind fun t195 => (if t195 = true then ((spec_LinesIn.f a0_0 a0_1 a0_2 a0_3).bind fun t196 => ((spec_l01In.f a1 0 (wrap64 ((wrap64 (2 * t196)) - 1))).bind fun t197 => (spec_MaskedWord.j0 k a1 t194 (!t197) a0_0 a0_1 a0_2 a0_3 a2_0 l2_1))) else (spec_MaskedWord.j0 k a1 t194 true a0_0 a0_1 a0_2 a0_3 a2_0 l2_1))) = some r := H
 have A4 := Am A40
 clear A40
 have HC5 := Am H
 clear H
 go_enter Try.func11, Try.ntmps11
 go_upto_region 2 with (first | ((with_reducible refine gate_dst (N := 3) rfl ?_); refine box_event ?hg (N := 3) ?hd (cs := #[.int .i64 a0_0, .int .i64 a0_1, .int .i64 a0_2, .int .i64 a0_3]) (t := 29) ?hr ?_; (case hd => rfl); (case hg => rfl); (case hr => first | (go_simp; done) | (go_simp; rfl)); intro gb191 hg w6 hbox hb; have BK191 := Am (hbox); have GW191 := Am ((by rw [hg]; exact (bz zB) : w.heap.size ≤ gb191)); have GE191 := Am ((by rw [hg]; exact (bz zB) : w.heap.size ≤ gb191)); replace HB := Am (bq zB hb); clear hb hbox hg) | ((with_reducible refine gate_dst (N := 5) rfl ?_); refine box_event ?hg (N := 5) ?hd (cs := #[.string a2_0, .slice A2_1 l2_1.length c2_1]) (t := 33) ?hr ?_; (case hd => rfl); (case hg => rfl); (case hr => first | (go_simp; done) | (go_simp; rfl)); intro gb192 hg w7 hbox hb; have n0_ := Am (zK BK191 hb); have n1_ := Am (bq zG hb); have n2_ := Am (hbox); have n3_ := Am ((by rw [hg]; exact (bz zG) : w.heap.size ≤ gb192)); have n4_ := Am ((by rw [hg]; exact (bz zG) : w.heap.size ≤ gb192)); have n5_ := Am ((by rw [hg]; exact Nat.ne_of_lt (zL BK191) : gb191 ≠ gb192)); have n6_ := Am ((by rw [hg]; exact Nat.ne_of_gt (zL BK191) : gb192 ≠ gb191)); clear BK191; clear HB; have BK191 := n0_; have HB := n1_; have BK192 := n2_; have GW192 := n3_; have GE192 := n4_; have NB191_192 := n5_; have NB192_191 := n6_; clear n0_ n1_ n2_ n3_ n4_ n5_ n6_; clear hb hbox hg; have hnb8 := NB191_192.out; have hnc8 := NB192_191.out; obtain ⟨hcz9_0, hcz9_1, hcz9_2, hcz9_3⟩ := kc4 (w := w7) BK191.out; have hfz9_0 := kf BK191.out) | ((with_reducible refine gate_callee (f := 45) rfl ?_); refine zC (some 15) rfl rfl Try.func45 rfl #[.agg #[.int .i64 a0_0, .int .i64 a0_1, .int .i64 a0_2, .int .i64 a0_3], .int .i64 a1] rfl ?_; (with_reducible refine (spec_PartAt.calls k a0_0 a0_1 a0_2 a0_3 a1 t193 t194 _ A4.out).mono ?_); rintro e w10 ⟨rfl, hb⟩; refine ⟨_, rfl, ?_⟩; have n0_ := Am (zK BK191 hb); have n1_ := Am (zK BK192 hb); have n2_ := Am (bq zG hb); clear BK191; clear BK192; clear HB; have BK191 := n0_; have BK192 := n1_; have HB := n2_; clear n0_ n1_ n2_; (try clear hb)))
 (try simp only [Act.put, List.setIfInBounds_toArray, List.set_cons_zero, List.set_cons_succ])
 go_cut [30] (fun v30 wc => ∃ (kq : Nat) (x30_4 : Bool), v30 = .bool x30_4 ∧ Aside0 (spec_MaskedWord.j0 kq a1 t194 x30_4 a0_0 a0_1 a0_2 a0_3 a2_0 l2_1 = some r) ∧ Aside0 (kq ≤ k) ∧ Aside0 (wc.heap[gb191]? = some (.cells #[.int .i64 a0_0, .int .i64 a0_1, .int .i64 a0_2, .int .i64 a0_3] 29 (0, 0))) ∧ Aside0 (wc.heap[gb192]? = some (.cells #[.string a2_0, (.slice A2_1 l2_1.length c2_1)] 33 (0, 0))) ∧ Aside0 (Below w.heap.size w wc))
 case first =>
  have H := HC5.out
  clear HC5
  replace H := Option.bind_eq_some_iff.mp H
  obtain ⟨t195, A110, H⟩ := H
  replace H : (if t195 = true then ((spec_LinesIn.f a0_0 a0_1 a0_2 a0_3).bind fun t196 => ((spec_l01In.f a1 0 (wrap64 ((wrap64 (2 * t196)) - 1))).bind fun t197 => (spec_MaskedWord.j0 k a1 t194 (!t197) a0_0 a0_1 a0_2 a0_3 a2_0 l2_1))) else (spec_MaskedWord.j0 k a1 t194 true a0_0 a0_1 a0_2 a0_3 a2_0 l2_1)) = some r := H
  have A11 := Am A110
  clear A110
  by_cases c12 : t195 = true
  ·subst c12
   have H1 : ((spec_LinesIn.f a0_0 a0_1 a0_2 a0_3).bind fun t196 => ((spec_l01In.f a1 0 (wrap64 ((wrap64 (2 * t196)) - 1))).bind fun t197 => (spec_MaskedWord.j0 k a1 t194 (!t197) a0_0 a0_1 a0_2 a0_3 a2_0 l2_1))) = some r := by rw [if_pos rfl] at H; exact H
   clear H
   have H := H1
   clear H1
   replace H := Option.bind_eq_some_iff.mp H
   obtain ⟨t196, A130, H⟩ := H
   replace H : ((spec_l01In.f a1 0 (wrap64 ((wrap64 (2 * t196)) - 1))).bind fun t197 => (spec_MaskedWord.j0 k a1 t194 (!t197) a0_0 a0_1 a0_2 a0_3 a2_0 l2_1)) = some r := H
   have A13 := Am A130
   clear A130
   replace H := Option.bind_eq_some_iff.mp H
   obtain ⟨t197, A140, H⟩ := H
   replace H : (spec_MaskedWord.j0 k a1 t194 (!t197) a0_0 a0_1 a0_2 a0_3 a2_0 l2_1) = some r := H
   have A14 := Am A140
   clear A140
   have H' := Am H
   clear H
   have hnb15 := NB192_191.out
   have hnc15 := NB191_192.out
   obtain ⟨hcz16_0, hcz16_1⟩ := kc2 (w := w10) BK192.out
   have hfz16_0 := kf BK192.out
   obtain ⟨hcz17_0, hcz17_1, hcz17_2, hcz17_3⟩ := kc4 (w := w10) BK191.out
   have hfz17_0 := kf BK191.out
   go_wp2_with (first | ((with_reducible refine gate_callee (f := 46) rfl ?_); refine zC (some 20) rfl rfl Try.func46 rfl #[.agg #[.string a2_0, .slice A2_1 l2_1.length c2_1], .agg #[.int .i64 a0_0, .int .i64 a0_1, .int .i64 a0_2, .int .i64 a0_3]] rfl ?_; (with_reducible refine (spec_l19Has.calls k a2_0 _ _ l2_1 a0_0 a0_1 a0_2 a0_3 true _ ?side1 ?side2 A11.out).mono ?_); (case side1 => repeat (first | exact (cb HR2_1.out HB.out) | (with_reducible first | refine ca ?_ _ | refine cn ?_ _ | refine ce ?_))); (case side2 => exact HC2_1.out); rintro e w18 ⟨rfl, hb⟩; refine ⟨_, rfl, ?_⟩; have n0_ := Am (zK BK191 hb); have n1_ := Am (zK BK192 hb); have n2_ := Am (bq zG hb); clear BK191; clear BK192; clear HB; have BK191 := n0_; have BK192 := n1_; have HB := n2_; clear n0_ n1_ n2_; (try clear hb); obtain ⟨hcz19_0, hcz19_1, hcz19_2, hcz19_3⟩ := kc4 (w := w18) BK191.out; have hfz19_0 := kf BK191.out) | (go_at_call 48; (with_reducible refine (spec_LinesIn.calls a0_0 a0_1 a0_2 a0_3 t196 _ A13.out).mono ?_); rintro e w20 ⟨rfl, hb⟩; have n0_ := Am (zK BK191 hb); have n1_ := Am (zK BK192 hb); have n2_ := Am (bq zG hb); clear BK191; clear BK192; clear HB; have BK191 := n0_; have BK192 := n1_; have HB := n2_; clear n0_ n1_ n2_; (try clear hb)) | (go_at_call 47; (with_reducible refine (spec_l01In.calls a1 0 (wrap64 ((wrap64 (2 * t196)) - 1)) t197 _ A14.out).mono ?_); rintro e w' ⟨rfl, ⟨nd, rfl⟩⟩))
   go_meet
   case rel => exact ⟨_, (!t197), (by first | rfl | (simp; done) | (simp [*]; done)), H', ⟨by first | omega | exact Nat.le_refl _⟩, ⟨by (with_reducible repeat (first | refine kn ?_ _ | refine ke ?_ | refine ka ?_ _)); exact BK191.out⟩, ⟨by (with_reducible repeat (first | refine kn ?_ _ | refine ke ?_ | refine ka ?_ _)); exact BK192.out⟩, ⟨zG⟩⟩
  ·replace c12 := Bool.eq_false_iff.mpr c12
   subst c12
   have H1 : (spec_MaskedWord.j0 k a1 t194 true a0_0 a0_1 a0_2 a0_3 a2_0 l2_1) = some r := by rw [if_neg (show ¬ (false = true) by decide)] at H; exact H
   clear H
   have H := H1
   clear H1
   have H' := Am H
   clear H
   have hnb21 := NB192_191.out
   have hnc21 := NB191_192.out
   obtain ⟨hcz22_0, hcz22_1⟩ := kc2 (w := w10) BK192.out
   have hfz22_0 := kf BK192.out
   obtain ⟨hcz23_0, hcz23_1, hcz23_2, hcz23_3⟩ := kc4 (w := w10) BK191.out
   have hfz23_0 := kf BK191.out
   go_wp2_with (first | ((with_reducible refine gate_callee (f := 46) rfl ?_); refine zC (some 20) rfl rfl Try.func46 rfl #[.agg #[.string a2_0, .slice A2_1 l2_1.length c2_1], .agg #[.int .i64 a0_0, .int .i64 a0_1, .int .i64 a0_2, .int .i64 a0_3]] rfl ?_; (with_reducible refine (spec_l19Has.calls k a2_0 _ _ l2_1 a0_0 a0_1 a0_2 a0_3 false _ ?side1 ?side2 A11.out).mono ?_); (case side1 => repeat (first | exact (cb HR2_1.out HB.out) | (with_reducible first | refine ca ?_ _ | refine cn ?_ _ | refine ce ?_))); (case side2 => exact HC2_1.out); rintro e w24 ⟨rfl, hb⟩; refine ⟨_, rfl, ?_⟩; have n0_ := Am (zK BK191 hb); have n1_ := Am (zK BK192 hb); have n2_ := Am (bq zG hb); clear BK191; clear BK192; clear HB; have BK191 := n0_; have BK192 := n1_; have HB := n2_; clear n0_ n1_ n2_; (try clear hb)))
   go_meet
   case rel => exact ⟨_, (true), (by first | rfl | (simp; done) | (simp [*]; done)), H', ⟨by first | omega | exact Nat.le_refl _⟩, ⟨by (with_reducible repeat (first | refine kn ?_ _ | refine ke ?_ | refine ka ?_ _)); exact BK191.out⟩, ⟨by (with_reducible repeat (first | refine kn ?_ _ | refine ke ?_ | refine ka ?_ _)); exact BK192.out⟩, ⟨zG⟩⟩
 case rest =>
  clear HC5
  try clear c1; try clear c2; try clear p2; try clear c4; try clear p6; try clear c8; try clear c11; try clear c12; try clear c15; try clear c21; try clear hcz16_0; try clear hcz16_1; try clear hcz17_0; try clear hcz17_1; try clear hcz17_2; try clear hcz17_3; try clear hcz19_0; try clear hcz19_1; try clear hcz19_2; try clear hcz19_3; try clear hcz22_0; try clear hcz22_1; try clear hcz23_0; try clear hcz23_1; try clear hcz23_2; try clear hcz23_3; try clear hcz9_0; try clear hcz9_1; try clear hcz9_2; try clear hcz9_3; try clear hfz16_0; try clear hfz16_1; try clear hfz17_0; try clear hfz17_1; try clear hfz17_2; try clear hfz17_3; try clear hfz19_0; try clear hfz19_1; try clear hfz19_2; try clear hfz19_3; try clear hfz22_0; try clear hfz22_1; try clear hfz23_0; try clear hfz23_1; try clear hfz23_2; try clear hfz23_3; try clear hfz9_0; try clear hfz9_1; try clear hfz9_2; try clear hfz9_3
  obtain ⟨kq, x30_4, rfl, HA, HJ4, BK191, BK192, HB⟩ := hcut
  cases kq with
  | zero => exact absurd HA.out (by simp [spec_MaskedWord.j0])
  | succ kj4 =>
   have H := HA.out
   clear HA
   simp only [spec_MaskedWord.j0] at H
   by_cases c25 : x30_4 = true
   ·subst c25
    have H1 : (some (⟨#[]⟩ : ByteArray)) = some r := by rw [if_pos rfl] at H; exact H
    clear H
    have H := H1
    clear H1
    obtain rfl := Option.some.inj H
    go_wp2
    go_ret
    exact ⟨zR, zG⟩
   ·replace c25 := Bool.eq_false_iff.mpr c25
    subst c25
    have H1 : ((spec_l26Kept.f a2_0 l2_1 a1).bind fun t198 => (if t194 = 1 then (if 0 ≤ 1 then (if 1 ≤ (t198.size : Int) then ((spec_WordText.f kj4 (t198.extract 0 1)).bind fun t199 => (some t199)) else (none)) else (none)) else (if t194 = 5 then ((spec_l26Rec.f kj4 a0_0 a0_1 a0_2 a0_3 a1).bind fun t200 => (if t200 = true then ((spec_MaskRec.f kj4 t198).bind fun t201 => (some t201)) else (some t198))) else (if t194 = 6 then ((spec_l26All.f kj4 t198 0).bind fun t202 => (if t202 = true then (some t198) else ((spec_l01Long.f kj4 8 255).bind fun t203 => (some t203)))) else (if t194 = 3 then ((spec_PartWords.f a0_0 a0_1 a0_2 a0_3).bind fun t204 => (if t204 = 0 then (none) else (if (Int.tmod (Int.tmod a1 t204) 2) = 1 then ((spec_l26Kept.f a2_0 l2_1 (wrap64 (a1 - 1))).bind fun t205 => ((spec_ReadAddress.f kj4 t205).bind fun bt206 => (if bt206.2 = true then ((spec_l26Rec.f kj4 a0_0 a0_1 a0_2 a0_3 bt206.1).bind fun t208 => (if t208 = true then ((spec_MaskRec.f kj4 t198).bind fun t209 => (some t209)) else (some t198))) else (some t198)))) else (some t198)))) else (some t198)))))) = some r := by rw [if_neg (show ¬ (false = true) by decide)] at H; exact H
    clear H
    have H := H1
    clear H1
    replace H := Option.bind_eq_some_iff.mp H
    obtain ⟨t198, A260, H⟩ := H
    replace H : (if t194 = 1 then (if 0 ≤ 1 then (if 1 ≤ (t198.size : Int) then ((spec_WordText.f kj4 (t198.extract 0 1)).bind fun t199 => (some t199)) else (none)) else (none)) else (if t194 = 5 then ((spec_l26Rec.f kj4 a0_0 a0_1 a0_2 a0_3 a1).bind fun t200 => (if t200 = true then ((spec_MaskRec.f kj4 t198).bind fun t201 => (some t201)) else (some t198))) else (if t194 = 6 then ((spec_l26All.f kj4 t198 0).bind fun t202 => (if t202 = true then (some t198) else ((spec_l01Long.f kj4 8 255).bind fun t203 => (some t203)))) else (if t194 = 3 then ((spec_PartWords.f a0_0 a0_1 a0_2 a0_3).bind fun t204 => (if t204 = 0 then (none) else (if (Int.tmod (Int.tmod a1 t204) 2) = 1 then ((spec_l26Kept.f a2_0 l2_1 (wrap64 (a1 - 1))).bind fun t205 => ((spec_ReadAddress.f kj4 t205).bind fun bt206 => (if bt206.2 = true then ((spec_l26Rec.f kj4 a0_0 a0_1 a0_2 a0_3 bt206.1).bind fun t208 => (if t208 = true then ((spec_MaskRec.f kj4 t198).bind fun t209 => (some t209)) else (some t198))) else (some t198)))) else (some t198)))) else (some t198))))) = some r := H
    have A26 := Am A260
    clear A260
    by_cases c27 : t194 = 1
    ·rw [if_pos c27] at H
     have c27b0 : (t194 == 1) = true := beq_iff_eq.mpr c27
     have c27b1 : (t194 != 1) = false := bne_eq_false_iff_eq.mpr c27
     clear c27
     by_cases c28 : 0 ≤ 1
     ·rw [if_pos c28] at H
      have c28b0 := eq_true c28
      have c28b1 : decide (0 ≤ 1) = true := decide_eq_true c28
      clear c28
      by_cases c29 : 1 ≤ (t198.size : Int)
      ·rw [if_pos c29] at H
       have c29b0 := eq_true c29
       have c29b1 : decide (1 ≤ (t198.size : Int)) = true := decide_eq_true c29
       clear c29
       replace H := Option.bind_eq_some_iff.mp H
       obtain ⟨t199, A300, H⟩ := H
       replace H : (some t199) = some r := H
       have A30 := Am A300
       clear A300
       obtain rfl := Option.some.inj H
       have hnb31 := NB192_191.out
       have hnc31 := NB191_192.out
       obtain ⟨hcz32_0, hcz32_1⟩ := kc2 (w := wc) BK192.out
       have hfz32_0 := kf BK192.out
       go_wp2_with (first | ((with_reducible refine gate_callee (f := 49) rfl ?_); refine zC (some 33) rfl rfl Try.func49 rfl #[.agg #[.string a2_0, .slice A2_1 l2_1.length c2_1], .int .i64 a1] rfl ?_; (with_reducible refine (spec_l26Kept.calls a2_0 _ _ l2_1 a1 t198 _ ?side1 ?side2 A26.out).mono ?_); (case side1 => repeat (first | exact (cb HR2_1.out HB.out) | (with_reducible first | refine ca ?_ _ | refine cn ?_ _ | refine ce ?_))); (case side2 => exact HC2_1.out); rintro e w33 ⟨rfl, hb⟩; refine ⟨_, rfl, ?_⟩; have n0_ := Am (zK BK191 hb); have n1_ := Am (zK BK192 hb); have n2_ := Am (bq zG hb); clear BK191; clear BK192; clear HB; have BK191 := n0_; have BK192 := n1_; have HB := n2_; clear n0_ n1_ n2_; (try clear hb)) | ((with_reducible refine gate_callee (f := 50) rfl ?_); refine zC (some 39) rfl rfl Try.func50 rfl #[.string (t198.extract 0 1)] rfl ?_; (with_reducible refine (spec_WordText.calls kj4 (t198.extract 0 1) t199 _ A30.out).mono ?_); rintro e w34 ⟨rfl, hb⟩; refine ⟨_, rfl, ?_⟩; have n0_ := Am (zK BK191 hb); have n1_ := Am (zK BK192 hb); have n2_ := Am (bq zG hb); clear BK191; clear BK192; clear HB; have BK191 := n0_; have BK192 := n1_; have HB := n2_; clear n0_ n1_ n2_; (try clear hb)))
       go_ret
       exact ⟨zR, zG⟩
      ·rw [if_neg c29] at H
       exact absurd H (by simp)
     ·rw [if_neg c28] at H
      exact absurd H (by simp)
    ·rw [if_neg c27] at H
     have c27b0 : (t194 == 1) = false := beq_eq_false_iff_ne.mpr c27
     have c27b1 : (t194 != 1) = true := bne_iff_ne.mpr c27
     by_cases c35 : t194 = 5
     ·rw [if_pos c35] at H
      have c35b0 : (t194 == 5) = true := beq_iff_eq.mpr c35
      have c35b1 : (t194 != 5) = false := bne_eq_false_iff_eq.mpr c35
      clear c35
      replace H := Option.bind_eq_some_iff.mp H
      obtain ⟨t200, A360, H⟩ := H
      replace H : (if t200 = true then ((spec_MaskRec.f kj4 t198).bind fun t201 => (some t201)) else (some t198)) = some r := H
      have A36 := Am A360
      clear A360
      by_cases c37 : t200 = true
      ·subst c37
       have H1 : ((spec_MaskRec.f kj4 t198).bind fun t201 => (some t201)) = some r := by rw [if_pos rfl] at H; exact H
       clear H
       have H := H1
       clear H1
       replace H := Option.bind_eq_some_iff.mp H
       obtain ⟨t201, A380, H⟩ := H
       replace H : (some t201) = some r := H
       have A38 := Am A380
       clear A380
       obtain rfl := Option.some.inj H
       have hnb39 := NB192_191.out
       have hnc39 := NB191_192.out
       obtain ⟨hcz40_0, hcz40_1⟩ := kc2 (w := wc) BK192.out
       have hfz40_0 := kf BK192.out
       go_wp2_with (first | ((with_reducible refine gate_callee (f := 49) rfl ?_); refine zC (some 33) rfl rfl Try.func49 rfl #[.agg #[.string a2_0, .slice A2_1 l2_1.length c2_1], .int .i64 a1] rfl ?_; (with_reducible refine (spec_l26Kept.calls a2_0 _ _ l2_1 a1 t198 _ ?side1 ?side2 A26.out).mono ?_); (case side1 => repeat (first | exact (cb HR2_1.out HB.out) | (with_reducible first | refine ca ?_ _ | refine cn ?_ _ | refine ce ?_))); (case side2 => exact HC2_1.out); rintro e w41 ⟨rfl, hb⟩; refine ⟨_, rfl, ?_⟩; have n0_ := Am (zK BK191 hb); have n1_ := Am (zK BK192 hb); have n2_ := Am (bq zG hb); clear BK191; clear BK192; clear HB; have BK191 := n0_; have BK192 := n1_; have HB := n2_; clear n0_ n1_ n2_; (try clear hb); obtain ⟨hcz42_0, hcz42_1, hcz42_2, hcz42_3⟩ := kc4 (w := w41) BK191.out; have hfz42_0 := kf BK191.out) | ((with_reducible refine gate_callee (f := 51) rfl ?_); refine zC (some 44) rfl rfl Try.func51 rfl #[.agg #[.int .i64 a0_0, .int .i64 a0_1, .int .i64 a0_2, .int .i64 a0_3], .int .i64 a1] rfl ?_; (with_reducible refine (spec_l26Rec.calls kj4 a0_0 a0_1 a0_2 a0_3 a1 true _ A36.out).mono ?_); rintro e w43 ⟨rfl, hb⟩; refine ⟨_, rfl, ?_⟩; have n0_ := Am (zK BK191 hb); have n1_ := Am (zK BK192 hb); have n2_ := Am (bq zG hb); clear BK191; clear BK192; clear HB; have BK191 := n0_; have BK192 := n1_; have HB := n2_; clear n0_ n1_ n2_; (try clear hb)) | ((with_reducible refine gate_callee (f := 52) rfl ?_); refine zC (some 46) rfl rfl Try.func52 rfl #[.string t198] rfl ?_; (with_reducible refine (spec_MaskRec.calls kj4 t198 t201 _ A38.out).mono ?_); rintro e w44 ⟨rfl, hb⟩; refine ⟨_, rfl, ?_⟩; have n0_ := Am (zK BK191 hb); have n1_ := Am (zK BK192 hb); have n2_ := Am (bq zG hb); clear BK191; clear BK192; clear HB; have BK191 := n0_; have BK192 := n1_; have HB := n2_; clear n0_ n1_ n2_; (try clear hb)))
       go_ret
       exact ⟨zR, zG⟩
      ·replace c37 := Bool.eq_false_iff.mpr c37
       subst c37
       have H1 : (some t198) = some r := by rw [if_neg (show ¬ (false = true) by decide)] at H; exact H
       clear H
       have H := H1
       clear H1
       obtain rfl := Option.some.inj H
       have hnb45 := NB192_191.out
       have hnc45 := NB191_192.out
       obtain ⟨hcz46_0, hcz46_1⟩ := kc2 (w := wc) BK192.out
       have hfz46_0 := kf BK192.out
       go_wp2_with (first | ((with_reducible refine gate_callee (f := 49) rfl ?_); refine zC (some 33) rfl rfl Try.func49 rfl #[.agg #[.string a2_0, .slice A2_1 l2_1.length c2_1], .int .i64 a1] rfl ?_; (with_reducible refine (spec_l26Kept.calls a2_0 _ _ l2_1 a1 t198 _ ?side1 ?side2 A26.out).mono ?_); (case side1 => repeat (first | exact (cb HR2_1.out HB.out) | (with_reducible first | refine ca ?_ _ | refine cn ?_ _ | refine ce ?_))); (case side2 => exact HC2_1.out); rintro e w47 ⟨rfl, hb⟩; refine ⟨_, rfl, ?_⟩; have n0_ := Am (zK BK191 hb); have n1_ := Am (zK BK192 hb); have n2_ := Am (bq zG hb); clear BK191; clear BK192; clear HB; have BK191 := n0_; have BK192 := n1_; have HB := n2_; clear n0_ n1_ n2_; (try clear hb); obtain ⟨hcz48_0, hcz48_1, hcz48_2, hcz48_3⟩ := kc4 (w := w47) BK191.out; have hfz48_0 := kf BK191.out) | ((with_reducible refine gate_callee (f := 51) rfl ?_); refine zC (some 44) rfl rfl Try.func51 rfl #[.agg #[.int .i64 a0_0, .int .i64 a0_1, .int .i64 a0_2, .int .i64 a0_3], .int .i64 a1] rfl ?_; (with_reducible refine (spec_l26Rec.calls kj4 a0_0 a0_1 a0_2 a0_3 a1 false _ A36.out).mono ?_); rintro e w49 ⟨rfl, hb⟩; refine ⟨_, rfl, ?_⟩; have n0_ := Am (zK BK191 hb); have n1_ := Am (zK BK192 hb); have n2_ := Am (bq zG hb); clear BK191; clear BK192; clear HB; have BK191 := n0_; have BK192 := n1_; have HB := n2_; clear n0_ n1_ n2_; (try clear hb)))
       go_ret
       exact ⟨zR, zG⟩
     ·rw [if_neg c35] at H
      have c35b0 : (t194 == 5) = false := beq_eq_false_iff_ne.mpr c35
      have c35b1 : (t194 != 5) = true := bne_iff_ne.mpr c35
      by_cases c50 : t194 = 6
      ·rw [if_pos c50] at H
       have c50b0 : (t194 == 6) = true := beq_iff_eq.mpr c50
       have c50b1 : (t194 != 6) = false := bne_eq_false_iff_eq.mpr c50
       clear c50
       replace H := Option.bind_eq_some_iff.mp H
       obtain ⟨t202, A510, H⟩ := H
       replace H : (if t202 = true then (some t198) else ((spec_l01Long.f kj4 8 255).bind fun t203 => (some t203))) = some r := H
       have A51 := Am A510
       clear A510
       by_cases c52 : t202 = true
       ·subst c52
        have H1 : (some t198) = some r := by rw [if_pos rfl] at H; exact H
        clear H
        have H := H1
        clear H1
        obtain rfl := Option.some.inj H
        have hnb53 := NB192_191.out
        have hnc53 := NB191_192.out
        obtain ⟨hcz54_0, hcz54_1⟩ := kc2 (w := wc) BK192.out
        have hfz54_0 := kf BK192.out
        go_wp2_with (first | ((with_reducible refine gate_callee (f := 49) rfl ?_); refine zC (some 33) rfl rfl Try.func49 rfl #[.agg #[.string a2_0, .slice A2_1 l2_1.length c2_1], .int .i64 a1] rfl ?_; (with_reducible refine (spec_l26Kept.calls a2_0 _ _ l2_1 a1 t198 _ ?side1 ?side2 A26.out).mono ?_); (case side1 => repeat (first | exact (cb HR2_1.out HB.out) | (with_reducible first | refine ca ?_ _ | refine cn ?_ _ | refine ce ?_))); (case side2 => exact HC2_1.out); rintro e w55 ⟨rfl, hb⟩; refine ⟨_, rfl, ?_⟩; have n0_ := Am (zK BK191 hb); have n1_ := Am (zK BK192 hb); have n2_ := Am (bq zG hb); clear BK191; clear BK192; clear HB; have BK191 := n0_; have BK192 := n1_; have HB := n2_; clear n0_ n1_ n2_; (try clear hb)) | ((with_reducible refine gate_callee (f := 53) rfl ?_); refine zC (some 50) rfl rfl Try.func53 rfl #[.string t198, .int .u8 0] rfl ?_; (with_reducible refine (spec_l26All.calls kj4 t198 0 true _ A51.out).mono ?_); rintro e w' ⟨rfl, ⟨nd, rfl⟩⟩; refine ⟨_, rfl, ?_⟩))
        go_ret
        exact ⟨zR, zG⟩
       ·replace c52 := Bool.eq_false_iff.mpr c52
        subst c52
        have H1 : ((spec_l01Long.f kj4 8 255).bind fun t203 => (some t203)) = some r := by rw [if_neg (show ¬ (false = true) by decide)] at H; exact H
        clear H
        have H := H1
        clear H1
        replace H := Option.bind_eq_some_iff.mp H
        obtain ⟨t203, A560, H⟩ := H
        replace H : (some t203) = some r := H
        have A56 := Am A560
        clear A560
        obtain rfl := Option.some.inj H
        have hnb57 := NB192_191.out
        have hnc57 := NB191_192.out
        obtain ⟨hcz58_0, hcz58_1⟩ := kc2 (w := wc) BK192.out
        have hfz58_0 := kf BK192.out
        go_wp2_with (first | ((with_reducible refine gate_callee (f := 49) rfl ?_); refine zC (some 33) rfl rfl Try.func49 rfl #[.agg #[.string a2_0, .slice A2_1 l2_1.length c2_1], .int .i64 a1] rfl ?_; (with_reducible refine (spec_l26Kept.calls a2_0 _ _ l2_1 a1 t198 _ ?side1 ?side2 A26.out).mono ?_); (case side1 => repeat (first | exact (cb HR2_1.out HB.out) | (with_reducible first | refine ca ?_ _ | refine cn ?_ _ | refine ce ?_))); (case side2 => exact HC2_1.out); rintro e w59 ⟨rfl, hb⟩; refine ⟨_, rfl, ?_⟩; have n0_ := Am (zK BK191 hb); have n1_ := Am (zK BK192 hb); have n2_ := Am (bq zG hb); clear BK191; clear BK192; clear HB; have BK191 := n0_; have BK192 := n1_; have HB := n2_; clear n0_ n1_ n2_; (try clear hb)) | ((with_reducible refine gate_callee (f := 53) rfl ?_); refine zC (some 50) rfl rfl Try.func53 rfl #[.string t198, .int .u8 0] rfl ?_; (with_reducible refine (spec_l26All.calls kj4 t198 0 false _ A51.out).mono ?_); rintro e w' ⟨rfl, ⟨nd, rfl⟩⟩; refine ⟨_, rfl, ?_⟩) | ((with_reducible refine gate_callee (f := 54) rfl ?_); refine zC (some 52) rfl rfl Try.func54 rfl #[.int .i64 8, .int .u8 255] rfl ?_; (with_reducible refine (spec_l01Long.calls kj4 8 255 t203 _ A56.out).mono ?_); rintro e w60 ⟨rfl, hb⟩; refine ⟨_, rfl, ?_⟩; have n0_ := Am (zK BK191 hb); have n1_ := Am (zK BK192 hb); have n2_ := Am (bq zG hb); clear BK191; clear BK192; clear HB; have BK191 := n0_; have BK192 := n1_; have HB := n2_; clear n0_ n1_ n2_; (try clear hb)))
        go_ret
        exact ⟨zR, zG⟩
      ·rw [if_neg c50] at H
       have c50b0 : (t194 == 6) = false := beq_eq_false_iff_ne.mpr c50
       have c50b1 : (t194 != 6) = true := bne_iff_ne.mpr c50
       by_cases c61 : t194 = 3
       ·rw [if_pos c61] at H
        have c61b0 : (t194 == 3) = true := beq_iff_eq.mpr c61
        have c61b1 : (t194 != 3) = false := bne_eq_false_iff_eq.mpr c61
        clear c61
        replace H := Option.bind_eq_some_iff.mp H
        obtain ⟨t204, A620, H⟩ := H
        replace H : (if t204 = 0 then (none) else (if (Int.tmod (Int.tmod a1 t204) 2) = 1 then ((spec_l26Kept.f a2_0 l2_1 (wrap64 (a1 - 1))).bind fun t205 => ((spec_ReadAddress.f kj4 t205).bind fun bt206 => (if bt206.2 = true then ((spec_l26Rec.f kj4 a0_0 a0_1 a0_2 a0_3 bt206.1).bind fun t208 => (if t208 = true then ((spec_MaskRec.f kj4 t198).bind fun t209 => (some t209)) else (some t198))) else (some t198)))) else (some t198))) = some r := H
        have A62 := Am A620
        clear A620
        by_cases c63 : t204 = 0
        ·rw [if_pos c63] at H
         exact absurd H (by simp)
        ·rw [if_neg c63] at H
         have c63b0 : (t204 == 0) = false := beq_eq_false_iff_ne.mpr c63
         have c63b1 : (t204 != 0) = true := bne_iff_ne.mpr c63
         by_cases c64 : (Int.tmod (Int.tmod a1 t204) 2) = 1
         ·rw [if_pos c64] at H
          have c64b0 : ((Int.tmod (Int.tmod a1 t204) 2) == 1) = true := beq_iff_eq.mpr c64
          have c64b1 : ((Int.tmod (Int.tmod a1 t204) 2) != 1) = false := bne_eq_false_iff_eq.mpr c64
          clear c64
          replace H := Option.bind_eq_some_iff.mp H
          obtain ⟨t205, A650, H⟩ := H
          replace H : ((spec_ReadAddress.f kj4 t205).bind fun bt206 => (if bt206.2 = true then ((spec_l26Rec.f kj4 a0_0 a0_1 a0_2 a0_3 bt206.1).bind fun t208 => (if t208 = true then ((spec_MaskRec.f kj4 t198).bind fun t209 => (some t209)) else (some t198))) else (some t198))) = some r := H
          have A65 := Am A650
          clear A650
          replace H := Option.bind_eq_some_iff.mp H
          obtain ⟨⟨t206, t207⟩, A660, H⟩ := H
          replace H : (if t207 = true then ((spec_l26Rec.f kj4 a0_0 a0_1 a0_2 a0_3 t206).bind fun t208 => (if t208 = true then ((spec_MaskRec.f kj4 t198).bind fun t209 => (some t209)) else (some t198))) else (some t198)) = some r := H
          have A66 := Am A660
          clear A660
          by_cases c67 : t207 = true
          ·subst c67
           have H1 : ((spec_l26Rec.f kj4 a0_0 a0_1 a0_2 a0_3 t206).bind fun t208 => (if t208 = true then ((spec_MaskRec.f kj4 t198).bind fun t209 => (some t209)) else (some t198))) = some r := by rw [if_pos rfl] at H; exact H
           clear H
           have H := H1
           clear H1
           replace H := Option.bind_eq_some_iff.mp H
           obtain ⟨t208, A680, H⟩ := H
           replace H : (if t208 = true then ((spec_MaskRec.f kj4 t198).bind fun t209 => (some t209)) else (some t198)) = some r := H
           have A68 := Am A680
           clear A680
           by_cases c69 : t208 = true
           ·subst c69
            have H1 : ((spec_MaskRec.f kj4 t198).bind fun t209 => (some t209)) = some r := by rw [if_pos rfl] at H; exact H
            clear H
            have H := H1
            clear H1
            replace H := Option.bind_eq_some_iff.mp H
            obtain ⟨t209, A700, H⟩ := H
            replace H : (some t209) = some r := H
            have A70 := Am A700
            clear A700
            obtain rfl := Option.some.inj H
            have hnb71 := NB192_191.out
            have hnc71 := NB191_192.out
            obtain ⟨hcz72_0, hcz72_1⟩ := kc2 (w := wc) BK192.out
            have hfz72_0 := kf BK192.out
            go_wp2_with (first | ((with_reducible refine gate_callee (f := 49) rfl ?_); refine zC (some 33) rfl rfl Try.func49 rfl #[.agg #[.string a2_0, .slice A2_1 l2_1.length c2_1], .int .i64 a1] rfl ?_; (with_reducible refine (spec_l26Kept.calls a2_0 _ _ l2_1 a1 t198 _ ?side1 ?side2 A26.out).mono ?_); (case side1 => repeat (first | exact (cb HR2_1.out HB.out) | (with_reducible first | refine ca ?_ _ | refine cn ?_ _ | refine ce ?_))); (case side2 => exact HC2_1.out); rintro e w73 ⟨rfl, hb⟩; refine ⟨_, rfl, ?_⟩; have n0_ := Am (zK BK191 hb); have n1_ := Am (zK BK192 hb); have n2_ := Am (bq zG hb); clear BK191; clear BK192; clear HB; have BK191 := n0_; have BK192 := n1_; have HB := n2_; clear n0_ n1_ n2_; (try clear hb); obtain ⟨hcz74_0, hcz74_1, hcz74_2, hcz74_3⟩ := kc4 (w := w73) BK191.out; have hfz74_0 := kf BK191.out) | ((with_reducible refine gate_callee (f := 55) rfl ?_); refine zC (some 57) rfl rfl Try.func55 rfl #[.agg #[.int .i64 a0_0, .int .i64 a0_1, .int .i64 a0_2, .int .i64 a0_3]] rfl ?_; (with_reducible refine (spec_PartWords.calls a0_0 a0_1 a0_2 a0_3 t204 _ A62.out).mono ?_); rintro e w75 ⟨rfl, hb⟩; refine ⟨_, rfl, ?_⟩; have n0_ := Am (zK BK191 hb); have n1_ := Am (zK BK192 hb); have n2_ := Am (bq zG hb); clear BK191; clear BK192; clear HB; have BK191 := n0_; have BK192 := n1_; have HB := n2_; clear n0_ n1_ n2_; (try clear hb); obtain ⟨hcz76_0, hcz76_1⟩ := kc2 (w := w75) BK192.out; have hfz76_0 := kf BK192.out) | ((with_reducible refine gate_callee (f := 49) rfl ?_); refine zC (some 65) rfl rfl Try.func49 rfl #[.agg #[.string a2_0, .slice A2_1 l2_1.length c2_1], .int .i64 (wrap64 (a1 - 1))] rfl ?_; (with_reducible refine (spec_l26Kept.calls a2_0 _ _ l2_1 (wrap64 (a1 - 1)) t205 _ ?side1 ?side2 A65.out).mono ?_); (case side1 => repeat (first | exact (cb HR2_1.out HB.out) | (with_reducible first | refine ca ?_ _ | refine cn ?_ _ | refine ce ?_))); (case side2 => exact HC2_1.out); rintro e w77 ⟨rfl, hb⟩; refine ⟨_, rfl, ?_⟩; have n0_ := Am (zK BK191 hb); have n1_ := Am (zK BK192 hb); have n2_ := Am (bq zG hb); clear BK191; clear BK192; clear HB; have BK191 := n0_; have BK192 := n1_; have HB := n2_; clear n0_ n1_ n2_; (try clear hb)) | ((with_reducible refine gate_callee (f := 56) rfl ?_); refine zC (some 66) rfl rfl Try.func56 rfl #[.string t205] rfl ?_; (with_reducible refine (spec_ReadAddress.calls kj4 t205 t206 true _ A66.out).mono ?_); rintro e w78 ⟨rfl, hb⟩; refine ⟨_, rfl, ?_⟩; have n0_ := Am (zK BK191 hb); have n1_ := Am (zK BK192 hb); have n2_ := Am (bq zG hb); clear BK191; clear BK192; clear HB; have BK191 := n0_; have BK192 := n1_; have HB := n2_; clear n0_ n1_ n2_; (try clear hb); obtain ⟨hcz79_0, hcz79_1, hcz79_2, hcz79_3⟩ := kc4 (w := w78) BK191.out; have hfz79_0 := kf BK191.out) | (go_at_call 51; (with_reducible refine (spec_l26Rec.calls kj4 a0_0 a0_1 a0_2 a0_3 t206 true _ A68.out).mono ?_); rintro e w80 ⟨rfl, hb⟩; have n0_ := Am (zK BK191 hb); have n1_ := Am (zK BK192 hb); have n2_ := Am (bq zG hb); clear BK191; clear BK192; clear HB; have BK191 := n0_; have BK192 := n1_; have HB := n2_; clear n0_ n1_ n2_; (try clear hb)) | ((with_reducible refine gate_callee (f := 52) rfl ?_); refine zC (some 76) rfl rfl Try.func52 rfl #[.string t198] rfl ?_; (with_reducible refine (spec_MaskRec.calls kj4 t198 t209 _ A70.out).mono ?_); rintro e w81 ⟨rfl, hb⟩; refine ⟨_, rfl, ?_⟩; have n0_ := Am (zK BK191 hb); have n1_ := Am (zK BK192 hb); have n2_ := Am (bq zG hb); clear BK191; clear BK192; clear HB; have BK191 := n0_; have BK192 := n1_; have HB := n2_; clear n0_ n1_ n2_; (try clear hb)))
            go_ret
            exact ⟨zR, zG⟩
           ·replace c69 := Bool.eq_false_iff.mpr c69
            subst c69
            have H1 : (some t198) = some r := by rw [if_neg (show ¬ (false = true) by decide)] at H; exact H
            clear H
            have H := H1
            clear H1
            obtain rfl := Option.some.inj H
            have hnb82 := NB192_191.out
            have hnc82 := NB191_192.out
            obtain ⟨hcz83_0, hcz83_1⟩ := kc2 (w := wc) BK192.out
            have hfz83_0 := kf BK192.out
            go_wp2_with (first | ((with_reducible refine gate_callee (f := 49) rfl ?_); refine zC (some 33) rfl rfl Try.func49 rfl #[.agg #[.string a2_0, .slice A2_1 l2_1.length c2_1], .int .i64 a1] rfl ?_; (with_reducible refine (spec_l26Kept.calls a2_0 _ _ l2_1 a1 t198 _ ?side1 ?side2 A26.out).mono ?_); (case side1 => repeat (first | exact (cb HR2_1.out HB.out) | (with_reducible first | refine ca ?_ _ | refine cn ?_ _ | refine ce ?_))); (case side2 => exact HC2_1.out); rintro e w84 ⟨rfl, hb⟩; refine ⟨_, rfl, ?_⟩; have n0_ := Am (zK BK191 hb); have n1_ := Am (zK BK192 hb); have n2_ := Am (bq zG hb); clear BK191; clear BK192; clear HB; have BK191 := n0_; have BK192 := n1_; have HB := n2_; clear n0_ n1_ n2_; (try clear hb); obtain ⟨hcz85_0, hcz85_1, hcz85_2, hcz85_3⟩ := kc4 (w := w84) BK191.out; have hfz85_0 := kf BK191.out) | ((with_reducible refine gate_callee (f := 55) rfl ?_); refine zC (some 57) rfl rfl Try.func55 rfl #[.agg #[.int .i64 a0_0, .int .i64 a0_1, .int .i64 a0_2, .int .i64 a0_3]] rfl ?_; (with_reducible refine (spec_PartWords.calls a0_0 a0_1 a0_2 a0_3 t204 _ A62.out).mono ?_); rintro e w86 ⟨rfl, hb⟩; refine ⟨_, rfl, ?_⟩; have n0_ := Am (zK BK191 hb); have n1_ := Am (zK BK192 hb); have n2_ := Am (bq zG hb); clear BK191; clear BK192; clear HB; have BK191 := n0_; have BK192 := n1_; have HB := n2_; clear n0_ n1_ n2_; (try clear hb); obtain ⟨hcz87_0, hcz87_1⟩ := kc2 (w := w86) BK192.out; have hfz87_0 := kf BK192.out) | ((with_reducible refine gate_callee (f := 49) rfl ?_); refine zC (some 65) rfl rfl Try.func49 rfl #[.agg #[.string a2_0, .slice A2_1 l2_1.length c2_1], .int .i64 (wrap64 (a1 - 1))] rfl ?_; (with_reducible refine (spec_l26Kept.calls a2_0 _ _ l2_1 (wrap64 (a1 - 1)) t205 _ ?side1 ?side2 A65.out).mono ?_); (case side1 => repeat (first | exact (cb HR2_1.out HB.out) | (with_reducible first | refine ca ?_ _ | refine cn ?_ _ | refine ce ?_))); (case side2 => exact HC2_1.out); rintro e w88 ⟨rfl, hb⟩; refine ⟨_, rfl, ?_⟩; have n0_ := Am (zK BK191 hb); have n1_ := Am (zK BK192 hb); have n2_ := Am (bq zG hb); clear BK191; clear BK192; clear HB; have BK191 := n0_; have BK192 := n1_; have HB := n2_; clear n0_ n1_ n2_; (try clear hb)) | ((with_reducible refine gate_callee (f := 56) rfl ?_); refine zC (some 66) rfl rfl Try.func56 rfl #[.string t205] rfl ?_; (with_reducible refine (spec_ReadAddress.calls kj4 t205 t206 true _ A66.out).mono ?_); rintro e w89 ⟨rfl, hb⟩; refine ⟨_, rfl, ?_⟩; have n0_ := Am (zK BK191 hb); have n1_ := Am (zK BK192 hb); have n2_ := Am (bq zG hb); clear BK191; clear BK192; clear HB; have BK191 := n0_; have BK192 := n1_; have HB := n2_; clear n0_ n1_ n2_; (try clear hb); obtain ⟨hcz90_0, hcz90_1, hcz90_2, hcz90_3⟩ := kc4 (w := w89) BK191.out; have hfz90_0 := kf BK191.out) | (go_at_call 51; (with_reducible refine (spec_l26Rec.calls kj4 a0_0 a0_1 a0_2 a0_3 t206 false _ A68.out).mono ?_); rintro e w91 ⟨rfl, hb⟩; have n0_ := Am (zK BK191 hb); have n1_ := Am (zK BK192 hb); have n2_ := Am (bq zG hb); clear BK191; clear BK192; clear HB; have BK191 := n0_; have BK192 := n1_; have HB := n2_; clear n0_ n1_ n2_; (try clear hb)))
            go_ret
            exact ⟨zR, zG⟩
          ·replace c67 := Bool.eq_false_iff.mpr c67
           subst c67
           have H1 : (some t198) = some r := by rw [if_neg (show ¬ (false = true) by decide)] at H; exact H
           clear H
           have H := H1
           clear H1
           obtain rfl := Option.some.inj H
           have hnb92 := NB192_191.out
           have hnc92 := NB191_192.out
           obtain ⟨hcz93_0, hcz93_1⟩ := kc2 (w := wc) BK192.out
           have hfz93_0 := kf BK192.out
           go_wp2_with (first | ((with_reducible refine gate_callee (f := 49) rfl ?_); refine zC (some 33) rfl rfl Try.func49 rfl #[.agg #[.string a2_0, .slice A2_1 l2_1.length c2_1], .int .i64 a1] rfl ?_; (with_reducible refine (spec_l26Kept.calls a2_0 _ _ l2_1 a1 t198 _ ?side1 ?side2 A26.out).mono ?_); (case side1 => repeat (first | exact (cb HR2_1.out HB.out) | (with_reducible first | refine ca ?_ _ | refine cn ?_ _ | refine ce ?_))); (case side2 => exact HC2_1.out); rintro e w94 ⟨rfl, hb⟩; refine ⟨_, rfl, ?_⟩; have n0_ := Am (zK BK191 hb); have n1_ := Am (zK BK192 hb); have n2_ := Am (bq zG hb); clear BK191; clear BK192; clear HB; have BK191 := n0_; have BK192 := n1_; have HB := n2_; clear n0_ n1_ n2_; (try clear hb); obtain ⟨hcz95_0, hcz95_1, hcz95_2, hcz95_3⟩ := kc4 (w := w94) BK191.out; have hfz95_0 := kf BK191.out) | ((with_reducible refine gate_callee (f := 55) rfl ?_); refine zC (some 57) rfl rfl Try.func55 rfl #[.agg #[.int .i64 a0_0, .int .i64 a0_1, .int .i64 a0_2, .int .i64 a0_3]] rfl ?_; (with_reducible refine (spec_PartWords.calls a0_0 a0_1 a0_2 a0_3 t204 _ A62.out).mono ?_); rintro e w96 ⟨rfl, hb⟩; refine ⟨_, rfl, ?_⟩; have n0_ := Am (zK BK191 hb); have n1_ := Am (zK BK192 hb); have n2_ := Am (bq zG hb); clear BK191; clear BK192; clear HB; have BK191 := n0_; have BK192 := n1_; have HB := n2_; clear n0_ n1_ n2_; (try clear hb); obtain ⟨hcz97_0, hcz97_1⟩ := kc2 (w := w96) BK192.out; have hfz97_0 := kf BK192.out) | ((with_reducible refine gate_callee (f := 49) rfl ?_); refine zC (some 65) rfl rfl Try.func49 rfl #[.agg #[.string a2_0, .slice A2_1 l2_1.length c2_1], .int .i64 (wrap64 (a1 - 1))] rfl ?_; (with_reducible refine (spec_l26Kept.calls a2_0 _ _ l2_1 (wrap64 (a1 - 1)) t205 _ ?side1 ?side2 A65.out).mono ?_); (case side1 => repeat (first | exact (cb HR2_1.out HB.out) | (with_reducible first | refine ca ?_ _ | refine cn ?_ _ | refine ce ?_))); (case side2 => exact HC2_1.out); rintro e w98 ⟨rfl, hb⟩; refine ⟨_, rfl, ?_⟩; have n0_ := Am (zK BK191 hb); have n1_ := Am (zK BK192 hb); have n2_ := Am (bq zG hb); clear BK191; clear BK192; clear HB; have BK191 := n0_; have BK192 := n1_; have HB := n2_; clear n0_ n1_ n2_; (try clear hb)) | ((with_reducible refine gate_callee (f := 56) rfl ?_); refine zC (some 66) rfl rfl Try.func56 rfl #[.string t205] rfl ?_; (with_reducible refine (spec_ReadAddress.calls kj4 t205 t206 false _ A66.out).mono ?_); rintro e w99 ⟨rfl, hb⟩; refine ⟨_, rfl, ?_⟩; have n0_ := Am (zK BK191 hb); have n1_ := Am (zK BK192 hb); have n2_ := Am (bq zG hb); clear BK191; clear BK192; clear HB; have BK191 := n0_; have BK192 := n1_; have HB := n2_; clear n0_ n1_ n2_; (try clear hb)))
           go_ret
           exact ⟨zR, zG⟩
         ·rw [if_neg c64] at H
          have c64b0 : ((Int.tmod (Int.tmod a1 t204) 2) == 1) = false := beq_eq_false_iff_ne.mpr c64
          have c64b1 : ((Int.tmod (Int.tmod a1 t204) 2) != 1) = true := bne_iff_ne.mpr c64
          obtain rfl := Option.some.inj H
          have hnb100 := NB192_191.out
          have hnc100 := NB191_192.out
          obtain ⟨hcz101_0, hcz101_1⟩ := kc2 (w := wc) BK192.out
          have hfz101_0 := kf BK192.out
          go_wp2_with (first | ((with_reducible refine gate_callee (f := 49) rfl ?_); refine zC (some 33) rfl rfl Try.func49 rfl #[.agg #[.string a2_0, .slice A2_1 l2_1.length c2_1], .int .i64 a1] rfl ?_; (with_reducible refine (spec_l26Kept.calls a2_0 _ _ l2_1 a1 t198 _ ?side1 ?side2 A26.out).mono ?_); (case side1 => repeat (first | exact (cb HR2_1.out HB.out) | (with_reducible first | refine ca ?_ _ | refine cn ?_ _ | refine ce ?_))); (case side2 => exact HC2_1.out); rintro e w102 ⟨rfl, hb⟩; refine ⟨_, rfl, ?_⟩; have n0_ := Am (zK BK191 hb); have n1_ := Am (zK BK192 hb); have n2_ := Am (bq zG hb); clear BK191; clear BK192; clear HB; have BK191 := n0_; have BK192 := n1_; have HB := n2_; clear n0_ n1_ n2_; (try clear hb); obtain ⟨hcz103_0, hcz103_1, hcz103_2, hcz103_3⟩ := kc4 (w := w102) BK191.out; have hfz103_0 := kf BK191.out) | ((with_reducible refine gate_callee (f := 55) rfl ?_); refine zC (some 57) rfl rfl Try.func55 rfl #[.agg #[.int .i64 a0_0, .int .i64 a0_1, .int .i64 a0_2, .int .i64 a0_3]] rfl ?_; (with_reducible refine (spec_PartWords.calls a0_0 a0_1 a0_2 a0_3 t204 _ A62.out).mono ?_); rintro e w104 ⟨rfl, hb⟩; refine ⟨_, rfl, ?_⟩; have n0_ := Am (zK BK191 hb); have n1_ := Am (zK BK192 hb); have n2_ := Am (bq zG hb); clear BK191; clear BK192; clear HB; have BK191 := n0_; have BK192 := n1_; have HB := n2_; clear n0_ n1_ n2_; (try clear hb)))
          go_ret
          exact ⟨zR, zG⟩
       ·rw [if_neg c61] at H
        have c61b0 : (t194 == 3) = false := beq_eq_false_iff_ne.mpr c61
        have c61b1 : (t194 != 3) = true := bne_iff_ne.mpr c61
        obtain rfl := Option.some.inj H
        have hnb105 := NB192_191.out
        have hnc105 := NB191_192.out
        obtain ⟨hcz106_0, hcz106_1⟩ := kc2 (w := wc) BK192.out
        have hfz106_0 := kf BK192.out
        go_wp2_with (first | ((with_reducible refine gate_callee (f := 49) rfl ?_); refine zC (some 33) rfl rfl Try.func49 rfl #[.agg #[.string a2_0, .slice A2_1 l2_1.length c2_1], .int .i64 a1] rfl ?_; (with_reducible refine (spec_l26Kept.calls a2_0 _ _ l2_1 a1 t198 _ ?side1 ?side2 A26.out).mono ?_); (case side1 => repeat (first | exact (cb HR2_1.out HB.out) | (with_reducible first | refine ca ?_ _ | refine cn ?_ _ | refine ce ?_))); (case side2 => exact HC2_1.out); rintro e w107 ⟨rfl, hb⟩; refine ⟨_, rfl, ?_⟩; have n0_ := Am (zK BK191 hb); have n1_ := Am (zK BK192 hb); have n2_ := Am (bq zG hb); clear BK191; clear BK192; clear HB; have BK191 := n0_; have BK192 := n1_; have HB := n2_; clear n0_ n1_ n2_; (try clear hb)))
        go_ret
        exact ⟨zR, zG⟩

/-! ### spec_MaskedImage: function 42 -/
def spec_MaskedImage.l0 : Nat → List Int → Int → ByteArray → List (S155) → Int → Int → Int → Int → Option (ByteArray)
 | 0, _, _, _, _, _, _, _, _ => none
 | k + 1, x5, x6, x211000, x211001, x212000, x212001, x212002, x212003 => (spec_LinesIn.f x212000 x212001 x212002 x212003).bind fun t216 => (if x6 < (wrap64 (2 * t216)) then ((spec_MaskedWord.f k x212000 x212001 x212002 x212003 x6 x211000 x211001).bind fun t217 => (if x5.length + t217.size < 140737488355328 then (spec_MaskedImage.l0 k (x5 ++ bytesOf t217) (wrap64 (x6 + 1)) x211000 x211001 x212000 x212001 x212002 x212003) else (none))) else (some (strOfNums x5)))
def spec_MaskedImage.f (k : Nat) (a0_0 : ByteArray) (l0_1 : List (S155)) (a1_0 : Int) (a1_1 : Int) (a1_2 : Int) (a1_3 : Int) : Option (ByteArray) := (spec_l19Has.f k a0_0 l0_1 a1_0 a1_1 a1_2 a1_3).bind fun t212 => (if t212 = true then (spec_MaskedImage.l0 k (([] : List Int)) 0 a0_0 l0_1 a1_0 a1_1 a1_2 a1_3) else (some (⟨#[]⟩ : ByteArray)))
theorem spec_MaskedImage.mono_l : ∀ k, (∀ y0 y1 y2 y3 y4 y5 y6 y7, LeO (spec_MaskedImage.l0 k y0 y1 y2 y3 y4 y5 y6 y7) (spec_MaskedImage.l0 (k + 1) y0 y1 y2 y3 y4 y5 y6 y7))
 | 0 => fun _ _ _ _ _ _ _ _ r h => by simp [spec_MaskedImage.l0] at h
 | k + 1 => by
  have ih0 := spec_MaskedImage.mono_l k
  ·intro y0 y1 y2 y3 y4 y5 y6 y7
   unfold spec_MaskedImage.l0
   repeat' first
   | (with_reducible exact ih0 _ _ _ _ _ _ _ _)
   | (with_reducible exact spec_MaskedWord.mono _ _ _ _ _ _ _ _)
   | (with_reducible exact spec_l19Has.mono _ _ _ _ _ _ _)
   | (with_reducible exact LeO.refl _)
   | (with_reducible exact LeO.none _)
   | (with_reducible refine LeO.ite ?_ ?_)
   | (with_reducible refine LeO.bind ?_ (fun _ => ?_))
   | exact ih0 _ _ _ _ _ _ _ _
   | exact spec_MaskedWord.mono _ _ _ _ _ _ _ _
   | exact spec_l19Has.mono _ _ _ _ _ _ _
   | exact LeO.none _
   | refine LeO.ite ?_ ?_
   | refine LeO.bind ?_ (fun _ => ?_)
theorem spec_MaskedImage.mono : ∀ a0 a1 a2 a3 a4 a5 k, LeO (spec_MaskedImage.f k a0 a1 a2 a3 a4 a5) (spec_MaskedImage.f (k + 1) a0 a1 a2 a3 a4 a5) := by
 intro a0 a1 a2 a3 a4 a5 k
 have ih0 := spec_MaskedImage.mono_l k
 unfold spec_MaskedImage.f
 repeat' first
   | (with_reducible exact ih0 _ _ _ _ _ _ _ _)
   | (with_reducible exact spec_MaskedWord.mono _ _ _ _ _ _ _ _)
   | (with_reducible exact spec_l19Has.mono _ _ _ _ _ _ _)
   | (with_reducible exact LeO.refl _)
   | (with_reducible exact LeO.none _)
   | (with_reducible refine LeO.ite ?_ ?_)
   | (with_reducible refine LeO.bind ?_ (fun _ => ?_))
   | exact ih0 _ _ _ _ _ _ _ _
   | exact spec_MaskedWord.mono _ _ _ _ _ _ _ _
   | exact spec_l19Has.mono _ _ _ _ _ _ _
   | exact LeO.none _
   | refine LeO.ite ?_ ?_
   | refine LeO.bind ?_ (fun _ => ?_)
set_option maxHeartbeats 8000000 in
set_option maxRecDepth 100000 in
theorem spec_MaskedImage.calls (k : Nat) (a0_0 : ByteArray) (A0_1 : Option Addr) (c0_1 : Nat) (l0_1 : List (S155)) (a1_0 : Int) (a1_1 : Int) (a1_2 : Int) (a1_3 : Int) (r : ByteArray) (w : World) (hr0_1 : Kd.C k155 w A0_1 l0_1.length l0_1) (hc0_1 : l0_1.length ≤ c0_1) (h : spec_MaskedImage.f k a0_0 l0_1 a1_0 a1_1 a1_2 a1_3 = some r) :
  Calls Try.prog 42 #[.agg #[.string a0_0, .slice A0_1 l0_1.length c0_1], .agg #[.int .i64 a1_0, .int .i64 a1_1, .int .i64 a1_2, .int .i64 a1_3]] w fun e w' => e = .returned (.string r) ∧ Below w.heap.size w w' := by
 have hu33 := Try.underlying33
 have hu29 := Try.underlying29
 have HR0_1 := Am hr0_1
 have HC0_1 := Am hc0_1
 clear hr0_1 hc0_1
 have HB := Am (Below.refl w.heap.size w)
 have H : ((spec_l19Has.f k a0_0 l0_1 a1_0 a1_1 a1_2 a1_3).bind fun t212 => (if t212 = true then (spec_MaskedImage.l0 k (([] : List Int)) 0 a0_0 l0_1 a1_0 a1_1 a1_2 a1_3) else (some (⟨#[]⟩ : ByteArray)))) = some r := h
 clear h
 replace H := Option.bind_eq_some_iff.mp H
 obtain ⟨t212, A30, H⟩ := H
 replace H : (if t212 = true then (spec_MaskedImage.l0 k (([] : List Int)) 0 a0_0 l0_1 a1_0 a1_1 a1_2 a1_3) else (some (⟨#[]⟩ : ByteArray))) = some r := H
 have A3 := Am A30
 clear A30
 by_cases c4 : t212 = true
 ·subst c4
  have H1 : (spec_MaskedImage.l0 k (([] : List Int)) 0 a0_0 l0_1 a1_0 a1_1 a1_2 a1_3) = some r := by rw [if_pos rfl] at H; exact H
  clear H
  have H := H1
  clear H1
  obtain ⟨y213, hy213⟩ : ∃ y_ : List Int, y_ = (([] : List Int)) := ⟨_, rfl⟩
  replace H : (spec_MaskedImage.l0 k y213 0 a0_0 l0_1 a1_0 a1_1 a1_2 a1_3) = some r := by first | (rw [hy213]; with_reducible exact H) | (have H2_ := (Option.bind_some _ _).symm.trans H; rw [hy213]; with_reducible exact H2_) | (have H2_ := (Option.bind_some _ _).symm.trans H; with_reducible exact H2_) | with_reducible exact H | (rw [hy213]; exact H) | exact H
  have Ny213 := Am hy213
  clear hy213
  have H' := Am H
  clear H
  go_enter Try.func42, Try.ntmps42
  go_wp2_with (first | ((with_reducible refine gate_dst (N := 2) rfl ?_); refine box_event ?hg (N := 2) ?hd (cs := #[.string a0_0, .slice A0_1 l0_1.length c0_1]) (t := 33) ?hr ?_; (case hd => rfl); (case hg => rfl); (case hr => first | (go_simp; done) | (go_simp; rfl)); intro gb210 hg w5 hbox hb; have BK210 := Am (hbox); have GW210 := Am ((by rw [hg]; exact (bz zB) : w.heap.size ≤ gb210)); have GE210 := Am ((by rw [hg]; exact (bz zB) : w.heap.size ≤ gb210)); replace HB := Am (bq zB hb); clear hb hbox hg) | ((with_reducible refine gate_dst (N := 3) rfl ?_); refine box_event ?hg (N := 3) ?hd (cs := #[.int .i64 a1_0, .int .i64 a1_1, .int .i64 a1_2, .int .i64 a1_3]) (t := 29) ?hr ?_; (case hd => rfl); (case hg => rfl); (case hr => first | (go_simp; done) | (go_simp; rfl)); intro gb211 hg w6 hbox hb; have n0_ := Am (zK BK210 hb); have n1_ := Am (bq zG hb); have n2_ := Am (hbox); have n3_ := Am ((by rw [hg]; exact (bz zG) : w.heap.size ≤ gb211)); have n4_ := Am ((by rw [hg]; exact (bz zG) : w.heap.size ≤ gb211)); have n5_ := Am ((by rw [hg]; exact Nat.ne_of_lt (zL BK210) : gb210 ≠ gb211)); have n6_ := Am ((by rw [hg]; exact Nat.ne_of_gt (zL BK210) : gb211 ≠ gb210)); clear BK210; clear HB; have BK210 := n0_; have HB := n1_; have BK211 := n2_; have GW211 := n3_; have GE211 := n4_; have NB210_211 := n5_; have NB211_210 := n6_; clear n0_ n1_ n2_ n3_ n4_ n5_ n6_; clear hb hbox hg; have hnb7 := NB210_211.out; have hnc7 := NB211_210.out; obtain ⟨hcz8_0, hcz8_1⟩ := kc2 (w := w6) BK210.out; have hfz8_0 := kf BK210.out; obtain ⟨hcz9_0, hcz9_1, hcz9_2, hcz9_3⟩ := kc4 (w := w6) BK211.out; have hfz9_0 := kf BK211.out) | ((with_reducible refine gate_callee (f := 46) rfl ?_); refine zC (some 9) rfl rfl Try.func46 rfl #[.agg #[.string a0_0, .slice A0_1 l0_1.length c0_1], .agg #[.int .i64 a1_0, .int .i64 a1_1, .int .i64 a1_2, .int .i64 a1_3]] rfl ?_; (with_reducible refine (spec_l19Has.calls k a0_0 _ _ l0_1 a1_0 a1_1 a1_2 a1_3 true _ ?side1 ?side2 A3.out).mono ?_); (case side1 => repeat (first | exact (cb HR0_1.out HB.out) | (with_reducible first | refine ca ?_ _ | refine cn ?_ _ | refine ce ?_))); (case side2 => exact HC0_1.out); rintro e w10 ⟨rfl, hb⟩; refine ⟨_, rfl, ?_⟩; have n0_ := Am (zK BK210 hb); have n1_ := Am (zK BK211 hb); have n2_ := Am (bq zG hb); clear BK210; clear BK211; clear HB; have BK210 := n0_; have BK211 := n1_; have HB := n2_; clear n0_ n1_ n2_; (try clear hb)) | ((with_reducible refine gate_dst (N := 11) rfl ?_); refine Kd.R_lit (Kd.int .u8) _ 5 ?hg (N := 11) ?hd (xs := ([] : List Int)) (inner := []) (ok := fun _ => True) (okp := fun _ => True) ?hr ?hp (fun _ hk => hk) trivial (Below.refl _ _) (Nat.le_refl _) (by simp) ?_; (case hd => rfl); (case hg => rfl); (case hr => first | (go_simp; done) | (go_simp; rfl)); (case hp => exact (Reps.none _ _)); intro v214 w11 ho12 hb hg_ hnew_; clear hg_ hnew_; (first | rw [← Ny213.out] at ho12 | (simp only [Int.reduceToNat] at ho12; rw [← Ny213.out] at ho12)); have n0_ := Am (Kd.R_lower ho12 (bz zG)); have n1_ := Am (zK BK210 hb); have n2_ := Am (zK BK211 hb); have n3_ := Am (bq zG hb); clear BK210; clear BK211; clear HB; have HO215 := n0_; have BK210 := n1_; have BK211 := n2_; have HB := n3_; clear n0_ n1_ n2_ n3_; clear hb ho12))
  go_loopg [5, 6] k (fun kq v5 v6 w' => ∃ (x5_1 : List Int) (x6_1 : Int), v6 = .int .i64 x6_1 ∧ Aside0 (spec_MaskedImage.l0 kq x5_1 x6_1 a0_0 l0_1 a1_0 a1_1 a1_2 a1_3 = some r) ∧ Aside0 (kq ≤ k) ∧ Aside0 (Kd.R (Kd.int .u8) 5 w' w.heap.size (fun _ => True) v5 x5_1) ∧ Aside0 (w'.heap[gb210]? = some (.cells #[.string a0_0, (.slice A0_1 l0_1.length c0_1)] 33 (0, 0))) ∧ Aside0 (w'.heap[gb211]? = some (.cells #[.int .i64 a1_0, .int .i64 a1_1, .int .i64 a1_2, .int .i64 a1_3] 29 (0, 0))) ∧ Aside0 (Below w.heap.size w w'))
  case atStart => exact ⟨(y213), (0), (by first | rfl | (simp; done) | (simp [*]; done)), H', ⟨Nat.le_refl _⟩, ⟨by (with_reducible repeat (first | apply ra | apply rn | apply re)); exact HO215.out⟩, ⟨by (with_reducible repeat (first | refine kn ?_ _ | refine ke ?_ | refine ka ?_ _)); exact BK210.out⟩, ⟨by (with_reducible repeat (first | refine kn ?_ _ | refine ke ?_ | refine ka ?_ _)); exact BK211.out⟩, ⟨zG⟩⟩
  case round =>
   clear H'
   try clear p2; try clear c4; try clear c7; try clear hcz8_0; try clear hcz8_1; try clear hcz9_0; try clear hcz9_1; try clear hcz9_2; try clear hcz9_3; try clear hfz8_0; try clear hfz8_1; try clear hfz9_0; try clear hfz9_1; try clear hfz9_2; try clear hfz9_3
   obtain ⟨x5_1, x6_1, rfl, HA, HK1, HO_5, BK210, BK211, HB⟩ := hrel
   cases gk with
   | zero => exact absurd HA.out (by simp [spec_MaskedImage.l0])
   | succ k1 =>
    have H := HA.out
    clear HA
    simp only [spec_MaskedImage.l0] at H
    replace H := Option.bind_eq_some_iff.mp H
    obtain ⟨t216, A130, H⟩ := H
    replace H : (if x6_1 < (wrap64 (2 * t216)) then ((spec_MaskedWord.f k1 a1_0 a1_1 a1_2 a1_3 x6_1 a0_0 l0_1).bind fun t217 => (if x5_1.length + t217.size < 140737488355328 then (spec_MaskedImage.l0 k1 (x5_1 ++ bytesOf t217) (wrap64 (x6_1 + 1)) a0_0 l0_1 a1_0 a1_1 a1_2 a1_3) else (none))) else (some (strOfNums x5_1))) = some r := H
    have A13 := Am A130
    clear A130
    by_cases c14 : x6_1 < (wrap64 (2 * t216))
    ·rw [if_pos c14] at H
     have c14b0 : decide (x6_1 < (wrap64 (2 * t216))) = true := decide_eq_true c14
     clear c14
     replace H := Option.bind_eq_some_iff.mp H
     obtain ⟨t217, A150, H⟩ := H
     replace H : (if x5_1.length + t217.size < 140737488355328 then (spec_MaskedImage.l0 k1 (x5_1 ++ bytesOf t217) (wrap64 (x6_1 + 1)) a0_0 l0_1 a1_0 a1_1 a1_2 a1_3) else (none)) = some r := H
     have A15 := Am A150
     clear A150
     by_cases c16 : x5_1.length + t217.size < 140737488355328
     ·rw [if_pos c16] at H
      have LMc16 := Am c16
      clear c16
      obtain ⟨y218, hy218⟩ : ∃ y_ : List Int, y_ = (x5_1 ++ bytesOf t217) := ⟨_, rfl⟩
      replace H : (spec_MaskedImage.l0 k1 y218 (wrap64 (x6_1 + 1)) a0_0 l0_1 a1_0 a1_1 a1_2 a1_3) = some r := by first | (rw [hy218]; with_reducible exact H) | (have H2_ := (Option.bind_some _ _).symm.trans H; rw [hy218]; with_reducible exact H2_) | (have H2_ := (Option.bind_some _ _).symm.trans H; with_reducible exact H2_) | with_reducible exact H | (rw [hy218]; exact H) | exact H
      have Ny218 := Am hy218
      clear hy218
      have H' := Am H
      clear H
      have hnb17 := NB211_210.out
      have hnc17 := NB210_211.out
      obtain ⟨hcz18_0, hcz18_1, hcz18_2, hcz18_3⟩ := kc4 (w := wr) BK211.out
      have hfz18_0 := kf BK211.out
      go_wp2_with (first | ((with_reducible refine gate_callee (f := 48) rfl ?_); refine zC (some 14) rfl rfl Try.func48 rfl #[.agg #[.int .i64 a1_0, .int .i64 a1_1, .int .i64 a1_2, .int .i64 a1_3]] rfl ?_; (with_reducible refine (spec_LinesIn.calls a1_0 a1_1 a1_2 a1_3 t216 _ A13.out).mono ?_); rintro e w19 ⟨rfl, hb⟩; refine ⟨_, rfl, ?_⟩; have n0_ := Am (rb (by (with_reducible repeat (first | apply ra | apply rn | apply re)); exact HO_5.out) hb); have n1_ := Am (zK BK210 hb); have n2_ := Am (zK BK211 hb); have n3_ := Am (bq zG hb); clear HO_5; clear BK210; clear BK211; clear HB; have HO_5 := n0_; have BK210 := n1_; have BK211 := n2_; have HB := n3_; clear n0_ n1_ n2_ n3_; (try clear hb); obtain ⟨hcz20_0, hcz20_1, hcz20_2, hcz20_3⟩ := kc4 (w := w19) BK211.out; have hfz20_0 := kf BK211.out; obtain ⟨hcz21_0, hcz21_1⟩ := kc2 (w := w19) BK210.out; have hfz21_0 := kf BK210.out) | ((with_reducible refine gate_callee (f := 11) rfl ?_); refine zC (some 23) rfl rfl Try.func11 rfl #[.agg #[.int .i64 a1_0, .int .i64 a1_1, .int .i64 a1_2, .int .i64 a1_3], .int .i64 x6_1, .agg #[.string a0_0, .slice A0_1 l0_1.length c0_1]] rfl ?_; (with_reducible refine (spec_MaskedWord.calls k1 a1_0 a1_1 a1_2 a1_3 x6_1 a0_0 _ _ l0_1 t217 _ ?side1 ?side2 A15.out).mono ?_); (case side1 => repeat (first | exact (cb HR0_1.out HB.out) | (with_reducible first | refine ca ?_ _ | refine cn ?_ _ | refine ce ?_))); (case side2 => exact HC0_1.out); rintro e w22 ⟨rfl, hb⟩; refine ⟨_, rfl, ?_⟩; have n0_ := Am (rb (by (with_reducible repeat (first | apply ra | apply rn | apply re)); exact HO_5.out) hb); have n1_ := Am (zK BK210 hb); have n2_ := Am (zK BK211 hb); have n3_ := Am (bq zG hb); clear HO_5; clear BK210; clear BK211; clear HB; have HO_5 := n0_; have BK210 := n1_; have BK211 := n2_; have HB := n3_; clear n0_ n1_ n2_ n3_; (try clear hb)) | (at_builtin; refine print_append_str (w0 := w) w.heap.size rfl (.tmp 19) _ 138 9 5 rfl Try.underlying138 Try.underlying9 info5 u5 x5_1 t217 rfl rfl ?aO ?aB ?aS ?aL ?_; (case aB => exact zG); (case aO => exact (Kd.own_of_R (by (with_reducible repeat (first | apply ra | apply rn | apply re)); exact HO_5.out))); (case aS => exact (bz zG)); (case aL => have := LMc16.out; omega); intro v219 w23 ho0 hb hg; have ho := Kd.R_of_own (h1 := fun _ => rfl) (ok := fun _ => True) ho0 (fun _ _ => trivial); clear ho0; have hat := True.intro; rw [← Ny218.out] at ho; change Kd.R (Kd.int .u8) 5 w23 w.heap.size (fun _ => True) v219 y218 at ho; have n0_ := Am (kg (g := gb210) (o := o6b2 a0_0 A0_1 l0_1.length c0_1) (by (with_reducible repeat (first | refine kn ?_ _ | refine ke ?_ | refine ka ?_ _)); exact BK210.out) hg (Kd.R_ne HO_5.out BK210.out (by decide))); have n1_ := Am (kg (g := gb211) (o := o6b3 a1_0 a1_1 a1_2 a1_3) (by (with_reducible repeat (first | refine kn ?_ _ | refine ke ?_ | refine ka ?_ _)); exact BK211.out) hg (Kd.R_ne HO_5.out BK211.out (by decide))); have n2_ := Am (hb); have n3_ := Am (ho); clear BK210; clear BK211; clear HB; clear HO_5; have BK210 := n0_; have BK211 := n1_; have HB := n2_; have HO220 := n3_; clear n0_ n1_ n2_ n3_; clear ho hb hg hat))
      go_roundg k1
      case measure => have := HK1.out; omega
      case rel => exact ⟨(y218), (wrap64 (x6_1 + 1)), (by first | rfl | (simp; done) | (simp [*]; done)), H', ⟨by have := HK1.out; omega⟩, ⟨by (with_reducible repeat (first | apply ra | apply rn | apply re)); exact HO220.out⟩, ⟨by (with_reducible repeat (first | refine kn ?_ _ | refine ke ?_ | refine ka ?_ _)); exact BK210.out⟩, ⟨by (with_reducible repeat (first | refine kn ?_ _ | refine ke ?_ | refine ka ?_ _)); exact BK211.out⟩, ⟨zG⟩⟩
     ·rw [if_neg c16] at H
      exact absurd H (by simp)
    ·rw [if_neg c14] at H
     have c14b0 : decide (x6_1 < (wrap64 (2 * t216))) = false := decide_eq_false c14
     clear c14
     obtain rfl := Option.some.inj H
     have hnb24 := NB211_210.out
     have hnc24 := NB210_211.out
     obtain ⟨hcz25_0, hcz25_1, hcz25_2, hcz25_3⟩ := kc4 (w := wr) BK211.out
     have hfz25_0 := kf BK211.out
     go_wp2_with (first | ((with_reducible refine gate_callee (f := 48) rfl ?_); refine zC (some 14) rfl rfl Try.func48 rfl #[.agg #[.int .i64 a1_0, .int .i64 a1_1, .int .i64 a1_2, .int .i64 a1_3]] rfl ?_; (with_reducible refine (spec_LinesIn.calls a1_0 a1_1 a1_2 a1_3 t216 _ A13.out).mono ?_); rintro e w26 ⟨rfl, hb⟩; refine ⟨_, rfl, ?_⟩; have n0_ := Am (rb (by (with_reducible repeat (first | apply ra | apply rn | apply re)); exact HO_5.out) hb); have n1_ := Am (zK BK210 hb); have n2_ := Am (zK BK211 hb); have n3_ := Am (bq zG hb); clear HO_5; clear BK210; clear BK211; clear HB; have HO_5 := n0_; have BK210 := n1_; have BK211 := n2_; have HB := n3_; clear n0_ n1_ n2_ n3_; (try clear hb); have hcv27 := own_string (P := Try.prog) Try.underlying138 Try.underlying5 Try.underlying9 (Kd.own_of_R HO_5.out)))
     go_ret
     exact ⟨zR, zG⟩
 ·replace c4 := Bool.eq_false_iff.mpr c4
  subst c4
  have H1 : (some (⟨#[]⟩ : ByteArray)) = some r := by rw [if_neg (show ¬ (false = true) by decide)] at H; exact H
  clear H
  have H := H1
  clear H1
  obtain rfl := Option.some.inj H
  go_enter Try.func42, Try.ntmps42
  go_wp2_with (first | ((with_reducible refine gate_dst (N := 2) rfl ?_); refine box_event ?hg (N := 2) ?hd (cs := #[.string a0_0, .slice A0_1 l0_1.length c0_1]) (t := 33) ?hr ?_; (case hd => rfl); (case hg => rfl); (case hr => first | (go_simp; done) | (go_simp; rfl)); intro gb210 hg w28 hbox hb; have BK210 := Am (hbox); have GW210 := Am ((by rw [hg]; exact (bz zB) : w.heap.size ≤ gb210)); have GE210 := Am ((by rw [hg]; exact (bz zB) : w.heap.size ≤ gb210)); replace HB := Am (bq zB hb); clear hb hbox hg) | ((with_reducible refine gate_dst (N := 3) rfl ?_); refine box_event ?hg (N := 3) ?hd (cs := #[.int .i64 a1_0, .int .i64 a1_1, .int .i64 a1_2, .int .i64 a1_3]) (t := 29) ?hr ?_; (case hd => rfl); (case hg => rfl); (case hr => first | (go_simp; done) | (go_simp; rfl)); intro gb211 hg w29 hbox hb; have n0_ := Am (zK BK210 hb); have n1_ := Am (bq zG hb); have n2_ := Am (hbox); have n3_ := Am ((by rw [hg]; exact (bz zG) : w.heap.size ≤ gb211)); have n4_ := Am ((by rw [hg]; exact (bz zG) : w.heap.size ≤ gb211)); have n5_ := Am ((by rw [hg]; exact Nat.ne_of_lt (zL BK210) : gb210 ≠ gb211)); have n6_ := Am ((by rw [hg]; exact Nat.ne_of_gt (zL BK210) : gb211 ≠ gb210)); clear BK210; clear HB; have BK210 := n0_; have HB := n1_; have BK211 := n2_; have GW211 := n3_; have GE211 := n4_; have NB210_211 := n5_; have NB211_210 := n6_; clear n0_ n1_ n2_ n3_ n4_ n5_ n6_; clear hb hbox hg; have hnb30 := NB210_211.out; have hnc30 := NB211_210.out; obtain ⟨hcz31_0, hcz31_1⟩ := kc2 (w := w29) BK210.out; have hfz31_0 := kf BK210.out; obtain ⟨hcz32_0, hcz32_1, hcz32_2, hcz32_3⟩ := kc4 (w := w29) BK211.out; have hfz32_0 := kf BK211.out) | ((with_reducible refine gate_callee (f := 46) rfl ?_); refine zC (some 9) rfl rfl Try.func46 rfl #[.agg #[.string a0_0, .slice A0_1 l0_1.length c0_1], .agg #[.int .i64 a1_0, .int .i64 a1_1, .int .i64 a1_2, .int .i64 a1_3]] rfl ?_; (with_reducible refine (spec_l19Has.calls k a0_0 _ _ l0_1 a1_0 a1_1 a1_2 a1_3 false _ ?side1 ?side2 A3.out).mono ?_); (case side1 => repeat (first | exact (cb HR0_1.out HB.out) | (with_reducible first | refine ca ?_ _ | refine cn ?_ _ | refine ce ?_))); (case side2 => exact HC0_1.out); rintro e w33 ⟨rfl, hb⟩; refine ⟨_, rfl, ?_⟩; have n0_ := Am (zK BK210 hb); have n1_ := Am (zK BK211 hb); have n2_ := Am (bq zG hb); clear BK210; clear BK211; clear HB; have BK210 := n0_; have BK211 := n1_; have HB := n2_; clear n0_ n1_ n2_; (try clear hb)))
  go_ret
  exact ⟨zR, zG⟩

/-! ### impl_within: function 59 -/
def impl_within.f (a0 : Int) (a1 : Int) (a2 : Int) : Option (Bool) := if a0 ≥ a1 then (some (decide (a0 ≤ a2))) else (some false)
set_option maxHeartbeats 8000000 in
set_option maxRecDepth 100000 in
theorem impl_within.calls (a0 : Int) (a1 : Int) (a2 : Int) (r : Bool) (w : World) (h : impl_within.f a0 a1 a2 = some r) :
  Calls Try.prog 59 #[.int .i64 a0, .int .i64 a1, .int .i64 a2] w fun e w' => e = .returned (.bool r) ∧ Drawn0 w w' := by
 have H : (if a0 ≥ a1 then (some (decide (a0 ≤ a2))) else (some false)) = some r := h
 clear h
 by_cases c4 : a0 ≥ a1
 ·rw [if_pos c4] at H
  have c4b0 : decide (a1 ≤ a0) = true := decide_eq_true c4
  clear c4
  obtain rfl := Option.some.inj H
  go_enter Try.func59, Try.ntmps59
  go_wp2
  go_ret
  exact ⟨by first | rfl | (simp; done) | (simp [*]; done), by repeat (first | exact Drawn0.refl _ | apply Drawn0.step)⟩
 ·rw [if_neg c4] at H
  have c4b0 : decide (a1 ≤ a0) = false := decide_eq_false c4
  clear c4
  obtain rfl := Option.some.inj H
  go_enter Try.func59, Try.ntmps59
  go_wp2
  go_ret
  exact ⟨by first | rfl | (simp; done) | (simp [*]; done), by repeat (first | exact Drawn0.refl _ | apply Drawn0.step)⟩

end Go.Proofs.Ytconffflmbakgaa.QFnExactMaskedImage
